/- lines.places: its contract as an iterator, by hand: a range over strings.SplitSeq's lines whose rounds call yield. -/
import Derived.Test.YtkklccccjmipkaaDoorLLSplit
namespace Go.Proofs.YtkklccccjmipkaaDoor.Lin
open Go.RowKit Go.Shelf GPlain Go.Proofs.YtkklccccjmipkaaDoor.PAll Go.Proofs.YtkklccccjmipkaaDoor.Rng
set_option linter.unusedSimpArgs false
attribute [local go_sem] Oper.semAt_some

/-- Lines, and where they begin. -/
def placesFrom : Nat → List ByteArray → List (Nat × ByteArray)
  | _, [] => []
  | at_, x :: r => (at_, x) :: placesFrom (at_ + x.size + 2) r
def endFrom : Nat → List ByteArray → Nat
  | at_, [] => at_
  | at_, x :: r => endFrom (at_ + x.size + 2) r
theorem placesFrom_append : ∀ (a : Nat) (l r : List ByteArray), placesFrom a (l ++ r) = placesFrom a l ++ placesFrom (endFrom a l) r
  | _, [], _ => rfl
  | a, x :: l, r => by simp only [List.cons_append, placesFrom, endFrom, placesFrom_append (a + x.size + 2) l r]
theorem endFrom_append : ∀ (a : Nat) (l r : List ByteArray), endFrom a (l ++ r) = endFrom (endFrom a l) r
  | _, [], _ => rfl
  | a, x :: l, r => by simp only [List.cons_append, endFrom, endFrom_append (a + x.size + 2) l r]
/-- A text's lines end two bytes behind its end. -/
theorem split_end : ∀ (k a : Nat) (s : ByteArray), endFrom a (Lib.splitB crlf 0 k s) = a + s.size + 2
  | 0, a, s => rfl
  | k + 1, a, s => by
    rcases Lib.indexB_cases s crlf with h | ⟨i, h, hi⟩
    · rw [Lib.splitB_miss _ _ _ _ h]; rfl
    · rw [Lib.splitB_hit _ _ _ _ i h]
      show endFrom (a + (s.extract 0 (i + 0)).size + 2) _ = _
      rw [split_end k, ByteArray.size_extract, ByteArray.size_extract]
      have : crlf.size = 2 := rfl
      omega
theorem endFrom_le : ∀ (l r : List ByteArray) (a : Nat), endFrom a l ≤ endFrom a (l ++ r)
  | [], [], a => Nat.le_refl _
  | [], x :: r, a => by have := endFrom_le [] r (a + x.size + 2); simp only [endFrom, List.nil_append] at this ⊢; omega
  | x :: l, r, a => endFrom_le l r (a + x.size + 2)
def encP (p : Nat × ByteArray) : Array Value := #[.int .i64 (p.1 : Int), .string p.2]
theorem places_calls (s : ByteArray) (w : World) :
    Calls Tryd.prog 67 #[.string s] w fun e w' => e = .returned (.func (.func 122) #[] #[ptr w.heap.size]) ∧ w' = w.alloc (.cells #[.string s] 9) := by
  have hmf : ∀ (fn : Fn) (first cap : Array Value) (w : World), (Instr.makeFunc fn first cap).run Tryd.prog w = .ok (.func fn first cap) w := fun _ _ _ _ => rfl
  go_enter Tryd.func67, Tryd.ntmps67
  go_wp2
  go_ret
  exact ⟨rfl, rfl⟩
def ZP (B j : Nat) : Prop := B ≤ j ∧ j < B + 7
def YP (Bb B j : Nat) : Prop := (B ≤ j ∧ j < B + 7) ∨ j = Bb ∨ j = 0
set_option maxRecDepth 100000 in
set_option maxHeartbeats 2000000 in
theorem places1_in (n : Nat) (hn : 4 ≤ n) (l Bb : Nat) (s : ByteArray) (hs : s.size < 4294967281) (m : Int) (J Jx : List (Nat × ByteArray) → World → Prop) (W : World)
    (hJ : ∀ s A B, J s A → StZ (ZP W.heap.size) A B → J s B) (hJx : ∀ s A B, Jx s A → StZ (ZP W.heap.size) A B → Jx s B)
    (hY : ∀ pre x rest V, placesFrom 0 (linesB s) = pre ++ x :: rest → J pre V → W.heap.size + 7 ≤ V.heap.size → YieldAt Fence.wide (n - 1) Tryd.prog l (encP x) V fun e W' =>
      (e = .returned (.bool true) ∧ J (pre ++ [x]) W' ∧ KpZ (YP Bb W.heap.size) V W') ∨ (e = .returned (.bool false) ∧ Jx (pre ++ [x]) W' ∧ KpZ (YP Bb W.heap.size) V W'))
    (h1 : Boxed W Bb 9 (.string s)) (hG : W.cell? ⟨0, 0, none⟩ = some (.int .i64 m)) (h0 : J [] W) :
    CallsIn Fence.wide n Tryd.prog 122 #[.func (.yield l) #[] #[], ptr Bb] W fun e W' => (∃ v, e = .returned v) ∧
      (J (placesFrom 0 (linesB s)) W' ∨ ∃ pre, pre <+: placesFrom 0 (linesB s) ∧ Jx pre W') := by
  have c1 := ((h1.alloc (.cells #[.func (.yield l) #[] #[]] 155)).alloc (.cells #[.int .i64 0] 3)).cell
  refine callsIn_of_wp_marks Tryd.func122 rfl trivial ?_ rfl
  simp only [Tryd.ntmps122, List.size_toArray, List.length_cons, List.length_nil, Nat.reduceAdd, Nat.reduceSub, Array.replicate_succ, Array.replicate_zero, List.push_toArray, List.append_toArray, List.nil_append, List.cons_append]
  have h1n : 1 ≤ n := by omega
  gi_wp2_with (refine ⟨trivial, ?_⟩; gi_at_call 123; refine (callsIn_wide.2 (splitseq_calls s _)).mono ?_; rintro e w3 ⟨rfl, he⟩; subst he)
  obtain ⟨p, hp⟩ : ∃ p, W.heap.size = p := ⟨_, rfl⟩
  have bY0 := Boxed.new W 155 (.func (.yield l) #[] #[])
  have bA0 := Boxed.new (W.alloc (.cells #[.func (.yield l) #[] #[]] 155)) 3 (.int .i64 0)
  obtain ⟨E, hE⟩ : ∃ E, (W.alloc (.cells #[.func (.yield l) #[] #[]] 155)).alloc (.cells #[.int .i64 0] 3) = E := ⟨_, rfl⟩
  have hEz : E.heap.size = p + 2 := by rw [← hE, World.size_alloc, World.size_alloc, hp]
  have bY1 : Boxed E p 155 (.func (.yield l) #[] #[]) := by rw [← hE, ← hp]; exact bY0.alloc _
  have bA1 : Boxed E (p + 1) 3 (.int .i64 0) := by rw [← hE, ← hp]; rw [World.size_alloc] at bA0; exact bA0
  have bB1 : Boxed E Bb 9 (.string s) := by rw [← hE]; exact (h1.alloc _).alloc _
  have bG1 : E.cell? ⟨0, 0, none⟩ = some (.int .i64 m) := by rw [← hE]; exact cell_alloc (cell_alloc hG _) _
  have hJE : J [] E := by rw [← hE]; exact hJ _ _ _ (hJ _ _ _ h0 ⟨none, World.grownBy_alloc W _ none, by simp⟩) ⟨none, World.grownBy_alloc _ _ none, by simp⟩
  have bS1 := Boxed.new E 9 (.string s)
  have bP1 := Boxed.new (E.alloc (.cells #[.string s] 9)) 9 (.string crlf)
  have b01 := Boxed.new ((E.alloc (.cells #[.string s] 9)).alloc (.cells #[.string crlf] 9)) 3 (.int .i64 0)
  rw [World.size_alloc, hEz] at bP1
  rw [World.size_alloc, World.size_alloc, hEz] at b01
  rw [hEz] at bS1
  rw [hp] at hJ hJx hY
  try rw [hE]
  rw [hp]
  try rw [hEz]
  obtain ⟨G, hGe⟩ : ∃ G, ((E.alloc (.cells #[.string s] 9)).alloc (.cells #[.string crlf] 9)).alloc (.cells #[.int .i64 0] 3) = G := ⟨_, rfl⟩
  have hGz : G.heap.size = p + 5 := by rw [← hGe, World.size_alloc, World.size_alloc, World.size_alloc, hEz]
  have bY2 : Boxed G p 155 (.func (.yield l) #[] #[]) := by rw [← hGe]; exact ((bY1.alloc _).alloc _).alloc _
  have bA2 : Boxed G (p + 1) 3 (.int .i64 0) := by rw [← hGe]; exact ((bA1.alloc _).alloc _).alloc _
  have bG2 : G.cell? ⟨0, 0, none⟩ = some (.int .i64 m) := by rw [← hGe]; exact cell_alloc (cell_alloc (cell_alloc bG1 _) _) _
  have bS2 : Boxed G (p + 2) 9 (.string s) := by rw [← hGe]; exact (bS1.alloc _).alloc _
  have bP2 : Boxed G (p + 2 + 1) 9 (.string crlf) := by rw [← hGe]; exact bP1.alloc _
  have b02 : Boxed G (p + 2 + 1 + 1) 3 (.int .i64 0) := by rw [← hGe]; exact b01
  have hJG : J [] G := by rw [← hGe]; exact hJ _ _ _ (hJ _ _ _ (hJ _ _ _ hJE ⟨none, World.grownBy_alloc _ _ none, by simp⟩) ⟨none, World.grownBy_alloc _ _ none, by simp⟩) ⟨none, World.grownBy_alloc _ _ none, by simp⟩
  try rw [hGe]
  clear bY0 bA0 hE bY1 bA1 bB1 bG1 hJE bS1 bP1 b01 hGe hEz c1
  refine wpIn_rangeFunc_L rfl h1n (gf := 169) (lb := #[ptr (p + 2 + 1), ptr (p + 2), ptr (p + 2 + 1 + 1)]) rfl trivial (enters_of Tryd.func169 (by kernel_rfl) rfl)
    (splitseq_gives (n - 1) (by omega) (p + 2) s hs m G (by omega) bS2 bP2 b02 bG2)
    (fun j h => by rw [hGz]; subst h; left; omega) (fun j h => by rw [hGz]; rcases h with rfl | rfl | rfl | rfl <;> left <;> omega) (Below.refl _ _) (fun _ => rfl)
    (fun pre V => (Boxed V p 155 (.func (.yield l) #[] #[]) ∧ Boxed V (p + 1) 3 (.int .i64 (endFrom 0 pre : Int))) ∧ J (placesFrom 0 pre) V)
    (fun c pre V => c = .ret ∧ Jx (placesFrom 0 pre) V)
    ?hI ?hIx ?hIZ ?hIxZ ⟨⟨bY2, bA2⟩, hJG⟩
    (fun x_ => { tmps := #[.func (.yield l) #[] #[], ptr Bb, ptr p, ptr (p + 1), .string x_, .string s, .func (.func 169) #[] #[ptr (p + 2 + 1), ptr (p + 2), ptr (p + 2 + 1 + 1)], .string x_, undef, undef, undef, undef, undef, undef, undef, undef, undef, undef], defers := [] }) ?assign ?body ?done ?stop
  case hI =>
    intro xs A B row hs hg hr
    refine ⟨⟨hs.1.1.kept hg (fun e => ?_), hs.1.2.kept hg (fun e => ?_)⟩, hJ _ _ _ hs.2 ⟨row, hg, fun r e => ?_⟩⟩
    · have h := (hr _ e.symm).1; rw [hGz] at h; omega
    · have h := (hr _ e.symm).1; rw [hGz] at h; omega
    · have h := (hr r e).1; rw [hGz] at h; exact ⟨by omega, by omega⟩
  case hIx =>
    rintro c xs A B row ⟨rfl, hs⟩ hg hr
    refine ⟨rfl, hJx _ _ _ hs ⟨row, hg, fun r e => ?_⟩⟩
    have h := (hr r e).1; rw [hGz] at h; exact ⟨by omega, by omega⟩
  case hIZ =>
    rintro xs A B hs ⟨row, hg, hr⟩
    refine ⟨⟨hs.1.1.kept hg (fun e => ?_), hs.1.2.kept hg (fun e => ?_)⟩, hJ _ _ _ hs.2 ⟨row, hg, fun r e => ?_⟩⟩
    · have h : p = p + 2 := hr _ e.symm; omega
    · have h : p + 1 = p + 2 := hr _ e.symm; omega
    · have h : r = p + 2 := hr r e; exact ⟨by omega, by omega⟩
  case hIxZ =>
    rintro c xs A B ⟨rfl, hs⟩ ⟨row, hg, hr⟩
    refine ⟨rfl, hJx _ _ _ hs ⟨row, hg, fun r e => ?_⟩⟩
    have h : r = p + 2 := hr r e; exact ⟨by omega, by omega⟩
  case assign =>
    intro l x W K hK
    gi_wp2
    exact hK
  case body =>
    rintro l2 pre x rest V hL ⟨⟨bY, bA⟩, hJV⟩ hsz
    rw [hGz] at hsz
    have hLp : placesFrom 0 (linesB s) = placesFrom 0 pre ++ (endFrom 0 pre, x) :: placesFrom (endFrom 0 pre + x.size + 2) rest := by rw [hL, placesFrom_append]; rfl
    have hnext : placesFrom 0 pre ++ [(endFrom 0 pre, x)] = placesFrom 0 (pre ++ [x]) := by rw [placesFrom_append]; rfl
    have hend : endFrom 0 (pre ++ [x]) = endFrom 0 pre + x.size + 2 := by rw [endFrom_append]; rfl
    have hle := endFrom_le (pre ++ [x]) rest 0
    have htot : endFrom 0 (linesB s) = 0 + s.size + 2 := split_end _ _ _
    rw [hL, show pre ++ x :: rest = (pre ++ [x]) ++ rest by simp] at htot
    rw [htot, hend] at hle
    obtain ⟨fn, tmps, assign, body, hyy, hR⟩ := hY _ _ _ V hLp hJV (by omega)
    rw [hnext] at hR
    have HN := Lib.hid hend
    obtain ⟨q, hq⟩ : ∃ q, endFrom 0 pre = q := ⟨_, rfl⟩
    rw [hq] at bA hyy hle HN
    unfold encP at hyy
    dsimp only at hyy
    have cY := bY.cell
    have cA := bA.cell
    have HR := Lib.hid hR
    clear hR hLp hnext hend htot hq hL hJV
    gi_wp2
    refine ⟨fun h => (by cases h), ?_⟩
    refine (round_in (round_any rfl HR.out)).mono ?_
    rintro e W3 (⟨rfl, hJ3, hk3⟩ | ⟨rfl, hJx3, hk3⟩)
    · have d1 := KpZ.boxed hk3 (.inl ⟨Nat.le_refl _, by omega⟩) bY
      have d2 := KpZ.boxed hk3 (.inl ⟨by omega, by omega⟩) bA
      have x2 := d2.cell
      have x3 := d2.frozen
      gi_wp2
      have hg := grownBy_setCell' W3 (p + 1) (.int .i64 ((q : Int) + ((x.size : Int) + 2)))
      have hk4 : KpZ (fun j => (p ≤ j ∧ j < p + 7 ∧ j ≠ p + 1) ∨ j = 0) V (W3.setCell ⟨p + 1, 0, none⟩ (.int .i64 ((q : Int) + ((x.size : Int) + 2)))) :=
        KpZ.trans ⟨hk3.1, fun j o hz ho => hk3.2 j o (by rcases hz with h | h; exact .inl ⟨by omega, by omega⟩; exact .inr (.inr h)) ho⟩ (KpZ.setCell W3 (p + 1) _ (by omega))
      have e2 : (((endFrom 0 (pre ++ [x]) : Nat) : Int)) = (q : Int) + ((x.size : Int) + 2) := by rw [HN.out]; omega
      refine ⟨hk4.rec (fun k h1 h2 => ?_), ⟨hk4.1, fun j o hz ho => hk4.2 j o ?_ ho⟩, ⟨d1.other (by omega) _, ?_⟩, hJ _ _ _ hJ3 ⟨some (p + 1), hg, fun r e => by cases e; exact ⟨by omega, by omega⟩⟩⟩
      · rw [hGz] at h1 h2; exact .inl ⟨by omega, by omega, by omega⟩
      · rcases hz with h | h | h | h
        · exact .inl ⟨by omega, by omega, by omega⟩
        · exact .inl ⟨by omega, by omega, by omega⟩
        · exact .inl ⟨by omega, by omega, by omega⟩
        · exact .inr h
      · rw [e2]; exact d2.set _
    · gi_wp2
      refine ⟨hk3.rec (fun k h1 h2 => ?_), ⟨hk3.1, fun j o hz ho => hk3.2 j o ?_ ho⟩, rfl, hJx3⟩
      · rw [hGz] at h1 h2; exact .inl ⟨by omega, by omega⟩
      · rcases hz with h | h | h | h
        · exact .inl ⟨by omega, by omega⟩
        · exact .inl ⟨by omega, by omega⟩
        · exact .inl ⟨by omega, by omega⟩
        · exact .inr (.inr h)
  case done =>
    rintro V ⟨⟨bY, bA⟩, hJV⟩ hD
    gi_wp2
    refine ⟨by simp, .inl ⟨_, _, rfl, run_takeDeferred hD, ?_⟩⟩
    refine ⟨_, results_none rfl _ _ _, ⟨_, rfl⟩, .inl ?_⟩
    exact hJ _ _ _ hJV ⟨some G.heap.size, grownBy_putObj' V _ _, fun r e => by cases e; rw [hGz]; exact ⟨by omega, by omega⟩⟩
  case stop =>
    rintro c pre V hpre ⟨rfl, hJV⟩ hD
    gi_wp2
    refine ⟨by simp, .inl ⟨_, _, rfl, run_takeDeferred hD, ?_⟩⟩
    refine ⟨_, results_none rfl _ _ _, ⟨_, rfl⟩, .inr ⟨_, ?_, hJx _ _ _ hJV ⟨some G.heap.size, grownBy_putObj' V _ _, fun r e => by cases e; rw [hGz]; exact ⟨by omega, by omega⟩⟩⟩⟩
    obtain ⟨z, hz⟩ := hpre
    exact ⟨placesFrom (endFrom 0 pre) z, by rw [← hz, placesFrom_append]⟩
/-- lines.places' value gives the lines, and where they begin. -/
theorem places_gives (n : Nat) (hn : 4 ≤ n) (Bb : Nat) (s : ByteArray) (hs : s.size < 4294967281) (m : Int) (w : World) (h1 : Boxed w Bb 9 (.string s)) (hG : w.cell? ⟨0, 0, none⟩ = some (.int .i64 m)) :
    SeqL Fence.wide n Tryd.prog 122 #[ptr Bb] encP ZP (YP Bb) 7 (placesFrom 0 (linesB s)) w :=
  fun l J Jx W hW hJ hJx hY h0 => places1_in n hn l Bb s hs m J Jx W hJ hJx (fun pre x rest V hL hj hz => hY pre x rest V hL hj hz) ((hW.block _ h1.lt).trans h1) ((hW.cell (World.block_lt_of_cell? _ _ hG)).trans hG) h0
end Go.Proofs.YtkklccccjmipkaaDoor.Lin
