/- The contract of decimal.parse, by hand: a loop over decimal.digits, left early. -/
import Derived.Test.YtggakekljbgeoaaDoorGDigs
import Derived.Maps.AppendAt
import Derived.Stop.RegionWithIn
namespace Go.Proofs.YtggakekljbgeoaaDoor.PAll
open Go.RowKit Go.Shelf GPlain
set_option linter.unusedSimpArgs false
attribute [local go_sem] Oper.semAt_some

/-- Block B holds three cells. -/
def Box3 (W : World) (B : Nat) (t : TypeId) (a b c : Value) : Prop := W.heap[B]? = some (.cells #[a, b, c] t (0, 0))
section
variable {W W' : World} {B : Nat} {t : TypeId} {a b c : Value}
theorem Box3.lt (h : Box3 W B t a b c) : B < W.heap.size := (Array.getElem?_eq_some_iff.1 h).1
theorem Box3.cell0 (h : Box3 W B t a b c) : W.cell? ⟨B, 0, none⟩ = some a := by simp [World.cell?, show W.heap[B]? = _ from h]
theorem Box3.cell1 (h : Box3 W B t a b c) : W.cell? ⟨B, 1, none⟩ = some b := by simp [World.cell?, show W.heap[B]? = _ from h]
theorem Box3.cell2 (h : Box3 W B t a b c) : W.cell? ⟨B, 2, none⟩ = some c := by simp [World.cell?, show W.heap[B]? = _ from h]
theorem Box3.frozen0 (h : Box3 W B t a b c) : W.frozen? ⟨B, 0, none⟩ = false := by simp [World.frozen?, show W.heap[B]? = _ from h]
theorem Box3.frozen1 (h : Box3 W B t a b c) : W.frozen? ⟨B, 1, none⟩ = false := by simp [World.frozen?, show W.heap[B]? = _ from h]
theorem Box3.frozen2 (h : Box3 W B t a b c) : W.frozen? ⟨B, 2, none⟩ = false := by simp [World.frozen?, show W.heap[B]? = _ from h]
theorem Box3.new (W : World) (t : TypeId) (a b c : Value) : Box3 (W.alloc (.cells #[a, b, c] t)) W.heap.size t a b c := World.alloc_heap_new W _
theorem Box3.kept {row : Option Nat} (h : Box3 W B t a b c) (hg : W.grownBy W' row) (hne : some B ≠ row) : Box3 W' B t a b c := (hg.block B h.lt hne).trans h
theorem Box3.alloc (h : Box3 W B t a b c) (o : Obj) : Box3 (W.alloc o) B t a b c := h.kept (World.grownBy_alloc W o none) (by simp)
theorem Box3.set0 (v : Value) (h : Box3 W B t a b c) : Box3 (W.setCell ⟨B, 0, none⟩ v) B t v b c := by
  obtain ⟨hlt, hk⟩ := Array.getElem?_eq_some_iff.1 h
  show (W.heap.modify B _)[B]? = _
  rw [Array.getElem?_eq_getElem (by rw [Array.size_modify]; exact hlt), Array.getElem_modify_self, hk]
  rfl
theorem Box3.set1 (v : Value) (h : Box3 W B t a b c) : Box3 (W.setCell ⟨B, 1, none⟩ v) B t a v c := by
  obtain ⟨hlt, hk⟩ := Array.getElem?_eq_some_iff.1 h
  show (W.heap.modify B _)[B]? = _
  rw [Array.getElem?_eq_getElem (by rw [Array.size_modify]; exact hlt), Array.getElem_modify_self, hk]
  rfl
theorem Box3.set2 (v : Value) (h : Box3 W B t a b c) : Box3 (W.setCell ⟨B, 2, none⟩ v) B t a b v := by
  obtain ⟨hlt, hk⟩ := Array.getElem?_eq_some_iff.1 h
  show (W.heap.modify B _)[B]? = _
  rw [Array.getElem?_eq_getElem (by rw [Array.size_modify]; exact hlt), Array.getElem_modify_self, hk]
  rfl
theorem grownBy_setCellO (W : World) (b o : Nat) (v : Value) : W.grownBy (W.setCell ⟨b, o, none⟩ v) (some b) :=
  ⟨rfl, rfl, rfl, (KeepsWalks.setCell W _ v).size, fun k _ hk => Below.heap_setCell _ _ _ k (fun e => hk (by rw [e]))⟩
theorem Box3.other {B' : Nat} (h : Box3 W B t a b c) (hne : B ≠ B') (o : Nat) (v : Value) : Box3 (W.setCell ⟨B', o, none⟩ v) B t a b c := h.kept (grownBy_setCellO W B' o v) (fun e => hne (Option.some.inj e))
theorem _root_.Go.Boxed.otherO {v : Value} {B' : Nat} (h : Boxed W B t v) (hne : B ≠ B') (o : Nat) (u : Value) : Boxed (W.setCell ⟨B', o, none⟩ u) B t v := h.kept (grownBy_setCellO W B' o u) (fun e => hne (Option.some.inj e))
end
/-- What the loop reckons: the coefficient, and whether it is too long. -/
def stepP (st : Int × Bool) (d : Int) : Int × Bool := if st.1 ≥ 100000000000000000 then (d, true) else (st.1 * 10 + d, st.2)
def foldP (lg : Bool) (xs : List DI) : Int × Bool := xs.foldl (fun st x => stepP st x.1) (0, lg)
def NonNegD (xs : List DI) : Prop := ∀ x ∈ xs, 0 ≤ x.1
def HasNegD (xs : List DI) : Prop := ∃ x ∈ xs, x.1 < 0
theorem NonNegD.snoc {xs : List DI} {x : DI} (h : NonNegD xs) (hx : 0 ≤ x.1) : NonNegD (xs ++ [x]) := fun y hy => by
  rcases List.mem_append.1 hy with hy | hy
  · exact h y hy
  · rw [List.mem_singleton.1 hy]; exact hx
theorem HasNegD.snoc {xs : List DI} {x : DI} (hx : x.1 < 0) : HasNegD (xs ++ [x]) := ⟨x, by simp, hx⟩
theorem foldP_snoc (lg : Bool) (pre : List DI) (x : DI) : foldP lg (pre ++ [x]) = stepP (foldP lg pre) x.1 := by unfold foldP; rw [List.foldl_append]; rfl
theorem stepP_bd {st : Int × Bool} {d : Int} (h : 0 ≤ st.1 ∧ st.1 < 1000000000000000000) (hd : 0 ≤ d ∧ d ≤ 9) : 0 ≤ (stepP st d).1 ∧ (stepP st d).1 < 1000000000000000000 := by
  unfold stepP
  split
  · exact ⟨by show 0 ≤ d; omega, by show d < _; omega⟩
  · exact ⟨by show 0 ≤ st.1 * 10 + d; omega, by show st.1 * 10 + d < _; omega⟩
theorem foldP_bd (lg : Bool) (xs : List DI) (h : NonNegD xs) : 0 ≤ (foldP lg xs).1 ∧ (foldP lg xs).1 < 1000000000000000000 := by
  unfold foldP
  suffices hh : ∀ (xs : List DI) (st : Int × Bool), 0 ≤ st.1 ∧ st.1 < 1000000000000000000 → (∀ x ∈ xs, 0 ≤ x.1) → 0 ≤ (xs.foldl (fun st x => stepP st x.1) st).1 ∧ (xs.foldl (fun st x => stepP st x.1) st).1 < 1000000000000000000 from hh xs (0, lg) ⟨by show (0:Int) ≤ 0; decide, by show (0:Int) < 1000000000000000000; decide⟩ h
  intro xs
  induction xs with
  | nil => intro st hs _; exact hs
  | cons x r ih => intro st hs h; exact ih _ (stepP_bd hs ⟨h x List.mem_cons_self, x.2.2⟩) (fun y hy => h y (List.mem_cons_of_mem _ hy))
/-- A number, and an error, that lie in cells. -/
theorem results_num {fn : Func} {p q : Tmp} (h : fn.results = #[.cell p 24, .cell q 25]) (tmps : Array Value) (w : World) (g1 g2 : Nat) (v0 : Bool) (v1 v2 v3 : Int)
    (h1 : tmps.getD p undef = .pointer (some ⟨g1, 0, none⟩)) (h2 : tmps.getD q undef = .pointer (some ⟨g2, 0, none⟩)) (b1 : Box3 w g1 24 (.bool v0) (.int .i64 v1) (.int .i64 v2)) (b2 : Boxed w g2 25 (.int .i64 v3)) :
    (results fn tmps).run Tryd.prog w = .ok (.tuple #[.agg #[.bool v0, .int .i64 v1, .int .i64 v2], .int .i64 v3]) w := by
  have h1' : tmps[p]?.getD undef = .pointer (some ⟨g1, 0, none⟩) := by simpa using h1
  have h2' : tmps[q]?.getD undef = .pointer (some ⟨g2, 0, none⟩) := by simpa using h2
  have c0 := b1.cell0
  have c1 := b1.cell1
  have c2 := b1.cell2
  have c3 := b2.cell
  simp only [results, h]
  simp [Sem.run_bind, Result.andThen, h1', h2', asAddr]
  go_simp

theorem four_kept (W : World) (B B' D : Nat) (h1 : D ≠ B) (h2 : D ≠ B') (u0 u1 u2 u3 : Value) :
    ((((W.setCell ⟨B, 0, none⟩ u0).setCell ⟨B, 1, none⟩ u1).setCell ⟨B, 2, none⟩ u2).setCell ⟨B', 0, none⟩ u3).heap[D]? = W.heap[D]? := by
  rw [Below.heap_setCell _ _ _ D h2, Below.heap_setCell _ _ _ D h1, Below.heap_setCell _ _ _ D h1, Below.heap_setCell _ _ _ D h1]
set_option maxRecDepth 100000 in
set_option maxHeartbeats 4000000 in
theorem parse_walk (a b t : ByteArray) (hs : a.size + b.size ≤ 1048576) (w : World) (ht : a ++ b = t) (r1 r2 r3 : Int)
    (hR1 : HasNegD (seqD t.data.toList) → r1 = 0 ∧ r2 = 0 ∧ r3 = 10)
    (hR2 : NonNegD (seqD t.data.toList) → a.size = 0 → r1 = 0 ∧ r2 = 0 ∧ r3 = 10)
    (hR3 : NonNegD (seqD t.data.toList) → a.size ≠ 0 → (foldP (decide (5 < (b.size : Int))) (seqD t.data.toList)).2 = true → r1 = 0 ∧ r2 = 0 ∧ r3 = 11)
    (hR4 : NonNegD (seqD t.data.toList) → a.size ≠ 0 → (foldP (decide (5 < (b.size : Int))) (seqD t.data.toList)).2 = false → r1 = (foldP (decide (5 < (b.size : Int))) (seqD t.data.toList)).1 ∧ r2 = (b.size : Int) ∧ r3 = 0) :
    CallsIn Fence.wide 4 Tryd.prog 40 #[.string a, .string b] w fun e w' => e = .returned (.tuple #[.agg #[.bool false, .int .i64 r1, .int .i64 r2], .int .i64 r3]) ∧ Below w.heap.size w w' := by
  have HR1 := Lib.hid hR1
  have HR2 := Lib.hid hR2
  have HR3 := Lib.hid hR3
  have HR4 := Lib.hid hR4
  clear hR1 hR2 hR3 hR4
  have hsz : a.size + b.size ≤ 9223372036854775807 := by omega
  have hts : t.size ≤ 1048576 := by rw [← ht, ByteArray.size_append]; exact hs
  have HT := Lib.hid ht
  obtain ⟨lg, hlg⟩ : ∃ lg, decide (5 < (b.size : Int)) = lg := ⟨_, rfl⟩
  clear ht
  refine callsIn_of_wp_marks Tryd.func40 rfl trivial ?_ rfl
  simp only [Tryd.ntmps40, List.size_toArray, List.length_cons, List.length_nil, Nat.reduceAdd, Nat.reduceSub, Array.replicate_succ, Array.replicate_zero, List.push_toArray, List.append_toArray, List.nil_append, List.cons_append]
  gi_wp2_with (refine ⟨trivial, ?_⟩; gi_at_call 61; rw [HT.out]; refine (callsIn_wide.2 (digits_calls t _)).mono ?_; rintro e w3 ⟨rfl, rfl⟩)
  have HLG := Lib.hid hlg
  clear hlg
  obtain ⟨W0, hW0⟩ : ∃ W0, ((((w.alloc (.cells #[.bool false, .int .i64 0, .int .i64 0] 24)).alloc (.cells #[.int .i64 0] 25)).alloc (.cells #[.bool false, .int .i64 0, .int .i64 (b.size : Int)] 24)).alloc (.cells #[.bool lg] 4)).alloc (.cells #[.string t] 9) = W0 := ⟨_, rfl⟩
  have b4 : Box3 W0 w.heap.size 24 (.bool false) (.int .i64 0) (.int .i64 0) := by rw [← hW0]; exact ((((Box3.new w 24 _ _ _).alloc _).alloc _).alloc _).alloc _
  have b5 : Boxed W0 (w.heap.size + 1) 25 (.int .i64 0) := by
    have h := (((Boxed.new (w.alloc (.cells #[.bool false, .int .i64 0, .int .i64 0] 24)) 25 (.int .i64 0)).alloc (.cells #[.bool false, .int .i64 0, .int .i64 (b.size : Int)] 24)).alloc (.cells #[.bool lg] 4)).alloc (.cells #[.string t] 9)
    rw [World.size_alloc] at h
    rw [← hW0]; exact h
  have b6 : Box3 W0 (w.heap.size + 1 + 1) 24 (.bool false) (.int .i64 0) (.int .i64 (b.size : Int)) := by
    have h := ((Box3.new ((w.alloc (.cells #[.bool false, .int .i64 0, .int .i64 0] 24)).alloc (.cells #[.int .i64 0] 25)) 24 (.bool false) (.int .i64 0) (.int .i64 (b.size : Int))).alloc (.cells #[.bool lg] 4)).alloc (.cells #[.string t] 9)
    rw [World.size_alloc, World.size_alloc] at h
    rw [← hW0]; exact h
  have b7 : Boxed W0 (w.heap.size + 1 + 1 + 1) 4 (.bool lg) := by
    have h := (Boxed.new (((w.alloc (.cells #[.bool false, .int .i64 0, .int .i64 0] 24)).alloc (.cells #[.int .i64 0] 25)).alloc (.cells #[.bool false, .int .i64 0, .int .i64 (b.size : Int)] 24)) 4 (.bool lg)).alloc (.cells #[.string t] 9)
    rw [World.size_alloc, World.size_alloc, World.size_alloc] at h
    rw [← hW0]; exact h
  have b8 : Boxed W0 (w.heap.size + 1 + 1 + 1 + 1) 9 (.string t) := by
    have h := Boxed.new ((((w.alloc (.cells #[.bool false, .int .i64 0, .int .i64 0] 24)).alloc (.cells #[.int .i64 0] 25)).alloc (.cells #[.bool false, .int .i64 0, .int .i64 (b.size : Int)] 24)).alloc (.cells #[.bool lg] 4)) 9 (.string t)
    rw [World.size_alloc, World.size_alloc, World.size_alloc, World.size_alloc] at h
    rw [← hW0]; exact h
  have hB0 : Below w.heap.size w W0 := by
    rw [← hW0]
    exact (((((Below.refl _ w).alloc (Nat.le_refl _) _).alloc (by simp) _).alloc (by simp; omega) _).alloc (by simp; omega) _).alloc (by simp; omega) _
  have hz0 : W0.heap.size = w.heap.size + 5 := by rw [← hW0]; simp
  rw [hW0]
  clear hW0
  have HB8 := Lib.hid b8
  clear b8
  have HRES : ∀ (x : Int), (#[Value.string a, Value.string b, undef, undef, Value.pointer (some { block := w.heap.size, off := 0 }),
          Value.pointer (some { block := w.heap.size + 1, off := 0 }),
          Value.pointer (some { block := w.heap.size + 1 + 1, off := 0 }),
          Value.pointer (some { block := w.heap.size + 1 + 1 + 1, off := 0 }), .int .i64 x] : Array Value).size = 9 := fun _ => rfl
  clear HRES
  refine wpIn_rangeFunc_ownF rfl (by omega) (gf := 79) (lb := #[.pointer (some ⟨w.heap.size + 1 + 1 + 1 + 1, 0, none⟩)]) rfl trivial (enters_of Tryd.func79 (by kernel_rfl) rfl)
    (digits_stops 3 (by omega) (w.heap.size + 1 + 1 + 1 + 1) w.heap.size (w.heap.size + 1) (w.heap.size + 1 + 1) (w.heap.size + 1 + 1 + 1) t (by omega) W0 (by omega) (by omega) (by omega) (by omega) (by omega) HB8.out.cell) (fun h k => h.trans k) (fun W l o o' _ h hc _ => KeepBut4.putObj W l o o' h hc) (Below.refl _ _) (fun _ => rfl)
    (fun pre W => (Box3 W w.heap.size 24 (.bool false) (.int .i64 0) (.int .i64 0) ∧ Boxed W (w.heap.size + 1) 25 (.int .i64 0) ∧ Box3 W (w.heap.size + 1 + 1) 24 (.bool false) (.int .i64 (foldP lg pre).1) (.int .i64 (b.size : Int)) ∧ Boxed W (w.heap.size + 1 + 1 + 1) 4 (.bool (foldP lg pre).2) ∧ NonNegD pre) ∧ Below w.heap.size w W)
    (fun c pre W => (c = .ret ∧ Box3 W w.heap.size 24 (.bool false) (.int .i64 0) (.int .i64 0) ∧ Boxed W (w.heap.size + 1) 25 (.int .i64 10) ∧ HasNegD pre) ∧ Below w.heap.size w W)
    (fun s A B row hs hg hr => ⟨⟨hs.1.1.kept hg (fun e => by have := (hr _ e.symm).1; omega), hs.1.2.1.kept hg (fun e => by have := (hr _ e.symm).1; omega), hs.1.2.2.1.kept hg (fun e => by have := (hr _ e.symm).1; omega), hs.1.2.2.2.1.kept hg (fun e => by have := (hr _ e.symm).1; omega), hs.1.2.2.2.2⟩, hs.2.grown hg hs.2.size (fun j hj => by have := (hr _ hj).1; omega)⟩)
    (fun c s A B row hs hg hr => ⟨⟨hs.1.1, hs.1.2.1.kept hg (fun e => by have := (hr _ e.symm).1; omega), hs.1.2.2.1.kept hg (fun e => by have := (hr _ e.symm).1; omega), hs.1.2.2.2⟩, hs.2.grown hg hs.2.size (fun j hj => by have := (hr _ hj).1; omega)⟩)
    ⟨⟨b4, b5, b6, b7, fun _ h => by cases h⟩, hB0⟩
    (fun x => { tmps := #[Value.string a, Value.string b, undef, undef, Value.pointer (some { block := w.heap.size, off := 0 }),
          Value.pointer (some { block := w.heap.size + 1, off := 0 }),
          Value.pointer (some { block := w.heap.size + 1 + 1, off := 0 }),
          Value.pointer (some { block := w.heap.size + 1 + 1 + 1, off := 0 }), .int .i64 x.1, Value.string b,
          Value.int IntKind.i64 ↑b.size,
          Value.agg #[Value.bool false, Value.int IntKind.i64 0, Value.int IntKind.i64 ↑b.size], Value.string b,
          Value.int IntKind.i64 ↑b.size, Value.bool lg, Value.string a, Value.string b, Value.string t,
          Value.func (Fn.func 79) #[] #[Value.pointer (some { block := w.heap.size + 1 + 1 + 1 + 1, off := 0 })], .int .i64 x.1,
          undef, undef, undef, undef, undef, undef, undef, undef, undef, undef, undef, undef, undef, undef, undef,
          undef, undef, undef, undef, undef, undef], defers := [] })
    ?assign ?body ?done ?stop
  case assign =>
    intro l x W K hK
    unfold encD
    gi_wp2
    exact hK
  case body =>
    rintro ln pre x W ⟨⟨h4, h5, h6, h7, hall⟩, hB⟩ hlt
    obtain ⟨x1, hx⟩ := x
    have hbd := foldP_bd lg pre hall
    have HS := foldP_snoc lg pre ⟨x1, hx⟩
    obtain ⟨st, hst⟩ : ∃ st, foldP lg pre = st := ⟨_, rfl⟩
    rw [hst] at hbd h6 h7 HS
    obtain ⟨C, L⟩ := st
    dsimp only at hbd h6 h7
    obtain ⟨hC0, hC1⟩ := hbd
    have HSN := Lib.hid HS
    have HALL := Lib.hid hall
    clear hall hlt HS hst
    have k40 := h4.cell0
    have k41 := h4.cell1
    have k42 := h4.cell2
    have f40 := h4.frozen0
    have f41 := h4.frozen1
    have f42 := h4.frozen2
    have k5 := h5.cell
    have f5 := h5.frozen
    have k61 := h6.cell1
    have f61 := h6.frozen1
    have k7 := h7.cell
    have f7 := h7.frozen
    by_cases hneg : x1 < 0
    · gi_wp2
      exact ⟨(((KeepsOthers.setCell _ _ _).trans (KeepsOthers.setCell _ _ _)).trans (KeepsOthers.setCell _ _ _)).trans (KeepsOthers.setCell _ _ _), ⟨rfl, (((h4.set0 _).set1 _).set2 _).other (by omega) 0 _, (((Boxed.otherO h5 (by omega) 0 _).otherO (by omega) 1 _).otherO (by omega) 2 _).set _, HasNegD.snoc hneg⟩,
        (((hB.setCell (p := ⟨w.heap.size, 0, none⟩) (Nat.le_refl _) _).setCell (p := ⟨w.heap.size, 1, none⟩) (Nat.le_refl _) _).setCell (p := ⟨w.heap.size, 2, none⟩) (Nat.le_refl _) _).setCell (p := ⟨w.heap.size + 1, 0, none⟩) (Nat.le_succ _) _⟩
    · have hx0 : 0 ≤ x1 := by omega
      by_cases h17 : 100000000000000000 ≤ C
      · have HST : stepP (C, L) x1 = (x1, true) := by unfold stepP; rw [if_pos h17]
        have HN := Lib.hid (HSN.out.trans HST)
        clear HST HSN
        gi_wp2
        refine ⟨((KeepsOthers.setCell _ _ _).trans (KeepsOthers.setCell _ _ _)).trans (KeepsOthers.setCell _ _ _), ((KeepBut4.setCell _ _ _ (.inr (.inr (.inr rfl))) _).trans (KeepBut4.setCell _ _ _ (.inr (.inr (.inl rfl))) _)).trans (KeepBut4.setCell _ _ _ (.inr (.inr (.inl rfl))) _),
          ⟨((h4.other (by omega) 0 _).other (by omega) 1 _).other (by omega) 1 _, ((h5.otherO (by omega) 0 _).otherO (by omega) 1 _).otherO (by omega) 1 _, ?_, ?_, HALL.out.snoc hx0⟩,
          ((hB.setCell (p := ⟨w.heap.size + 1 + 1 + 1, 0, none⟩) (by show w.heap.size ≤ w.heap.size + 1 + 1 + 1; omega) _).setCell (p := ⟨w.heap.size + 1 + 1, 1, none⟩) (by show w.heap.size ≤ w.heap.size + 1 + 1; omega) _).setCell (p := ⟨w.heap.size + 1 + 1, 1, none⟩) (by show w.heap.size ≤ w.heap.size + 1 + 1; omega) _⟩
        · rw [HN.out]; exact ((h6.other (by omega) 0 _).set1 _).set1 _
        · rw [HN.out]; exact ((h7.set _).otherO (by omega) 1 _).otherO (by omega) 1 _
      · have h17' : C < 100000000000000000 := by omega
        have HST : stepP (C, L) x1 = (C * 10 + x1, L) := by unfold stepP; rw [if_neg h17]
        have HN := Lib.hid (HSN.out.trans HST)
        clear HST HSN
        gi_wp2
        refine ⟨KeepsOthers.setCell _ _ _, KeepBut4.setCell _ _ _ (.inr (.inr (.inl rfl))) _,
          ⟨h4.other (by omega) 1 _, h5.otherO (by omega) 1 _, ?_, ?_, HALL.out.snoc hx0⟩,
          hB.setCell (p := ⟨w.heap.size + 1 + 1, 1, none⟩) (by show w.heap.size ≤ w.heap.size + 1 + 1; omega) _⟩
        · rw [HN.out]; exact h6.set1 _
        · rw [HN.out]; exact h7.otherO (by omega) 1 _
  case stop =>
    rintro D c pre W hD hpre ⟨⟨rfl, h4, h5, x, hx, hneg⟩, hB⟩ hdd
    obtain ⟨rfl, rfl, rfl⟩ := HR1.out ⟨x, hpre.subset hx, hneg⟩
    have hDB : w.heap.size + 5 ≤ D := by omega
    clear HR1 HR2 HR3 HR4 hx hneg hpre
    gi_wp2
    refine ⟨by simp, .inl ⟨_, _, rfl, run_takeDeferred hdd, ?_⟩⟩
    have k4 : Box3 (W.putObj D (.deferred none)) w.heap.size 24 (.bool false) (.int .i64 0) (.int .i64 0) := h4.kept (grownBy_putObj' W D _) (fun e => by have := Option.some.inj e; omega)
    have k5 : Boxed (W.putObj D (.deferred none)) (w.heap.size + 1) 25 (.int .i64 10) := h5.kept (grownBy_putObj' W D _) (fun e => by have := Option.some.inj e; omega)
    exact ⟨_, results_num rfl _ _ w.heap.size (w.heap.size + 1) false 0 0 10 rfl rfl k4 k5, rfl, hB.trans (belowK_b (w := w) (Nat.le_refl _) W D _ _ (by omega) hdd rfl rfl)⟩
  case done =>
    rintro D xs W hD rfl ⟨⟨h4, h5, h6, h7, hall⟩, hB⟩ hdd
    rw [← HLG.out] at h6 h7
    have hDB : w.heap.size + 5 ≤ D := by omega
    have k40 := h4.cell0
    have k41 := h4.cell1
    have k42 := h4.cell2
    have f40 := h4.frozen0
    have f41 := h4.frozen1
    have f42 := h4.frozen2
    have k5 := h5.cell
    have f5 := h5.frozen
    by_cases ha : a.size = 0
    · obtain ⟨rfl, rfl, rfl⟩ := HR2.out hall ha
      obtain rfl : a = ⟨#[]⟩ := by
        obtain ⟨l, rfl⟩ := bs_ex a
        rw [bs_size] at ha
        rw [List.length_eq_zero_iff.1 ha]
        rfl
      clear HR1 HR2 HR3 HR4 hall
      gi_wp2
      have k4 := (((h4.set0 (.bool false)).set1 (.int .i64 0)).set2 (.int .i64 0)).other (B' := w.heap.size + 1) (by omega) 0 (.int .i64 10)
      have k5 := (((h5.otherO (B' := w.heap.size) (by omega) 0 (.bool false)).otherO (B' := w.heap.size) (by omega) 1 (.int .i64 0)).otherO (B' := w.heap.size) (by omega) 2 (.int .i64 0)).set (.int .i64 10)
      have hb4 := (((hB.setCell (p := ⟨w.heap.size, 0, none⟩) (Nat.le_refl _) (.bool false)).setCell (p := ⟨w.heap.size, 1, none⟩) (Nat.le_refl _) (.int .i64 0)).setCell (p := ⟨w.heap.size, 2, none⟩) (Nat.le_refl _) (.int .i64 0)).setCell (p := ⟨w.heap.size + 1, 0, none⟩) (Nat.le_succ _) (.int .i64 10)
      have hdd2 := (four_kept W w.heap.size (w.heap.size + 1) D (by omega) (by omega) (.bool false) (.int .i64 0) (.int .i64 0) (.int .i64 10)).trans hdd
      exact ⟨by simp, .inl ⟨_, _, rfl, run_takeDeferred hdd2, _, results_num rfl _ _ w.heap.size (w.heap.size + 1) false 0 0 10 rfl rfl (k4.kept (grownBy_putObj' _ D (.deferred none)) (fun e => by have := Option.some.inj e; omega)) (k5.kept (grownBy_putObj' _ D (.deferred none)) (fun e => by have := Option.some.inj e; omega)), rfl,
        hb4.trans (belowK_b (w := w) (Nat.le_refl _) _ D _ _ (by omega) hdd2 rfl rfl)⟩⟩
    · have hae : a.toList.isEmpty = false := by
        obtain ⟨l, rfl⟩ := bs_ex a
        rw [bs_size] at ha
        rw [bs_toList]
        cases l with
        | nil => exact absurd rfl ha
        | cons _ _ => rfl
      cases hL : (foldP (decide (5 < (b.size : Int))) (seqD t.data.toList)).2
      · obtain ⟨e1, rfl, rfl⟩ := HR4.out hall ha hL
        rw [hL] at h7
        rw [← e1] at h6
        have k60 := h6.cell0
        have k61 := h6.cell1
        have k62 := h6.cell2
        have k7 := h7.cell
        clear HR1 HR2 HR3 HR4 hall hL e1 ha
        gi_wp2
        have k4 := (((h4.set0 (.bool false)).set1 (.int .i64 r1)).set2 (.int .i64 (b.size : Int))).other (B' := w.heap.size + 1) (by omega) 0 (.int .i64 0)
        have k5 := (((h5.otherO (B' := w.heap.size) (by omega) 0 (.bool false)).otherO (B' := w.heap.size) (by omega) 1 (.int .i64 r1)).otherO (B' := w.heap.size) (by omega) 2 (.int .i64 (b.size : Int))).set (.int .i64 0)
        have hb4 := (((hB.setCell (p := ⟨w.heap.size, 0, none⟩) (Nat.le_refl _) (.bool false)).setCell (p := ⟨w.heap.size, 1, none⟩) (Nat.le_refl _) (.int .i64 r1)).setCell (p := ⟨w.heap.size, 2, none⟩) (Nat.le_refl _) (.int .i64 (b.size : Int))).setCell (p := ⟨w.heap.size + 1, 0, none⟩) (Nat.le_succ _) (.int .i64 0)
        have hdd2 := (four_kept W w.heap.size (w.heap.size + 1) D (by omega) (by omega) (.bool false) (.int .i64 r1) (.int .i64 (b.size : Int)) (.int .i64 0)).trans hdd
        exact ⟨by simp, .inl ⟨_, _, rfl, run_takeDeferred hdd2, _, results_num rfl _ _ w.heap.size (w.heap.size + 1) false r1 (b.size : Int) 0 rfl rfl (k4.kept (grownBy_putObj' _ D (.deferred none)) (fun e => by have := Option.some.inj e; omega)) (k5.kept (grownBy_putObj' _ D (.deferred none)) (fun e => by have := Option.some.inj e; omega)), rfl,
          hb4.trans (belowK_b (w := w) (Nat.le_refl _) _ D _ _ (by omega) hdd2 rfl rfl)⟩⟩
      · obtain ⟨rfl, rfl, rfl⟩ := HR3.out hall ha hL
        rw [hL] at h7
        have k7 := h7.cell
        clear HR1 HR2 HR3 HR4 hall hL ha
        gi_wp2
        have k4 := (((h4.set0 (.bool false)).set1 (.int .i64 0)).set2 (.int .i64 0)).other (B' := w.heap.size + 1) (by omega) 0 (.int .i64 11)
        have k5 := (((h5.otherO (B' := w.heap.size) (by omega) 0 (.bool false)).otherO (B' := w.heap.size) (by omega) 1 (.int .i64 0)).otherO (B' := w.heap.size) (by omega) 2 (.int .i64 0)).set (.int .i64 11)
        have hb4 := (((hB.setCell (p := ⟨w.heap.size, 0, none⟩) (Nat.le_refl _) (.bool false)).setCell (p := ⟨w.heap.size, 1, none⟩) (Nat.le_refl _) (.int .i64 0)).setCell (p := ⟨w.heap.size, 2, none⟩) (Nat.le_refl _) (.int .i64 0)).setCell (p := ⟨w.heap.size + 1, 0, none⟩) (Nat.le_succ _) (.int .i64 11)
        have hdd2 := (four_kept W w.heap.size (w.heap.size + 1) D (by omega) (by omega) (.bool false) (.int .i64 0) (.int .i64 0) (.int .i64 11)).trans hdd
        exact ⟨by simp, .inl ⟨_, _, rfl, run_takeDeferred hdd2, _, results_num rfl _ _ w.heap.size (w.heap.size + 1) false 0 0 11 rfl rfl (k4.kept (grownBy_putObj' _ D (.deferred none)) (fun e => by have := Option.some.inj e; omega)) (k5.kept (grownBy_putObj' _ D (.deferred none)) (fun e => by have := Option.some.inj e; omega)), rfl,
          hb4.trans (belowK_b (w := w) (Nat.le_refl _) _ D _ _ (by omega) hdd2 rfl rfl)⟩⟩
/-- What decimal.parse tells of these texts. -/
def parseR (a b : List UInt8) : Bool × Int × Int × Int :=
  if (seqD (a ++ b)).any (fun x => decide (x.1 < 0)) then (false, 0, 0, 10) else if a = [] then (false, 0, 0, 10)
  else if (foldP (decide (5 < (b.length : Int))) (seqD (a ++ b))).2 then (false, 0, 0, 11) else (false, (foldP (decide (5 < (b.length : Int))) (seqD (a ++ b))).1, (b.length : Int), 0)
def decimal_parse.f (a0 a1 : ByteArray) : Option (Bool × Int × Int × Int) := if a0.size + a1.size ≤ 1048576 then some (parseR a0.data.toList a1.data.toList) else none
theorem hasNeg_any {xs : List DI} : xs.any (fun x => decide (x.1 < 0)) = true ↔ HasNegD xs := by
  rw [List.any_eq_true]
  exact ⟨fun ⟨x, hx, h⟩ => ⟨x, hx, by simpa using h⟩, fun ⟨x, hx, h⟩ => ⟨x, hx, by simpa using h⟩⟩
theorem nonNeg_any {xs : List DI} (h : NonNegD xs) : ¬ xs.any (fun x => decide (x.1 < 0)) = true := fun h2 => by
  obtain ⟨x, hx, hn⟩ := hasNeg_any.1 h2
  have := h x hx
  omega
theorem decimal_parse.calls (a0 a1 : ByteArray) (r1 : Bool) (r2 r3 r4 : Int) (w : World) (h : decimal_parse.f a0 a1 = some (r1, r2, r3, r4)) :
    Calls Tryd.prog 40 #[.string a0, .string a1] w fun e w' => e = .returned (.tuple #[.agg #[.bool r1, .int .i64 r2, .int .i64 r3], .int .i64 r4]) ∧ Below w.heap.size w w' := by
  unfold decimal_parse.f at h
  by_cases hc : a0.size + a1.size ≤ 1048576
  · rw [if_pos hc] at h
    have h := Option.some.inj h
    obtain ⟨l, rfl⟩ := bs_ex a0
    obtain ⟨m, rfl⟩ := bs_ex a1
    rw [bs_data, bs_data] at h
    have h5 : decide (5 < ((bs m).size : Int)) = decide (5 < (m.length : Int)) := by rw [bs_size]
    have h1 : r1 = false := by
      have := congrArg Prod.fst h
      simp only at this
      rw [← this]
      unfold parseR
      split
      · rfl
      · split
        · rfl
        · split <;> rfl
    subst h1
    refine callsIn_wide.1 ((parse_walk (bs l) (bs m) (bs (l ++ m)) hc w (bs_append l m) r2 r3 r4 ?_ ?_ ?_ ?_).mono fun _ _ hh => hh)
    · intro hn
      rw [bs_data] at hn
      unfold parseR at h
      rw [if_pos (hasNeg_any.2 hn)] at h
      simp only [Prod.mk.injEq] at h
      exact ⟨h.2.1.symm, h.2.2.1.symm, h.2.2.2.symm⟩
    · intro hn ha
      rw [bs_data] at hn
      rw [bs_size] at ha
      unfold parseR at h
      rw [if_neg (nonNeg_any hn), if_pos (List.length_eq_zero_iff.1 ha)] at h
      simp only [Prod.mk.injEq] at h
      exact ⟨h.2.1.symm, h.2.2.1.symm, h.2.2.2.symm⟩
    · intro hn ha hf
      rw [bs_data] at hn hf
      rw [bs_size] at ha
      rw [h5] at hf
      unfold parseR at h
      rw [if_neg (nonNeg_any hn), if_neg (fun e => ha (by rw [e]; rfl)), if_pos hf] at h
      simp only [Prod.mk.injEq] at h
      exact ⟨h.2.1.symm, h.2.2.1.symm, h.2.2.2.symm⟩
    · intro hn ha hf
      rw [bs_data] at hn hf
      rw [bs_size] at ha
      rw [h5] at hf
      unfold parseR at h
      rw [if_neg (nonNeg_any hn), if_neg (fun e => ha (by rw [e]; rfl)), if_neg (by rw [hf]; decide)] at h
      simp only [Prod.mk.injEq] at h
      rw [bs_data, bs_size]
      exact ⟨h.2.1.symm, h.2.2.1.symm, h.2.2.2.symm⟩
  · rw [if_neg hc] at h
    cases h
end Go.Proofs.YtggakekljbgeoaaDoor.PAll
