/- The lines' laws in plain Lean: what is read is written; the longest body. -/
import Derived.Test.YtkklccccjmipkaaDoorLPureLin3
namespace Go.Proofs.YtkklccccjmipkaaDoor.Pure
open Go.RowKit Go.Proofs.YtkklccccjmipkaaDoor.PAll Go.Proofs.YtkklccccjmipkaaDoorW.PrintWords GPlain
open Go.Proofs.YtkklccccjmipkaaDoor.Lin
set_option linter.unusedSimpArgs false
theorem wb_snoc (o : List LF) (f : LF) : wbytes true ((o ++ [f]).map lfS) = wbytes true (o.map lfS) ++ ((if o = [] then [] else [13, 10]) ++ ([58] ++ f.tag.data.toList ++ [58] ++ f.text.data.toList)) := by
  rw [List.map_append]
  show wbytes true (_ ++ [lfS f]) = _
  rw [wbytes_snoc]
  congr 2
  by_cases h0 : o = []
  · subst h0; rfl
  · rw [if_neg h0]
    cases o with
    | nil => exact absurd rfl h0
    | cons a r => rfl
theorem tag_text (x : List UInt8) (h : 0 < tagN x) : [58] ++ (tgL (bs x)).1.data.toList ++ [58] ++ (tgL (bs x)).2.1.data.toList = x := by
  obtain ⟨h1, h2, h3, h4⟩ := (tg_spec x).2 h
  rw [h1, h2, bs_extract, bs_extract, bs_data, bs_data, List.take_of_length_le (Nat.le_refl _)]
  match x, h with
  | [], h => exact absurd h (by decide)
  | [a], h => rw [tagN_short a [] (by simp)] at h; omega
  | [a, b], h => rw [tagN_short a [b] (by simp)] at h; omega
  | [a, b, c], h => rw [tagN_short a [b, c] (by simp)] at h; omega
  | x :: a :: b :: c :: r, h =>
    by_cases hx : x = 58
    · subst hx
      rw [tagN_c] at h ⊢
      by_cases hd : dg a = true ∧ dg b = true
      · rw [if_pos hd] at h ⊢
        by_cases hc : c = 58
        · subst hc; rw [if_pos rfl]; rfl
        · rw [if_neg hc] at h ⊢
          by_cases hr : 65 ≤ c.toNat ∧ c.toNat ≤ 90 ∧ r.head? = some 58
          · rw [if_pos hr]
            cases r with
            | nil => cases hr.2.2
            | cons d r =>
              have : d = 58 := by have := hr.2.2; injection this
              subst this
              rfl
          · rw [if_neg hr] at h; omega
      · rw [if_neg hd] at h; omega
    · rw [tagN_other x _ hx] at h; omega
/-- Lines in one text. -/
def jn (P : List (List UInt8)) : List UInt8 := List.intercalate [13, 10] P
theorem jn_cons (x : List UInt8) : ∀ R : List (List UInt8), R ≠ [] → jn (x :: R) = x ++ [13, 10] ++ jn R
  | [], h => absurd rfl h
  | y :: R, _ => by unfold jn; rw [List.intercalate_cons_cons]
theorem jn_one (x : List UInt8) : jn [x] = x := List.intercalate_singleton
theorem jn_snoc : ∀ (P : List (List UInt8)) (x : List UInt8), jn (P ++ [x]) = jn P ++ ((if P = [] then [] else [13, 10]) ++ x)
  | [], x => by rw [if_pos rfl]; exact jn_one x
  | [y], x => by
    rw [if_neg (List.cons_ne_nil _ _)]
    show jn (y :: [x]) = _
    rw [jn_cons y [x] (List.cons_ne_nil _ _), jn_one, jn_one, List.append_assoc]
  | y :: z :: P, x => by
    have ih := jn_snoc (z :: P) x
    rw [if_neg (List.cons_ne_nil _ _)] at ih ⊢
    show jn (y :: ((z :: P) ++ [x])) = _
    rw [jn_cons y _ (by simp), ih, jn_cons y (z :: P) (List.cons_ne_nil _ _)]
    simp only [List.append_assoc]
/-- A field's place: there the text bears its tag. -/
def AtTag (s : List UInt8) (f : LF) : Prop := ∃ a : Nat, f.at_ = (a : Int) ∧ ([58] ++ f.tag.data.toList) <+: s.drop a ∧ a + 1 + f.tag.size ≤ s.length
structure BI (s : List UInt8) (P : List (List UInt8)) (o : List LF) (a : Nat) : Prop where
  e : (o = [] ↔ P = [])
  w : wbytes true (o.map lfS) = jn P
  t : ∀ f ∈ o, AtTag s f
  p : o.Pairwise (fun f g => f.at_ < g.at_)
  b : ∀ f ∈ o, f.at_ < (a : Int)
theorem back_run (s : List UInt8) : ∀ (R P : List (List UInt8)) (o o' : List LF) (emp emp' : Int) (n a : Nat), BI s P o a → (R ≠ [] → s.drop a = jn R) → lrun xokL tgL o emp n (placesFrom a (R.map bs)) = .inl (o', emp') → ∃ a', BI s (P ++ R) o' a'
  | [], P, o, o', emp, emp', n, a, hB, hd, h => by
    have h : (Sum.inl (o, emp) : (List LF × Int) ⊕ (Int × Int)) = .inl (o', emp') := h
    injection h with h
    injection h with h1 h2
    subst h1
    rw [List.append_nil]
    exact ⟨a, hB⟩
  | x :: R, P, o, o', emp, emp', n, a, hB, hd, h => by
    have h : (match lstep xokL tgL o emp (n + 1) (a, bs x) with | .inr e => Sum.inr e | .inl (o', emp') => lrun xokL tgL o' emp' (n + 1) (placesFrom (a + (bs x).size + 2) (R.map bs))) = .inl (o', emp') := h
    rw [bs_size] at h
    have hd0 := hd (List.cons_ne_nil _ _)
    have hdR : R ≠ [] → s.drop (a + x.length + 2) = jn R := by
      intro hR
      rw [show a + x.length + 2 = a + (x.length + 2) by omega, ← List.drop_drop, hd0, jn_cons x R hR, List.append_assoc, List.drop_append, List.drop_of_length_le (by omega), List.nil_append]
      rw [show x.length + 2 - x.length = 2 by omega]
      rfl
    have hpx : x <+: s.drop a := by
      rw [hd0]
      cases R with
      | nil => rw [jn_one]; exact List.prefix_refl _
      | cons y R => rw [jn_cons x _ (List.cons_ne_nil _ _), List.append_assoc]; exact List.prefix_append _ _
    cases hs : lstep xokL tgL o emp (n + 1) (a, bs x) with
    | inr e => rw [hs] at h; cases h
    | inl q =>
      obtain ⟨o2, emp2⟩ := q
      rw [hs] at h
      dsimp only at h
      have hB2 : BI s (P ++ [x]) o2 (a + x.length + 2) := by
        unfold lstep at hs
        split at hs
        · cases hs
        split at hs
        · cases hs
        split at hs
        · cases hs
        split at hs
        · rename_i c4
          injection hs with hs
          injection hs with h1 h2
          subst h1
          have c4 : (tgL (bs x)).2.2 = true := c4
          have htn : 0 < tagN x := of_decide_eq_true (by rw [← (tg_spec x).1]; exact c4)
          have htx := tag_text x htn
          refine ⟨by simp, ?_, ?_, ?_, ?_⟩
          · rw [wb_snoc, hB.w, jn_snoc]
            dsimp only
            rw [htx]
            by_cases h0 : o = []
            · rw [if_pos h0, if_pos (hB.e.1 h0)]
            · rw [if_neg h0, if_neg (fun e => h0 (hB.e.2 e))]
          · intro f hf
            rcases List.mem_append.1 hf with h | h
            · exact hB.t f h
            · rw [List.mem_singleton.1 h]
              have hsz : (tgL (bs x)).1.data.toList.length = (tgL (bs x)).1.size := Array.length_toList
              refine ⟨a, rfl, ?_, ?_⟩
              · refine List.IsPrefix.trans ?_ hpx
                have hp : [58] ++ (tgL (bs x)).1.data.toList <+: ([58] ++ (tgL (bs x)).1.data.toList ++ [58] ++ (tgL (bs x)).2.1.data.toList) := by rw [List.append_assoc]; exact List.prefix_append _ _
                rw [htx] at hp
                exact hp
              · have h1 := hpx.length_le
                have h2 := congrArg List.length htx
                simp only [List.length_append, List.length_cons, List.length_nil, List.length_drop] at h1 h2
                rw [hsz] at h2
                dsimp only
                omega
          · rw [List.pairwise_append]
            refine ⟨hB.p, List.pairwise_singleton _ _, fun f hf g hg => ?_⟩
            rw [List.mem_singleton.1 hg]
            exact hB.b f hf
          · intro f hf
            rcases List.mem_append.1 hf with h | h
            · have := hB.b f h; omega
            · rw [List.mem_singleton.1 h]; dsimp only; omega
        split at hs
        · cases hs
        · rename_i c5
          injection hs with hs
          injection hs with h1 h2
          subst h1
          have h0 : o ≠ [] := fun e => c5 (.inl e)
          have hP : P ≠ [] := fun e => h0 (hB.e.2 e)
          obtain ⟨oi, f, rfl⟩ : ∃ oi f, o = oi ++ [f] := ⟨o.dropLast, o.getLast h0, (List.dropLast_concat_getLast h0).symm⟩
          rw [addText_concat]
          have hw := hB.w
          refine ⟨by simp, ?_, ?_, ?_, ?_⟩
          · rw [wb_snoc] at hw ⊢
            rw [jn_snoc, if_neg hP, ← hw]
            dsimp only
            have e13 : (f.text ++ (crlf ++ bs x)).data.toList = f.text.data.toList ++ ([13, 10] ++ x) := by
              obtain ⟨l, hl⟩ := bs_ex f.text
              rw [hl, show crlf = bs [13, 10] from rfl, bs_append, bs_append, bs_data, bs_data]
            rw [e13]
            simp only [List.append_assoc]
          · intro f' hf
            rcases List.mem_append.1 hf with h | h
            · exact hB.t f' (List.mem_append_left _ h)
            · rw [List.mem_singleton.1 h]; exact hB.t f (by simp)
          · have hp := hB.p
            rw [List.pairwise_append] at hp ⊢
            refine ⟨hp.1, List.pairwise_singleton _ _, fun g hg g' hg' => ?_⟩
            rw [List.mem_singleton.1 hg']
            exact hp.2.2 g hg f (by simp)
          · intro f' hf
            rcases List.mem_append.1 hf with h | h
            · have := hB.b f' (List.mem_append_left _ h); omega
            · rw [List.mem_singleton.1 h]; have := hB.b f (by simp); dsimp only; omega
      have := back_run s R (P ++ [x]) o2 o' emp2 emp' (n + 1) (a + x.length + 2) hB2 hdR h
      rw [List.append_assoc] at this
      exact this
theorem read_back {s : List UInt8} {o : List LF} {a : Int} (h : lread xokL tgL (bs s) = (o, a, 0)) : wbytes true (o.map lfS) = s ∧ (∀ f ∈ o, AtTag s f) ∧ o.Pairwise (fun f g => f.at_ < g.at_) := by
  obtain ⟨_, emp, hr, _⟩ := read_ok h rfl
  have hj : jn (cl s) = s := cl_join s
  obtain ⟨a', hB⟩ := back_run s (cl s) [] [] o (-1) emp 0 0 ⟨by simp, rfl, by simp, List.Pairwise.nil, by simp⟩ (fun _ => by rw [hj]; rfl) hr
  rw [List.nil_append] at hB
  exact ⟨by rw [hB.w, hj], hB.t, hB.p⟩
/-- Places of an answer that has no fields. -/
theorem lstep_at {o : List LF} {emp : Int} {n a : Nat} {x : ByteArray} {e : Int × Int} (h : lstep xokL tgL o emp n (a, x) = .inr e) : (e.1 = emp ∧ 0 ≤ emp) ∨ e.1 = (a : Int) := by
  unfold lstep at h
  split at h
  · rename_i c; injection h with h; rw [← h]; exact .inl ⟨rfl, c.2⟩
  split at h
  · injection h with h; rw [← h]; exact .inr rfl
  split at h
  · injection h with h; rw [← h]; exact .inr rfl
  split at h
  · cases h
  split at h
  · injection h with h; rw [← h]; exact .inr rfl
  · cases h
theorem lstep_emp {o o' : List LF} {emp emp' : Int} {n a : Nat} {x : ByteArray} (h : lstep xokL tgL o emp n (a, x) = .inl (o', emp')) : emp' = emp ∨ emp' = (a : Int) ∨ emp' = -1 := by
  unfold lstep at h
  split at h
  · cases h
  split at h
  · cases h
  split at h
  · cases h
  split at h
  · injection h with h
    injection h with h1 h2
    rw [← h2]
    split
    · exact .inr (.inl rfl)
    · exact .inl rfl
  split at h
  · cases h
  · injection h with h
    injection h with h1 h2
    exact .inr (.inr h2.symm)
theorem run_at (N : Nat) : ∀ (R : List ByteArray) (o : List LF) (emp : Int) (n a : Nat), endFrom a R ≤ N + 2 → (emp = -1 ∨ (0 ≤ emp ∧ emp ≤ N)) →
    match lrun xokL tgL o emp n (placesFrom a R) with
    | .inr e => 0 ≤ e.1 ∧ e.1 ≤ N
    | .inl (_, emp') => emp' = -1 ∨ (0 ≤ emp' ∧ emp' ≤ N)
  | [], o, emp, n, a, hN, he => he
  | x :: R, o, emp, n, a, hN, he => by
    have hN : endFrom (a + x.size + 2) R ≤ N + 2 := hN
    have hge : a + x.size + 2 ≤ endFrom (a + x.size + 2) R := endFrom_le [] R (a + x.size + 2)
    show match (match lstep xokL tgL o emp (n + 1) (a, x) with | .inr e => Sum.inr e | .inl (o', emp') => lrun xokL tgL o' emp' (n + 1) (placesFrom (a + x.size + 2) R)) with
      | .inr e => 0 ≤ e.1 ∧ e.1 ≤ N
      | .inl (_, emp') => emp' = -1 ∨ (0 ≤ emp' ∧ emp' ≤ N)
    cases hs : lstep xokL tgL o emp (n + 1) (a, x) with
    | inr e =>
      dsimp only
      rcases lstep_at hs with ⟨h1, h2⟩ | h
      · rcases he with h | h
        · omega
        · rw [h1]; exact h
      · rw [h]; exact ⟨by omega, by omega⟩
    | inl q =>
      obtain ⟨o2, emp2⟩ := q
      dsimp only
      refine run_at N R o2 emp2 (n + 1) (a + x.size + 2) hN ?_
      rcases lstep_emp hs with h | h | h
      · rw [h]; exact he
      · right; rw [h]; exact ⟨by omega, by omega⟩
      · exact .inl h
theorem read_place {s : List UInt8} {o : List LF} {a e : Int} (h : lread xokL tgL (bs s) = (o, a, e)) (he : e ≠ 0) : o = [] ∧ 0 ≤ a ∧ a ≤ (s.length : Int) := by
  have hr := run_at s.length ((cl s).map bs) [] (-1) 0 0 (by rw [cl_end]; omega) (.inl rfl)
  unfold lread at h
  rw [linesB_cl] at h
  cases hc : lrun xokL tgL [] (-1) 0 (placesFrom 0 ((cl s).map bs)) with
  | inr x =>
    rw [hc] at h hr
    dsimp only at h hr
    injection h with h1 h2
    injection h2 with h2 h3
    exact ⟨h1.symm, by omega, by omega⟩
  | inl q =>
    obtain ⟨o2, emp⟩ := q
    rw [hc] at h hr
    dsimp only at h hr
    by_cases h0 : 0 ≤ emp
    · rw [if_pos h0] at h
      injection h with h1 h2
      injection h2 with h2 h3
      exact ⟨h1.symm, by omega, by omega⟩
    · rw [if_neg h0] at h
      injection h with h1 h2
      injection h2 with h2 h3
      exact absurd h3.symm he
def sA : List UInt8 := [58, 50, 48, 58, 82]
def long : Nat → List UInt8
  | 0 => sA
  | n + 1 => long n ++ [13, 10, 65]
theorem long_length : ∀ n, (long n).length = 5 + 3 * n
  | 0 => rfl
  | n + 1 => by rw [long, List.length_append, long_length n]; simp only [List.length_cons, List.length_nil]; omega
theorem cl_long : ∀ n, cl (long n) = sA :: List.replicate n [65]
  | 0 => by decide
  | n + 1 => by
    show cl (long n ++ 13 :: 10 :: [65]) = _
    rw [cl_append, cl_long n, List.replicate_succ']
    rfl
theorem step_A (f : LF) (n a : Nat) : lstep xokL tgL [f] (-1) n (a, bs [65]) = if 2000 < n then .inr ((a : Int), 3) else .inl ([{ f with text := f.text ++ (crlf ++ bs [65]) }], -1) := by
  have t : (tgL (bs [65])).2.2 = false := by decide +kernel
  have x : xokL (bs [65]) = true := by decide +kernel
  have hd : head_ (bs [65]) = 65 := by decide
  unfold lstep
  dsimp only
  rw [t, x, hd, if_neg (by rintro ⟨h, _⟩; cases h)]
  by_cases h : 2000 < n
  · rw [if_pos h, if_pos h]
  · rw [if_neg h, if_neg h, if_neg (by rintro (h | h | h); cases h; rw [bs_size] at h; cases h; rw [bs_size] at h; simp only [List.length_cons, List.length_nil] at h; omega), if_neg Bool.false_ne_true, if_neg (by rintro (h | h | h); cases h; omega; omega)]
    rfl
theorem run_A : ∀ (j n a : Nat) (f : LF), n + j ≤ 2000 → ∃ f', lrun xokL tgL [f] (-1) n (placesFrom a ((List.replicate j [65]).map bs)) = .inl ([f'], -1)
  | 0, n, a, f, h => ⟨f, rfl⟩
  | j + 1, n, a, f, h => by
    obtain ⟨f', hf⟩ := run_A j (n + 1) (a + (bs [65]).size + 2) { f with text := f.text ++ (crlf ++ bs [65]) } (by omega)
    refine ⟨f', ?_⟩
    rw [List.replicate_succ, List.map_cons]
    show (match lstep xokL tgL [f] (-1) (n + 1) (a, bs [65]) with | .inr e => Sum.inr e | .inl (o', emp') => lrun xokL tgL o' emp' (n + 1) (placesFrom (a + (bs [65]).size + 2) _)) = _
    rw [step_A, if_neg (by omega)]
    exact hf
theorem run_A2 : ∀ (j n a : Nat) (f : LF), n + j = 2001 → 0 < j → lrun xokL tgL [f] (-1) n (placesFrom a ((List.replicate j [65]).map bs)) = .inr (((a + 3 * (j - 1) : Nat) : Int), 3)
  | 0, n, a, f, h, h0 => absurd h0 (Nat.lt_irrefl 0)
  | j + 1, n, a, f, h, _ => by
    rw [List.replicate_succ, List.map_cons]
    show (match lstep xokL tgL [f] (-1) (n + 1) (a, bs [65]) with | .inr e => Sum.inr e | .inl (o', emp') => lrun xokL tgL o' emp' (n + 1) (placesFrom (a + (bs [65]).size + 2) _)) = _
    rw [step_A]
    by_cases hj : j = 0
    · subst hj; rw [if_pos (by omega)]; rfl
    · rw [if_neg (by omega)]
      dsimp only
      rw [run_A2 j (n + 1) (a + (bs [65]).size + 2) _ (by omega) (by omega), bs_size]
      congr 3
      simp only [List.length_cons, List.length_nil]
      omega
theorem first_A (n : Nat) : ∃ f, lrun xokL tgL [] (-1) 0 (placesFrom 0 ((cl (long n)).map bs)) = lrun xokL tgL [f] (-1) 1 (placesFrom 7 ((List.replicate n [65]).map bs)) := by
  rw [cl_long, List.map_cons]
  refine ⟨⟨(tgL (bs sA)).1, (tgL (bs sA)).2.1, 0⟩, ?_⟩
  show (match lstep xokL tgL [] (-1) (0 + 1) (0, bs sA) with | .inr e => Sum.inr e | .inl (o', emp') => lrun xokL tgL o' emp' (0 + 1) (placesFrom (0 + (bs sA).size + 2) _)) = _
  have t : (tgL (bs sA)).2.2 = true := by decide +kernel
  have x : xokL (bs sA) = true := by decide +kernel
  have t2 : ¬ (tgL (bs sA)).2.1.size = 0 := by decide +kernel
  have : lstep xokL tgL [] (-1) (0 + 1) (0, bs sA) = .inl ([⟨(tgL (bs sA)).1, (tgL (bs sA)).2.1, 0⟩], -1) := by
    unfold lstep
    dsimp only
    rw [t, x, if_neg (by rintro ⟨_, h⟩; omega), if_neg (by omega), if_neg (by rintro (h | h | h); cases h; rw [bs_size] at h; cases h; rw [bs_size] at h; exact absurd h (by decide)), if_pos rfl, if_neg t2]
    rfl
  rw [this]
  dsimp only
  rw [bs_size]
  rfl
theorem long_read (n : Nat) (hn : n + 1 ≤ 2000) : ∃ o, lread xokL tgL (bs (long n)) = (o, ((5 + 3 * n : Nat) : Int), 0) := by
  obtain ⟨f, hf⟩ := first_A n
  obtain ⟨f', hf'⟩ := run_A n 1 7 f (by omega)
  refine ⟨[f'], ?_⟩
  unfold lread
  rw [linesB_cl, hf, hf']
  dsimp only
  rw [if_neg (by decide), bs_size, long_length]
theorem long_over (n : Nat) (hn : n = 2000) : lread xokL tgL (bs (long n)) = ([], ((4 + 3 * n : Nat) : Int), 3) := by
  obtain ⟨f, hf⟩ := first_A n
  unfold lread
  rw [linesB_cl, hf, run_A2 n 1 7 f (by omega) (by omega)]
  dsimp only
  rw [show 7 + 3 * (n - 1) = 4 + 3 * n by omega]
end Go.Proofs.YtkklccccjmipkaaDoor.Pure
