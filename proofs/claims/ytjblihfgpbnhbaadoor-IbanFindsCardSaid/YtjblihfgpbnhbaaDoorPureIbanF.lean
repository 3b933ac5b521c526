/- One fault is found: the plain law under IbanFinds. -/
import Derived.Test.YtjblihfgpbnhbaaDoorPureIbanMk
namespace Go.Proofs.YtjblihfgpbnhbaaDoor.Pure
open Go.RowKit Go.Proofs.YtjblihfgpbnhbaaDoor.PAll Go.Proofs.YtjblihfgpbnhbaaDoorW.PrintWords Go.Proofs.YtjblihfgpbnhbaaDoorW.PrintLast GPlain GLenP
set_option linter.unusedSimpArgs false

theorem stepV_inj {n m v : Int} (hn : 0 ≤ n ∧ n < 97) (hm : 0 ≤ m ∧ m < 97) (h : stepV n v = stepV m v) : n = m := by
  unfold stepV at h
  split at h <;> omega
def foldN (xs : List VI) (n : Int) : Int := xs.foldl (fun n x => stepV n x.1) n
theorem foldN_inj : ∀ (xs : List VI) (n m : Int), (∀ x ∈ xs, 0 ≤ x.1) → 0 ≤ n ∧ n < 97 → 0 ≤ m ∧ m < 97 → foldN xs n = foldN xs m → n = m
  | [], _, _, _, _, _, h => h
  | x :: xs, n, m, hx, hn, hm, h => by
    have h0 := hx x List.mem_cons_self
    exact stepV_inj hn hm (foldN_inj xs _ _ (fun y hy => hx y (List.mem_cons_of_mem _ hy)) (stepV_bd hn h0) (stepV_bd hm h0) h)
theorem badL_append (a b : List UInt8) : badL (a ++ b) = (badL a || badL b) := by unfold badL; rw [List.any_append]
theorem foldV_append (a b : List UInt8) : foldV ((a ++ b).map valB) = foldN (b.map valB) (foldV (a.map valB)) := by unfold foldV foldN; rw [List.map_append, List.foldl_append]
theorem vals_nn {l : List UInt8} (h : badL l = false) : ∀ x ∈ l.map valB, 0 ≤ x.1 := fun x hx => by
  obtain ⟨c, hc, rfl⟩ := List.mem_map.1 hx
  have := List.any_eq_false.1 h c hc
  simpa using this
/-- Two texts that part in their middle alone, with one rest: their middles step alike. -/
theorem same_mid (P A B Q : List UInt8) (r : Int) (h1 : restL (P ++ A ++ Q) = (r, true)) (h2 : restL (P ++ B ++ Q) = (r, true)) :
    badL A = false ∧ badL B = false ∧ 0 ≤ foldV (P.map valB) ∧ foldV (P.map valB) < 97 ∧ foldN (A.map valB) (foldV (P.map valB)) = foldN (B.map valB) (foldV (P.map valB)) := by
  have out : ∀ t : List UInt8, restL t = (r, true) → badL t = false ∧ foldV (t.map valB) = r := fun t h => by
    unfold restL at h
    rw [badL_any] at h
    cases hb : badL t
    · rw [hb, if_neg (by simp)] at h
      exact ⟨rfl, (Prod.mk.inj h).1⟩
    · rw [hb, if_pos rfl] at h
      cases (Prod.mk.inj h).2
  obtain ⟨b1, f1⟩ := out _ h1
  obtain ⟨b2, f2⟩ := out _ h2
  rw [badL_append, badL_append, Bool.or_eq_false_iff, Bool.or_eq_false_iff] at b1 b2
  have hP := foldV_bd2 P b1.1.1
  rw [foldV_append, foldV_append] at f1 f2
  have bd : ∀ (L : List UInt8) (n : Int), badL L = false → 0 ≤ n ∧ n < 97 → 0 ≤ foldN (L.map valB) n ∧ foldN (L.map valB) n < 97 := fun L => by
    induction L with
    | nil => intro n _ h; exact h
    | cons c L ih =>
      intro n hb hn
      unfold badL at hb
      rw [List.any_cons, Bool.or_eq_false_iff] at hb
      have h0 : 0 ≤ (valB c).1 := by simpa using hb.1
      exact ih _ hb.2 (stepV_bd hn h0)
  exact ⟨b1.1.2, b2.1.2, hP.1, hP.2, foldN_inj _ _ _ (vals_nn b1.2) (bd A _ b1.1.2 hP) (bd B _ b2.1.2 hP) (f1.trans f2.symm)⟩
/-- One byte changed for another of its kind. -/
theorem one_changed (P Q : List UInt8) (x y : UInt8) (r : Int) (hk : ((valB x).1 < 10 ∧ (valB y).1 < 10) ∨ (10 ≤ (valB x).1 ∧ 10 ≤ (valB y).1)) (h1 : restL (P ++ [x] ++ Q) = (r, true)) (h2 : restL (P ++ [y] ++ Q) = (r, true)) : (valB x).1 = (valB y).1 := by
  obtain ⟨b1, b2, p0, p1, h⟩ := same_mid P [x] [y] Q r h1 h2
  have hx := (valB x).2
  have hy := (valB y).2
  have n1 : ¬ (valB x).1 < 0 := by simpa [badL] using b1
  have n2 : ¬ (valB y).1 < 0 := by simpa [badL] using b2
  have h : stepV (foldV (P.map valB)) (valB x).1 = stepV (foldV (P.map valB)) (valB y).1 := h
  obtain ⟨X, hX⟩ : ∃ X, foldV (P.map valB) = X := ⟨_, rfl⟩
  rw [hX] at h p0 p1
  unfold stepV at h
  rcases hk with ⟨k1, k2⟩ | ⟨k1, k2⟩
  · rw [if_pos k1, if_pos k2] at h
    omega
  · rw [if_neg (by omega), if_neg (by omega)] at h
    omega
/-- Two neighbouring digits changed with one another. -/
theorem two_swapped (P Q : List UInt8) (x y : UInt8) (r : Int) (hx : digit x = true) (hy : digit y = true) (h1 : restL (P ++ [x, y] ++ Q) = (r, true)) (h2 : restL (P ++ [y, x] ++ Q) = (r, true)) : x = y := by
  obtain ⟨_, _, p0, p1, h⟩ := same_mid P [x, y] [y, x] Q r h1 h2
  obtain ⟨a1, a2⟩ := digit_bd hx
  obtain ⟨b1, b2⟩ := digit_bd hy
  have h : stepV (stepV (foldV (P.map valB)) (valB x).1) (valB y).1 = stepV (stepV (foldV (P.map valB)) (valB y).1) (valB x).1 := h
  obtain ⟨X, hX⟩ : ∃ X, foldV (P.map valB) = X := ⟨_, rfl⟩
  rw [hX] at h p0 p1
  have hs : ∀ X v : Int, v < 10 → stepV X v = (X * 10 + v) % 97 := fun X v h => by unfold stepV; rw [if_pos h]
  rw [valB_d x a1 a2, valB_d y b1 b2, hs _ _ (by omega), hs _ _ (by omega), hs _ _ (by omega), hs _ _ (by omega)] at h
  exact UInt8.toNat_inj.1 (by omega)
theorem chk13 (l : List UInt8) (h : ¬ restF l = (1, true)) : chkF l = 13 := by
  unfold chkF
  split
  · rfl
  · split
    · split
      · split
        · split
          · rename_i h2
            split
            · rename_i h1
              exact absurd (Prod.ext h1 h2) h
            · rfl
          · rfl
        · rfl
      · rfl
    · rfl
theorem chk0 (l : List UInt8) (h : chkF l = 0) : restF l = (1, true) ∧ 4 ≤ l.length := by
  refine ⟨?_, ?_⟩
  · by_cases hr : restF l = (1, true)
    · exact hr
    · rw [chk13 l hr] at h
      cases h
  · by_cases hl : l.length < 4
    · unfold chkF at h
      rw [if_pos hl] at h
      cases h
    · omega
theorem turn_hi (A M B : List UInt8) (h : 4 ≤ A.length) : (A ++ M ++ B).drop 4 ++ (A ++ M ++ B).take 4 = A.drop 4 ++ M ++ (B ++ A.take 4) := by
  rw [List.append_assoc, List.drop_append_of_le_length h, List.take_append_of_le_length h]
  simp [List.append_assoc]
theorem turn_lo (A B : List UInt8) (x : UInt8) (h : A.length < 4) : (A ++ [x] ++ B).drop 4 ++ (A ++ [x] ++ B).take 4 = (B.drop (3 - A.length) ++ A) ++ [x] ++ B.take (3 - A.length) := by
  have e : 4 - (A ++ [x]).length = 3 - A.length := by rw [List.length_append]; show 4 - (A.length + 1) = _; omega
  have e2 : (A ++ [x]).length ≤ 4 := by rw [List.length_append]; show A.length + 1 ≤ 4; omega
  rw [List.drop_append, List.take_append, e, List.drop_of_length_le e2, List.take_of_length_le e2]
  simp [List.append_assoc]
theorem restF_turn (l : List UInt8) (h : 4 ≤ l.length) : restF l = restL (l.drop 4 ++ l.take 4) := by unfold restF; rw [if_neg (by omega)]
theorem split_at (l : List UInt8) (i : Nat) (h : i < l.length) : l = l.take i ++ [l.getD i 0] ++ l.drop (i + 1) := by
  have : l.getD i 0 = l[i] := by rw [List.getD_eq_getElem?_getD, List.getElem?_eq_getElem h]; rfl
  rw [this, List.append_assoc, List.singleton_append, ← List.drop_eq_getElem_cons h, List.take_append_drop]
/-- An IBAN with one byte changed for another of its kind is none. -/
theorem chk_changed (A B : List UInt8) (x y : UInt8) (h : chkF (A ++ [x] ++ B) = 0) (hk : ((valB x).1 < 10 ∧ (valB y).1 < 10) ∨ (10 ≤ (valB x).1 ∧ 10 ≤ (valB y).1)) (hne : (valB x).1 ≠ (valB y).1) : chkF (A ++ [y] ++ B) = 13 := by
  obtain ⟨h1, h4⟩ := chk0 _ h
  have h4' : 4 ≤ (A ++ [y] ++ B).length := by simpa using h4
  refine chk13 _ fun h2 => hne ?_
  rw [restF_turn _ h4] at h1
  rw [restF_turn _ h4'] at h2
  by_cases hA : 4 ≤ A.length
  · rw [turn_hi _ _ _ hA] at h1 h2
    exact one_changed _ _ x y 1 hk h1 h2
  · rw [turn_lo _ _ _ (by omega)] at h1 h2
    exact one_changed _ _ x y 1 hk h1 h2
/-- An IBAN with two unlike neighbouring digits, behind the first four, changed with one another is none. -/
theorem chk_swapped (A B : List UInt8) (x y : UInt8) (hA : 4 ≤ A.length) (h : chkF (A ++ [x, y] ++ B) = 0) (hx : digit x = true) (hy : digit y = true) (hne : x ≠ y) : chkF (A ++ [y, x] ++ B) = 13 := by
  obtain ⟨h1, h4⟩ := chk0 _ h
  have h4' : 4 ≤ (A ++ [y, x] ++ B).length := by simpa using h4
  refine chk13 _ fun h2 => hne ?_
  rw [restF_turn _ h4, turn_hi _ _ _ hA] at h1
  rw [restF_turn _ h4', turn_hi _ _ _ hA] at h2
  exact two_swapped _ _ x y 1 hx hy h1 h2
end Go.Proofs.YtjblihfgpbnhbaaDoor.Pure
