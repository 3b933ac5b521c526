/- What date's functions and the document's give of texts of ten and of six bytes. -/
import Derived.Test.YtjemnphmjbodfaaDoorPureDate1
import Derived.Test.YtjemnphmjbodfaaDoorPAllx7
namespace Go.Proofs.YtjemnphmjbodfaaDoor.PAll
open Go.RowKit Go.Proofs.YtjemnphmjbodfaaDoorW.PrintWords GPlain
set_option linter.unusedSimpArgs false

theorem num_f (l : List UInt8) (h : l.length ≤ 1048576) : date_number.f (bs l) = some (numL l 0) := by
  unfold date_number.f
  rw [bs_size, if_pos h, bs_data]
theorem numL_bd (l : List UInt8) (h : l.length ≤ 4) : -1 ≤ numL l 0 ∧ numL l 0 ≤ 9999 := by
  rw [numL_eq l (by omega)]
  split
  · rename_i hd
    have := numN_lt l 0 hd
    have h4 : 10 ^ l.length ≤ 10 ^ 4 := Nat.pow_le_pow_right (by omega) h
    omega
  · omega
theorem ten (l : List UInt8) (h : l.length = 10) : ∃ c0 c1 c2 c3 c4 c5 c6 c7 c8 c9, l = [c0, c1, c2, c3, c4, c5, c6, c7, c8, c9] := by
  match l, h with
  | [c0, c1, c2, c3, c4, c5, c6, c7, c8, c9], _ => exact ⟨_, _, _, _, _, _, _, _, _, _, rfl⟩
theorem six (l : List UInt8) (h : l.length = 6) : ∃ c0 c1 c2 c3 c4 c5, l = [c0, c1, c2, c3, c4, c5] := by
  match l, h with
  | [c0, c1, c2, c3, c4, c5], _ => exact ⟨_, _, _, _, _, _, rfl⟩
/-- The day of a text of ten bytes. -/
def X10 (c0 c1 c2 c3 c4 c5 c6 c7 c8 c9 : UInt8) : Int :=
  if c4 = 45 ∧ c7 = 45 then dayR (numL [c0, c1, c2, c3] 0) (numL [c5, c6] 0) (numL [c8, c9] 0) else -1
theorem c45 (c : UInt8) : ((c.toNat : Int) = 45) = (c = 45) := propext ⟨fun h => UInt8.toNat_inj.1 (by have : (45 : UInt8).toNat = 45 := rfl; omega), fun h => by subst h; rfl⟩
theorem checkXML_ten (c0 c1 c2 c3 c4 c5 c6 c7 c8 c9 : UInt8) :
    date_CheckXML.f (bs [c0, c1, c2, c3, c4, c5, c6, c7, c8, c9]) = some (if 0 ≤ X10 c0 c1 c2 c3 c4 c5 c6 c7 c8 c9 then 0 else 16) := by
  unfold date_CheckXML.f X10
  have e4 : bt (bs [c0, c1, c2, c3, c4, c5, c6, c7, c8, c9]) 4 = (c4.toNat : Int) := bt_nat _ 4
  have e7 : bt (bs [c0, c1, c2, c3, c4, c5, c6, c7, c8, c9]) 7 = (c7.toNat : Int) := bt_nat _ 7
  have x1 : (bs [c0, c1, c2, c3, c4, c5, c6, c7, c8, c9]).extract 0 4 = bs [c0, c1, c2, c3] := bs_extract _ _ _
  have x2 : (bs [c0, c1, c2, c3, c4, c5, c6, c7, c8, c9]).extract 5 7 = bs [c5, c6] := bs_extract _ _ _
  have x3 : (bs [c0, c1, c2, c3, c4, c5, c6, c7, c8, c9]).extract 8 10 = bs [c8, c9] := bs_extract _ _ _
  have hz : (bs [c0, c1, c2, c3, c4, c5, c6, c7, c8, c9]).size = 10 := bs_size _
  rw [hz, e4, e7, x1, x2, x3, num_f _ (by simp), num_f _ (by simp), num_f _ (by simp)]
  simp only [c45]
  by_cases h4 : c4 = 45
  · by_cases h7 : c7 = 45
    · simp only [h4, h7, if_true, and_self, Option.bind_some, date_good.f]
      by_cases hg : goodB (numL [c0, c1, c2, c3] 0) (numL [c5, c6] 0) (numL [c8, c9] 0) = true
      · have := (dayR_nonneg _ _ _).2 hg
        simp [hg, this]
      · have : ¬ 0 ≤ dayR (numL [c0, c1, c2, c3] 0) (numL [c5, c6] 0) (numL [c8, c9] 0) := fun e => hg ((dayR_nonneg _ _ _).1 e)
        simp [hg, this]
    · simp [h4, h7]
  · simp [h4]
theorem checkXML_other (l : List UInt8) (h : l.length ≠ 10) : date_CheckXML.f (bs l) = some 16 := by
  unfold date_CheckXML.f
  rw [bs_size, if_neg (by omega)]
theorem X10_good {c0 c1 c2 c3 c4 c5 c6 c7 c8 c9 : UInt8} (h : 0 ≤ X10 c0 c1 c2 c3 c4 c5 c6 c7 c8 c9) :
    c4 = 45 ∧ c7 = 45 ∧ goodB (numL [c0, c1, c2, c3] 0) (numL [c5, c6] 0) (numL [c8, c9] 0) = true ∧ X10 c0 c1 c2 c3 c4 c5 c6 c7 c8 c9 = dayR (numL [c0, c1, c2, c3] 0) (numL [c5, c6] 0) (numL [c8, c9] 0) := by
  unfold X10 at h ⊢
  by_cases hc : c4 = 45 ∧ c7 = 45
  · rw [if_pos hc] at h ⊢
    exact ⟨hc.1, hc.2, (dayR_nonneg _ _ _).1 h, rfl⟩
  · rw [if_neg hc] at h
    exact absurd h (by decide)
theorem day_ten (c0 c1 c2 c3 c4 c5 c6 c7 c8 c9 : UInt8) :
    date_Day.f (bs [c0, c1, c2, c3, c4, c5, c6, c7, c8, c9]) = some (if 0 ≤ X10 c0 c1 c2 c3 c4 c5 c6 c7 c8 c9 then (X10 c0 c1 c2 c3 c4 c5 c6 c7 c8 c9, 0) else (0, 16)) := by
  unfold date_Day.f
  have x1 : (bs [c0, c1, c2, c3, c4, c5, c6, c7, c8, c9]).extract 0 4 = bs [c0, c1, c2, c3] := bs_extract _ _ _
  have x2 : (bs [c0, c1, c2, c3, c4, c5, c6, c7, c8, c9]).extract 5 7 = bs [c5, c6] := bs_extract _ _ _
  have x3 : (bs [c0, c1, c2, c3, c4, c5, c6, c7, c8, c9]).extract 8 10 = bs [c8, c9] := bs_extract _ _ _
  have hz : (bs [c0, c1, c2, c3, c4, c5, c6, c7, c8, c9]).size = 10 := bs_size _
  rw [checkXML_ten, Option.bind_some]
  by_cases h : 0 ≤ X10 c0 c1 c2 c3 c4 c5 c6 c7 c8 c9
  · rw [if_pos h, if_pos h, if_pos rfl, if_pos hz, x1, x2, x3, num_f _ (by simp), num_f _ (by simp), num_f _ (by simp)]
    simp only [Option.bind_some]
    obtain ⟨_, _, hg, he⟩ := X10_good h
    have hg' := (good_iff _ _ _).1 hg
    have b := numL_bd [c8, c9] (by simp)
    have l : (monthLen (numL [c0, c1, c2, c3] 0).toNat (numL [c5, c6] 0).toNat) ≤ 31 := by rw [monthLen_eq]; exact (monthsL_bd _ _).2
    rw [if_pos (by omega), he, dayR, if_pos hg]
  · rw [if_neg h, if_neg h, if_neg (by decide)]
theorem day_other (l : List UInt8) (h : l.length ≠ 10) : date_Day.f (bs l) = some (0, 16) := by
  unfold date_Day.f
  rw [checkXML_other l h, Option.bind_some, if_neg (by decide)]

/-! ### the document's -/
theorem digits_l0 (l : List UInt8) (fr many : Nat) (hf : fr + many ≤ l.length) (hs : l.length ≤ 1000) (d : Nat) : ∀ (k i : Nat) (acc : Int), fr + many - i = d → i ≤ fr + many → d < k →
    remitterref06_digits.l0 k (bs l) fr many acc i = some (numL ((l.take (fr + many)).drop i) acc) := by
  induction d with
  | zero =>
    intro k i acc hd hi hk
    obtain ⟨k, rfl⟩ : ∃ m, k = m + 1 := ⟨k - 1, by omega⟩
    rw [remitterref06_digits.l0, wrap_ok (by omega) (by omega), if_neg (by omega), List.drop_of_length_le (by rw [List.length_take]; omega)]
    rfl
  | succ d ih =>
    intro k i acc hd hi hk
    obtain ⟨k, rfl⟩ : ∃ m, k = m + 1 := ⟨k - 1, by omega⟩
    have hlt : i < (l.take (fr + many)).length := by rw [List.length_take]; omega
    rw [remitterref06_digits.l0, wrap_ok (x := (fr : Int) + many) (by omega) (by omega), if_pos (by omega), bs_size, if_neg (by omega), if_pos (by omega), if_pos (by omega), bt_nat, List.drop_eq_getElem_cons hlt]
    have e : l.getD i 0 = (l.take (fr + many))[i] := by
      rw [List.getElem_take, List.getD_eq_getElem?_getD, List.getElem?_eq_getElem (by omega)]
      rfl
    rw [e, numL]
    have hc := ((l.take (fr + many))[i]).toNat_lt
    by_cases h1 : ((l.take (fr + many))[i]).toNat < 48
    · rw [if_pos (by omega), if_pos (.inl h1)]
    · rw [if_neg (by omega)]
      by_cases h2 : 57 < ((l.take (fr + many))[i]).toNat
      · rw [if_pos (by omega), if_pos (.inr h2)]
      · rw [if_neg (by omega), if_neg (by omega), wrap_ok (x := (i : Int) + 1) (by omega) (by omega)]
        have e3 : (((l.take (fr + many))[i].toNat : Int) - 48) % 256 = ((l.take (fr + many))[i].toNat : Int) - 48 := by omega
        rw [e3, Int.mul_comm 10 acc]
        exact ih k (i + 1) _ (by omega) (by omega) (by omega)
theorem digits_f (l : List UInt8) (fr many : Nat) (hf : fr + many ≤ l.length) (hs : l.length ≤ 1000) (k : Nat) (hk : many < k) :
    remitterref06_digits.f k (bs l) fr many = some (numL ((l.take (fr + many)).drop fr) 0) := by
  unfold remitterref06_digits.f
  exact digits_l0 l fr many hf hs many k fr 0 (by omega) (by omega) hk
theorem length_f (k y m : Nat) (hk : 0 < k) (hy : y < 2100) (h1 : 1 ≤ m) (h2 : m ≤ 12) : remitterref06_length.f k y m = some (monthLen y m) := by
  obtain ⟨k, rfl⟩ : ∃ j, k = j + 1 := ⟨k - 1, by omega⟩
  unfold remitterref06_length.f
  have e : Int.tmod (y : Int) 4 = ((y % 4 : Nat) : Int) := by rw [Int.tmod_eq_emod_of_nonneg (by omega)]; omega
  rw [e]
  have e0 : ((y : Int) != 2100) = true := bne_iff_ne.2 (by omega)
  rw [e0]
  simp only [remitterref06_length.j0, if_true, Bool.false_eq_true, if_false]
  rcases (show m = 1 ∨ m = 2 ∨ m = 3 ∨ m = 4 ∨ m = 5 ∨ m = 6 ∨ m = 7 ∨ m = 8 ∨ m = 9 ∨ m = 10 ∨ m = 11 ∨ m = 12 by omega) with rfl | rfl | rfl | rfl | rfl | rfl | rfl | rfl | rfl | rfl | rfl | rfl
  case inr.inl =>
    rw [if_pos (show ((2 : Nat) : Int) = 2 from rfl)]
    by_cases h : y % 4 = 0
    · rw [if_pos (by omega)]; simp [monthLen, h]
    · rw [if_neg (by omega)]; simp [monthLen, h]
  all_goals simp [monthLen]
theorem day_l2 (y : Nat) (hy0 : 1980 ≤ y) (hy : y < 2100) (yy : Int) (d : Nat) : ∀ (k j : Nat) (acc : Int), 13 - j = d → 1 ≤ j → j ≤ 13 → d < k → 0 ≤ acc → acc + 32 * d ≤ 1000000 →
    remitterref06_day.l2 k yy acc y j = remitterref06_day.l1 (k - d - 1) yy (acc + (sumM y 13 - sumM y j)) (y + 1) := by
  induction d with
  | zero =>
    intro k j acc hd h1 h13 hk ha hb
    obtain ⟨k, rfl⟩ : ∃ m, k = m + 1 := ⟨k - 1, by omega⟩
    obtain rfl : j = 13 := by omega
    rw [remitterref06_day.l2, if_neg (by omega), wrap_ok (by omega) (by omega)]
    congr 1
    omega
  | succ d ih =>
    intro k j acc hd h1 h13 hk ha hb
    obtain ⟨k, rfl⟩ : ∃ m, k = m + 1 := ⟨k - 1, by omega⟩
    have hs := sumM_succ y j (by omega)
    have hl := monthsL_bd y j
    rw [remitterref06_day.l2, if_pos (by omega), length_f k y j (by omega) hy h1 (by omega), Option.bind_some, monthLen_eq, wrap_ok (x := acc + _) (by omega) (by omega), wrap_ok (by omega) (by omega)]
    have := ih k (j + 1) (acc + (monthsL y).getD j 0) (by omega) (by omega) (by omega) (by omega) (by omega) (by omega)
    rw [Int.natCast_add] at this
    rw [show ((j : Int) + 1) = (j : Int) + ((1 : Nat) : Int) from rfl, this]
    rw [show k + 1 - (d + 1) - 1 = k - d - 1 by omega]
    congr 1
    omega
theorem day_l1 (y : Nat) (hy0 : 1980 ≤ y) (hy : y ≤ 2079) (d : Nat) : ∀ (k x : Nat) (acc : Int), y - x = d → 1980 ≤ x → x ≤ y → 20 * d < k → 0 ≤ acc → acc + 500 * d ≤ 900000 →
    remitterref06_day.l1 k y acc x = some (acc + (sumY (y - 1980) - sumY (x - 1980))) := by
  induction d with
  | zero =>
    intro k x acc hd h0 h1 hk ha hb
    obtain ⟨k, rfl⟩ : ∃ m, k = m + 1 := ⟨k - 1, by omega⟩
    obtain rfl : x = y := by omega
    rw [remitterref06_day.l1, if_neg (by omega)]
    exact congrArg some (by omega)
  | succ d ih =>
    intro k x acc hd h0 h1 hk ha hb
    obtain ⟨k, rfl⟩ : ∃ m, k = m + 1 := ⟨k - 1, by omega⟩
    have l2 := day_l2 x h0 (by omega) (y : Int) 12 k 1 acc rfl (by omega) (by omega) (by omega) ha (by omega)
    have b13 := sumM_bd x 13 (by omega)
    rw [show ((1 : Nat) : Int) = 1 from rfl] at l2
    have b1 : sumM x 1 = 0 := by simp [sumM, monthsL]
    have hy1 : sumY (x + 1 - 1980) = sumY (x - 1980) + sumM x 13 := by
      rw [show x + 1 - 1980 = (x - 1980) + 1 by omega, sumY, show 1980 + (x - 1980) = x by omega, sumM_year]
    rw [remitterref06_day.l1, if_pos (by omega), l2, b1]
    have := ih (k - 12 - 1) (x + 1) (acc + (sumM x 13 - 0)) (by omega) (by omega) (by omega) (by omega) (by omega) (by omega)
    rw [Int.natCast_add] at this
    rw [show ((x : Int) + 1) = (x : Int) + ((1 : Nat) : Int) from rfl, this]
    exact congrArg some (by omega)
theorem day_l0 (y m : Nat) (hy0 : 1980 ≤ y) (hy : y ≤ 2079) (hm0 : 1 ≤ m) (hm : m ≤ 12) (d : Nat) : ∀ (k j : Nat) (acc : Int), m - j = d → 1 ≤ j → j ≤ m → 2500 + d < k → 0 ≤ acc → acc + 32 * d ≤ 1000 →
    remitterref06_day.l0 k y m acc j = some (acc + (sumM y m - sumM y j) + sumY (y - 1980)) := by
  induction d with
  | zero =>
    intro k j acc hd h1 h13 hk ha hb
    obtain ⟨k, rfl⟩ : ∃ m, k = m + 1 := ⟨k - 1, by omega⟩
    obtain rfl : j = m := by omega
    rw [remitterref06_day.l0, if_neg (by omega)]
    have := day_l1 y hy0 hy (y - 1980) k 1980 acc rfl (by omega) (by omega) (by omega) ha (by omega)
    have e0 : sumY (1980 - 1980) = 0 := rfl
    rw [e0] at this
    rw [show (1980 : Int) = ((1980 : Nat) : Int) from rfl, this]
    exact congrArg some (by omega)
  | succ d ih =>
    intro k j acc hd h1 h13 hk ha hb
    obtain ⟨k, rfl⟩ : ∃ m, k = m + 1 := ⟨k - 1, by omega⟩
    have hs := sumM_succ y j (by omega)
    have hl := monthsL_bd y j
    rw [remitterref06_day.l0, if_pos (by omega), length_f k y j (by omega) (by omega) h1 (by omega), Option.bind_some, monthLen_eq, wrap_ok (x := acc + _) (by omega) (by omega), wrap_ok (by omega) (by omega)]
    have := ih k (j + 1) (acc + (monthsL y).getD j 0) (by omega) (by omega) (by omega) (by omega) (by omega) (by omega)
    rw [Int.natCast_add] at this
    rw [show ((j : Int) + 1) = (j : Int) + ((1 : Nat) : Int) from rfl, this]
    exact congrArg some (by omega)
theorem ref_day (k : Nat) (hk : 3000 ≤ k) (y m d : Int) (hd : d ≤ 1000) : remitterref06_day.f k y m d = some (dayR y m d) := by
  obtain ⟨k, rfl⟩ : ∃ j, k = j + 1 := ⟨k - 1, by omega⟩
  unfold remitterref06_day.f dayR
  have gi := good_iff y m d
  have bad : ∀ k', remitterref06_day.j0 (k' + 1) y m d true = some (-1) := fun k' => by rw [remitterref06_day.j0, if_pos rfl]
  by_cases h1 : y < 1980
  · rw [if_pos h1, bad, if_neg (fun e => by have := gi.1 e; omega)]
  rw [if_neg h1]
  by_cases h2 : y > 2079
  · rw [if_pos h2, bad, if_neg (fun e => by have := gi.1 e; omega)]
  rw [if_neg h2]
  by_cases h3 : m < 1
  · rw [if_pos h3, bad, if_neg (fun e => by have := gi.1 e; omega)]
  rw [if_neg h3]
  by_cases h4 : m > 12
  · rw [if_pos h4, bad, if_neg (fun e => by have := gi.1 e; omega)]
  rw [if_neg h4]
  by_cases h5 : d < 1
  · rw [if_pos h5, bad, if_neg (fun e => by have := gi.1 e; omega)]
  rw [if_neg h5]
  obtain ⟨y, rfl⟩ : ∃ n : Nat, y = (n : Int) := ⟨y.toNat, by omega⟩
  obtain ⟨m, rfl⟩ : ∃ n : Nat, m = (n : Int) := ⟨m.toNat, by omega⟩
  rw [length_f (k + 1) y m (by omega) (by omega) (by omega) (by omega), Option.bind_some]
  simp only [Int.toNat_natCast] at gi ⊢
  by_cases h6 : d > monthLen y m
  · rw [decide_eq_true h6, bad, if_neg (fun e => by have := gi.1 e; omega)]
  · rw [decide_eq_false h6, if_pos (gi.2 (by omega)), remitterref06_day.j0, if_neg (by decide), wrap_ok (by omega) (by omega)]
    have l31 : monthLen y m ≤ 31 := by rw [monthLen_eq]; exact (monthsL_bd _ _).2
    have b1 : sumM y 1 = 0 := by simp [sumM, monthsL]
    have := day_l0 y m (by omega) (by omega) (by omega) (by omega) (m - 1) k 1 (d - 1) rfl (by omega) (by omega) (by omega) (by omega) (by omega)
    rw [b1] at this
    rw [show (1 : Int) = ((1 : Nat) : Int) from rfl] at this ⊢
    rw [this]
    exact congrArg some (by omega)
end Go.Proofs.YtjemnphmjbodfaaDoor.PAll
