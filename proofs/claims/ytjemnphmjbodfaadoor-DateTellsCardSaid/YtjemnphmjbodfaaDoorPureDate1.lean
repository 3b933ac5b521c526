/- Plain facts: digits, numbers, days; no program in sight. -/
import Derived.Test.YtjemnphmjbodfaaDoorGDay
import Derived.Test.YtjemnphmjbodfaaDoorGGood
import Derived.Test.YtjemnphmjbodfaaDoorGPlain
namespace Go.Proofs.YtjemnphmjbodfaaDoor.PAll
open Go.RowKit Go.Proofs.YtjemnphmjbodfaaDoorW.PrintWords GPlain

def isD (c : UInt8) : Prop := 48 ≤ c.toNat ∧ c.toNat ≤ 57
instance (c : UInt8) : Decidable (isD c) := by unfold isD; infer_instance
def allD (l : List UInt8) : Prop := ∀ c ∈ l, isD c
instance (l : List UInt8) : Decidable (allD l) := by unfold allD; infer_instance
/-- The number that digits spell. -/
def numN : List UInt8 → Nat → Nat
  | [], acc => acc
  | c :: r, acc => numN r (acc * 10 + (c.toNat - 48))
theorem numL_bad (l : List UInt8) : ∀ acc, ¬ allD l → numL l acc = -1 := by
  induction l with
  | nil => intro acc h; exact absurd (fun c hc => by cases hc) h
  | cons c r ih =>
    intro acc h
    rw [numL]
    by_cases hc : c.toNat < 48 ∨ 57 < c.toNat
    · rw [if_pos hc]
    · rw [if_neg hc]
      refine ih _ (fun hr => h ?_)
      intro x hx
      rcases List.mem_cons.1 hx with rfl | hx
      · exact ⟨by omega, by omega⟩
      · exact hr x hx
theorem numL_good (l : List UInt8) : ∀ acc : Nat, allD l → (acc + 1) * 10 ^ l.length ≤ 1000000000 → numL l (acc : Int) = (numN l acc : Int) := by
  induction l with
  | nil => intro acc _ _; rfl
  | cons c r ih =>
    intro acc h hb
    have hc : isD c := h c (List.mem_cons_self ..)
    unfold isD at hc
    rw [numL, if_neg (by omega), numN]
    have e : (acc + 1) * 10 ^ (r.length + 1) = ((acc + 1) * 10) * 10 ^ r.length := by rw [Nat.pow_succ, Nat.mul_assoc, Nat.mul_comm 10]
    rw [List.length_cons, e] at hb
    have h1 : (acc * 10 + (c.toNat - 48) + 1) * 10 ^ r.length ≤ ((acc + 1) * 10) * 10 ^ r.length := Nat.mul_le_mul_right _ (by omega)
    have h2 : (acc + 1) * 10 ≤ ((acc + 1) * 10) * 10 ^ r.length := Nat.le_mul_of_pos_right _ (Nat.pow_pos (by omega))
    have e2 : wrap64 (wrap64 ((acc : Int) * 10) + ((c.toNat : Int) - 48)) = ((acc * 10 + (c.toNat - 48) : Nat) : Int) := by
      rw [wrap_ok (x := (acc : Int) * 10) (by omega) (by omega), wrap_ok (by omega) (by omega)]
      omega
    rw [e2]
    exact ih _ (fun x hx => h x (List.mem_cons_of_mem _ hx)) (by omega)
theorem numL_eq (l : List UInt8) (hl : l.length ≤ 8) : numL l 0 = if allD l then (numN l 0 : Int) else -1 := by
  by_cases h : allD l
  · rw [if_pos h]
    refine numL_good l 0 h ?_
    have : 10 ^ l.length ≤ 10 ^ 8 := Nat.pow_le_pow_right (by omega) hl
    omega
  · rw [if_neg h]
    exact numL_bad l 0 h
theorem numN_lt (l : List UInt8) : ∀ acc, allD l → numN l acc < (acc + 1) * 10 ^ l.length := by
  induction l with
  | nil => intro acc _; simp [numN]
  | cons c r ih =>
    intro acc h
    have hc : isD c := h c (List.mem_cons_self ..)
    unfold isD at hc
    have := ih (acc * 10 + (c.toNat - 48)) (fun x hx => h x (List.mem_cons_of_mem _ hx))
    rw [numN, List.length_cons, Nat.pow_succ]
    have h1 : (acc * 10 + (c.toNat - 48) + 1) * 10 ^ r.length ≤ ((acc + 1) * 10) * 10 ^ r.length := Nat.mul_le_mul_right _ (by omega)
    have e : (acc + 1) * (10 ^ r.length * 10) = ((acc + 1) * 10) * 10 ^ r.length := by rw [Nat.mul_comm (10 ^ _) 10, Nat.mul_assoc]
    omega
/-! ### the order of digits' texts is the numbers' -/
theorem numN_acc (l : List UInt8) : ∀ acc, numN l acc = acc * 10 ^ l.length + numN l 0 := by
  induction l with
  | nil => intro acc; simp [numN]
  | cons c r ih =>
    intro acc
    rw [numN, numN, ih, ih (0 * 10 + (c.toNat - 48)), List.length_cons, Nat.pow_succ]
    have : (acc * 10 + (c.toNat - 48)) * 10 ^ r.length = acc * (10 ^ r.length * 10) + (0 * 10 + (c.toNat - 48)) * 10 ^ r.length := by
      rw [Nat.add_mul, Nat.zero_mul, Nat.zero_add, Nat.mul_comm (10 ^ _) 10, Nat.mul_assoc]
    omega
theorem less_num (a : List UInt8) : ∀ b : List UInt8, a.length = b.length → allD a → allD b → Op.bytesLess a b = decide (numN a 0 < numN b 0) ∧ ((a == b) = decide (numN a 0 = numN b 0)) := by
  induction a with
  | nil =>
    intro b hl _ _
    cases b with
    | nil => exact ⟨by simp [Op.bytesLess], by simp⟩
    | cons c r => simp at hl
  | cons c r ih =>
    intro b hl ha hb
    cases b with
    | nil => simp at hl
    | cons d q =>
      have hlr : r.length = q.length := by simpa using hl
      obtain ⟨i1, i2⟩ := ih q hlr (fun x hx => ha x (List.mem_cons_of_mem _ hx)) (fun x hx => hb x (List.mem_cons_of_mem _ hx))
      have hc : isD c := ha c (List.mem_cons_self ..)
      have hd : isD d := hb d (List.mem_cons_self ..)
      unfold isD at hc hd
      have l1 := numN_lt r 0 (fun x hx => ha x (List.mem_cons_of_mem _ hx))
      have l2 := numN_lt q 0 (fun x hx => hb x (List.mem_cons_of_mem _ hx))
      have e1 : numN (c :: r) 0 = (c.toNat - 48) * 10 ^ q.length + numN r 0 := by rw [numN, numN_acc, hlr]; simp
      have e2 : numN (d :: q) 0 = (d.toNat - 48) * 10 ^ q.length + numN q 0 := by rw [numN, numN_acc]; simp
      rw [hlr] at l1
      simp only [Nat.zero_add, Nat.one_mul] at l1 l2
      rw [e1, e2]
      simp only [Op.bytesLess, List.cons_beq_cons]
      rw [i1, i2]
      generalize 10 ^ q.length = p at *
      generalize numN r 0 = x at *
      generalize numN q 0 = y at *
      rcases Nat.lt_trichotomy c.toNat d.toNat with h | h | h
      · have hm : (c.toNat - 48 + 1) * p ≤ (d.toNat - 48) * p := Nat.mul_le_mul_right _ (by omega)
        rw [Nat.add_mul, Nat.one_mul] at hm
        have h1 : c < d := UInt8.lt_iff_toNat_lt.2 h
        have h2 : (c == d) = false := beq_eq_false_iff_ne.2 (fun e => by subst e; omega)
        rw [decide_eq_true h1, h2]
        exact ⟨by simp; omega, by simp; omega⟩
      · obtain rfl : c = d := UInt8.toNat_inj.1 h
        have h1 : ¬ c < c := fun e => by have := UInt8.lt_iff_toNat_lt.1 e; omega
        rw [decide_eq_false h1]
        exact ⟨by simp, by simp⟩
      · have hm : (d.toNat - 48 + 1) * p ≤ (c.toNat - 48) * p := Nat.mul_le_mul_right _ (by omega)
        rw [Nat.add_mul, Nat.one_mul] at hm
        have h1 : ¬ c < d := fun e => by have := UInt8.lt_iff_toNat_lt.1 e; omega
        have h2 : (c == d) = false := beq_eq_false_iff_ne.2 (fun e => by subst e; omega)
        rw [decide_eq_false h1, h2]
        exact ⟨by simp; omega, by simp; omega⟩
theorem less_append (a : List UInt8) : ∀ b x y : List UInt8, a.length = b.length → Op.bytesLess (a ++ x) (b ++ y) = (Op.bytesLess a b || ((a == b) && Op.bytesLess x y)) := by
  induction a with
  | nil =>
    intro b x y hl
    cases b with
    | nil => simp [Op.bytesLess]
    | cons c r => simp at hl
  | cons c r ih =>
    intro b x y hl
    cases b with
    | nil => simp at hl
    | cons d q =>
      have hlr : r.length = q.length := by simpa using hl
      simp only [List.cons_append, Op.bytesLess, List.cons_beq_cons, ih q x y hlr]
      by_cases h : c = d
      · subst h
        have h1 : ¬ c < c := fun e => by have := UInt8.lt_iff_toNat_lt.1 e; omega
        simp [h1]
      · have h2 : (c == d) = false := beq_eq_false_iff_ne.2 h
        simp [h2]

/-! ### days -/
/-- Which day a date is; below 0: there is none. -/
def dayR (y m d : Int) : Int := if goodB y m d = true then d - 1 + sumM y.toNat m.toNat + sumY (y.toNat - 1980) else -1
theorem monthLen_eq (y m : Nat) : monthLen y m = (monthsL y).getD m 0 := rfl
theorem good_iff (y m d : Int) : goodB y m d = true ↔ (1980 ≤ y ∧ y ≤ 2079 ∧ 1 ≤ m ∧ m ≤ 12 ∧ 1 ≤ d ∧ d ≤ monthLen y.toNat m.toNat) := by unfold goodB; exact decide_eq_true_iff
theorem dayR_nonneg (y m d : Int) : 0 ≤ dayR y m d ↔ goodB y m d = true := by
  unfold dayR
  by_cases h : goodB y m d = true
  · rw [if_pos h]
    refine ⟨fun _ => h, fun _ => ?_⟩
    have h' := (good_iff y m d).1 h
    have a := sumM_bd y.toNat m.toNat (by omega)
    have b := sumY_bd (y.toNat - 1980) (by omega)
    omega
  · rw [if_neg h]
    exact ⟨fun e => absurd e (by decide), fun e => absurd e h⟩
theorem sumM_mono (y a b : Nat) (hab : a ≤ b) (hb : b ≤ 13) : sumM y a ≤ sumM y b := by
  induction b with
  | zero => rw [Nat.le_zero.1 hab]; exact Int.le_refl _
  | succ b ih =>
    by_cases h : a = b + 1
    · subst h; exact Int.le_refl _
    · have := ih (by omega) (by omega)
      have s := sumM_succ y b (by omega)
      have l := monthsL_bd y b
      omega
theorem sumM_year (y : Nat) : sumM y 13 = if y % 4 = 0 then 366 else 365 := by
  unfold sumM monthsL
  split <;> rfl
theorem sumY_mono (a b : Nat) (hab : a ≤ b) : sumY a ≤ sumY b := by
  induction b with
  | zero => rw [Nat.le_zero.1 hab]; exact Int.le_refl _
  | succ b ih =>
    by_cases h : a = b + 1
    · subst h; exact Int.le_refl _
    · have := ih (by omega)
      rw [sumY]
      split <;> omega
/-- A later date is a later day. -/
theorem day_lt (y m d y' m' d' : Nat) (h : goodB y m d = true) (h' : goodB y' m' d' = true) (hlt : y < y' ∨ (y = y' ∧ (m < m' ∨ (m = m' ∧ d < d')))) : dayR y m d < dayR y' m' d' := by
  unfold dayR
  rw [if_pos h, if_pos h']
  have g := (good_iff _ _ _).1 h
  have g' := (good_iff _ _ _).1 h'
  simp only [Int.toNat_natCast] at g g' ⊢
  rw [monthLen_eq] at g g'
  have a1 := sumM_succ y m (by omega)
  have a2 := sumM_mono y (m + 1) 13 (by omega) (by omega)
  have a3 := sumM_bd y' m' (by omega)
  rcases hlt with hy | ⟨rfl, hm | ⟨rfl, hd⟩⟩
  · have a4 := sumM_year y
    have a5 : sumY (y - 1980 + 1) = sumY (y - 1980) + (if (1980 + (y - 1980)) % 4 = 0 then 366 else 365) := rfl
    rw [show 1980 + (y - 1980) = y by omega] at a5
    have a6 := sumY_mono (y - 1980 + 1) (y' - 1980) (by omega)
    split at a4 <;> rename_i h4
    · rw [if_pos h4] at a5; omega
    · rw [if_neg h4] at a5; omega
  · have a7 := sumM_mono y (m + 1) m' (by omega) (by omega)
    omega
  · omega
theorem sumY_100 : sumY 100 = 36525 := by decide +kernel
theorem day_le (y m d : Nat) (h : goodB y m d = true) : dayR y m d ≤ 36524 := by
  unfold dayR
  rw [if_pos h]
  have g := (good_iff _ _ _).1 h
  simp only [Int.toNat_natCast] at g ⊢
  rw [monthLen_eq] at g
  have a1 := sumM_succ y m (by omega)
  have a2 := sumM_mono y (m + 1) 13 (by omega) (by omega)
  have a4 := sumM_year y
  have a5 : sumY (y - 1980 + 1) = sumY (y - 1980) + (if (1980 + (y - 1980)) % 4 = 0 then 366 else 365) := rfl
  rw [show 1980 + (y - 1980) = y by omega] at a5
  have a6 := sumY_mono (y - 1980 + 1) 100 (by omega)
  have a7 := sumY_100
  split at a4 <;> rename_i h4
  · rw [if_pos h4] at a5; omega
  · rw [if_neg h4] at a5; omega
end Go.Proofs.YtjemnphmjbodfaaDoor.PAll
