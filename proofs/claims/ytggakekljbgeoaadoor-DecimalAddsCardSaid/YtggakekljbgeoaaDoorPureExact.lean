/- Plain law: sums of decimal numbers are exact. -/
import Derived.Test.YtggakekljbgeoaaDoorGAdd
import Derived.Test.YtggakekljbgeoaaDoorGCmpN
namespace Go.Proofs.YtggakekljbgeoaaDoor.Pure
open Go.RowKit Go.Proofs.YtggakekljbgeoaaDoor.PAll GPlain
set_option linter.unusedSimpArgs false

/-- A number's value in units of a scale. -/
def atS (n : Bool) (c s m : Nat) : Int := sgn n (c * 10 ^ (m - s))
theorem sgn_mul (n : Bool) (x y : Nat) : sgn n (x * y) = sgn n x * (y : Int) := by
  unfold sgn
  cases n
  · simp
  · simp [Int.neg_mul]
theorem atS_up (n : Bool) (c s m m2 : Nat) (h1 : s ≤ m) (h2 : m ≤ m2) : atS n c s m * ((10 ^ (m2 - m) : Nat) : Int) = atS n c s m2 := by
  unfold atS
  rw [← sgn_mul, Nat.mul_assoc, ← Nat.pow_add, show m - s + (m2 - m) = m2 - s by omega]
theorem atS_of (v : Int) (m m2 : Nat) : atS (decide (v < 0)) v.natAbs m m2 = v * ((10 ^ (m2 - m) : Nat) : Int) := by
  unfold atS
  rw [sgn_mul]
  congr 1
  unfold sgn
  by_cases h : v < 0
  · rw [decide_eq_true h, if_pos rfl]; omega
  · rw [decide_eq_false h, if_neg (by decide)]; omega
theorem goodN_of_val (v : Int) (m : Nat) (h : v.natAbs < 1000000000000000000) (hm : m ≤ 5) : GoodN (decide (v < 0)) v.natAbs m :=
  ⟨h, hm, fun h2 => by have := of_decide_eq_true h2; omega⟩
/-- The sum in units of the greater scale. -/
def sumV (na : Bool) (ca sa : Nat) (nb : Bool) (cb sb : Nat) : Int := atS na ca sa (max sa sb) + atS nb cb sb (max sa sb)
theorem add_good {na nb : Bool} {ca sa cb sb : Nat} (ha : GoodN na ca sa) (hb : GoodN nb cb sb) :
    decimal_Add.f na ca sa nb cb sb = some (if (sumV na ca sa nb cb sb).natAbs < 1000000000000000000 then (decide (sumV na ca sa nb cb sb < 0), ((sumV na ca sa nb cb sb).natAbs : Int), ((max sa sb : Nat) : Int), 0) else (false, 0, 0, 11)) := by
  unfold decimal_Add.f
  rw [goodB_of ha, goodB_of hb]
  rfl
theorem sumV_comm (na : Bool) (ca sa : Nat) (nb : Bool) (cb sb : Nat) : sumV na ca sa nb cb sb = sumV nb cb sb na ca sa := by
  unfold sumV
  rw [Nat.max_comm, Int.add_comm]
theorem add_comm_f {na nb : Bool} {ca sa cb sb : Nat} (ha : GoodN na ca sa) (hb : GoodN nb cb sb) : decimal_Add.f na ca sa nb cb sb = decimal_Add.f nb cb sb na ca sa := by
  rw [add_good ha hb, add_good hb ha, sumV_comm, Nat.max_comm]
/-- The other sign. -/
def negB (n : Bool) (c : Nat) : Bool := if n = true then false else decide (c ≠ 0)
theorem neg_good {n : Bool} {c s : Nat} (h : GoodN n c s) : GoodN (negB n c) c s := by
  obtain ⟨h1, h2, h3⟩ := h
  refine ⟨h1, h2, fun h => ?_⟩
  unfold negB at h
  cases n
  · rw [if_neg (by decide)] at h
    have := of_decide_eq_true h
    omega
  · cases h
theorem neg_at (n : Bool) (c s m : Nat) : atS (negB n c) c s m = -atS n c s m := by
  unfold atS negB
  rw [sgn_mul, sgn_mul]
  cases n
  · by_cases h : c = 0
    · subst h; simp [sgn]
    · rw [if_neg (by decide), decide_eq_true h]
      simp [sgn, Int.neg_mul]
  · simp [sgn, Int.neg_mul]
theorem add_self {n : Bool} {c s : Nat} (h : GoodN n c s) : decimal_Add.f n c s (negB n c) c s = some (false, 0, (s : Int), 0) := by
  have e : sumV n c s (negB n c) c s = 0 := by unfold sumV; rw [neg_at]; omega
  rw [add_good h (neg_good h), e, Nat.max_self]
  rfl
/-- A number's worth. -/
def worthN (n : Bool) (c s : Nat) : Int := atS n c s 5
theorem cmp_good_f {na nb : Bool} {ca sa cb sb : Nat} (ha : GoodN na ca sa) (hb : GoodN nb cb sb) : decimal_Cmp.f na ca sa nb cb sb = some (cmpI (worthN na ca sa) (worthN nb cb sb)) := by
  unfold decimal_Cmp.f
  rw [goodB_of ha, goodB_of hb]
  rfl
theorem cmpI_flip (x y : Int) : cmpI x y = -cmpI y x := by unfold cmpI; split <;> split <;> (try split) <;> (try split) <;> omega
theorem cmpI_bd (x y : Int) : -1 ≤ cmpI x y ∧ cmpI x y ≤ 1 := by unfold cmpI; split <;> (try split) <;> omega
theorem cmpI_refl (x : Int) : cmpI x x = 0 := by unfold cmpI; rw [if_neg (by omega), if_neg (by omega)]
theorem cmpI_add (x y z : Int) : cmpI (x + z) (y + z) = cmpI x y := by
  unfold cmpI
  by_cases h1 : x < y
  · rw [if_pos h1, if_pos (by omega)]
  · rw [if_neg h1, if_neg (by omega)]
    by_cases h2 : y < x
    · rw [if_pos h2, if_pos (by omega)]
    · rw [if_neg h2, if_neg (by omega)]
/-- The worth of a sum. -/
theorem worth_sum {na nb : Bool} {ca sa cb sb : Nat} (ha : sa ≤ 5) (hb : sb ≤ 5) :
    worthN (decide (sumV na ca sa nb cb sb < 0)) (sumV na ca sa nb cb sb).natAbs (max sa sb) = worthN na ca sa + worthN nb cb sb := by
  unfold worthN
  rw [atS_of]
  unfold sumV
  rw [Int.add_mul, atS_up _ _ _ _ _ (by omega) (by omega), atS_up _ _ _ _ _ (by omega) (by omega)]
/-- What is added and taken away leaves the worth. -/
theorem back_worth {na nb : Bool} {ca sa cb sb : Nat} (ha : GoodN na ca sa) (hb : GoodN nb cb sb) :
    worthN (decide (sumV (decide (sumV na ca sa nb cb sb < 0)) (sumV na ca sa nb cb sb).natAbs (max sa sb) (negB nb cb) cb sb < 0)) (sumV (decide (sumV na ca sa nb cb sb < 0)) (sumV na ca sa nb cb sb).natAbs (max sa sb) (negB nb cb) cb sb).natAbs (max (max sa sb) sb) = worthN na ca sa := by
  have h1 := ha.2.1
  have h2 := hb.2.1
  rw [worth_sum (by omega) h2, worth_sum h1 h2]
  unfold worthN
  rw [neg_at]
  omega
/-- Sums of three hang on no order. -/
theorem sum3 {na nb nc : Bool} {ca sa cb sb cc sc : Nat} :
    sumV (decide (sumV na ca sa nb cb sb < 0)) (sumV na ca sa nb cb sb).natAbs (max sa sb) nc cc sc = sumV na ca sa (decide (sumV nb cb sb nc cc sc < 0)) (sumV nb cb sb nc cc sc).natAbs (max sb sc) := by
  have e1 : sumV (decide (sumV na ca sa nb cb sb < 0)) (sumV na ca sa nb cb sb).natAbs (max sa sb) nc cc sc = atS na ca sa (max (max sa sb) sc) + atS nb cb sb (max (max sa sb) sc) + atS nc cc sc (max (max sa sb) sc) := by
    rw [sumV, atS_of]
    congr 1
    unfold sumV
    rw [Int.add_mul, atS_up _ _ _ _ _ (by omega) (by omega), atS_up _ _ _ _ _ (by omega) (by omega)]
  have e2 : sumV na ca sa (decide (sumV nb cb sb nc cc sc < 0)) (sumV nb cb sb nc cc sc).natAbs (max sb sc) = atS na ca sa (max sa (max sb sc)) + (atS nb cb sb (max sa (max sb sc)) + atS nc cc sc (max sa (max sb sc))) := by
    rw [sumV, atS_of]
    congr 1
    unfold sumV
    rw [Int.add_mul, atS_up _ _ _ _ _ (by omega) (by omega), atS_up _ _ _ _ _ (by omega) (by omega)]
  rw [e1, e2, show max (max sa sb) sc = max sa (max sb sc) by omega, Int.add_assoc]
end Go.Proofs.YtggakekljbgeoaaDoor.Pure
