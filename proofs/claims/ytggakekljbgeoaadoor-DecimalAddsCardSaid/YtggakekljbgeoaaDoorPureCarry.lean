/- Plain law under the document's Add: a digit of a sum and the carry; a digit of a difference and the borrow. -/
import Derived.Test.YtggakekljbgeoaaDoorGAdd
namespace Go.Proofs.YtggakekljbgeoaaDoor.Pure
theorem mod10 (x P : Nat) : x % (P * 10) = x % P + P * (x / P % 10) := Nat.mod_mul
theorem carry_digit (x y P : Nat) (hP : 0 < P) : (x / P % 10 + y / P % 10 + (x % P + y % P) / P) % 10 = (x + y) / P % 10 := by
  have h : (x + y) / P = x / P + y / P + (x % P + y % P) / P := by
    have h1 := Nat.div_add_mod x P
    have h2 := Nat.div_add_mod y P
    rw [show x + y = (x % P + y % P) + P * (x / P + y / P) by rw [Nat.mul_add]; omega, Nat.add_mul_div_left _ _ hP, Nat.add_comm]
  rw [h]
  omega
theorem carry_next (x y P : Nat) (hP : 0 < P) : (x / P % 10 + y / P % 10 + (x % P + y % P) / P) / 10 = (x % (P * 10) + y % (P * 10)) / (P * 10) := by
  rw [mod10, mod10, ← Nat.div_div_eq_div_mul, show x % P + P * (x / P % 10) + (y % P + P * (y / P % 10)) = (x % P + y % P) + P * (x / P % 10 + y / P % 10) by rw [Nat.mul_add]; omega, Nat.add_mul_div_left _ _ hP, Nat.add_comm]
/-- The borrow behind the digits below P. -/
def bor (x y P : Nat) : Nat := if x % P < y % P then 1 else 0
theorem bor_digit (x y P : Nat) (hP : 0 < P) (h : y ≤ x) : (x / P % 10 + 10 - y / P % 10 - bor x y P) % 10 = (x - y) / P % 10 := by
  have h1 := Nat.div_add_mod x P
  have h2 := Nat.div_add_mod y P
  have h3 := Nat.mod_lt x hP
  have h4 := Nat.mod_lt y hP
  unfold bor
  by_cases c : x % P < y % P
  · rw [if_pos c]
    have hlt : y / P < x / P := by
      rcases Nat.lt_or_ge (y / P) (x / P) with h5 | h5
      · exact h5
      · have := Nat.mul_le_mul_left P h5
        omega
    have e : (x - y) / P = x / P - y / P - 1 := by
      have h6 : P * (x / P) = P * (x / P - y / P - 1) + P * (y / P) + P := by
        rw [← Nat.mul_add, ← Nat.mul_succ]
        congr 1
        omega
      rw [show x - y = (P + x % P - y % P) + P * (x / P - y / P - 1) by omega, Nat.add_mul_div_left _ _ hP, Nat.div_eq_of_lt (by omega), Nat.zero_add]
    rw [e]
    omega
  · rw [if_neg c]
    have hle : y / P ≤ x / P := Nat.div_le_div_right h
    have e : (x - y) / P = x / P - y / P := by
      have h6 : P * (x / P) = P * (x / P - y / P) + P * (y / P) := by
        rw [← Nat.mul_add]
        congr 1
        omega
      rw [show x - y = (x % P - y % P) + P * (x / P - y / P) by omega, Nat.add_mul_div_left _ _ hP, Nat.div_eq_of_lt (by omega), Nat.zero_add]
    rw [e]
    omega
theorem bor_next (x y P : Nat) (hP : 0 < P) : bor x y (P * 10) = if x / P % 10 < y / P % 10 + bor x y P then 1 else 0 := by
  have h3 := Nat.mod_lt x hP
  have h4 := Nat.mod_lt y hP
  unfold bor
  rw [mod10, mod10]
  generalize x / P % 10 = u
  generalize y / P % 10 = v
  rcases Nat.lt_trichotomy u v with h | h | h
  · have := Nat.mul_le_mul_left P (show u + 1 ≤ v from h)
    rw [Nat.mul_add, Nat.mul_one] at this
    rw [if_pos (show x % P + P * u < y % P + P * v by omega), if_pos (by split <;> omega)]
  · subst h
    by_cases c : x % P < y % P
    · rw [if_pos c, if_pos (by omega), if_pos (by omega)]
    · rw [if_neg c, if_neg (by omega), if_neg (by omega)]
  · have := Nat.mul_le_mul_left P (show v + 1 ≤ u from h)
    rw [Nat.mul_add, Nat.mul_one] at this
    rw [if_neg (show ¬ x % P + P * u < y % P + P * v by omega), if_neg (by split <;> omega)]
end Go.Proofs.YtggakekljbgeoaaDoor.Pure
