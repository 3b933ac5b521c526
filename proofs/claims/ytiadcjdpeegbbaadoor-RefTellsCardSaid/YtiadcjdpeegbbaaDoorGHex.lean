/- Sixteens: a number's digits, in plain Lean. -/
import Derived.WalkKit
namespace Go.Proofs.YtiadcjdpeegbbaaDoor.GHex
/-- The byte of a digit of sixteen. -/
def hd (n : Nat) : UInt8 := if n < 10 then UInt8.ofNat (48 + n) else UInt8.ofNat (87 + n)
/-- So many digits of a number. -/
def hexW : Nat → Nat → List UInt8
  | 0, _ => []
  | w + 1, n => hexW w (n / 16) ++ [hd (n % 16)]
theorem hexW_length (w : Nat) : ∀ n, (hexW w n).length = w := by
  induction w with
  | zero => intro n; rfl
  | succ w ih => intro n; simp [hexW, ih]
theorem hexW_cons (j : Nat) : ∀ n, hexW (j + 1) n = hd (n / 16 ^ j % 16) :: hexW j n := by
  induction j with
  | zero => intro n; simp [hexW]
  | succ j ih =>
    intro n
    rw [hexW, ih (n / 16), hexW, List.cons_append, Nat.div_div_eq_div_mul, Nat.pow_succ, Nat.mul_comm 16]
/-- How many digits there are, with fuel. -/
def lenF : Nat → Nat → Nat
  | 0, _ => 1
  | f + 1, n => if n < 16 then 1 else lenF f (n / 16) + 1
theorem lenF_bd (f : Nat) : ∀ n, 1 ≤ lenF f n ∧ lenF f n ≤ f + 1 := by
  induction f with
  | zero => intro n; exact ⟨Nat.le_refl _, Nat.le_refl _⟩
  | succ f ih => intro n; have := ih (n / 16); unfold lenF; split <;> omega
theorem lenF_lt (f : Nat) : ∀ n, n < 16 ^ (f + 1) → n < 16 ^ lenF f n := by
  induction f with
  | zero => intro n h; exact h
  | succ f ih =>
    intro n h
    unfold lenF
    split
    · omega
    · have := ih (n / 16) (by rw [Nat.pow_succ] at h; omega)
      rw [Nat.pow_succ]
      omega
/-- How many digits a number of 64 bits has. -/
def lenH (n : Nat) : Nat := lenF 15 n
theorem lenH_bd (n : Nat) : 1 ≤ lenH n ∧ lenH n ≤ 16 := lenF_bd 15 n
theorem lenH_lt (n : Nat) (h : n < 18446744073709551616) : n < 16 ^ lenH n := lenF_lt 15 n (by simpa using h)
/-- A number's digits, no nought ahead. -/
def hexL (n : Nat) : List UInt8 := hexW (lenH n) n
theorem hexL_length (n : Nat) : (hexL n).length = lenH n := hexW_length _ _
theorem hexW_pad (n k : Nat) (h : n < 16 ^ k) : ∀ d, hexW (k + d) n = List.replicate d 48 ++ hexW k n := by
  intro d
  induction d with
  | zero => rfl
  | succ d ih =>
    have h1 : 16 ^ k ≤ 16 ^ (k + d) := Nat.pow_le_pow_right (by omega) (by omega)
    have h2 : n / 16 ^ (k + d) = 0 := Nat.div_eq_of_lt (by omega)
    rw [show k + (d + 1) = k + d + 1 by omega, hexW_cons, h2, ih, List.replicate_succ]
    rfl
theorem hex16 (n : Nat) (h : n < 18446744073709551616) : List.replicate (16 - lenH n) 48 ++ hexL n = hexW 16 n := by
  have b := lenH_bd n
  have := hexW_pad n (lenH n) (lenH_lt n h) (16 - lenH n)
  rw [show lenH n + (16 - lenH n) = 16 by omega] at this
  exact this.symm
theorem hd_toNat (n : Nat) (h : n < 16) : (hd n).toNat = if n < 10 then 48 + n else 87 + n := by
  unfold hd
  split
  · rw [UInt8.toNat_ofNat']; omega
  · rw [UInt8.toNat_ofNat']; omega
end Go.Proofs.YtiadcjdpeegbbaaDoor.GHex
