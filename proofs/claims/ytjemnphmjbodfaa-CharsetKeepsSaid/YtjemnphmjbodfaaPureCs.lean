/- What the printed functions of charset's reference answer, as lists of bytes. -/
import Derived.Test.YtjemnphmjbodfaaPAllx5
import Derived.Test.YtjemnphmjbodfaaGPlain
import Derived.Test.YtjemnphmjbodfaaGFoldP
namespace Go.Proofs.Ytjemnphmjbodfaa.PAll
open Go.RowKit Go.Proofs.YtjemnphmjbodfaaW.PrintWords GPlain
set_option linter.unusedSimpArgs false

theorem wakes5_ok : remitterlaw05_wakes.f = some true := by kernel_rfl

theorem and192 : ∀ n : Nat, n < 256 → decide (bits .and .u8 (n : Int) 192 = 128) = decide (n / 64 = 2) := by decide +kernel
theorem and63 : ∀ n : Nat, n < 256 → bits .and .u8 (n : Int) 63 = ((n % 64 : Nat) : Int) := by decide +kernel
theorem and7 : ∀ n : Nat, n < 256 → bits .and .u8 (n : Int) 7 = ((n % 8 : Nat) : Int) := by decide +kernel
theorem and15 : ∀ n : Nat, n < 256 → bits .and .u8 (n : Int) 15 = ((n % 16 : Nat) : Int) := by decide +kernel
theorem and31 : ∀ n : Nat, n < 256 → bits .and .u8 (n : Int) 31 = ((n % 32 : Nat) : Int) := by decide +kernel
theorem or64 (a b : Nat) (ha : a < 1048576) (hb : b < 64) : bits .or .i32 ((a * 64 : Nat) : Int) (b : Int) = ((a * 64 + b : Nat) : Int) := by
  have h : (BitVec.ofInt IntKind.i32.bits ((a * 64 : Nat) : Int) ||| BitVec.ofInt IntKind.i32.bits (b : Int)).toNat = a * 64 + b := by
    show (BitVec.ofInt 32 ((a * 64 : Nat) : Int) ||| BitVec.ofInt 32 (b : Int)).toNat = a * 64 + b
    rw [BitVec.toNat_or, BitVec.ofInt_natCast, BitVec.ofInt_natCast, BitVec.toNat_ofNat, BitVec.toNat_ofNat, Nat.mod_eq_of_lt (by omega), Nat.mod_eq_of_lt (by omega), Nat.mul_comm a 64]
    exact (Nat.two_pow_add_eq_or_of_lt (i := 6) hb a).symm
  unfold bits
  dsimp only
  rw [h]
  unfold IntKind.wrap
  have e1 : (2 ^ IntKind.i32.bits : Int) = 4294967296 := by decide
  have e2 : (2 ^ (IntKind.i32.bits - 1) : Int) = 2147483648 := by decide
  rw [e1, e2]
  have e3 : ((a * 64 + b : Nat) : Int) % 4294967296 = ((a * 64 + b : Nat) : Int) := by omega
  rw [e3]
  have e4 : (IntKind.i32.signed && decide (((a * 64 + b : Nat) : Int) ≥ 2147483648)) = false := by
    have : ¬ ((a * 64 + b : Nat) : Int) ≥ 2147483648 := by omega
    simp only [this, decide_false, Bool.and_false]
  dsimp only
  rw [e4]
  rfl
theorem wrap32_ok {x : Int} (h0 : -2147483648 ≤ x) (h1 : x ≤ 2147483647) : wrap32 x = x := by
  unfold wrap32
  omega

/-- The first rune of a list of bytes, and how many bytes it has. -/
def decL (d : List UInt8) : Nat × Nat :=
  let b0 := (d.getD 0 0).toNat
  if b0 < 0x80 then (b0, 1)
  else if b0 / 32 == 6 && (decide (1 < d.length) && (d.getD 1 0).toNat / 64 == 2) then
    (if (b0 % 32) * 64 + (d.getD 1 0).toNat % 64 ≥ 0x80 then ((b0 % 32) * 64 + (d.getD 1 0).toNat % 64, 2) else (65533, 1))
  else if b0 / 16 == 14 && (decide (1 < d.length) && (d.getD 1 0).toNat / 64 == 2) && (decide (2 < d.length) && (d.getD 2 0).toNat / 64 == 2) then
    (if (b0 % 16) * 4096 + ((d.getD 1 0).toNat % 64) * 64 + (d.getD 2 0).toNat % 64 ≥ 0x800 && Utf8.valid ((b0 % 16) * 4096 + ((d.getD 1 0).toNat % 64) * 64 + (d.getD 2 0).toNat % 64 : Nat) then ((b0 % 16) * 4096 + ((d.getD 1 0).toNat % 64) * 64 + (d.getD 2 0).toNat % 64, 3) else (65533, 1))
  else if b0 / 8 == 30 && (decide (1 < d.length) && (d.getD 1 0).toNat / 64 == 2) && (decide (2 < d.length) && (d.getD 2 0).toNat / 64 == 2) && (decide (3 < d.length) && (d.getD 3 0).toNat / 64 == 2) then
    (if (b0 % 8) * 262144 + ((d.getD 1 0).toNat % 64) * 4096 + ((d.getD 2 0).toNat % 64) * 64 + (d.getD 3 0).toNat % 64 ≥ 0x10000 && Utf8.valid ((b0 % 8) * 262144 + ((d.getD 1 0).toNat % 64) * 4096 + ((d.getD 2 0).toNat % 64) * 64 + (d.getD 3 0).toNat % 64 : Nat) then ((b0 % 8) * 262144 + ((d.getD 1 0).toNat % 64) * 4096 + ((d.getD 2 0).toNat % 64) * 64 + (d.getD 3 0).toNat % 64, 4) else (65533, 1))
  else (65533, 1)
theorem get_drop (l : List UInt8) (i k : Nat) : ((bs l).get! (i + k)) = (l.drop i).getD k 0 := by
  rw [List.getD_eq_getElem?_getD, List.getElem?_drop]
  show l.toArray[i + k]! = _
  by_cases h : i + k < l.length
  · rw [List.getElem?_eq_getElem h]
    simp [h]
  · rw [List.getElem?_eq_none (by omega)]
    simp [h]
    rfl
theorem decode_list (l : List UInt8) (i : Nat) : Utf8.decode (bs l) i = decL (l.drop i) := by
  have hc : ∀ k, decide (i + k < l.length) = decide (k < (l.drop i).length) := fun k => by
    rw [List.length_drop]
    exact decide_eq_decide.2 (by omega)
  unfold Utf8.decode decL
  simp only [get_drop, bs_size, hc, Utf8.runeError]

theorem byte_lt (c : UInt8) : c.toNat < 256 := c.toNat_lt
theorem size_end (d : List UInt8) (n : Nat) (low v : Int) (k : Nat) : remitterref05_size.l0 (k + 1) (bs d) n low v n = some (if v < low ∨ v > 1114111 ∨ (v ≥ 55296 ∧ v ≤ 57343) then 1 else (n : Int)) := by
  rw [remitterref05_size.l0]
  rw [if_neg (Int.lt_irrefl _)]
  by_cases h1 : v < low
  · rw [if_pos h1, if_pos (.inl h1)]
  · rw [if_neg h1]
    by_cases h2 : v > 1114111
    · rw [if_pos h2, if_pos (.inr (.inl h2))]
    · rw [if_neg h2]
      by_cases h3 : v ≥ 55296
      · rw [if_pos h3]
        by_cases h4 : v ≤ 57343
        · rw [if_pos h4, if_pos (.inr (.inr ⟨h3, h4⟩))]
        · rw [if_neg h4, if_neg (by omega)]
      · rw [if_neg h3, if_neg (by omega)]
theorem size_step (d : List UInt8) (n j k v : Nat) (low : Int) (hj : j < n) (hn : n ≤ d.length) (hn4 : n ≤ 4) (hv : v < 1048576) :
    remitterref05_size.l0 (k + 1) (bs d) n low v j = if (d.getD j 0).toNat / 64 = 2 then remitterref05_size.l0 k (bs d) n low ((v * 64 + (d.getD j 0).toNat % 64 : Nat) : Int) ((j + 1 : Nat) : Int) else some 1 := by
  rw [remitterref05_size.l0, bs_size, if_pos (by omega), if_pos (by omega), if_pos (by omega), bt_nat]
  have hb := byte_lt (d.getD j 0)
  have h1 := and192 _ hb
  rw [decide_eq_decide] at h1
  rw [and63 _ hb, wrap32_ok (by omega) (by omega), wrap32_ok (x := ((_ : Nat) : Int)) (by omega) (by omega), wrap_ok (by omega) (by omega)]
  have h2 := or64 v ((d.getD j 0).toNat % 64) hv (by omega)
  rw [show (v : Int) * 64 = ((v * 64 : Nat) : Int) by omega, h2]
  by_cases h : (d.getD j 0).toNat / 64 = 2
  · rw [if_pos h, if_pos (h1.2 h)]
    rfl
  · rw [if_neg h, if_neg (fun e => h (h1.1 e))]

theorem valid_iff (c : Nat) : Utf8.valid (c : Int) = true ↔ c < 55296 ∨ (57344 ≤ c ∧ c ≤ 1114111) := by
  unfold Utf8.valid
  simp only [Bool.or_eq_true, Bool.and_eq_true, decide_eq_true_eq]
  omega
theorem size_4 (d : List UInt8) (_hd : d ≠ []) (h0 : 240 ≤ (d.getD 0 0).toNat) (h1 : (d.getD 0 0).toNat ≤ 244) (k : Nat) : remitterref05_size.j2 (k + 6) (bs d) 4 65536 (((d.getD 0 0).toNat % 8 : Nat) : Int) = some ((decL d).2 : Int) := by
  have e1 : ((d.getD 0 0).toNat / 32 == 6) = false := beq_eq_false_iff_ne.2 (by omega)
  have e2 : ((d.getD 0 0).toNat / 16 == 14) = false := beq_eq_false_iff_ne.2 (by omega)
  have e3 : ((d.getD 0 0).toNat / 8 == 30) = true := beq_iff_eq.2 (by omega)
  rw [remitterref05_size.j2, bs_size]
  unfold decL
  dsimp only
  rw [if_neg (show ¬ (d.getD 0 0).toNat < 128 by omega)]
  simp only [e1, e2, e3, Bool.false_and, Bool.true_and, Bool.false_eq_true, if_false]
  by_cases hl : d.length < 4
  · rw [if_pos (by omega)]
    have : decide (3 < d.length) = false := decide_eq_false (by omega)
    simp only [this, Bool.false_and, Bool.and_false, Bool.false_eq_true, if_false]
    rfl
  · rw [if_neg (by omega)]
    have a1 : decide (1 < d.length) = true := decide_eq_true (by omega)
    have a2 : decide (2 < d.length) = true := decide_eq_true (by omega)
    have a3 : decide (3 < d.length) = true := decide_eq_true (by omega)
    simp only [a1, a2, a3, Bool.true_and]
    have s1 := size_step d 4 1 (k + 4) ((d.getD 0 0).toNat % 8) 65536 (by omega) (by omega) (by omega) (by omega)
    have s2 := size_step d 4 2 (k + 3) ((d.getD 0 0).toNat % 8 * 64 + (d.getD 1 0).toNat % 64) 65536 (by omega) (by omega) (by omega) (by omega)
    have s3 := size_step d 4 3 (k + 2) (((d.getD 0 0).toNat % 8 * 64 + (d.getD 1 0).toNat % 64) * 64 + (d.getD 2 0).toNat % 64) 65536 (by omega) (by omega) (by omega) (by omega)
    have s4 := size_end d 4 65536 (((((d.getD 0 0).toNat % 8 * 64 + (d.getD 1 0).toNat % 64) * 64 + (d.getD 2 0).toNat % 64) * 64 + (d.getD 3 0).toNat % 64 : Nat) : Int) (k + 1)
    refine s1.trans ?_
    by_cases h1 : (d.getD 1 0).toNat / 64 = 2
    · rw [if_pos h1]
      refine s2.trans ?_
      by_cases h2 : (d.getD 2 0).toNat / 64 = 2
      · rw [if_pos h2]
        refine s3.trans ?_
        by_cases h3 : (d.getD 3 0).toNat / 64 = 2
        · rw [if_pos h3]
          refine s4.trans ?_
          simp only [h1, h2, h3, beq_self_eq_true, Bool.and_self, if_true]
          by_cases hv : (decide ((d.getD 0 0).toNat % 8 * 262144 + (d.getD 1 0).toNat % 64 * 4096 + (d.getD 2 0).toNat % 64 * 64 + (d.getD 3 0).toNat % 64 ≥ 65536) && Utf8.valid ((((d.getD 0 0).toNat % 8 * 262144 + (d.getD 1 0).toNat % 64 * 4096 + (d.getD 2 0).toNat % 64 * 64 + (d.getD 3 0).toNat % 64 : Nat) : Nat) : Int)) = true
          · rw [if_pos hv]
            rw [Bool.and_eq_true, decide_eq_true_eq, valid_iff] at hv
            rw [if_neg (by omega)]
          · rw [if_neg hv]
            rw [Bool.and_eq_true, decide_eq_true_eq, valid_iff] at hv
            rw [if_pos (by omega)]
            rfl
        · rw [if_neg h3]
          have : ((d.getD 3 0).toNat / 64 == 2) = false := beq_eq_false_iff_ne.2 h3
          simp only [this, Bool.and_false, Bool.false_eq_true, if_false]
          rfl
      · rw [if_neg h2]
        have : ((d.getD 2 0).toNat / 64 == 2) = false := beq_eq_false_iff_ne.2 h2
        simp only [this, Bool.and_false, Bool.false_and, Bool.false_eq_true, if_false]
        rfl
    · rw [if_neg h1]
      have : ((d.getD 1 0).toNat / 64 == 2) = false := beq_eq_false_iff_ne.2 h1
      simp only [this, Bool.false_and, Bool.false_eq_true, if_false]
      rfl
theorem size_3 (d : List UInt8) (_hd : d ≠ []) (h0 : 224 ≤ (d.getD 0 0).toNat) (h1 : (d.getD 0 0).toNat ≤ 239) (k : Nat) : remitterref05_size.j2 (k + 6) (bs d) 3 2048 (((d.getD 0 0).toNat % 16 : Nat) : Int) = some ((decL d).2 : Int) := by
  have e1 : ((d.getD 0 0).toNat / 32 == 6) = false := beq_eq_false_iff_ne.2 (by omega)
  have e2 : ((d.getD 0 0).toNat / 16 == 14) = true := beq_iff_eq.2 (by omega)
  have e3 : ((d.getD 0 0).toNat / 8 == 30) = false := beq_eq_false_iff_ne.2 (by omega)
  rw [remitterref05_size.j2, bs_size]
  unfold decL
  dsimp only
  rw [if_neg (show ¬ (d.getD 0 0).toNat < 128 by omega)]
  simp only [e1, e2, e3, Bool.false_and, Bool.true_and, Bool.false_eq_true, if_false]
  by_cases hl : d.length < 3
  · rw [if_pos (by omega)]
    have : decide (2 < d.length) = false := decide_eq_false (by omega)
    simp only [this, Bool.false_and, Bool.and_false, Bool.false_eq_true, if_false]
    rfl
  · rw [if_neg (by omega)]
    have a1 : decide (1 < d.length) = true := decide_eq_true (by omega)
    have a2 : decide (2 < d.length) = true := decide_eq_true (by omega)
    simp only [a1, a2, Bool.true_and]
    have s1 := size_step d 3 1 (k + 4) ((d.getD 0 0).toNat % 16) 2048 (by omega) (by omega) (by omega) (by omega)
    have s2 := size_step d 3 2 (k + 3) ((d.getD 0 0).toNat % 16 * 64 + (d.getD 1 0).toNat % 64) 2048 (by omega) (by omega) (by omega) (by omega)
    have s4 := size_end d 3 2048 ((((d.getD 0 0).toNat % 16 * 64 + (d.getD 1 0).toNat % 64) * 64 + (d.getD 2 0).toNat % 64 : Nat) : Int) (k + 2)
    refine s1.trans ?_
    by_cases h1 : (d.getD 1 0).toNat / 64 = 2
    · rw [if_pos h1]
      refine s2.trans ?_
      by_cases h2 : (d.getD 2 0).toNat / 64 = 2
      · rw [if_pos h2]
        refine s4.trans ?_
        simp only [h1, h2, beq_self_eq_true, Bool.and_self, if_true]
        by_cases hv : (decide ((d.getD 0 0).toNat % 16 * 4096 + (d.getD 1 0).toNat % 64 * 64 + (d.getD 2 0).toNat % 64 ≥ 2048) && Utf8.valid ((((d.getD 0 0).toNat % 16 * 4096 + (d.getD 1 0).toNat % 64 * 64 + (d.getD 2 0).toNat % 64 : Nat) : Nat) : Int)) = true
        · rw [if_pos hv]
          rw [Bool.and_eq_true, decide_eq_true_eq, valid_iff] at hv
          rw [if_neg (by omega)]
        · rw [if_neg hv]
          rw [Bool.and_eq_true, decide_eq_true_eq, valid_iff] at hv
          rw [if_pos (by omega)]
          rfl
      · rw [if_neg h2]
        have : ((d.getD 2 0).toNat / 64 == 2) = false := beq_eq_false_iff_ne.2 h2
        simp only [this, Bool.and_false, Bool.false_and, Bool.false_eq_true, if_false]
        rfl
    · rw [if_neg h1]
      have : ((d.getD 1 0).toNat / 64 == 2) = false := beq_eq_false_iff_ne.2 h1
      simp only [this, Bool.false_and, Bool.false_eq_true, if_false]
      rfl
theorem size_2 (d : List UInt8) (_hd : d ≠ []) (h0 : 194 ≤ (d.getD 0 0).toNat) (h1 : (d.getD 0 0).toNat ≤ 223) (k : Nat) : remitterref05_size.j2 (k + 6) (bs d) 2 128 (((d.getD 0 0).toNat % 32 : Nat) : Int) = some ((decL d).2 : Int) := by
  have e1 : ((d.getD 0 0).toNat / 32 == 6) = true := beq_iff_eq.2 (by omega)
  have e2 : ((d.getD 0 0).toNat / 16 == 14) = false := beq_eq_false_iff_ne.2 (by omega)
  have e3 : ((d.getD 0 0).toNat / 8 == 30) = false := beq_eq_false_iff_ne.2 (by omega)
  rw [remitterref05_size.j2, bs_size]
  unfold decL
  dsimp only
  rw [if_neg (show ¬ (d.getD 0 0).toNat < 128 by omega)]
  simp only [e1, e2, e3, Bool.false_and, Bool.true_and, Bool.false_eq_true, if_false]
  by_cases hl : d.length < 2
  · rw [if_pos (by omega)]
    have : decide (1 < d.length) = false := decide_eq_false (by omega)
    simp only [this, Bool.false_and, Bool.and_false, Bool.false_eq_true, if_false]
    rfl
  · rw [if_neg (by omega)]
    have a1 : decide (1 < d.length) = true := decide_eq_true (by omega)
    simp only [a1, Bool.true_and]
    have s1 := size_step d 2 1 (k + 4) ((d.getD 0 0).toNat % 32) 128 (by omega) (by omega) (by omega) (by omega)
    have s4 := size_end d 2 128 (((d.getD 0 0).toNat % 32 * 64 + (d.getD 1 0).toNat % 64 : Nat) : Int) (k + 3)
    refine s1.trans ?_
    by_cases h1 : (d.getD 1 0).toNat / 64 = 2
    · rw [if_pos h1]
      refine s4.trans ?_
      simp only [h1, beq_self_eq_true, if_true]
      rw [if_neg (by omega), if_pos (by omega)]
    · rw [if_neg h1]
      have : ((d.getD 1 0).toNat / 64 == 2) = false := beq_eq_false_iff_ne.2 h1
      simp only [this, Bool.false_eq_true, if_false]
      rfl
theorem dec_one (d : List UInt8) (h : (d.getD 0 0).toNat < 194 ∨ 245 ≤ (d.getD 0 0).toNat) : (decL d).2 = 1 := by
  have hb := byte_lt (d.getD 0 0)
  unfold decL
  dsimp only
  by_cases h1 : (d.getD 0 0).toNat < 128
  · rw [if_pos h1]
  · rw [if_neg h1]
    repeat' split
    all_goals first | rfl | (exfalso; simp only [Bool.and_eq_true, beq_iff_eq, decide_eq_true_eq, valid_iff] at *; omega)
theorem size_f (d : List UInt8) (hd : d ≠ []) (k : Nat) : remitterref05_size.f (k + 8) (bs d) = some ((decL d).2 : Int) := by
  have hpos : 0 < d.length := List.length_pos_iff.2 hd
  have hb := byte_lt (d.getD 0 0)
  have hbt : bt (bs d) 0 = ((d.getD 0 0).toNat : Int) := bt_nat d 0
  unfold remitterref05_size.f
  rw [bs_size, if_pos (by omega), hbt]
  have w : ∀ n : Nat, n < 256 → wrap32 (n : Int) = (n : Int) := fun n hn => wrap32_ok (by omega) (by omega)
  have hj1 : ∀ b, (d.getD 0 0).toNat < 224 ∨ 245 ≤ (d.getD 0 0).toNat → b = false → remitterref05_size.j1 (k + 7) (bs d) ((d.getD 0 0).toNat : Int) b = some ((decL d).2 : Int) := by
    rintro b hr rfl
    rw [remitterref05_size.j1, if_neg (by decide)]
    by_cases c1 : (d.getD 0 0).toNat ≥ 194
    · rw [if_pos (by omega)]
      by_cases c2 : (d.getD 0 0).toNat ≤ 223
      · rw [if_pos (by omega), and31 _ hb, w _ (by omega)]
        exact size_2 d hd c1 c2 k
      · rw [if_neg (by omega)]
        rw [dec_one d (.inr (by omega))]
        rfl
    · rw [if_neg (by omega), dec_one d (.inl (by omega))]
      rfl
  by_cases h1 : (d.getD 0 0).toNat ≥ 240
  · rw [if_pos (by omega)]
    by_cases h2 : (d.getD 0 0).toNat ≤ 244
    · rw [decide_eq_true (by omega), remitterref05_size.j0, if_pos rfl, and7 _ hb, w _ (by omega)]
      exact size_4 d hd h1 h2 (k + 1)
    · rw [decide_eq_false (by omega), remitterref05_size.j0, if_neg (by decide), if_pos (by omega), decide_eq_false (by omega)]
      exact hj1 _ (.inr (by omega)) rfl
  · rw [if_neg (by omega), remitterref05_size.j0, if_neg (by decide)]
    by_cases h3 : (d.getD 0 0).toNat ≥ 224
    · rw [if_pos (by omega), decide_eq_true (by omega), remitterref05_size.j1, if_pos rfl, and15 _ hb, w _ (by omega)]
      exact size_3 d hd h3 (by omega) k
    · rw [if_neg (by omega)]
      exact hj1 _ (.inl (by omega)) rfl
end Go.Proofs.Ytjemnphmjbodfaa.PAll
