/- RefMakes, in plain Lean. -/
import Derived.Test.YtiadcjdpeegbbaaDoorPureRef
namespace Go.Proofs.YtiadcjdpeegbbaaDoor.PAll
open Go.RowKit Go.Proofs.YtiadcjdpeegbbaaDoorW.PrintWords GPlain GHex
set_option linter.unusedSimpArgs false
/-! ### UETRs of numbers -/
/-- Sixteen digits. -/
theorem hex_list (n : Nat) : hexW 16 n = [hd (n / 16 ^ 15 % 16), hd (n / 16 ^ 14 % 16), hd (n / 16 ^ 13 % 16), hd (n / 16 ^ 12 % 16), hd (n / 16 ^ 11 % 16), hd (n / 16 ^ 10 % 16), hd (n / 16 ^ 9 % 16), hd (n / 16 ^ 8 % 16), hd (n / 16 ^ 7 % 16), hd (n / 16 ^ 6 % 16), hd (n / 16 ^ 5 % 16), hd (n / 16 ^ 4 % 16), hd (n / 16 ^ 3 % 16), hd (n / 16 ^ 2 % 16), hd (n / 16 ^ 1 % 16), hd (n / 16 ^ 0 % 16)] := by
  rw [hexW_cons, hexW_cons, hexW_cons, hexW_cons, hexW_cons, hexW_cons, hexW_cons, hexW_cons, hexW_cons, hexW_cons, hexW_cons, hexW_cons, hexW_cons, hexW_cons, hexW_cons, hexW_cons, hexW]
theorem uetr_list (a b c d e f g h i j k l m n o p : UInt8) : uetrL [a, b, c, d, e, f, g, h, i, j, k, l, m, n, o, p] = [a, b, c, d, e, f, g, h, 45, i, j, k, l, 45, 52, m, n, o, 45, 56, p, 48, 48, 45, 48, 48, 48, 48, 48, 48, 48, 48, 48, 48, 48, 48] := by
  unfold uetrL
  simp [Lib.join, List.intercalate]
theorem hd_ok (n : Nat) (hn : n < 16) : ∀ i, i < 36 → ¬ (i = 8 ∨ i = 13 ∨ i = 18 ∨ i = 23) → i ≠ 14 → i ≠ 19 → okU i (hd n) = true := by
  intro i hi h1 h2 h3
  rw [okU_nat i hi, if_neg h1, if_neg h2, if_neg h3, hd_toNat n hn]
  by_cases h : n < 10
  · rw [if_pos h]
    simp
    omega
  · rw [if_neg h]
    simp
    omega
theorem sixteen (l : List UInt8) (h : l.length = 16) : ∃ h0 h1 h2 h3 h4 h5 h6 h7 h8 h9 h10 h11 h12 h13 h14 h15, l = [h0, h1, h2, h3, h4, h5, h6, h7, h8, h9, h10, h11, h12, h13, h14, h15] := by
  match l, h with
  | [h0, h1, h2, h3, h4, h5, h6, h7, h8, h9, h10, h11, h12, h13, h14, h15], _ => exact ⟨_, _, _, _, _, _, _, _, _, _, _, _, _, _, _, _, rfl⟩
theorem hexW_digits (w : Nat) : ∀ n c, c ∈ hexW w n → ∃ v, v < 16 ∧ c = hd v := by
  induction w with
  | zero => intro n c h; cases h
  | succ w ih =>
    intro n c h
    rw [hexW, List.mem_append] at h
    rcases h with h | h
    · exact ih _ _ h
    · rw [List.mem_singleton] at h
      exact ⟨n % 16, by omega, h⟩
theorem allU_list (h0 h1 h2 h3 h4 h5 h6 h7 h8 h9 h10 h11 h12 h13 h14 h15 : UInt8) (hd' : ∀ c ∈ ([h0, h1, h2, h3, h4, h5, h6, h7, h8, h9, h10, h11, h12, h13, h14, h15] : List UInt8), ∃ v, v < 16 ∧ c = hd v) : allU [h0, h1, h2, h3, h4, h5, h6, h7, 45, h8, h9, h10, h11, 45, 52, h12, h13, h14, 45, 56, h15, 48, 48, 45, 48, 48, 48, 48, 48, 48, 48, 48, 48, 48, 48, 48] = true := by
  have hok : ∀ i, i < 36 → ¬ (i = 8 ∨ i = 13 ∨ i = 18 ∨ i = 23) → i ≠ 14 → i ≠ 19 → ∀ c, c ∈ ([h0, h1, h2, h3, h4, h5, h6, h7, h8, h9, h10, h11, h12, h13, h14, h15] : List UInt8) → okU i c = true := by
    intro i hi h1 h2 h3 c hc
    obtain ⟨v, hv, rfl⟩ := hd' c hc
    exact hd_ok v hv i hi h1 h2 h3
  refine List.all_eq_true.2 fun i hi => ?_
  have hi := List.mem_range.1 hi
  rcases (show i = 0 ∨ i = 1 ∨ i = 2 ∨ i = 3 ∨ i = 4 ∨ i = 5 ∨ i = 6 ∨ i = 7 ∨ i = 8 ∨ i = 9 ∨ i = 10 ∨ i = 11 ∨ i = 12 ∨ i = 13 ∨ i = 14 ∨ i = 15 ∨ i = 16 ∨ i = 17 ∨ i = 18 ∨ i = 19 ∨ i = 20 ∨ i = 21 ∨ i = 22 ∨ i = 23 ∨ i = 24 ∨ i = 25 ∨ i = 26 ∨ i = 27 ∨ i = 28 ∨ i = 29 ∨ i = 30 ∨ i = 31 ∨ i = 32 ∨ i = 33 ∨ i = 34 ∨ i = 35 by omega) with rfl | rfl | rfl | rfl | rfl | rfl | rfl | rfl | rfl | rfl | rfl | rfl | rfl | rfl | rfl | rfl | rfl | rfl | rfl | rfl | rfl | rfl | rfl | rfl | rfl | rfl | rfl | rfl | rfl | rfl | rfl | rfl | rfl | rfl | rfl | rfl
  · exact hok 0 (by omega) (by omega) (by omega) (by omega) h0 (by simp)
  · exact hok 1 (by omega) (by omega) (by omega) (by omega) h1 (by simp)
  · exact hok 2 (by omega) (by omega) (by omega) (by omega) h2 (by simp)
  · exact hok 3 (by omega) (by omega) (by omega) (by omega) h3 (by simp)
  · exact hok 4 (by omega) (by omega) (by omega) (by omega) h4 (by simp)
  · exact hok 5 (by omega) (by omega) (by omega) (by omega) h5 (by simp)
  · exact hok 6 (by omega) (by omega) (by omega) (by omega) h6 (by simp)
  · exact hok 7 (by omega) (by omega) (by omega) (by omega) h7 (by simp)
  · show okU 8 45 = true
    decide +kernel
  · exact hok 9 (by omega) (by omega) (by omega) (by omega) h8 (by simp)
  · exact hok 10 (by omega) (by omega) (by omega) (by omega) h9 (by simp)
  · exact hok 11 (by omega) (by omega) (by omega) (by omega) h10 (by simp)
  · exact hok 12 (by omega) (by omega) (by omega) (by omega) h11 (by simp)
  · show okU 13 45 = true
    decide +kernel
  · show okU 14 52 = true
    decide +kernel
  · exact hok 15 (by omega) (by omega) (by omega) (by omega) h12 (by simp)
  · exact hok 16 (by omega) (by omega) (by omega) (by omega) h13 (by simp)
  · exact hok 17 (by omega) (by omega) (by omega) (by omega) h14 (by simp)
  · show okU 18 45 = true
    decide +kernel
  · show okU 19 56 = true
    decide +kernel
  · exact hok 20 (by omega) (by omega) (by omega) (by omega) h15 (by simp)
  · show okU 21 48 = true
    decide +kernel
  · show okU 22 48 = true
    decide +kernel
  · show okU 23 45 = true
    decide +kernel
  · show okU 24 48 = true
    decide +kernel
  · show okU 25 48 = true
    decide +kernel
  · show okU 26 48 = true
    decide +kernel
  · show okU 27 48 = true
    decide +kernel
  · show okU 28 48 = true
    decide +kernel
  · show okU 29 48 = true
    decide +kernel
  · show okU 30 48 = true
    decide +kernel
  · show okU 31 48 = true
    decide +kernel
  · show okU 32 48 = true
    decide +kernel
  · show okU 33 48 = true
    decide +kernel
  · show okU 34 48 = true
    decide +kernel
  · show okU 35 48 = true
    decide +kernel
theorem hd_inj (a b : Nat) (ha : a < 16) (hb : b < 16) (h : hd a = hd b) : a = b := by
  have := congrArg UInt8.toNat h
  rw [hd_toNat a ha, hd_toNat b hb] at this
  split at this <;> split at this <;> omega
theorem hexW_inj (w : Nat) : ∀ n m, n < 16 ^ w → m < 16 ^ w → hexW w n = hexW w m → n = m := by
  induction w with
  | zero => intro n m hn hm _; simp at hn hm; omega
  | succ w ih =>
    intro n m hn hm h
    rw [hexW, hexW] at h
    obtain ⟨h1, h2⟩ := List.append_inj h (by rw [hexW_length, hexW_length])
    rw [Nat.pow_succ] at hn hm
    have e1 := ih (n / 16) (m / 16) (by omega) (by omega) h1
    have e2 := hd_inj _ _ (by omega) (by omega) (List.cons.inj h2).1
    omega
theorem hexW_getD (w : Nat) : ∀ r n, r < w → (hexW w n).getD (w - 1 - r) 0 = hd (n / 16 ^ r % 16) := by
  induction w with
  | zero => intro r n h; omega
  | succ w ih =>
    intro r n h
    rw [hexW_cons]
    by_cases e : r = w
    · subst e
      rw [show r + 1 - 1 - r = 0 by omega]
      rfl
    · rw [show w + 1 - 1 - r = (w - 1 - r) + 1 by omega, List.getD_cons_succ]
      exact ih r n (by omega)
theorem makes_l0 (n : Nat) (hn : n < 18446744073709551616) (x7 : ByteArray) (v : Bool) (hfin : ∀ k, remitterlaw07_RefMakes.l0 (k + 1) (n : Int) x7 (bs (hexW 16 n)) (n : Int) 16 = some v) (r : Nat) : ∀ k, r ≤ 16 → r + 1 < k →
    remitterlaw07_RefMakes.l0 k (n : Int) x7 (bs (hexW 16 n)) ((n / 16 ^ r : Nat) : Int) ((16 - r : Nat) : Int) = some v := by
  induction r with
  | zero =>
    intro k _ hk
    obtain ⟨k, rfl⟩ : ∃ j, k = j + 1 := ⟨k - 1, by omega⟩
    rw [Nat.pow_zero, Nat.div_one]
    exact hfin k
  | succ r ih =>
    intro k hr hk
    obtain ⟨k, rfl⟩ : ∃ j, k = j + 1 := ⟨k - 1, by omega⟩
    have hg := hexW_getD 16 r n (by omega)
    have hdt := hd_toNat (n / 16 ^ r % 16) (by omega)
    have hdiv : n / 16 ^ (r + 1) = n / 16 ^ r / 16 := by rw [Nat.pow_succ, Nat.div_div_eq_div_mul]
    have hlt : n / 16 ^ r ≤ n := Nat.div_le_self _ _
    have hih := ih k (by omega) (by omega)
    rw [show 16 - r = (16 - (r + 1)) + 1 by omega] at hih
    rw [remitterlaw07_RefMakes.l0, bs_size, hexW_length, if_pos (by omega), if_pos (by omega), bt_nat, show 16 - (r + 1) = 16 - 1 - r by omega, hg, hdiv]
    rw [show 16 - (r + 1) = 16 - 1 - r by omega] at hih
    generalize n / 16 ^ r = u at *
    have w1 : IntKind.u64.wrap (16 * ((u / 16 : Nat) : Int)) = ((16 * (u / 16) : Nat) : Int) := by rw [IntKind.wrap_u64]; omega
    have ew : wrap64 (((16 - 1 - r : Nat) : Int) + 1) = ((16 - 1 - r + 1 : Nat) : Int) := by rw [wrap_ok (by omega) (by omega)]; rfl
    rw [w1, ew]
    by_cases h10 : u % 16 < 10
    · rw [if_pos h10] at hdt
      rw [if_neg (by omega)]
      have e : IntKind.u64.wrap (((16 * (u / 16) : Nat) : Int) + (((hd (u % 16)).toNat : Int) - 48) % 256) = (u : Int) := by rw [IntKind.wrap_u64, hdt]; omega
      rw [e]
      exact hih
    · rw [if_neg h10] at hdt
      rw [if_pos (by omega)]
      have e : IntKind.u64.wrap (((16 * (u / 16) : Nat) : Int) + ((((hd (u % 16)).toNat : Int) - 97) % 256 + 10)) = (u : Int) := by rw [IntKind.wrap_u64, hdt]; omega
      rw [e]
      exact hih
theorem makes_j0 (n : Nat) (hn : n < 18446744073709551616) (k : Nat) : remitterlaw07_RefMakes.j0 (k + 50) (n : Int) (bs (uetrL (hexW 16 n))) false = some true := by
  obtain ⟨h0, h1, h2, h3, h4, h5, h6, h7, h8, h9, h10, h11, h12, h13, h14, h15, hD⟩ := sixteen (hexW 16 n) (hexW_length 16 n)
  have hA : uetrL (hexW 16 n) = [h0, h1, h2, h3, h4, h5, h6, h7, 45, h8, h9, h10, h11, 45, 52, h12, h13, h14, 45, 56, h15, 48, 48, 45, 48, 48, 48, 48, 48, 48, 48, 48, 48, 48, 48, 48] := by rw [hD]; exact uetr_list ..
  rw [hA]
  have hS : (((bs [h0, h1, h2, h3, h4, h5, h6, h7, 45, h8, h9, h10, h11, 45, 52, h12, h13, h14, 45, 56, h15, 48, 48, 45, 48, 48, 48, 48, 48, 48, 48, 48, 48, 48, 48, 48]).extract 0 8 ++ (bs [h0, h1, h2, h3, h4, h5, h6, h7, 45, h8, h9, h10, h11, 45, 52, h12, h13, h14, 45, 56, h15, 48, 48, 45, 48, 48, 48, 48, 48, 48, 48, 48, 48, 48, 48, 48]).extract 9 13) ++ (bs [h0, h1, h2, h3, h4, h5, h6, h7, 45, h8, h9, h10, h11, 45, 52, h12, h13, h14, 45, 56, h15, 48, 48, 45, 48, 48, 48, 48, 48, 48, 48, 48, 48, 48, 48, 48]).extract 15 18) ++ (bs [h0, h1, h2, h3, h4, h5, h6, h7, 45, h8, h9, h10, h11, 45, 52, h12, h13, h14, 45, 56, h15, 48, 48, 45, 48, 48, 48, 48, 48, 48, 48, 48, 48, 48, 48, 48]).extract 20 21 = bs (hexW 16 n) := by
    rw [hD]
    simp only [bs_extract, bs_append]
    rfl
  have hz : (bs [h0, h1, h2, h3, h4, h5, h6, h7, 45, h8, h9, h10, h11, 45, 52, h12, h13, h14, 45, 56, h15, 48, 48, 45, 48, 48, 48, 48, 48, 48, 48, 48, 48, 48, 48, 48]).size = 36 := bs_size _
  have z1 : ((bs [h0, h1, h2, h3, h4, h5, h6, h7, 45, h8, h9, h10, h11, 45, 52, h12, h13, h14, 45, 56, h15, 48, 48, 45, 48, 48, 48, 48, 48, 48, 48, 48, 48, 48, 48, 48]).extract 0 8).size = 8 := by rw [bs_extract, bs_size]; rfl
  have z2 : ((bs [h0, h1, h2, h3, h4, h5, h6, h7, 45, h8, h9, h10, h11, 45, 52, h12, h13, h14, 45, 56, h15, 48, 48, 45, 48, 48, 48, 48, 48, 48, 48, 48, 48, 48, 48, 48]).extract 9 13).size = 4 := by rw [bs_extract, bs_size]; rfl
  have z3 : ((bs [h0, h1, h2, h3, h4, h5, h6, h7, 45, h8, h9, h10, h11, 45, 52, h12, h13, h14, 45, 56, h15, 48, 48, 45, 48, 48, 48, 48, 48, 48, 48, 48, 48, 48, 48, 48]).extract 15 18).size = 3 := by rw [bs_extract, bs_size]; rfl
  have z4 : ((bs [h0, h1, h2, h3, h4, h5, h6, h7, 45, h8, h9, h10, h11, 45, 52, h12, h13, h14, 45, 56, h15, 48, 48, 45, 48, 48, 48, 48, 48, 48, 48, 48, 48, 48, 48, 48]).extract 20 21).size = 1 := by rw [bs_extract, bs_size]; rfl
  rw [remitterlaw07_RefMakes.j0, if_neg (by decide), hS]
  simp only [hz, z1, z2, z3, z4, ByteArray.size_append]
  rw [if_pos (by decide), if_pos (by decide), if_pos (by decide), if_pos (by decide), if_pos (by decide), if_pos (by decide), if_pos (by decide), if_pos (by decide), if_pos (by decide), if_pos (by decide), if_pos (by decide)]
  have fin := makes_l0 n hn (bs [h0, h1, h2, h3, h4, h5, h6, h7, 45, h8, h9, h10, h11, 45, 52, h12, h13, h14, 45, 56, h15, 48, 48, 45, 48, 48, 48, 48, 48, 48, 48, 48, 48, 48, 48, 48]) true (fun k => ?_) 16 (k + 49) (by omega) (by omega)
  · rw [show n / 16 ^ 16 = 0 from Nat.div_eq_of_lt (by simpa using hn)] at fin
    exact fin
  · have x1 : (bs [h0, h1, h2, h3, h4, h5, h6, h7, 45, h8, h9, h10, h11, 45, 52, h12, h13, h14, 45, 56, h15, 48, 48, 45, 48, 48, 48, 48, 48, 48, 48, 48, 48, 48, 48, 48]).extract 21 23 = bs [48, 48] := bs_extract _ _ _
    have x2 : (bs [h0, h1, h2, h3, h4, h5, h6, h7, 45, h8, h9, h10, h11, 45, 52, h12, h13, h14, 45, 56, h15, 48, 48, 45, 48, 48, 48, 48, 48, 48, 48, 48, 48, 48, 48, 48]).extract 24 36 = bs [48, 48, 48, 48, 48, 48, 48, 48, 48, 48, 48, 48] := bs_extract _ _ _
    have b1 : bt (bs [h0, h1, h2, h3, h4, h5, h6, h7, 45, h8, h9, h10, h11, 45, 52, h12, h13, h14, 45, 56, h15, 48, 48, 45, 48, 48, 48, 48, 48, 48, 48, 48, 48, 48, 48, 48]) 14 = 52 := bt_nat _ 14
    have b2 : bt (bs [h0, h1, h2, h3, h4, h5, h6, h7, 45, h8, h9, h10, h11, 45, 52, h12, h13, h14, 45, 56, h15, 48, 48, 45, 48, 48, 48, 48, 48, 48, 48, 48, 48, 48, 48, 48]) 19 = 56 := bt_nat _ 19
    rw [remitterlaw07_RefMakes.l0, bs_size, hexW_length, if_neg (by decide), if_pos rfl, hz, if_pos (by decide), if_pos (by decide), x1, bs_toList, if_pos rfl, if_pos (by decide), x2, bs_toList, if_pos rfl, if_pos (by decide), b1, if_pos rfl, if_pos (by decide), b2, if_pos rfl, wakes7_ok]
    rfl
theorem RefMakes' : remitterlaw07_RefMakes.Pure := by
  intro a0 a1 a2 w0 w1 _
  have hw0 : 0 ≤ a0 ∧ a0 ≤ 18446744073709551615 := by
    have h1 := w0
    simp only [Lit.wf, Bool.and_eq_true, decide_eq_true_eq] at h1
    exact h1
  have hw1 : 0 ≤ a1 ∧ a1 ≤ 18446744073709551615 := by
    have h1 := w1
    simp only [Lit.wf, Bool.and_eq_true, decide_eq_true_eq] at h1
    exact h1
  obtain ⟨n, rfl⟩ : ∃ n : Nat, a0 = (n : Int) := ⟨a0.toNat, by omega⟩
  obtain ⟨m, rfl⟩ : ∃ m : Nat, a1 = (m : Int) := ⟨a1.toNat, by omega⟩
  obtain ⟨l, rfl⟩ := bs_ex a2
  refine ⟨3050, ?_⟩
  unfold remitterlaw07_RefMakes.f
  by_cases hl : ((bs l).size : Int) > 100
  · rw [if_pos hl, wakes7_ok]
    rfl
  · rw [if_neg hl]
    rw [bs_size] at hl
    have m0 : ref_Make.f (n : Int) = some (bs (uetrL (hexW 16 n))) := by
      unfold ref_Make.f
      rw [if_pos (by omega)]
      rfl
    have m1 : ref_Make.f (m : Int) = some (bs (uetrL (hexW 16 m))) := by
      unfold ref_Make.f
      rw [if_pos (by omega)]
      rfl
    have hu : remitterlaw07_uetr.f 3050 (bs (uetrL (hexW 16 n))) = some true := by
      rw [uetr_f _ _ (by omega)]
      obtain ⟨h0, h1, h2, h3, h4, h5, h6, h7, h8, h9, h10, h11, h12, h13, h14, h15, hD⟩ := sixteen (hexW 16 n) (hexW_length 16 n)
      have hA : uetrL (hexW 16 n) = [h0, h1, h2, h3, h4, h5, h6, h7, 45, h8, h9, h10, h11, 45, 52, h12, h13, h14, 45, 56, h15, 48, 48, 45, 48, 48, 48, 48, 48, 48, 48, 48, 48, 48, 48, 48] := by rw [hD]; exact uetr_list ..
      rw [hA, allU_list _ _ _ _ _ _ _ _ _ _ _ _ _ _ _ _ (by rw [← hD]; exact hexW_digits 16 n)]
      rfl
    have heq : (((bs (uetrL (hexW 16 n))).toList == (bs (uetrL (hexW 16 m))).toList) != ((n : Int) == (m : Int))) = false := by
      rw [bs_toList, bs_toList]
      by_cases e : n = m
      · subst e
        simp
      · have h1 : ((n : Int) == (m : Int)) = false := beq_eq_false_iff_ne.2 (by omega)
        have h2 : (uetrL (hexW 16 n) == uetrL (hexW 16 m)) = false := by
          refine beq_eq_false_iff_ne.2 fun h => e ?_
          obtain ⟨h0, h1, h2, h3, h4, h5, h6, h7, h8, h9, h10, h11, h12, h13, h14, h15, hD⟩ := sixteen (hexW 16 n) (hexW_length 16 n)
          obtain ⟨g0, g1, g2, g3, g4, g5, g6, g7, g8, g9, g10, g11, g12, g13, g14, g15, hE⟩ := sixteen (hexW 16 m) (hexW_length 16 m)
          refine hexW_inj 16 n m (by simp; omega) (by simp; omega) ?_
          rw [hD, hE] at h ⊢
          rw [uetr_list, uetr_list] at h
          simp only [List.cons.injEq, and_true, true_and] at h
          simp only [List.cons.injEq, and_true]
          exact h
        rw [h1, h2]
        rfl
    have c16 := check_f l (by omega) 16
    have c35 := check_f l (by omega) 35
    rw [show ((16 : Nat) : Int) = 16 from rfl] at c16
    rw [show ((35 : Nat) : Int) = 35 from rfl] at c35
    rw [m0, m1, Option.bind_some, Option.bind_some, hu, Option.bind_some, if_pos rfl, heq, if_neg (by decide), ref_Check.f, ref_CheckId.f, c16, c35]
    have j := makes_j0 n (by omega) 3000
    simp only [Option.bind_some]
    by_cases h16 : (decide (1 ≤ l.length ∧ l.length ≤ 16) && goodL l) = true
    · have h35 : (decide (1 ≤ l.length ∧ l.length ≤ 35) && goodL l) = true := by
        rw [Bool.and_eq_true, decide_eq_true_eq] at h16 ⊢
        exact ⟨by omega, h16.2⟩
      rw [if_pos h16, if_pos rfl, if_pos h35]
      exact j
    · rw [if_neg h16, if_neg (by decide)]
      exact j
end Go.Proofs.YtiadcjdpeegbbaaDoor.PAll
