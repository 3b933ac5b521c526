/- BicTurns: for every text and every two bytes the law's call returns true: the walk, by hand, over the contracts. -/
import Derived.Test.YtjemnphmjbodfaaPureBic
import Derived.WalkKit
import Derived.Laws.IdiomStrings
import Derived.Lib.Hide
import Derived.Test.YtjemnphmjbodfaaGBytes
import Derived.Lib.ConvBytes
import Derived.Lib.SlBytesConst
import Derived.Laws.BytesArg
namespace Go.Proofs.Ytjemnphmjbodfaa.PAll
open Go.RowKit Go.Proofs.YtjemnphmjbodfaaW.PrintWords GPlain
set_option linter.unusedSimpArgs false

theorem turns_long (l : List UInt8) (hl : 60 < l.length) (x y : Int) (w : World) :
    Calls Try.prog 5 #[.string (bs l), .int .u8 x, .int .u8 y] w fun e w' => e = .returned (.bool true) ∧ Below w.heap.size w w' := by
  have hs : (bs l).size = l.length := bs_size l
  have HS := Lib.hid hs
  have hgt : decide (60 < ((bs l).size : Int)) = true := by simp; omega
  clear hs
  go_enter Try.func5, Try.ntmps5
  go_wp2_with fail
  go_wp2_with (go_at_call 10; refine (remitterlaw04_wakes.calls true _ wakes_ok).mono ?_; rintro e w' ⟨rfl, hb⟩)
  go_ret
  exact ⟨rfl, hb⟩
theorem turns_bad (l : List UInt8) (hl : l.length ≤ 60) (hc : chk l = false) (x y : Int) (w : World) :
    Calls Try.prog 5 #[.string (bs l), .int .u8 x, .int .u8 y] w fun e w' => e = .returned (.bool true) ∧ Below w.heap.size w w' := by
  have hs : (bs l).size = l.length := bs_size l
  have HS := Lib.hid hs
  have hgt : decide (60 < ((bs l).size : Int)) = false := by simp; omega
  clear hs
  have hk : bic_Check.f (bs l) = some 14 := by rw [check_f, hc]; rfl
  have HK := Lib.hid hk
  clear hk
  go_enter Try.func5, Try.ntmps5
  go_wp2_with (first | (go_at_call 9; refine (bic_Check.calls _ 14 _ HK).mono ?_; rintro e w1 ⟨rfl, hb1⟩) | (go_at_call 10; refine (remitterlaw04_wakes.calls true _ wakes_ok).mono ?_; rintro e w' ⟨rfl, hb⟩))
  go_ret
  exact ⟨rfl, below_then hb1 hb1.size hb⟩

theorem addrL_len {l : List UInt8} (h : l.length = 8 ∨ l.length = 11) : (addrL l).length = 12 := by
  unfold addrL
  simp [fullL_len h]
theorem chk_iff (l : List UInt8) : chk l = true ↔ (l.length = 8 ∨ l.length = 11) ∧ ∀ j, j < l.length → placeB j (l.getD j 0) = true := by
  unfold chk goodB
  rw [Bool.and_eq_true, List.all_eq_true]
  simp [List.mem_range]
theorem place_X (j : Nat) (h : 8 ≤ j) : placeB j 88 = true := by
  unfold placeB placeS
  rw [if_neg (by omega)]
  decide
theorem chk_full {l : List UInt8} (h : chk l = true) : chk (fullL l) = true := by
  have el := chk_len h
  rw [chk_iff] at h ⊢
  refine ⟨.inr (fullL_len el), fun j hj => ?_⟩
  rw [fullL_len el] at hj
  rcases el with e | e
  · rw [fullL_8 e]
    by_cases hlt : j < 8
    · rw [List.getD_eq_getElem?_getD, List.getElem?_append_left (by omega), ← List.getD_eq_getElem?_getD]
      exact h.2 j (by omega)
    · rw [List.getD_eq_getElem?_getD, List.getElem?_append_right (by omega), e]
      rcases (show j = 8 ∨ j = 9 ∨ j = 10 by omega) with r | r | r <;> subst r <;> exact place_X _ (by omega)
  · rw [fullL_11 e]
    exact h.2 j (by omega)
theorem chk_short {l : List UInt8} (h : chk l = true) : chk (shortL l) = true := by
  unfold shortL
  split
  · rename_i hx
    rw [chk_iff] at h ⊢
    refine ⟨.inl (by simp [hx.1]), fun j hj => ?_⟩
    have hj8 : j < 8 := by simp at hj; omega
    rw [List.getD_eq_getElem?_getD, List.getElem?_take_of_lt hj8, ← List.getD_eq_getElem?_getD]
    exact h.2 j (by omega)
  · exact h
theorem place_back (i j : Nat) (hi : 8 ≤ i) (hj : 8 ≤ j) (q : UInt8) : placeB i q = placeB j q := by
  unfold placeB placeS
  rw [if_neg (by omega), if_neg (by omega)]
theorem chkA_addr {l : List UInt8} (h : chk l = true) : chkA (addrL l) = true := by
  have el := chk_len h
  have hf := (chk_iff _).1 (chk_full h)
  have e := fullL_len el
  unfold chkA goodB
  rw [Bool.and_eq_true, List.all_eq_true]
  refine ⟨by simp [addrL_len el], fun j hj => ?_⟩
  rw [List.mem_range, addrL_len el] at hj
  unfold addrL
  have h8 : ((fullL l).take 8).length = 8 := by simp [e]
  by_cases hlt : j < 8
  · rw [List.getD_eq_getElem?_getD, List.append_assoc, List.getElem?_append_left (by omega), List.getElem?_take_of_lt hlt, ← List.getD_eq_getElem?_getD]
    exact hf.2 j (by omega)
  · by_cases h88 : j = 8
    · subst h88
      rw [List.getD_eq_getElem?_getD, List.append_assoc, List.getElem?_append_right (by omega), h8]
      exact place_X 8 (by omega)
    · rw [List.getD_eq_getElem?_getD, List.getElem?_append_right (by simp [e]; omega), List.getElem?_drop, ← List.getD_eq_getElem?_getD]
      have : 8 + (j - (List.take 8 (fullL l) ++ [88]).length) = j - 1 := by simp [e]; omega
      rw [this, place_back j (j - 1) (by omega) (by omega)]
      exact hf.2 (j - 1) (by omega)
theorem letters_both : ∀ n, n < 256 → decide (0 ≤ Lib.indexByte lettersDigits.data.toList (UInt8.ofNat n)) = false → decide (0 ≤ Lib.indexByte letters.data.toList (UInt8.ofNat n)) = false := by decide +kernel
theorem chk_set {l : List UInt8} (_h : chk l = true) (m : Nat) (c : UInt8) (hm : m < l.length) (hc : decide (0 ≤ Lib.indexByte lettersDigits.data.toList c) = false) : chk (l.set m c) = false := by
  cases hx : chk (l.set m c)
  · rfl
  · have h2 := ((chk_iff _).1 hx).2 m (by simpa using hm)
    rw [List.getD_eq_getElem?_getD, List.getElem?_set_self hm] at h2
    have h3 : placeB m c = false := by
      unfold placeB placeS
      have hcc : UInt8.ofNat c.toNat = c := by simp
      split
      · have := letters_both c.toNat c.toNat_lt
        rw [hcc] at this
        exact this hc
      · exact hc
    rw [Option.getD_some, h3] at h2
    cases h2

set_option maxRecDepth 100000 in
set_option maxHeartbeats 1000000 in
theorem turns_good0 (l : List UInt8) (hl : l.length ≤ 60) (hc : chk l = true) (x y : Int) (hx : 0 ≤ x ∧ x ≤ 255) (hy : 0 ≤ y ∧ y ≤ 255) (hq : y % 5 = 0) (w : World) :
    Calls Try.prog 5 #[.string (bs l), .int .u8 x, .int .u8 y] w fun e w' => e = .returned (.bool true) ∧ Below w.heap.size w w' := by
  have el := chk_len hc
  have hs : (bs l).size = l.length := bs_size l
  have HS := Lib.hid hs
  have hgt : decide (60 < ((bs l).size : Int)) = false := by simp; omega
  have HK := Lib.hid (show bic_Check.f (bs l) = some 0 by rw [check_f, hc]; rfl)
  have HF := Lib.hid (show bic_Full.f (bs l) = some (bs (fullL l), 0) by rw [full_f, hc]; rfl)
  have HT := Lib.hid (show bic_Short.f (bs l) = some (bs (shortL l), 0) by rw [short_f, hc]; rfl)
  have HA := Lib.hid (show bic_Address.f (bs l) = some (bs (addrL l), 0) by rw [address_f, hc]; rfl)
  have hF : (((bs (fullL l)).size : Int) != 11) = false := by rw [bs_size, fullL_len el]; rfl
  have hAd : (((bs (addrL l)).size : Int) != 12) = false := by rw [bs_size, addrL_len el]; rfl
  have HT2 := Lib.hid (show bic_Short.f (bs (fullL l)) = some (bs (shortL l), 0) by rw [short_f, chk_full hc, short_full el]; rfl)
  have HF2 := Lib.hid (show bic_Full.f (bs (shortL l)) = some (bs (fullL l), 0) by rw [full_f, chk_short hc, full_short el]; rfl)
  have HO := Lib.hid (show bic_Of.f (bs (addrL l)) = some (bs (shortL l), 0) by rw [of_f, chkA_addr hc, of_addr el, chk_full hc, short_full el]; rfl)
  have hne : ¬ ((bs l).size : Int) = 0 := by omega
  obtain ⟨m, hm, hmlt⟩ : ∃ m : Nat, x % ((bs l).size : Int) = (m : Int) ∧ m < (bs l).size := by
    refine ⟨(x % ((bs l).size : Int)).toNat, ?_, ?_⟩
    · have := Int.emod_nonneg x hne
      omega
    · have := Int.emod_lt_of_pos x (show (0 : Int) < ((bs l).size : Int) by omega)
      have := Int.emod_nonneg x hne
      omega
  have hcv := fun (W : World) => Lib.run_convert_string_bytes (P := Try.prog) W 9 30 5 (bs l) Try.underlying9 Try.underlying30 Try.underlying5
  have hcm := fun (W : World) (j : Nat) => World.cell?_alloc_mark W #[Value.int IntKind.u8 45, Value.int IntKind.u8 97, Value.int IntKind.u8 32, Value.int IntKind.u8 46, Value.int IntKind.u8 33] 5 (5, 6) j
  have kc := fun (W : World) (C : Array Value) (n c : Nat) => Lib.run_convert_bytes_const (P := Try.prog) W 30 5 C n c Try.underlying30 Try.underlying5
  clear hs
  go_enter Try.func5, Try.ntmps5
  go_wp2_with (first | (go_at_call 9; refine (bic_Check.calls _ 0 _ HK).mono ?_; rintro e w1 ⟨rfl, hb1⟩) | (go_at_call 11; refine (bic_Full.calls _ _ _ _ HF).mono ?_; rintro e w2 ⟨rfl, hb2⟩; clear HF) | (go_at_call 12; refine (bic_Short.calls _ _ _ _ HT).mono ?_; rintro e w3 ⟨rfl, hb3⟩; clear HT) | (go_at_call 13; refine (bic_Address.calls _ _ _ _ HA).mono ?_; rintro e w4 ⟨rfl, hb4⟩))
  go_wp2_with (first | (go_at_call 11; refine (bic_Full.calls _ _ _ _ HF2).mono ?_; rintro e w6 ⟨rfl, hb6⟩; clear HF2) | (go_at_call 12; refine (bic_Short.calls _ _ _ _ HT2).mono ?_; rintro e w5 ⟨rfl, hb5⟩; clear HT2))
  refine (bic_Of.calls _ _ _ _ HO).mono ?_
  rintro e w7 ⟨rfl, hb7⟩
  have hsz7 : w7.heap.size < (Lib.bytesWorld w7 5 (bs l)).heap.size := by rw [Lib.bytesWorld_size]; exact Nat.lt_succ_self _
  have hmc := Lib.bytesWorld_cell w7 5 (bs l) m hmlt
  have hmf := GBytes.bytes_frozen w7 5 (bs l) m hmlt
  have hbk := GBytes.bytes_back_num (P := Try.prog) 30 9 5 Try.underlying30 Try.underlying5 Try.underlying9 w7 (bs l) (.cells #[Value.int IntKind.u8 45, Value.int IntKind.u8 97, Value.int IntKind.u8 32, Value.int IntKind.u8 46, Value.int IntKind.u8 33] 5 (5, 6)) m hmlt 45 45 rfl (bs (l.set m 45)) (by rw [bs_data]; rfl) (grownCap w7 (bs l).size 0 5)
  have hK2 := Lib.hid (show bic_Check.f (bs (l.set m 45)) = some 14 by rw [check_f, chk_set hc m 45 (by rw [bs_size] at hmlt; exact hmlt) (by decide)]; rfl)
  go_wp2_with (first | (go_at_call 9; refine (bic_Check.calls _ 14 _ hK2).mono ?_; rintro e w8 ⟨rfl, hb8⟩) | (go_at_call 10; refine (remitterlaw04_wakes.calls true _ wakes_ok).mono ?_; rintro e w9 ⟨rfl, hb9⟩))
  go_ret
  refine ⟨rfl, ?_⟩
  have c1 := below_then hb1 hb1.size hb2
  have c2 := below_then c1 c1.size hb3
  have c3 := below_then c2 c2.size hb4
  have c4 := below_then c3 c3.size hb5
  have c5 := below_then c4 c4.size hb6
  have c6 := below_then c5 c5.size hb7
  have c7 := below_then c6 c6.size (GBytes.bytes_below w7 5 (bs l))
  have c8 := (c7.setCell (p := ⟨w7.heap.size, m, none⟩) c6.size (.int .u8 45)).alloc (by simpa [World.setCell] using c7.size) (.cells #[Value.int IntKind.u8 45, Value.int IntKind.u8 97, Value.int IntKind.u8 32, Value.int IntKind.u8 46, Value.int IntKind.u8 33] 5 (5, 6))
  have c9 := below_then c8 c8.size hb8
  exact below_then c9 c9.size hb9

set_option maxRecDepth 100000 in
set_option maxHeartbeats 1000000 in
theorem turns_good1 (l : List UInt8) (hl : l.length ≤ 60) (hc : chk l = true) (x y : Int) (hx : 0 ≤ x ∧ x ≤ 255) (hy : 0 ≤ y ∧ y ≤ 255) (hq : y % 5 = 1) (w : World) :
    Calls Try.prog 5 #[.string (bs l), .int .u8 x, .int .u8 y] w fun e w' => e = .returned (.bool true) ∧ Below w.heap.size w w' := by
  have el := chk_len hc
  have hs : (bs l).size = l.length := bs_size l
  have HS := Lib.hid hs
  have hgt : decide (60 < ((bs l).size : Int)) = false := by simp; omega
  have HK := Lib.hid (show bic_Check.f (bs l) = some 0 by rw [check_f, hc]; rfl)
  have HF := Lib.hid (show bic_Full.f (bs l) = some (bs (fullL l), 0) by rw [full_f, hc]; rfl)
  have HT := Lib.hid (show bic_Short.f (bs l) = some (bs (shortL l), 0) by rw [short_f, hc]; rfl)
  have HA := Lib.hid (show bic_Address.f (bs l) = some (bs (addrL l), 0) by rw [address_f, hc]; rfl)
  have hF : (((bs (fullL l)).size : Int) != 11) = false := by rw [bs_size, fullL_len el]; rfl
  have hAd : (((bs (addrL l)).size : Int) != 12) = false := by rw [bs_size, addrL_len el]; rfl
  have HT2 := Lib.hid (show bic_Short.f (bs (fullL l)) = some (bs (shortL l), 0) by rw [short_f, chk_full hc, short_full el]; rfl)
  have HF2 := Lib.hid (show bic_Full.f (bs (shortL l)) = some (bs (fullL l), 0) by rw [full_f, chk_short hc, full_short el]; rfl)
  have HO := Lib.hid (show bic_Of.f (bs (addrL l)) = some (bs (shortL l), 0) by rw [of_f, chkA_addr hc, of_addr el, chk_full hc, short_full el]; rfl)
  have hne : ¬ ((bs l).size : Int) = 0 := by omega
  obtain ⟨m, hm, hmlt⟩ : ∃ m : Nat, x % ((bs l).size : Int) = (m : Int) ∧ m < (bs l).size := by
    refine ⟨(x % ((bs l).size : Int)).toNat, ?_, ?_⟩
    · have := Int.emod_nonneg x hne
      omega
    · have := Int.emod_lt_of_pos x (show (0 : Int) < ((bs l).size : Int) by omega)
      have := Int.emod_nonneg x hne
      omega
  have hcv := fun (W : World) => Lib.run_convert_string_bytes (P := Try.prog) W 9 30 5 (bs l) Try.underlying9 Try.underlying30 Try.underlying5
  have hcm := fun (W : World) (j : Nat) => World.cell?_alloc_mark W #[Value.int IntKind.u8 45, Value.int IntKind.u8 97, Value.int IntKind.u8 32, Value.int IntKind.u8 46, Value.int IntKind.u8 33] 5 (5, 6) j
  have kc := fun (W : World) (C : Array Value) (n c : Nat) => Lib.run_convert_bytes_const (P := Try.prog) W 30 5 C n c Try.underlying30 Try.underlying5
  clear hs
  go_enter Try.func5, Try.ntmps5
  go_wp2_with (first | (go_at_call 9; refine (bic_Check.calls _ 0 _ HK).mono ?_; rintro e w1 ⟨rfl, hb1⟩) | (go_at_call 11; refine (bic_Full.calls _ _ _ _ HF).mono ?_; rintro e w2 ⟨rfl, hb2⟩; clear HF) | (go_at_call 12; refine (bic_Short.calls _ _ _ _ HT).mono ?_; rintro e w3 ⟨rfl, hb3⟩; clear HT) | (go_at_call 13; refine (bic_Address.calls _ _ _ _ HA).mono ?_; rintro e w4 ⟨rfl, hb4⟩))
  go_wp2_with (first | (go_at_call 11; refine (bic_Full.calls _ _ _ _ HF2).mono ?_; rintro e w6 ⟨rfl, hb6⟩; clear HF2) | (go_at_call 12; refine (bic_Short.calls _ _ _ _ HT2).mono ?_; rintro e w5 ⟨rfl, hb5⟩; clear HT2))
  refine (bic_Of.calls _ _ _ _ HO).mono ?_
  rintro e w7 ⟨rfl, hb7⟩
  have hsz7 : w7.heap.size < (Lib.bytesWorld w7 5 (bs l)).heap.size := by rw [Lib.bytesWorld_size]; exact Nat.lt_succ_self _
  have hmc := Lib.bytesWorld_cell w7 5 (bs l) m hmlt
  have hmf := GBytes.bytes_frozen w7 5 (bs l) m hmlt
  have hbk := GBytes.bytes_back_num (P := Try.prog) 30 9 5 Try.underlying30 Try.underlying5 Try.underlying9 w7 (bs l) (.cells #[Value.int IntKind.u8 45, Value.int IntKind.u8 97, Value.int IntKind.u8 32, Value.int IntKind.u8 46, Value.int IntKind.u8 33] 5 (5, 6)) m hmlt 97 97 rfl (bs (l.set m 97)) (by rw [bs_data]; rfl) (grownCap w7 (bs l).size 0 5)
  have hK2 := Lib.hid (show bic_Check.f (bs (l.set m 97)) = some 14 by rw [check_f, chk_set hc m 97 (by rw [bs_size] at hmlt; exact hmlt) (by decide)]; rfl)
  go_wp2_with (first | (go_at_call 9; refine (bic_Check.calls _ 14 _ hK2).mono ?_; rintro e w8 ⟨rfl, hb8⟩) | (go_at_call 10; refine (remitterlaw04_wakes.calls true _ wakes_ok).mono ?_; rintro e w9 ⟨rfl, hb9⟩))
  go_ret
  refine ⟨rfl, ?_⟩
  have c1 := below_then hb1 hb1.size hb2
  have c2 := below_then c1 c1.size hb3
  have c3 := below_then c2 c2.size hb4
  have c4 := below_then c3 c3.size hb5
  have c5 := below_then c4 c4.size hb6
  have c6 := below_then c5 c5.size hb7
  have c7 := below_then c6 c6.size (GBytes.bytes_below w7 5 (bs l))
  have c8 := (c7.setCell (p := ⟨w7.heap.size, m, none⟩) c6.size (.int .u8 97)).alloc (by simpa [World.setCell] using c7.size) (.cells #[Value.int IntKind.u8 45, Value.int IntKind.u8 97, Value.int IntKind.u8 32, Value.int IntKind.u8 46, Value.int IntKind.u8 33] 5 (5, 6))
  have c9 := below_then c8 c8.size hb8
  exact below_then c9 c9.size hb9

set_option maxRecDepth 100000 in
set_option maxHeartbeats 1000000 in
theorem turns_good2 (l : List UInt8) (hl : l.length ≤ 60) (hc : chk l = true) (x y : Int) (hx : 0 ≤ x ∧ x ≤ 255) (hy : 0 ≤ y ∧ y ≤ 255) (hq : y % 5 = 2) (w : World) :
    Calls Try.prog 5 #[.string (bs l), .int .u8 x, .int .u8 y] w fun e w' => e = .returned (.bool true) ∧ Below w.heap.size w w' := by
  have el := chk_len hc
  have hs : (bs l).size = l.length := bs_size l
  have HS := Lib.hid hs
  have hgt : decide (60 < ((bs l).size : Int)) = false := by simp; omega
  have HK := Lib.hid (show bic_Check.f (bs l) = some 0 by rw [check_f, hc]; rfl)
  have HF := Lib.hid (show bic_Full.f (bs l) = some (bs (fullL l), 0) by rw [full_f, hc]; rfl)
  have HT := Lib.hid (show bic_Short.f (bs l) = some (bs (shortL l), 0) by rw [short_f, hc]; rfl)
  have HA := Lib.hid (show bic_Address.f (bs l) = some (bs (addrL l), 0) by rw [address_f, hc]; rfl)
  have hF : (((bs (fullL l)).size : Int) != 11) = false := by rw [bs_size, fullL_len el]; rfl
  have hAd : (((bs (addrL l)).size : Int) != 12) = false := by rw [bs_size, addrL_len el]; rfl
  have HT2 := Lib.hid (show bic_Short.f (bs (fullL l)) = some (bs (shortL l), 0) by rw [short_f, chk_full hc, short_full el]; rfl)
  have HF2 := Lib.hid (show bic_Full.f (bs (shortL l)) = some (bs (fullL l), 0) by rw [full_f, chk_short hc, full_short el]; rfl)
  have HO := Lib.hid (show bic_Of.f (bs (addrL l)) = some (bs (shortL l), 0) by rw [of_f, chkA_addr hc, of_addr el, chk_full hc, short_full el]; rfl)
  have hne : ¬ ((bs l).size : Int) = 0 := by omega
  obtain ⟨m, hm, hmlt⟩ : ∃ m : Nat, x % ((bs l).size : Int) = (m : Int) ∧ m < (bs l).size := by
    refine ⟨(x % ((bs l).size : Int)).toNat, ?_, ?_⟩
    · have := Int.emod_nonneg x hne
      omega
    · have := Int.emod_lt_of_pos x (show (0 : Int) < ((bs l).size : Int) by omega)
      have := Int.emod_nonneg x hne
      omega
  have hcv := fun (W : World) => Lib.run_convert_string_bytes (P := Try.prog) W 9 30 5 (bs l) Try.underlying9 Try.underlying30 Try.underlying5
  have hcm := fun (W : World) (j : Nat) => World.cell?_alloc_mark W #[Value.int IntKind.u8 45, Value.int IntKind.u8 97, Value.int IntKind.u8 32, Value.int IntKind.u8 46, Value.int IntKind.u8 33] 5 (5, 6) j
  have kc := fun (W : World) (C : Array Value) (n c : Nat) => Lib.run_convert_bytes_const (P := Try.prog) W 30 5 C n c Try.underlying30 Try.underlying5
  clear hs
  go_enter Try.func5, Try.ntmps5
  go_wp2_with (first | (go_at_call 9; refine (bic_Check.calls _ 0 _ HK).mono ?_; rintro e w1 ⟨rfl, hb1⟩) | (go_at_call 11; refine (bic_Full.calls _ _ _ _ HF).mono ?_; rintro e w2 ⟨rfl, hb2⟩; clear HF) | (go_at_call 12; refine (bic_Short.calls _ _ _ _ HT).mono ?_; rintro e w3 ⟨rfl, hb3⟩; clear HT) | (go_at_call 13; refine (bic_Address.calls _ _ _ _ HA).mono ?_; rintro e w4 ⟨rfl, hb4⟩))
  go_wp2_with (first | (go_at_call 11; refine (bic_Full.calls _ _ _ _ HF2).mono ?_; rintro e w6 ⟨rfl, hb6⟩; clear HF2) | (go_at_call 12; refine (bic_Short.calls _ _ _ _ HT2).mono ?_; rintro e w5 ⟨rfl, hb5⟩; clear HT2))
  refine (bic_Of.calls _ _ _ _ HO).mono ?_
  rintro e w7 ⟨rfl, hb7⟩
  have hsz7 : w7.heap.size < (Lib.bytesWorld w7 5 (bs l)).heap.size := by rw [Lib.bytesWorld_size]; exact Nat.lt_succ_self _
  have hmc := Lib.bytesWorld_cell w7 5 (bs l) m hmlt
  have hmf := GBytes.bytes_frozen w7 5 (bs l) m hmlt
  have hbk := GBytes.bytes_back_num (P := Try.prog) 30 9 5 Try.underlying30 Try.underlying5 Try.underlying9 w7 (bs l) (.cells #[Value.int IntKind.u8 45, Value.int IntKind.u8 97, Value.int IntKind.u8 32, Value.int IntKind.u8 46, Value.int IntKind.u8 33] 5 (5, 6)) m hmlt 32 32 rfl (bs (l.set m 32)) (by rw [bs_data]; rfl) (grownCap w7 (bs l).size 0 5)
  have hK2 := Lib.hid (show bic_Check.f (bs (l.set m 32)) = some 14 by rw [check_f, chk_set hc m 32 (by rw [bs_size] at hmlt; exact hmlt) (by decide)]; rfl)
  go_wp2_with (first | (go_at_call 9; refine (bic_Check.calls _ 14 _ hK2).mono ?_; rintro e w8 ⟨rfl, hb8⟩) | (go_at_call 10; refine (remitterlaw04_wakes.calls true _ wakes_ok).mono ?_; rintro e w9 ⟨rfl, hb9⟩))
  go_ret
  refine ⟨rfl, ?_⟩
  have c1 := below_then hb1 hb1.size hb2
  have c2 := below_then c1 c1.size hb3
  have c3 := below_then c2 c2.size hb4
  have c4 := below_then c3 c3.size hb5
  have c5 := below_then c4 c4.size hb6
  have c6 := below_then c5 c5.size hb7
  have c7 := below_then c6 c6.size (GBytes.bytes_below w7 5 (bs l))
  have c8 := (c7.setCell (p := ⟨w7.heap.size, m, none⟩) c6.size (.int .u8 32)).alloc (by simpa [World.setCell] using c7.size) (.cells #[Value.int IntKind.u8 45, Value.int IntKind.u8 97, Value.int IntKind.u8 32, Value.int IntKind.u8 46, Value.int IntKind.u8 33] 5 (5, 6))
  have c9 := below_then c8 c8.size hb8
  exact below_then c9 c9.size hb9

set_option maxRecDepth 100000 in
set_option maxHeartbeats 1000000 in
theorem turns_good3 (l : List UInt8) (hl : l.length ≤ 60) (hc : chk l = true) (x y : Int) (hx : 0 ≤ x ∧ x ≤ 255) (hy : 0 ≤ y ∧ y ≤ 255) (hq : y % 5 = 3) (w : World) :
    Calls Try.prog 5 #[.string (bs l), .int .u8 x, .int .u8 y] w fun e w' => e = .returned (.bool true) ∧ Below w.heap.size w w' := by
  have el := chk_len hc
  have hs : (bs l).size = l.length := bs_size l
  have HS := Lib.hid hs
  have hgt : decide (60 < ((bs l).size : Int)) = false := by simp; omega
  have HK := Lib.hid (show bic_Check.f (bs l) = some 0 by rw [check_f, hc]; rfl)
  have HF := Lib.hid (show bic_Full.f (bs l) = some (bs (fullL l), 0) by rw [full_f, hc]; rfl)
  have HT := Lib.hid (show bic_Short.f (bs l) = some (bs (shortL l), 0) by rw [short_f, hc]; rfl)
  have HA := Lib.hid (show bic_Address.f (bs l) = some (bs (addrL l), 0) by rw [address_f, hc]; rfl)
  have hF : (((bs (fullL l)).size : Int) != 11) = false := by rw [bs_size, fullL_len el]; rfl
  have hAd : (((bs (addrL l)).size : Int) != 12) = false := by rw [bs_size, addrL_len el]; rfl
  have HT2 := Lib.hid (show bic_Short.f (bs (fullL l)) = some (bs (shortL l), 0) by rw [short_f, chk_full hc, short_full el]; rfl)
  have HF2 := Lib.hid (show bic_Full.f (bs (shortL l)) = some (bs (fullL l), 0) by rw [full_f, chk_short hc, full_short el]; rfl)
  have HO := Lib.hid (show bic_Of.f (bs (addrL l)) = some (bs (shortL l), 0) by rw [of_f, chkA_addr hc, of_addr el, chk_full hc, short_full el]; rfl)
  have hne : ¬ ((bs l).size : Int) = 0 := by omega
  obtain ⟨m, hm, hmlt⟩ : ∃ m : Nat, x % ((bs l).size : Int) = (m : Int) ∧ m < (bs l).size := by
    refine ⟨(x % ((bs l).size : Int)).toNat, ?_, ?_⟩
    · have := Int.emod_nonneg x hne
      omega
    · have := Int.emod_lt_of_pos x (show (0 : Int) < ((bs l).size : Int) by omega)
      have := Int.emod_nonneg x hne
      omega
  have hcv := fun (W : World) => Lib.run_convert_string_bytes (P := Try.prog) W 9 30 5 (bs l) Try.underlying9 Try.underlying30 Try.underlying5
  have hcm := fun (W : World) (j : Nat) => World.cell?_alloc_mark W #[Value.int IntKind.u8 45, Value.int IntKind.u8 97, Value.int IntKind.u8 32, Value.int IntKind.u8 46, Value.int IntKind.u8 33] 5 (5, 6) j
  have kc := fun (W : World) (C : Array Value) (n c : Nat) => Lib.run_convert_bytes_const (P := Try.prog) W 30 5 C n c Try.underlying30 Try.underlying5
  clear hs
  go_enter Try.func5, Try.ntmps5
  go_wp2_with (first | (go_at_call 9; refine (bic_Check.calls _ 0 _ HK).mono ?_; rintro e w1 ⟨rfl, hb1⟩) | (go_at_call 11; refine (bic_Full.calls _ _ _ _ HF).mono ?_; rintro e w2 ⟨rfl, hb2⟩; clear HF) | (go_at_call 12; refine (bic_Short.calls _ _ _ _ HT).mono ?_; rintro e w3 ⟨rfl, hb3⟩; clear HT) | (go_at_call 13; refine (bic_Address.calls _ _ _ _ HA).mono ?_; rintro e w4 ⟨rfl, hb4⟩))
  go_wp2_with (first | (go_at_call 11; refine (bic_Full.calls _ _ _ _ HF2).mono ?_; rintro e w6 ⟨rfl, hb6⟩; clear HF2) | (go_at_call 12; refine (bic_Short.calls _ _ _ _ HT2).mono ?_; rintro e w5 ⟨rfl, hb5⟩; clear HT2))
  refine (bic_Of.calls _ _ _ _ HO).mono ?_
  rintro e w7 ⟨rfl, hb7⟩
  have hsz7 : w7.heap.size < (Lib.bytesWorld w7 5 (bs l)).heap.size := by rw [Lib.bytesWorld_size]; exact Nat.lt_succ_self _
  have hmc := Lib.bytesWorld_cell w7 5 (bs l) m hmlt
  have hmf := GBytes.bytes_frozen w7 5 (bs l) m hmlt
  have hbk := GBytes.bytes_back_num (P := Try.prog) 30 9 5 Try.underlying30 Try.underlying5 Try.underlying9 w7 (bs l) (.cells #[Value.int IntKind.u8 45, Value.int IntKind.u8 97, Value.int IntKind.u8 32, Value.int IntKind.u8 46, Value.int IntKind.u8 33] 5 (5, 6)) m hmlt 46 46 rfl (bs (l.set m 46)) (by rw [bs_data]; rfl) (grownCap w7 (bs l).size 0 5)
  have hK2 := Lib.hid (show bic_Check.f (bs (l.set m 46)) = some 14 by rw [check_f, chk_set hc m 46 (by rw [bs_size] at hmlt; exact hmlt) (by decide)]; rfl)
  go_wp2_with (first | (go_at_call 9; refine (bic_Check.calls _ 14 _ hK2).mono ?_; rintro e w8 ⟨rfl, hb8⟩) | (go_at_call 10; refine (remitterlaw04_wakes.calls true _ wakes_ok).mono ?_; rintro e w9 ⟨rfl, hb9⟩))
  go_ret
  refine ⟨rfl, ?_⟩
  have c1 := below_then hb1 hb1.size hb2
  have c2 := below_then c1 c1.size hb3
  have c3 := below_then c2 c2.size hb4
  have c4 := below_then c3 c3.size hb5
  have c5 := below_then c4 c4.size hb6
  have c6 := below_then c5 c5.size hb7
  have c7 := below_then c6 c6.size (GBytes.bytes_below w7 5 (bs l))
  have c8 := (c7.setCell (p := ⟨w7.heap.size, m, none⟩) c6.size (.int .u8 46)).alloc (by simpa [World.setCell] using c7.size) (.cells #[Value.int IntKind.u8 45, Value.int IntKind.u8 97, Value.int IntKind.u8 32, Value.int IntKind.u8 46, Value.int IntKind.u8 33] 5 (5, 6))
  have c9 := below_then c8 c8.size hb8
  exact below_then c9 c9.size hb9

set_option maxRecDepth 100000 in
set_option maxHeartbeats 1000000 in
theorem turns_good4 (l : List UInt8) (hl : l.length ≤ 60) (hc : chk l = true) (x y : Int) (hx : 0 ≤ x ∧ x ≤ 255) (hy : 0 ≤ y ∧ y ≤ 255) (hq : y % 5 = 4) (w : World) :
    Calls Try.prog 5 #[.string (bs l), .int .u8 x, .int .u8 y] w fun e w' => e = .returned (.bool true) ∧ Below w.heap.size w w' := by
  have el := chk_len hc
  have hs : (bs l).size = l.length := bs_size l
  have HS := Lib.hid hs
  have hgt : decide (60 < ((bs l).size : Int)) = false := by simp; omega
  have HK := Lib.hid (show bic_Check.f (bs l) = some 0 by rw [check_f, hc]; rfl)
  have HF := Lib.hid (show bic_Full.f (bs l) = some (bs (fullL l), 0) by rw [full_f, hc]; rfl)
  have HT := Lib.hid (show bic_Short.f (bs l) = some (bs (shortL l), 0) by rw [short_f, hc]; rfl)
  have HA := Lib.hid (show bic_Address.f (bs l) = some (bs (addrL l), 0) by rw [address_f, hc]; rfl)
  have hF : (((bs (fullL l)).size : Int) != 11) = false := by rw [bs_size, fullL_len el]; rfl
  have hAd : (((bs (addrL l)).size : Int) != 12) = false := by rw [bs_size, addrL_len el]; rfl
  have HT2 := Lib.hid (show bic_Short.f (bs (fullL l)) = some (bs (shortL l), 0) by rw [short_f, chk_full hc, short_full el]; rfl)
  have HF2 := Lib.hid (show bic_Full.f (bs (shortL l)) = some (bs (fullL l), 0) by rw [full_f, chk_short hc, full_short el]; rfl)
  have HO := Lib.hid (show bic_Of.f (bs (addrL l)) = some (bs (shortL l), 0) by rw [of_f, chkA_addr hc, of_addr el, chk_full hc, short_full el]; rfl)
  have hne : ¬ ((bs l).size : Int) = 0 := by omega
  obtain ⟨m, hm, hmlt⟩ : ∃ m : Nat, x % ((bs l).size : Int) = (m : Int) ∧ m < (bs l).size := by
    refine ⟨(x % ((bs l).size : Int)).toNat, ?_, ?_⟩
    · have := Int.emod_nonneg x hne
      omega
    · have := Int.emod_lt_of_pos x (show (0 : Int) < ((bs l).size : Int) by omega)
      have := Int.emod_nonneg x hne
      omega
  have hcv := fun (W : World) => Lib.run_convert_string_bytes (P := Try.prog) W 9 30 5 (bs l) Try.underlying9 Try.underlying30 Try.underlying5
  have hcm := fun (W : World) (j : Nat) => World.cell?_alloc_mark W #[Value.int IntKind.u8 45, Value.int IntKind.u8 97, Value.int IntKind.u8 32, Value.int IntKind.u8 46, Value.int IntKind.u8 33] 5 (5, 6) j
  have kc := fun (W : World) (C : Array Value) (n c : Nat) => Lib.run_convert_bytes_const (P := Try.prog) W 30 5 C n c Try.underlying30 Try.underlying5
  clear hs
  go_enter Try.func5, Try.ntmps5
  go_wp2_with (first | (go_at_call 9; refine (bic_Check.calls _ 0 _ HK).mono ?_; rintro e w1 ⟨rfl, hb1⟩) | (go_at_call 11; refine (bic_Full.calls _ _ _ _ HF).mono ?_; rintro e w2 ⟨rfl, hb2⟩; clear HF) | (go_at_call 12; refine (bic_Short.calls _ _ _ _ HT).mono ?_; rintro e w3 ⟨rfl, hb3⟩; clear HT) | (go_at_call 13; refine (bic_Address.calls _ _ _ _ HA).mono ?_; rintro e w4 ⟨rfl, hb4⟩))
  go_wp2_with (first | (go_at_call 11; refine (bic_Full.calls _ _ _ _ HF2).mono ?_; rintro e w6 ⟨rfl, hb6⟩; clear HF2) | (go_at_call 12; refine (bic_Short.calls _ _ _ _ HT2).mono ?_; rintro e w5 ⟨rfl, hb5⟩; clear HT2))
  refine (bic_Of.calls _ _ _ _ HO).mono ?_
  rintro e w7 ⟨rfl, hb7⟩
  have hsz7 : w7.heap.size < (Lib.bytesWorld w7 5 (bs l)).heap.size := by rw [Lib.bytesWorld_size]; exact Nat.lt_succ_self _
  have hmc := Lib.bytesWorld_cell w7 5 (bs l) m hmlt
  have hmf := GBytes.bytes_frozen w7 5 (bs l) m hmlt
  have hbk := GBytes.bytes_back_num (P := Try.prog) 30 9 5 Try.underlying30 Try.underlying5 Try.underlying9 w7 (bs l) (.cells #[Value.int IntKind.u8 45, Value.int IntKind.u8 97, Value.int IntKind.u8 32, Value.int IntKind.u8 46, Value.int IntKind.u8 33] 5 (5, 6)) m hmlt 33 33 rfl (bs (l.set m 33)) (by rw [bs_data]; rfl) (grownCap w7 (bs l).size 0 5)
  have hK2 := Lib.hid (show bic_Check.f (bs (l.set m 33)) = some 14 by rw [check_f, chk_set hc m 33 (by rw [bs_size] at hmlt; exact hmlt) (by decide)]; rfl)
  go_wp2_with (first | (go_at_call 9; refine (bic_Check.calls _ 14 _ hK2).mono ?_; rintro e w8 ⟨rfl, hb8⟩) | (go_at_call 10; refine (remitterlaw04_wakes.calls true _ wakes_ok).mono ?_; rintro e w9 ⟨rfl, hb9⟩))
  go_ret
  refine ⟨rfl, ?_⟩
  have c1 := below_then hb1 hb1.size hb2
  have c2 := below_then c1 c1.size hb3
  have c3 := below_then c2 c2.size hb4
  have c4 := below_then c3 c3.size hb5
  have c5 := below_then c4 c4.size hb6
  have c6 := below_then c5 c5.size hb7
  have c7 := below_then c6 c6.size (GBytes.bytes_below w7 5 (bs l))
  have c8 := (c7.setCell (p := ⟨w7.heap.size, m, none⟩) c6.size (.int .u8 33)).alloc (by simpa [World.setCell] using c7.size) (.cells #[Value.int IntKind.u8 45, Value.int IntKind.u8 97, Value.int IntKind.u8 32, Value.int IntKind.u8 46, Value.int IntKind.u8 33] 5 (5, 6))
  have c9 := below_then c8 c8.size hb8
  exact below_then c9 c9.size hb9

theorem turns_any (l : List UInt8) (x y : Int) (hx : 0 ≤ x ∧ x ≤ 255) (hy : 0 ≤ y ∧ y ≤ 255) (w : World) :
    Calls Try.prog 5 #[.string (bs l), .int .u8 x, .int .u8 y] w fun e w' => e = .returned (.bool true) ∧ Below w.heap.size w w' := by
  by_cases hl : l.length ≤ 60
  · cases hc : chk l
    · exact turns_bad l hl hc x y w
    · rcases (show y % 5 = 0 ∨ y % 5 = 1 ∨ y % 5 = 2 ∨ y % 5 = 3 ∨ y % 5 = 4 by omega) with h | h | h | h | h
      · exact turns_good0 l hl hc x y hx hy h w
      · exact turns_good1 l hl hc x y hx hy h w
      · exact turns_good2 l hl hc x y hx hy h w
      · exact turns_good3 l hl hc x y hx hy h w
      · exact turns_good4 l hl hc x y hx hy h w
  · exact turns_long l (by omega) x y w
def remitterlaw04_BicTurns.Pure : Prop := True
theorem u8_range {x : Int} (h : (Lit.int .u8 x).wf = true) : 0 ≤ x ∧ x ≤ 255 := by
  have hmin : IntKind.u8.min = 0 := rfl
  have hmax : IntKind.u8.max = 255 := rfl
  simp only [Lit.wf, Bool.and_eq_true, decide_eq_true_eq] at h
  omega
theorem remitterlaw04_BicTurns.walk (_P : remitterlaw04_BicTurns.Pure) (a0 : ByteArray) (a1 : Int) (a2 : Int) (w : World) (_w0 : a0.size ≤ 140737488351232) (w1 : (Lit.int .u8 a1).wf = true) (w2 : (Lit.int .u8 a2).wf = true) :
    Calls Try.prog 5 #[.string a0, .int .u8 a1, .int .u8 a2] w fun e w' => e = .returned (.bool true) ∧ Below w.heap.size w w' := by
  obtain ⟨l, rfl⟩ := bs_ex a0
  exact turns_any l a1 a2 (u8_range w1) (u8_range w2) w
end Go.Proofs.Ytjemnphmjbodfaa.PAll
