/- The document's answer for messages: texts, bytes of a set, the first fault, addresses: as plain functions. -/
import Derived.Test.YtkklccccjmipkaaDoorZPFReadsx2
import Derived.Test.YtkklccccjmipkaaDoorZGFin
namespace Go.Proofs.YtkklccccjmipkaaDoor.Pure
open Go.RowKit Go.Proofs.YtkklccccjmipkaaDoor.PAll Go.Proofs.YtkklccccjmipkaaDoorW.PrintWords GPlain
open Go.Proofs.YtkklccccjmipkaaDoor.Fin
set_option linter.unusedSimpArgs false
theorem drop_at {l : List UInt8} {i : Nat} (h : i < l.length) : l.drop i = l[i] :: l.drop (i + 1) := List.drop_eq_getElem_cons h
theorem getD_at {l : List UInt8} {i : Nat} (h : i < l.length) : l.getD i 0 = l[i] := by rw [List.getD_eq_getElem?_getD, List.getElem?_eq_getElem h]; rfl
/-- How far a text comes. -/
theorem text_l0 (s t : List UInt8) (a : Nat) (hs : s.length ≤ 4000) (ht : t.length ≤ 4000) (ha : a ≤ s.length) : ∀ (n j k : Nat), j + n = t.length → n < k →
    remitterref14_text.l0 k (bs s) (a : Int) (bs t) (j : Int) = some (((a + j + com (s.drop (a + j)) (t.drop j) : Nat) : Int), decide (com (s.drop (a + j)) (t.drop j) = t.length - j))
  | 0, j, k, hj, hk => by
    obtain ⟨k, rfl⟩ : ∃ k', k = k' + 1 := ⟨k - 1, by omega⟩
    unfold remitterref14_text.l0
    rw [bs_size, if_neg (by omega), List.drop_of_length_le (show t.length ≤ j by omega), com_end, wrap_ok (by omega) (by omega)]
    congr 2
    · omega
    · rw [decide_eq_true]; omega
  | n + 1, j, k, hj, hk => by
    obtain ⟨k, rfl⟩ : ∃ k', k = k' + 1 := ⟨k - 1, by omega⟩
    have hjt : j < t.length := by omega
    unfold remitterref14_text.l0
    rw [bs_size, bs_size, if_pos (by omega), wrap_ok (by omega) (by omega), drop_at hjt]
    by_cases hlt : a + j < s.length
    · rw [if_neg (by omega), if_pos (by omega), if_pos (by omega), if_pos (by omega), show ((a : Int) + (j : Int)) = ((a + j : Nat) : Int) by omega, bt_nat, bt_nat, getD_at hlt, getD_at hjt, drop_at hlt]
      have ih := text_l0 s t a hs ht ha n (j + 1) k (by omega) (by omega)
      by_cases hc : s[a + j] = t[j]
      · rw [if_pos (by rw [hc]), wrap_ok (by omega) (by omega), show ((j : Int) + 1) = ((j + 1 : Nat) : Int) by omega, ih]
        have e : com (s[a + j] :: s.drop (a + j + 1)) (t[j] :: t.drop (j + 1)) = com (s.drop (a + j + 1)) (t.drop (j + 1)) + 1 := by show (if s[a + j] = t[j] then _ else _) = _; rw [if_pos hc]
        rw [e, show a + (j + 1) = a + j + 1 by omega]
        congr 2
        · omega
        · congr 1; apply propext; omega
      · have e : com (s[a + j] :: s.drop (a + j + 1)) (t[j] :: t.drop (j + 1)) = 0 := by show (if s[a + j] = t[j] then _ else _) = _; rw [if_neg hc]
        rw [if_neg (by intro h; apply hc; exact UInt8.toNat_inj.1 (by omega)), e]
        congr 2
        rw [eq_comm, decide_eq_false_iff_not]; omega
    · rw [if_pos (by omega), List.drop_of_length_le (show s.length ≤ a + j by omega)]
      have e : com [] (t[j] :: t.drop (j + 1)) = 0 := rfl
      rw [e]
      congr 2
      rw [eq_comm, decide_eq_false_iff_not]; omega
theorem text_f (s t : List UInt8) (a k : Nat) (hs : s.length ≤ 4000) (ht : t.length ≤ 100) (ha : a ≤ s.length) (hk : 200 ≤ k) :
    remitterref14_text.f k (bs s) (a : Int) (bs t) = some (((a + com (s.drop a) t : Nat) : Int), decide (com (s.drop a) t = t.length)) := by
  have h := text_l0 s t a hs (by omega) ha t.length 0 k (by omega) (by omega)
  exact h
def digsL : List UInt8 := [48, 49, 50, 51, 52, 53, 54, 55, 56, 57]
def hexsL : List UInt8 := [48, 49, 50, 51, 52, 53, 54, 55, 56, 57, 65, 66, 67, 68, 69, 70]
theorem digs_in : ∀ c : Fin 256, decide (0 ≤ Lib.indexByte digsL (UInt8.ofNat c.val)) = decide (48 ≤ c.val ∧ c.val ≤ 57) := by decide +kernel
theorem hexs_in : ∀ c : Fin 256, decide (0 ≤ Lib.indexByte hexsL (UInt8.ofNat c.val)) = decide ((48 ≤ c.val ∧ c.val ≤ 57) ∨ (65 ≤ c.val ∧ c.val ≤ 70)) := by decide +kernel
def setL (b : Bool) : List UInt8 := if b = true then hexsL else digsL
theorem set_in (b : Bool) (c : UInt8) : 0 ≤ Lib.indexByte (setL b) c ↔ ((48 ≤ c.toNat ∧ c.toNat ≤ 57) ∨ (b = true ∧ 65 ≤ c.toNat ∧ c.toNat ≤ 70)) := by
  have hc : UInt8.ofNat c.toNat = c := by simp
  have hlt := UInt8.toNat_lt c
  cases b
  · have h := digs_in ⟨c.toNat, hlt⟩
    simp only [hc, decide_eq_decide] at h
    show 0 ≤ Lib.indexByte digsL c ↔ _
    rw [h]
    simp
  · have h := hexs_in ⟨c.toNat, hlt⟩
    simp only [hc, decide_eq_decide] at h
    show 0 ≤ Lib.indexByte hexsL c ↔ _
    rw [h]
    simp
theorem some_l0 (s : List UInt8) (a N : Nat) (b : Bool) (hs : s.length ≤ 4000) (hN : N ≤ 100) (ha : a ≤ s.length) : ∀ (n j k : Nat), j + n = N → n < k →
    remitterref14_some.l0 k (bs s) (a : Int) (N : Int) b (j : Int) = some (((a + j + cnt (setL b) n (s.drop (a + j)) : Nat) : Int), decide (cnt (setL b) n (s.drop (a + j)) = n))
  | 0, j, k, hj, hk => by
    obtain ⟨k, rfl⟩ : ∃ k', k = k' + 1 := ⟨k - 1, by omega⟩
    unfold remitterref14_some.l0
    rw [if_neg (by omega), wrap_ok (by omega) (by omega)]
    have e : cnt (setL b) 0 (s.drop (a + j)) = 0 := rfl
    rw [e]
    congr 2
    omega
  | n + 1, j, k, hj, hk => by
    obtain ⟨k, rfl⟩ : ∃ k', k = k' + 1 := ⟨k - 1, by omega⟩
    unfold remitterref14_some.l0
    rw [bs_size, if_pos (by omega), wrap_ok (by omega) (by omega)]
    by_cases hlt : a + j < s.length
    · rw [if_neg (by omega), if_pos (by omega), if_pos (by omega), show ((a : Int) + (j : Int)) = ((a + j : Nat) : Int) by omega, bt_nat, getD_at hlt, drop_at hlt]
      have ih := some_l0 s a N b hs hN ha n (j + 1) k (by omega) (by omega)
      have hw : wrap64 ((j : Int) + 1) = ((j + 1 : Nat) : Int) := by rw [wrap_ok (by omega) (by omega)]; omega
      rw [hw, ih]
      have hin := set_in b s[a + j]
      by_cases hc : 0 ≤ Lib.indexByte (setL b) s[a + j]
      · have hc2 := hin.1 hc
        have e : cnt (setL b) (n + 1) (s[a + j] :: s.drop (a + j + 1)) = cnt (setL b) n (s.drop (a + j + 1)) + 1 := by show (if 0 ≤ Lib.indexByte (setL b) s[a + j] then _ else _) = _; rw [if_pos hc]
        rw [e, show a + (j + 1) = a + j + 1 by omega]
        have fin : (some (((a + j + 1 + cnt (setL b) n (s.drop (a + j + 1)) : Nat) : Int), decide (cnt (setL b) n (s.drop (a + j + 1)) = n)) : Option (Int × Bool)) = some (((a + j + (cnt (setL b) n (s.drop (a + j + 1)) + 1) : Nat) : Int), decide (cnt (setL b) n (s.drop (a + j + 1)) + 1 = n + 1)) := by
          congr 2
          · omega
          · congr 1; apply propext; omega
        rw [← fin]
        repeat' split
        all_goals first
          | rfl
          | (exfalso; rcases hc2 with h | ⟨h, h3⟩ <;> first | omega | (subst h; simp_all; done) | (simp_all; omega))
      · have hc2 := fun h => hc (hin.2 h)
        have e : cnt (setL b) (n + 1) (s[a + j] :: s.drop (a + j + 1)) = 0 := by show (if 0 ≤ Lib.indexByte (setL b) s[a + j] then _ else _) = _; rw [if_neg hc]
        rw [e]
        have fin : (some (((a + j : Nat) : Int), false) : Option (Int × Bool)) = some (((a + j + 0 : Nat) : Int), decide (0 = n + 1)) := by
          congr 2
        rw [← fin]
        repeat' split
        all_goals first
          | rfl
          | (exfalso; exact hc2 (.inl ⟨by omega, by omega⟩))
          | (exfalso; exact hc2 (.inr ⟨by assumption, by omega, by omega⟩))
    · rw [if_pos (by omega), List.drop_of_length_le (show s.length ≤ a + j by omega)]
      have e : cnt (setL b) (n + 1) [] = 0 := rfl
      rw [e]
      congr 2
theorem some_f (s : List UInt8) (a N k : Nat) (b : Bool) (hs : s.length ≤ 4000) (hN : N ≤ 100) (ha : a ≤ s.length) (hk : 200 ≤ k) :
    remitterref14_some.f k (bs s) (a : Int) (N : Int) b = some (((a + cnt (setL b) N (s.drop a) : Nat) : Int), decide (cnt (setL b) N (s.drop a) = N)) :=
  some_l0 s a N b hs hN ha N 0 k (by omega) (by omega)
theorem letters_in : ∀ c : Fin 256, decide (0 ≤ Lib.indexByte letters.data.toList (UInt8.ofNat c.val)) = decide (65 ≤ c.val ∧ c.val ≤ 90) := by decide +kernel
theorem both_in : ∀ c : Fin 256, decide (0 ≤ Lib.indexByte lettersDigits.data.toList (UInt8.ofNat c.val)) = decide ((65 ≤ c.val ∧ c.val ≤ 90) ∨ (48 ≤ c.val ∧ c.val ≤ 57)) := by decide +kernel
theorem letter_f (c : UInt8) : remitterref04_letter.f (c.toNat : Int) = some (decide (0 ≤ Lib.indexByte letters.data.toList c)) := by
  have h := letters_in ⟨c.toNat, UInt8.toNat_lt c⟩
  simp only [show UInt8.ofNat c.toNat = c by simp] at h
  rw [h]
  unfold remitterref04_letter.f
  split
  · congr 1; rw [decide_eq_decide]; omega
  · congr 1; rw [eq_comm, decide_eq_false_iff_not]; omega
theorem both_f (c : UInt8) : remitterref04_both.f (c.toNat : Int) = some (decide (0 ≤ Lib.indexByte lettersDigits.data.toList c)) := by
  have h := both_in ⟨c.toNat, UInt8.toNat_lt c⟩
  simp only [show UInt8.ofNat c.toNat = c by simp] at h
  have h2 := letters_in ⟨c.toNat, UInt8.toNat_lt c⟩
  simp only [show UInt8.ofNat c.toNat = c by simp] at h2
  unfold remitterref04_both.f
  rw [letter_f, h, h2, Option.bind_some]
  by_cases hc : 65 ≤ c.toNat ∧ c.toNat ≤ 90
  · rw [decide_eq_true hc, if_pos rfl, decide_eq_true (.inl hc)]
  · rw [decide_eq_false hc, if_neg (by decide)]
    split
    · congr 1; rw [decide_eq_decide]; omega
    · congr 1; rw [eq_comm, decide_eq_false_iff_not]; omega
theorem both_of_letter {c : UInt8} (h : 0 ≤ Lib.indexByte letters.data.toList c) : 0 ≤ Lib.indexByte lettersDigits.data.toList c := by
  have h1 := letters_in ⟨c.toNat, UInt8.toNat_lt c⟩
  have h2 := both_in ⟨c.toNat, UInt8.toNat_lt c⟩
  simp only [show UInt8.ofNat c.toNat = c by simp] at h1 h2
  have := decide_eq_decide.1 h1
  exact (decide_eq_decide.1 h2).2 (.inl (this.1 h))
theorem shape_l0 (l : List UInt8) (hl : l.length = 12) : ∀ (n i k : Nat), i + n = 12 → n < k → remitterref04_shape.l0 k (bs l) 12 (i : Int) = some ((List.range' i n).all fun j => placeB j (l.getD j 0))
  | 0, i, k, hi, hk => by
    obtain ⟨k, rfl⟩ : ∃ k', k = k' + 1 := ⟨k - 1, by omega⟩
    unfold remitterref04_shape.l0
    rw [if_neg (by omega)]
    rfl
  | n + 1, i, k, hi, hk => by
    obtain ⟨k, rfl⟩ : ∃ k', k = k' + 1 := ⟨k - 1, by omega⟩
    have ih := shape_l0 l hl n (i + 1) k (by omega) (by omega)
    have hw : wrap64 ((i : Int) + 1) = ((i + 1 : Nat) : Int) := by rw [wrap_ok (by omega) (by omega)]; omega
    unfold remitterref04_shape.l0
    rw [bs_size, if_pos (by omega), if_pos (by omega), if_pos (by omega), bt_nat, both_f, letter_f, hw, ih, List.range'_succ, List.all_cons]
    generalize (List.range' (i + 1) n).all (fun j => placeB j (l.getD j 0)) = R
    simp only [Option.bind_some]
    obtain ⟨c, hc⟩ : ∃ c, l.getD i 0 = c := ⟨_, rfl⟩
    rw [hc]
    have hbl := @both_of_letter c
    unfold placeB placeS
    by_cases h4 : i = 4 ∨ i = 5
    · rw [if_pos h4]
      by_cases hL : 0 ≤ Lib.indexByte letters.data.toList c
      · rw [decide_eq_true hL, decide_eq_true (hbl hL), if_pos rfl, Bool.true_and, if_pos rfl]
        rcases h4 with h | h
        · rw [if_pos (by omega)]
        · rw [if_neg (by omega), if_pos (by omega)]
      · rw [decide_eq_false hL, Bool.false_and]
        repeat' split
        all_goals first | rfl | contradiction | (exfalso; omega) | simp_all
    · rw [if_neg h4]
      by_cases hL : 0 ≤ Lib.indexByte lettersDigits.data.toList c
      · rw [decide_eq_true hL, if_pos rfl, Bool.true_and, if_neg (by omega), if_neg (by omega)]
      · rw [decide_eq_false hL, Bool.false_and, if_neg (by decide)]
theorem addr_f (l : List UInt8) (k : Nat) (hl : l.length = 12) (hk : 20 ≤ k) : remitterref04_CheckAddress.f k (bs l) = some (cA (bs l)) := by
  have h := shape_l0 l hl 12 0 k (by omega) (by omega)
  unfold remitterref04_CheckAddress.f remitterref04_shape.f
  rw [bs_size, if_pos (by omega)]
  have h0 : ((0 : Nat) : Int) = 0 := rfl
  rw [← h0, h, Option.bind_some]
  unfold cA
  have e : goodB (bs l).data.toList = (List.range' 0 12).all fun j => placeB j (l.getD j 0) := by unfold goodB; rw [bs_data, hl, List.range_eq_range']
  rw [bs_size]
  by_cases hb : ((List.range' 0 12).all fun j => placeB j (l.getD j 0)) = true
  · rw [if_pos hb, if_pos ⟨hl, by rw [bs_data] at *; exact e.trans hb⟩]
    rfl
  · rw [if_neg hb, if_neg (fun h => hb (by rw [← e]; exact h.2))]
end Go.Proofs.YtkklccccjmipkaaDoor.Pure
