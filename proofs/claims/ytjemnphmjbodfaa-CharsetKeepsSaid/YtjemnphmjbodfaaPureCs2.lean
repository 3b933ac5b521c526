/- The reference's characters and what it substitutes: the same as the program's. -/
import Derived.Test.YtjemnphmjbodfaaPureCs
namespace Go.Proofs.Ytjemnphmjbodfaa.PAll
open Go.RowKit Go.Proofs.YtjemnphmjbodfaaW.PrintWords GPlain
set_option linter.unusedSimpArgs false

theorem lift_mono {α : Type} {f : Nat → Option α} (h : ∀ k, LeO (f k) (f (k + 1))) {k : Nat} {r : α} (hf : f k = some r) : ∀ n, f (k + n) = some r
  | 0 => hf
  | n + 1 => h _ _ (lift_mono h hf n)
theorem inX60 : ∀ n : Nat, n < 256 → remitterref05_In.f 60 88 (n : Int) = some (decide (0 ≤ Lib.indexByte setX (UInt8.ofNat n))) := by decide +kernel
theorem inY60 : ∀ n : Nat, n < 256 → remitterref05_In.f 60 89 (n : Int) = some (decide (0 ≤ Lib.indexByte setY (UInt8.ofNat n))) := by decide +kernel
theorem inZ60 : ∀ n : Nat, n < 256 → remitterref05_In.f 60 90 (n : Int) = some (decide (0 ≤ Lib.indexByte setZ (UInt8.ofNat n))) := by decide +kernel
theorem ofNat_toNat8 (c : UInt8) : UInt8.ofNat c.toNat = c := by simp
theorem inX_ok (c : UInt8) (k : Nat) : remitterref05_In.f (k + 60) 88 (c.toNat : Int) = some (decide (0 ≤ Lib.indexByte setX c)) := by
  have h := inX60 c.toNat (byte_lt c)
  rw [ofNat_toNat8] at h
  rw [Nat.add_comm k 60]
  exact lift_mono (fun k => remitterref05_In.mono 88 (c.toNat : Int) k) h k
theorem inY_ok (c : UInt8) (k : Nat) : remitterref05_In.f (k + 60) 89 (c.toNat : Int) = some (decide (0 ≤ Lib.indexByte setY c)) := by
  have h := inY60 c.toNat (byte_lt c)
  rw [ofNat_toNat8] at h
  rw [Nat.add_comm k 60]
  exact lift_mono (fun k => remitterref05_In.mono 89 (c.toNat : Int) k) h k
theorem inZ_ok (c : UInt8) (k : Nat) : remitterref05_In.f (k + 60) 90 (c.toNat : Int) = some (decide (0 ≤ Lib.indexByte setZ c)) := by
  have h := inZ60 c.toNat (byte_lt c)
  rw [ofNat_toNat8] at h
  rw [Nat.add_comm k 60]
  exact lift_mono (fun k => remitterref05_In.mono 90 (c.toNat : Int) k) h k

theorem dec_le (d : List UInt8) (hd : d ≠ []) : 1 ≤ (decL d).2 ∧ (decL d).2 ≤ d.length := by
  have hpos : 0 < d.length := List.length_pos_iff.2 hd
  unfold decL
  dsimp only
  repeat' split
  all_goals (simp only [Bool.and_eq_true, decide_eq_true_eq] at * <;> omega)
/-- A rune of one byte is that byte, or none. -/
theorem dec_ascii (d : List UInt8) : (decL d).1 < 128 ↔ (d.getD 0 0).toNat < 128 := by
  unfold decL
  dsimp only
  repeat' split
  all_goals (simp only [Bool.and_eq_true, decide_eq_true_eq, beq_iff_eq] at * <;> omega)
theorem dec_small (d : List UInt8) (h : (d.getD 0 0).toNat < 128) : decL d = ((d.getD 0 0).toNat, 1) := by
  unfold decL
  dsimp only
  rw [if_pos h]
/-- A text's characters, from its bytes on. -/
def charsL : Nat → List UInt8 → List (List UInt8)
  | 0, _ => []
  | f + 1, d => if d = [] then [] else d.take (decL d).2 :: charsL f (d.drop (decL d).2)
theorem charsL_nil (f : Nat) : charsL f [] = [] := by cases f <;> simp [charsL]
/-- What is put for a character. -/
def charSub (p : List UInt8) : List UInt8 := if p.length = 1 ∧ decide (0 ≤ Lib.indexByte setX (p.getD 0 0)) = true then p else [46]
theorem charSub_len (p : List UInt8) : (charSub p).length = 1 := by
  unfold charSub
  split
  · rename_i h; exact h.1
  · rfl
theorem encode_one (c : UInt8) (h : c.toNat < 128) : Lib.encodeRune (c.toNat : Int) = [c] := by
  unfold Lib.encodeRune Lib.encodeRuneZ
  rw [if_pos (by omega)]
  simp
theorem high_no : ∀ n : Nat, n < 256 → 128 ≤ n → decide (0 ≤ Lib.indexByte setX (UInt8.ofNat n)) = false := by decide +kernel
theorem sub_char (d : List UInt8) (hd : d ≠ []) : (if isX (decL d).1 = true then Lib.encodeRune ((decL d).1 : Int) else [46]) = charSub (d.take (decL d).2) := by
  have hle := dec_le d hd
  have hpos : 0 < d.length := List.length_pos_iff.2 hd
  have hg : (d.take (decL d).2).getD 0 0 = d.getD 0 0 := by
    rw [List.getD_eq_getElem?_getD, List.getElem?_take_of_lt (by omega), ← List.getD_eq_getElem?_getD]
  unfold charSub
  rw [hg]
  by_cases h : (d.getD 0 0).toNat < 128
  · rw [dec_small d h]
    dsimp only
    have h1 : (d.take 1).length = 1 := by rw [List.length_take]; omega
    have h2 : d.take 1 = [d.getD 0 0] := by
      cases d with
      | nil => exact absurd rfl hd
      | cons a r => simp
    unfold isX
    rw [decide_eq_true h, Bool.true_and, show ((d.getD 0 0).toNat).toUInt8 = d.getD 0 0 from ofNat_toNat8 _, encode_one _ h]
    cases hb : decide (0 ≤ Lib.indexByte setX (d.getD 0 0))
    · rw [if_neg (by decide), if_neg (by rintro ⟨_, e⟩; cases e)]
    · rw [if_pos rfl, if_pos ⟨h1, rfl⟩, h2]
  · have hn : ¬ (decL d).1 < 128 := fun e => h ((dec_ascii d).1 e)
    unfold isX
    rw [decide_eq_false hn, Bool.false_and, if_neg (by decide)]
    have := high_no (d.getD 0 0).toNat (byte_lt _) (by omega)
    rw [ofNat_toNat8] at this
    rw [if_neg (by rintro ⟨_, e⟩; rw [this] at e; cases e)]
theorem subst_chars (l : List UInt8) : ∀ (f pos : Nat), substFrom (bs l) f pos = ((charsL f (l.drop pos)).map charSub).flatten
  | 0, pos => by simp [substFrom, charsL]
  | f + 1, pos => by
    unfold substFrom charsL
    rw [bs_size, decode_list]
    by_cases h : pos < l.length
    · have hd : l.drop pos ≠ [] := by
        intro e
        have := congrArg List.length e
        rw [List.length_drop, List.length_nil] at this
        omega
      rw [if_pos h, if_neg hd, List.map_cons, List.flatten_cons, subst_chars l f, List.drop_drop, sub_char _ hd]
    · have hd : l.drop pos = [] := List.drop_of_length_le (by omega)
      rw [if_neg h, if_pos hd]
      rfl
def chars (l : List UInt8) : List (List UInt8) := charsL l.length l
theorem subst_l (l : List UInt8) : subst (bs l) = ((chars l).map charSub).flatten := by
  unfold subst chars
  rw [subst_chars, bs_size, List.drop_zero]
theorem charsL_len : ∀ (f : Nat) (d : List UInt8), (charsL f d).length ≤ f
  | 0, _ => by simp [charsL]
  | f + 1, d => by
    unfold charsL
    split
    · simp
    · have := charsL_len f (d.drop (decL d).2)
      simp only [List.length_cons]
      omega
theorem chars_l0 (l : List UInt8) (hl : l.length ≤ 2000000) : ∀ (f pos k : Nat) (acc : List ByteArray), l.length ≤ pos + f → pos ≤ l.length → acc.length + f < 8796093022208 → remitterref05_Chars.l0 (k + f + 9) (bs l) acc (pos : Int) = some (acc ++ (charsL f (l.drop pos)).map bs)
  | 0, pos, k, acc, h1, h2, h3 => by
    rw [remitterref05_Chars.l0, bs_size, if_neg (by omega)]
    simp [charsL]
  | f + 1, pos, k, acc, h1, h2, h3 => by
    rw [show k + (f + 1) + 9 = (k + f + 9) + 1 by omega, remitterref05_Chars.l0, bs_size]
    unfold charsL
    by_cases h : pos < l.length
    · have hd : l.drop pos ≠ [] := by
        intro e
        have := congrArg List.length e
        rw [List.length_drop, List.length_nil] at this
        omega
      have hw := dec_le _ hd
      rw [List.length_drop] at hw
      have e1 : wrap64 ((pos : Int) + ((decL (l.drop pos)).2 : Int)) = ((pos + (decL (l.drop pos)).2 : Nat) : Int) := by
        rw [wrap_ok (by omega) (by omega)]
        omega
      have e2 : remitterref05_size.f (k + f + 9) (bs (l.drop pos)) = some ((decL (l.drop pos)).2 : Int) := by
        rw [show k + f + 9 = (k + f + 1) + 8 by omega]
        exact size_f _ hd _
      rw [if_pos (by omega), if_pos (by omega), if_pos (by omega), Int.toNat_natCast, bs_extract, List.take_length, e2, Option.bind_some, e1, if_pos (by omega), if_pos (by omega), if_pos (by omega), Int.toNat_natCast, bs_extract, if_neg hd]
      rw [chars_l0 l hl f _ k _ (by omega) (by omega) (by simp only [List.length_append, List.length_cons, List.length_nil]; omega)]
      rw [List.drop_take, Nat.add_sub_cancel_left, List.drop_drop, List.append_assoc]
      rfl
    · have hd : l.drop pos = [] := List.drop_of_length_le (by omega)
      rw [if_neg (by omega), if_pos hd]
      simp
theorem chars_f (l : List UInt8) (hl : l.length ≤ 2000000) (k : Nat) : remitterref05_Chars.f (k + l.length + 9) (bs l) = some ((chars l).map bs) := by
  have := chars_l0 l hl l.length 0 k [] (by omega) (Nat.zero_le _) (by simp; omega)
  unfold remitterref05_Chars.f chars
  simpa using this
theorem rd_map (l : List (List UInt8)) (i : Nat) : rdOf ByteArray.empty (l.map bs) (i : Int) = bs (l.getD i []) := by
  unfold rdOf
  rw [Int.toNat_natCast, List.getD_eq_getElem?_getD, List.getD_eq_getElem?_getD, List.getElem?_map]
  cases l[i]? <;> rfl
theorem sub_l0 (cs : List (List UInt8)) (hc : cs.length ≤ 2000000) : ∀ (f i k : Nat) (acc : List UInt8), cs.length ≤ i + f → i ≤ cs.length → acc.length ≤ i → remitterref05_Substitute.l0 (k + f + 61) (bs acc) (cs.map bs) (i : Int) = some (bs (acc ++ ((cs.drop i).map charSub).flatten))
  | 0, i, k, acc, h1, h2, h3 => by
    rw [remitterref05_Substitute.l0, List.length_map, if_neg (by omega), List.drop_of_length_le (by omega)]
    simp
  | f + 1, i, k, acc, h1, h2, h3 => by
    rw [show k + (f + 1) + 61 = (k + f + 61) + 1 by omega, remitterref05_Substitute.l0, List.length_map]
    by_cases h : i < cs.length
    · have e1 : wrap64 ((i : Int) + 1) = ((i + 1 : Nat) : Int) := by
        rw [wrap_ok (by omega) (by omega)]
        omega
      have e3 : cs.drop i = cs.getD i [] :: cs.drop (i + 1) := by
        rw [List.drop_eq_getElem_cons h, List.getD_eq_getElem?_getD, List.getElem?_eq_getElem h]
        rfl
      rw [if_pos (by omega), if_pos (by omega), rd_map, bs_size, bs_size, e3, List.map_cons, List.flatten_cons, e1]
      have hcl := charSub_len (cs.getD i [])
      have go : ∀ p : List UInt8, p.length = 1 → remitterref05_Substitute.l0 (k + f + 61) (bs (acc ++ p)) (cs.map bs) ((i + 1 : Nat) : Int) = some (bs (acc ++ (p ++ ((cs.drop (i + 1)).map charSub).flatten))) := fun p hp => by
        rw [sub_l0 cs hc f (i + 1) k (acc ++ p) (by omega) (by omega) (by rw [List.length_append]; omega), List.append_assoc]
      have hdot : charSub (cs.getD i []) = [46] → (if (bs acc).size + 1 ≤ 9223372036854775807 then remitterref05_Substitute.l0 (k + f + 61) (bs acc ++ (⟨#[46]⟩ : ByteArray)) (cs.map bs) ((i + 1 : Nat) : Int) else none) = some (bs (acc ++ (charSub (cs.getD i []) ++ ((cs.drop (i + 1)).map charSub).flatten))) := fun e => by
        rw [bs_size, if_pos (by omega), e, show (⟨#[46]⟩ : ByteArray) = bs [46] from rfl, bs_append]
        exact go _ rfl
      rw [bs_size] at hdot
      by_cases hs : (cs.getD i []).length = 1
      · rw [if_pos (by omega), if_pos (by omega), show (0 : Int) = ((0 : Nat) : Int) from rfl, bt_nat, show k + f + 61 = (k + f + 1) + 60 by omega, inX_ok, Option.bind_some, show k + f + 1 + 60 = k + f + 61 by omega]
        cases hb : decide (0 ≤ Lib.indexByte setX ((cs.getD i []).getD 0 0))
        · rw [if_neg (by decide)]
          exact hdot (by unfold charSub; rw [if_neg (by rw [hb]; rintro ⟨_, e⟩; cases e)])
        · rw [if_pos rfl, if_pos (by omega), bs_append]
          have e4 : charSub (cs.getD i []) = cs.getD i [] := by unfold charSub; rw [if_pos ⟨hs, hb⟩]
          rw [e4]
          exact go _ hs
      · rw [if_neg (by omega)]
        exact hdot (by unfold charSub; rw [if_neg (by rintro ⟨e, _⟩; exact hs e)])
    · rw [if_neg (by omega), List.drop_of_length_le (by omega)]
      simp
/-- The reference substitutes as the program does. -/
theorem sub_f (l : List UInt8) (hl : l.length ≤ 2000000) (k : Nat) : remitterref05_Substitute.f (k + l.length + 61) (bs l) = some (bs (subst (bs l))) := by
  have hc : (chars l).length ≤ l.length := charsL_len _ _
  unfold remitterref05_Substitute.f
  rw [show k + l.length + 61 = (k + 52) + l.length + 9 by omega, chars_f l hl, Option.bind_some, show k + 52 + l.length + 9 = k + l.length + 61 by omega]
  have := sub_l0 (chars l) (by omega) l.length 0 k [] (by omega) (Nat.zero_le _) (Nat.le_refl _)
  rw [subst_l]
  show remitterref05_Substitute.l0 _ (bs []) _ _ = _
  simpa using this
end Go.Proofs.Ytjemnphmjbodfaa.PAll
