/- charset.Fold: what it computes, in plain words. -/
import Derived.Test.YtjemnphmjbodfaaGSubst
import Derived.Test.YtjemnphmjbodfaaGJoin
namespace Go.Proofs.Ytjemnphmjbodfaa.PAll
open Go.RowKit Go.Proofs.YtjemnphmjbodfaaW.PrintWords GPlain
set_option linter.unusedSimpArgs false

def dot (c : UInt8) : UInt8 := if c = 58 ∨ c = 45 then 46 else c
def dotHead : List UInt8 → List UInt8
  | [] => []
  | c :: r => dot c :: r
/-- Piece number i of a text, k bytes long. -/
def piece (u : List UInt8) (k i : Nat) : List UInt8 := dotHead ((u.drop (i * k)).take k)
def foldL (u : List UInt8) (k : Nat) : List (List UInt8) := (List.range ((u.length + k - 1) / k)).map (piece u k)
def keepN (k l n : Nat) : Nat := if n ≤ k ∨ n ≤ l ∨ n ≤ k * l then n else k * l
/-- How long the texts' common head is. -/
def common : List UInt8 → List UInt8 → Nat
  | a :: r, b :: s => if a = b then common r s + 1 else 0
  | _, _ => 0
theorem dot_dot (c : UInt8) : dot (dot c) = dot c := by
  unfold dot
  split
  · rfl
  · rfl
theorem dot_hit {c : UInt8} (h : c = 58 ∨ c = 45) : dot c = 46 := by unfold dot; rw [if_pos h]
theorem dot_miss {c : UInt8} (h : ¬ (c = 58 ∨ c = 45)) : dot c = c := by unfold dot; rw [if_neg h]
theorem dotHead_length : ∀ l : List UInt8, (dotHead l).length = l.length
  | [] => rfl
  | _ :: _ => by simp [dotHead]
theorem dotHead_getD (l : List UInt8) (t : Nat) (h : t < l.length) : (dotHead l).getD t 0 = if t = 0 then dot (l.getD 0 0) else l.getD t 0 := by
  cases l with
  | nil => simp at h
  | cons c r =>
    cases t with
    | zero => simp [dotHead]
    | succ t => simp [dotHead]
theorem piece_length (u : List UInt8) (k i : Nat) : (piece u k i).length = min k (u.length - i * k) := by unfold piece; rw [dotHead_length]; simp
theorem piece_getD (u : List UInt8) (k i t : Nat) (h : t < min k (u.length - i * k)) : (piece u k i).getD t 0 = if t = 0 then dot (u.getD (i * k) 0) else u.getD (i * k + t) 0 := by
  unfold piece
  rw [dotHead_getD _ _ (by simp; omega)]
  split
  · rename_i h0
    subst h0
    congr 1
    rw [List.getD_eq_getElem?_getD, List.getElem?_take_of_lt (by omega), List.getElem?_drop, ← List.getD_eq_getElem?_getD]
    rfl
  · rw [List.getD_eq_getElem?_getD, List.getElem?_take_of_lt (by omega), List.getElem?_drop, ← List.getD_eq_getElem?_getD]
theorem foldL_len (u : List UInt8) (k m : Nat) (hk : 1 ≤ k) (h1 : u.length ≤ m * k) (h2 : m = 0 ∨ (m - 1) * k < u.length) : (u.length + k - 1) / k = m := by
  rcases h2 with rfl | h2
  · have : u.length = 0 := by omega
    rw [this]
    exact Nat.div_eq_of_lt (by omega)
  · rcases Nat.eq_zero_or_pos m with rfl | hm
    · have : u.length = 0 := by omega
      rw [this]
      exact Nat.div_eq_of_lt (by omega)
    · obtain ⟨j, rfl⟩ : ∃ j, m = j + 1 := ⟨m - 1, by omega⟩
      rw [Nat.add_sub_cancel] at h2
      rw [Nat.succ_mul] at h1
      apply Nat.div_eq_of_lt_le
      · rw [Nat.succ_mul]; omega
      · rw [Nat.succ_mul, Nat.succ_mul]; omega
theorem flat_le : ∀ (l : List (List UInt8)) (n : Nat), (∀ x ∈ l, x.length ≤ n) → l.flatten.length ≤ l.length * n
  | [], n, _ => by simp
  | a :: r, n, h => by
    have h1 := h a (by simp)
    have h2 := flat_le r n (fun x hx => h x (by simp [hx]))
    rw [List.flatten_cons, List.length_append, List.length_cons, Nat.succ_mul]
    omega
theorem common_eq : ∀ (j : Nat) (a b : List UInt8), a.take j = b.take j → j ≤ a.length → j ≤ b.length → ¬ (j < a.length ∧ j < b.length ∧ a.getD j 0 = b.getD j 0) → common a b = j
  | 0, a, b, _, _, _, hn => by
    cases a with
    | nil => rfl
    | cons x r =>
      cases b with
      | nil => rfl
      | cons y s =>
        have : ¬ x = y := fun e => hn ⟨by simp, by simp, by simpa using e⟩
        simp [common, this]
  | j + 1, a, b, h, ha, hb, hn => by
    cases a with
    | nil => simp at ha
    | cons x r =>
      cases b with
      | nil => simp at hb
      | cons y s =>
        rw [List.take_succ_cons, List.take_succ_cons] at h
        injection h with h1 h2
        have := common_eq j r s h2 (by simpa using ha) (by simpa using hb) (by simpa using hn)
        simp [common, h1, this]
theorem encodeRune_one {r : Nat} (h : r < 128) : (Lib.encodeRune r).length = 1 := by
  unfold Lib.encodeRune Lib.encodeRuneZ
  rw [if_pos (by omega)]
  rfl
theorem substFrom_len (s : ByteArray) : ∀ (fuel pos : Nat), (substFrom s fuel pos).length ≤ fuel
  | 0, _ => by simp [substFrom]
  | fuel + 1, pos => by
    have := substFrom_len s fuel (pos + (Utf8.decode s pos).2)
    unfold substFrom
    split
    · rw [List.length_append]
      have : (if isX (Utf8.decode s pos).1 = true then Lib.encodeRune (Utf8.decode s pos).1 else [46]).length = 1 := by
        split
        · rename_i hx
          unfold isX at hx
          rw [Bool.and_eq_true, decide_eq_true_eq] at hx
          exact encodeRune_one hx.1
        · rfl
      omega
    · simp
theorem subst_len (s : ByteArray) : (subst s).length ≤ s.size := substFrom_len s _ _
/-- What is kept of a text. -/
def keptL (s : ByteArray) (k l : Nat) : List UInt8 := (subst s).take (keepN k l (subst s).length)
theorem keepN_le (k l n : Nat) : keepN k l n ≤ n := by
  unfold keepN
  split <;> omega
theorem keptL_len (s : ByteArray) (k l : Nat) : (keptL s k l).length = keepN k l (subst s).length := by
  unfold keptL
  rw [List.length_take]
  have := keepN_le k l (subst s).length
  omega
/-- The lines, and how much is kept. -/
def charset_Fold.f (a0 : ByteArray) (a1 : Int) (a2 : Int) : Option (List ByteArray × Int × Int) :=
  if a1 < 1 ∨ a2 < 1 then some ([], 0, 1)
  else if a0.size ≤ 1048576 ∧ a1 ≤ 9223372036854775807 then
    some ((foldL (keptL a0 a1.toNat a2.toNat) a1.toNat).map bs, (common (foldL (keptL a0 a1.toNat a2.toNat) a1.toNat).flatten a0.data.toList : Int), 0)
  else none
end Go.Proofs.Ytjemnphmjbodfaa.PAll
