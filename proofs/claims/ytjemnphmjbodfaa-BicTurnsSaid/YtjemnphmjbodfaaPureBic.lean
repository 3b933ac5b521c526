/- What the printed functions of bic and of its reference answer, as lists of bytes. -/
import Derived.Test.YtjemnphmjbodfaaPAllx2
import Derived.Test.YtjemnphmjbodfaaGPlain
namespace Go.Proofs.Ytjemnphmjbodfaa.PAll
open Go.RowKit Go.Proofs.YtjemnphmjbodfaaW.PrintWords GPlain
set_option linter.unusedSimpArgs false

theorem wakes_ok : remitterlaw04_wakes.f = some true := by kernel_rfl

def chk (l : List UInt8) : Bool := (l.length == 8 || l.length == 11) && goodB l
def chkA (l : List UInt8) : Bool := l.length == 12 && goodB l
theorem good_f (l : List UInt8) (h : l.length ≤ 12) : bic_good.f (bs l) = some (goodB l) := by
  unfold bic_good.f
  rw [if_pos (by rw [bs_size]; exact h), bs_data]
theorem check_f (l : List UInt8) : bic_Check.f (bs l) = some (if chk l then 0 else 14) := by
  unfold bic_Check.f chk
  rw [bs_size]
  by_cases h8 : l.length = 8
  · rw [if_pos (by omega), good_f l (by omega), Option.bind_some]
    cases goodB l <;> simp [h8]
  · rw [if_neg (by omega)]
    by_cases h11 : l.length = 11
    · rw [if_pos (by omega), good_f l (by omega), Option.bind_some]
      cases goodB l <;> simp [h11]
    · rw [if_neg (by omega)]
      simp [h8, h11]
theorem checkA_f (l : List UInt8) : bic_CheckAddress.f (bs l) = some (if chkA l then 0 else 14) := by
  unfold bic_CheckAddress.f chkA
  rw [bs_size]
  by_cases h8 : l.length = 12
  · rw [if_pos (by omega), good_f l (by omega), Option.bind_some]
    cases goodB l <;> simp [h8]
  · rw [if_neg (by omega)]
    simp [h8]
theorem chk_len {l : List UInt8} (h : chk l = true) : l.length = 8 ∨ l.length = 11 := by
  unfold chk at h
  simp at h
  exact h.1
def fullL (l : List UInt8) : List UInt8 := (l ++ [88, 88, 88]).take 11
def shortL (l : List UInt8) : List UInt8 := if l.length = 11 ∧ l.drop 8 = [88, 88, 88] then l.take 8 else l
def addrL (l : List UInt8) : List UInt8 := (fullL l).take 8 ++ [88] ++ (fullL l).drop 8
theorem fullL_len {l : List UInt8} (h : l.length = 8 ∨ l.length = 11) : (fullL l).length = 11 := by
  unfold fullL
  simp
  omega
theorem lit_mk (l : List UInt8) : (⟨l.toArray⟩ : ByteArray) = bs l := rfl
theorem full_f (l : List UInt8) : bic_Full.f (bs l) = some (if chk l then (bs (fullL l), 0) else (bs [], 14)) := by
  unfold bic_Full.f
  rw [check_f, Option.bind_some]
  cases h : chk l
  · simp [bs]
  · have hl := chk_len h
    simp only [lit_mk, bs_append, bs_extract, bs_size, List.drop_zero, if_true]
    simp only [List.length_append, List.length_cons, List.length_nil]
    rw [if_pos (by omega), if_pos (by omega), if_pos (by omega)]
    simp [fullL]
theorem short_f (l : List UInt8) : bic_Short.f (bs l) = some (if chk l then (bs (shortL l), 0) else (bs [], 14)) := by
  unfold bic_Short.f
  rw [check_f, Option.bind_some]
  cases h : chk l
  · simp [bs]
  · have hl := chk_len h
    simp only [lit_mk, bs_append, bs_extract, bs_size, bs_toList, List.drop_zero, if_true, List.take_length]
    unfold shortL
    by_cases h11 : l.length = 11
    · rw [if_pos (by omega), if_pos (by omega)]
      by_cases hx : l.drop 8 = [88, 88, 88]
      · rw [if_pos hx, if_pos (by omega), if_pos ⟨h11, hx⟩]
      · rw [if_neg hx, if_neg (fun h => hx h.2)]
    · rw [if_neg (by omega), if_neg (fun h => h11 h.1)]
theorem address_f (l : List UInt8) : bic_Address.f (bs l) = some (if chk l then (bs (addrL l), 0) else (bs [], 14)) := by
  unfold bic_Address.f
  rw [full_f, Option.bind_some]
  cases h : chk l
  · simp [bs]
  · have hl := fullL_len (chk_len h)
    simp only [lit_mk, bs_append, bs_extract, bs_size, bs_toList, List.drop_zero, if_true, List.take_length]
    simp only [List.length_append, List.length_cons, List.length_nil, List.length_take, List.length_drop]
    rw [if_pos (by omega), if_pos (by omega), if_pos (by omega), if_pos (by omega)]
    rfl
def ofL (l : List UInt8) : List UInt8 := l.take 8 ++ l.drop 9
theorem of_f (l : List UInt8) : bic_Of.f (bs l) = some (if chkA l then (if chk (ofL l) then (bs (shortL (ofL l)), 0) else (bs [], 14)) else (bs [], 14)) := by
  unfold bic_Of.f
  rw [checkA_f, Option.bind_some]
  cases h : chkA l
  · simp [bs]
  · have hl : l.length = 12 := by
      unfold chkA at h
      simp at h
      exact h.1
    simp only [lit_mk, bs_append, bs_extract, bs_size, bs_toList, List.drop_zero, if_true, List.take_length]
    simp only [List.length_append, List.length_cons, List.length_nil, List.length_take, List.length_drop]
    rw [if_pos (by omega), if_pos (by omega), if_pos (by omega), if_pos (by omega), short_f]
    simp only [Option.bind_some]
    rfl

theorem fullL_8 {l : List UInt8} (h : l.length = 8) : fullL l = l ++ [88, 88, 88] := by
  unfold fullL
  rw [List.take_of_length_le (by simp [h])]
theorem fullL_11 {l : List UInt8} (h : l.length = 11) : fullL l = l := by
  unfold fullL
  rw [List.take_append_of_le_length (by omega), List.take_of_length_le (by omega)]
theorem short_full {l : List UInt8} (h : l.length = 8 ∨ l.length = 11) : shortL (fullL l) = shortL l := by
  rcases h with h | h
  · rw [fullL_8 h]
    unfold shortL
    rw [if_pos ⟨by simp [h], by rw [List.drop_append_of_le_length (by omega), List.drop_of_length_le (by omega)]; rfl⟩, if_neg (by omega)]
    rw [List.take_append_of_le_length (by omega), List.take_of_length_le (by omega)]
  · rw [fullL_11 h]
theorem full_short {l : List UInt8} (h : l.length = 8 ∨ l.length = 11) : fullL (shortL l) = fullL l := by
  rcases h with h | h
  · unfold shortL
    rw [if_neg (by omega)]
  · unfold shortL
    by_cases hx : l.drop 8 = [88, 88, 88]
    · rw [if_pos ⟨h, hx⟩, fullL_11 h, fullL_8 (by simp [h]), ← hx, List.take_append_drop]
    · rw [if_neg (fun e => hx e.2)]
theorem full_iff_short {l m : List UInt8} (hl : l.length = 8 ∨ l.length = 11) (hm : m.length = 8 ∨ m.length = 11) : fullL l = fullL m ↔ shortL l = shortL m :=
  ⟨fun h => by rw [← short_full hl, ← short_full hm, h], fun h => by rw [← full_short hl, ← full_short hm, h]⟩
theorem of_addr {l : List UInt8} (h : l.length = 8 ∨ l.length = 11) : ofL (addrL l) = fullL l := by
  have e := fullL_len h
  unfold ofL addrL
  have h8 : ((fullL l).take 8).length = 8 := by simp [e]
  rw [List.append_assoc, List.take_append_of_le_length (by omega), List.take_of_length_le (by omega)]
  rw [List.drop_append, List.drop_of_length_le (by omega), h8]
  simp
theorem addr_iff_full {l m : List UInt8} (hl : l.length = 8 ∨ l.length = 11) (hm : m.length = 8 ∨ m.length = 11) : addrL l = addrL m ↔ fullL l = fullL m :=
  ⟨fun h => by rw [← of_addr hl, ← of_addr hm, h], fun h => by unfold addrL; rw [h]⟩
theorem beq_of {a b c d : List UInt8} (h : a = b ↔ c = d) : ((a == b) == (c == d)) = true := by
  by_cases e : a = b
  · have e2 := h.1 e
    subst e e2
    simp
  · have e2 : ¬ c = d := fun x => e (h.2 x)
    rw [beq_eq_false_iff_ne.2 e, beq_eq_false_iff_ne.2 e2]
    rfl
end Go.Proofs.Ytjemnphmjbodfaa.PAll
