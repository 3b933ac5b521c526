/- fin.Write's text, and small words for its walk. -/
import Derived.Test.YtkklccccjmipkaaDoorZGFin
namespace Go.Proofs.YtkklccccjmipkaaDoor.PAll
open Go.RowKit Go.Proofs.YtkklccccjmipkaaDoorW.PrintWords GPlain
/-- A message's text. -/
def wtext (se ki re ue bo : ByteArray) : ByteArray :=
  let s := (((((⟨#[123, 49, 58, 70, 48, 49]⟩ : ByteArray) ++ se) ++ ⟨#[48, 48, 48, 48, 48, 48, 48, 48, 48, 48, 125, 123, 50, 58, 73]⟩) ++ ki) ++ re) ++ ⟨#[78, 125]⟩
  let t := if ue.size = 0 then s else s ++ (((⟨#[123, 51, 58, 123, 49, 50, 49, 58]⟩ : ByteArray) ++ ue) ++ ⟨#[125, 125]⟩)
  t ++ (((⟨#[123, 52, 58, 13, 10]⟩ : ByteArray) ++ bo) ++ ⟨#[13, 10, 45, 125]⟩)
theorem wtext_size (se ki re ue bo : ByteArray) (z0 : se.size ≤ 5000) (z1 : ki.size ≤ 5000) (z2 : re.size ≤ 5000) (z3 : ue.size ≤ 5000) (z4 : bo.size ≤ 5000) : (wtext se ki re ue bo).size ≤ 30000 := by
  unfold wtext
  have l1 : (⟨#[123, 49, 58, 70, 48, 49]⟩ : ByteArray).size = 6 := rfl
  have l2 : (⟨#[48, 48, 48, 48, 48, 48, 48, 48, 48, 48, 125, 123, 50, 58, 73]⟩ : ByteArray).size = 15 := rfl
  have l3 : (⟨#[78, 125]⟩ : ByteArray).size = 2 := rfl
  have l4 : (⟨#[123, 51, 58, 123, 49, 50, 49, 58]⟩ : ByteArray).size = 8 := rfl
  have l5 : (⟨#[125, 125]⟩ : ByteArray).size = 2 := rfl
  have l6 : (⟨#[123, 52, 58, 13, 10]⟩ : ByteArray).size = 5 := rfl
  have l7 : (⟨#[13, 10, 45, 125]⟩ : ByteArray).size = 4 := rfl
  simp only []
  split <;> simp only [ByteArray.size_append, l1, l2, l3, l4, l5, l6, l7] <;> omega
theorem ne_list {x : ByteArray} (h : ¬ x.size = 0) : ¬ x.toList = [] ∧ x.toList.isEmpty = false := by
  have h1 : ¬ x.toList = [] := by rw [ByteArray.toList_eq]; intro e; apply h; have := congrArg List.length e; rw [Array.length_toList] at this; exact this
  refine ⟨h1, ?_⟩
  cases hl : x.toList with
  | nil => exact absurd hl h1
  | cons a l => rfl
theorem is_empty {x : ByteArray} (h : x.size = 0) : x = ⟨#[]⟩ := by
  cases x; simp only [ByteArray.size] at h; simp only [ByteArray.mk.injEq]; exact Array.eq_empty_of_size_eq_zero h
end Go.Proofs.YtkklccccjmipkaaDoor.PAll
