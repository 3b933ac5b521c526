/- LinesWrites, in plain Lean: the program and the document write a body alike. -/
import Derived.Test.YtkklccccjmipkaaDoorLPureLin5
import Derived.Test.YtkklccccjmipkaaDoorLPLWri
namespace Go.Proofs.YtkklccccjmipkaaDoor.Pure
open Go.RowKit Go.Proofs.YtkklccccjmipkaaDoor.PAll Go.Proofs.YtkklccccjmipkaaDoorW.PrintWords GPlain
open Go.Proofs.YtkklccccjmipkaaDoor.Lin
def t69 (f : S68) : S69 := ⟨f.f0, f.f1, f.f2⟩
theorem t68_t69 (l : List S68) : (l.map t69).map t68 = l := by
  rw [List.map_map]
  exact List.map_id l
theorem wb_len : ∀ (b : Bool) (l : List S68), (∀ x ∈ l, x.f0.size + x.f1.size ≤ 200) → (wbytes b l).length ≤ 204 * l.length
  | _, [], _ => Nat.zero_le _
  | b, f :: r, h => by
    have ih := wb_len false r (fun x hx => h x (List.mem_cons_of_mem _ hx))
    have h0 := h f List.mem_cons_self
    have s0 : f.f0.data.toList.length = f.f0.size := by rw [Array.length_toList]; rfl
    have s1 : f.f1.data.toList.length = f.f1.size := by rw [Array.length_toList]; rfl
    have hb : (if b = true then ([] : List UInt8) else [13, 10]).length ≤ 2 := by cases b <;> decide
    simp only [wbytes, List.length_append, List.length_cons, List.length_nil, s0, s1]
    omega
theorem rd68' (l : List S68) (i : Nat) (h : i < l.length) : rd_T68 l (i : Int) = l[i] := by
  unfold rd_T68
  rw [Int.toNat_natCast, List.getD_eq_getElem?_getD, List.getElem?_eq_getElem h]; rfl
theorem writes_l0 (l : List S68) (hw : ∀ x ∈ l, x.f0.size ≤ 140737488351232 ∧ x.f1.size ≤ 140737488351232) : ∀ (n i k : Nat), i + n = l.length → i ≤ 50 → (∀ x ∈ l.take i, x.f0.size + x.f1.size ≤ 200) → 600000 < k + i →
    remitterlaw15_LinesWrites.l0 k l ((l.take i).map t69) (i : Int) = some true
  | 0, i, k, hi, h50, hs, hk => by
    obtain ⟨k, rfl⟩ : ∃ k', k = k' + 1 := ⟨k - 1, by omega⟩
    rw [List.take_of_length_le (by omega)] at hs ⊢
    have hsz : ∀ n, (wbytes true ((((l.map t69)).map t68).take n)).length ≤ 100000 := by
      intro n
      rw [t68_t69]
      have h1 := wbytes_take true l n
      have h2 := wb_len true l hs
      omega
    have hr := ref_write (l.map t69) (by rw [List.length_map]; omega) hsz k (by omega)
    rw [t68_t69] at hr
    have hp : lines_Write.f l = some (lwrite l) := by
      unfold lines_Write.f
      rw [if_pos (by have h2 := wb_len true l hs; omega)]
    rw [remitterlaw15_LinesWrites.l0, if_neg (by omega), hp, Option.bind_some, hr, Option.bind_some, if_pos rfl, if_pos rfl, wakes_bind]
  | n + 1, i, k, hi, h50, hs, hk => by
    obtain ⟨k, rfl⟩ : ∃ k', k = k' + 1 := ⟨k - 1, by omega⟩
    have hlt : i < l.length := by omega
    obtain ⟨w0, w1⟩ := hw l[i] (List.getElem_mem _)
    have hw1 := Lib.hid (show wrap64 ((l[i].f0.size : Int) + (l[i].f1.size : Int)) = (l[i].f0.size : Int) + (l[i].f1.size : Int) from wrap_ok (by omega) (by omega))
    have hw2 := Lib.hid (show wrap64 ((i : Int) + 1) = ((i + 1 : Nat) : Int) by rw [wrap_ok (by omega) (by omega)]; omega)
    rw [remitterlaw15_LinesWrites.l0, if_pos (by omega), if_pos (by omega), rd68' l i hlt, hw1.out, hw2.out]
    by_cases h200 : l[i].f0.size + l[i].f1.size > 200
    · rw [if_pos (by omega), wakes_bind]
    by_cases hi50 : 50 ≤ i
    · rw [if_neg (by omega), if_pos (by omega), wakes_bind]
    have hmap : (l.take i).map t69 ++ ([⟨l[i].f0, l[i].f1, l[i].f2⟩] : List S69) = (l.take (i + 1)).map t69 := by
      rw [List.take_add_one, List.getElem?_eq_getElem hlt, List.map_append]
      rfl
    rw [if_neg (by omega), if_neg (by omega), if_pos (by rw [List.length_map, List.length_take]; omega), hmap]
    refine writes_l0 l hw n (i + 1) k (by omega) (by omega) (fun x hx => ?_) (by omega)
    rw [List.take_add_one, List.getElem?_eq_getElem hlt] at hx
    rcases List.mem_append.1 hx with h | h
    · exact hs x h
    · have : x = l[i] := by simpa using h
      rw [this]; omega
theorem LinesWrites (l : List S68) (hw : ∀ x ∈ l, x.f0.size ≤ 140737488351232 ∧ x.f1.size ≤ 140737488351232) : ∃ k, remitterlaw15_LinesWrites.f k l = some true := by
  refine ⟨700000, ?_⟩
  unfold remitterlaw15_LinesWrites.f
  exact writes_l0 l hw l.length 0 700000 (by omega) (by omega) (by simp) (by omega)
end Go.Proofs.YtkklccccjmipkaaDoor.Pure
