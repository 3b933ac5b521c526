import Derived.Test.YtjemnphmjbodfaaPAllx8
import Derived.Test.YtjemnphmjbodfaaPureCs3
namespace Go.Proofs.Ytjemnphmjbodfaa.Pure
open Go.RowKit Go.Proofs.Ytjemnphmjbodfaa.PAll Go.Proofs.YtjemnphmjbodfaaW.PrintWords Go.Proofs.YtjemnphmjbodfaaW.PrintLast
open Go.Proofs.Ytjemnphmjbodfaa.GPlain
set_option linter.unusedSimpArgs false

theorem joinL_map (ls : List (List UInt8)) : joinL (ls.map bs) = ls.flatten := by
  unfold joinL
  rw [List.map_map]
  congr 1
  have : ((fun b : ByteArray => b.data.toList) ∘ bs) = id := by
    funext l
    exact bs_data l
  rw [this, List.map_id]
theorem foldL_count (u : List UInt8) (w : Nat) (hw : 1 ≤ w) : (foldL u w).length ≤ u.length := by
  unfold foldL
  rw [List.length_map, List.length_range]
  rcases Nat.eq_zero_or_pos u.length with h | h
  · rw [h]
    exact Nat.le_of_eq (Nat.div_eq_of_lt (by omega))
  · apply Nat.div_le_of_le_mul
    obtain ⟨a, ha⟩ : ∃ a, u.length = a + 1 := ⟨u.length - 1, by omega⟩
    rw [ha, Nat.mul_succ]
    have := Nat.le_mul_of_pos_left a hw
    omega
theorem take_flat (ls : List (List UInt8)) (i : Nat) (h : i < ls.length) : (ls.take (i + 1)).flatten = (ls.take i).flatten ++ ls.getD i [] := by
  rw [List.take_add_one, List.flatten_append, List.getD_eq_getElem?_getD, List.getElem?_eq_getElem h]
  simp
theorem folds_l0 (ls : List (List UInt8)) (h1 : ls.length ≤ 2000) (h2 : ∀ x ∈ ls, x.length ≤ 2000) : ∀ (f i k : Nat), ls.length ≤ i + f → i ≤ ls.length →
    remitterlaw05_CharsetFolds.l0 (k + f + 1) (ls.map bs) (ls.map bs) (bs (ls.take i).flatten) (i : Int) = some true := by
  have hw : remitterlaw05_wakes.f = some true := wakes5_ok
  have hfl : ∀ i, (ls.take i).flatten.length ≤ 2000 * 2000 := fun i =>
    Nat.le_trans (flat_le (ls.take i) 2000 (fun x hx => h2 x (List.mem_of_mem_take hx))) (Nat.mul_le_mul (by rw [List.length_take]; omega) (Nat.le_refl _))
  have hend : ∀ (i k : Nat), ls.length ≤ i → i ≤ ls.length → remitterlaw05_CharsetFolds.l0 (k + 1) (ls.map bs) (ls.map bs) (bs (ls.take i).flatten) (i : Int) = some true := fun i k e1 e2 => by
    have hJ : charset_Join.f (ls.map bs) = some (bs ls.flatten) := by
      unfold charset_Join.f
      have := hfl ls.length
      rw [List.take_length] at this
      rw [joinL_map, List.length_map, if_pos (by omega), if_pos (by omega)]
    rw [remitterlaw05_CharsetFolds.l0, List.length_map, if_neg (by omega), hJ, Option.bind_some, show i = ls.length by omega, List.take_length, if_pos rfl, hw]
    rfl
  intro f
  induction f with
  | zero => exact fun i k e1 e2 => hend i k (by omega) e2
  | succ f ih =>
    intro i k e1 e2
    by_cases h : i < ls.length
    · have hx : (ls.getD i []).length ≤ 2000 := h2 _ (by
        rw [List.getD_eq_getElem?_getD, List.getElem?_eq_getElem h]
        exact List.getElem_mem h)
      have := hfl i
      rw [show k + (f + 1) + 1 = (k + f + 1) + 1 by omega, remitterlaw05_CharsetFolds.l0, List.length_map, if_pos (by omega), if_pos (by omega), if_pos (by omega), if_pos rfl, rd_map, bs_size, bs_size, if_pos (by omega), bs_append, ← take_flat ls i h, wrap_ok (by omega) (by omega), show (i : Int) + 1 = ((i + 1 : Nat) : Int) by omega]
      exact ih (i + 1) k (by omega) (by omega)
    · exact hend i (k + (f + 1)) (by omega) e2
theorem i64r {x : Int} (h : (Lit.int .i64 x).wf = true) : x ≤ 9223372036854775807 := by
  have hmax : IntKind.i64.max = 9223372036854775807 := rfl
  simp only [Lit.wf, Bool.and_eq_true, decide_eq_true_eq] at h
  omega

/-- YOURS: ∀ (a0 : ByteArray) (a1 : Int) (a2 : Int), a0.size ≤ 140737488351232 → (Lit.int .i64 a1).wf = true → (Lit.int .i64 a2).wf = true → ∃ k, remitterlaw05_CharsetFolds.f k a0 a1 a2 = some true -/
theorem CharsetFolds : remitterlaw05_CharsetFolds.Pure := by
  intro a0 a1 a2 _h0 h1 _h2
  obtain ⟨l, rfl⟩ := bs_ex a0
  have hr := i64r h1
  have hw : remitterlaw05_wakes.f = some true := wakes5_ok
  by_cases hbig : l.length > 2000
  · refine ⟨0, ?_⟩
    unfold remitterlaw05_CharsetFolds.f
    rw [bs_size, if_pos (by omega), hw]
    rfl
  · have hlen : ((bs l).size : Int) ≤ 2000 := by rw [bs_size]; omega
    have jt : ∀ k, remitterlaw05_CharsetFolds.j0 (k + 1) (bs l) a1 a2 [] 0 1 true = some true := fun k => by
      rw [remitterlaw05_CharsetFolds.j0, hw]
      rfl
    by_cases ha : a1 < 1 ∨ a2 < 1
    · have hF : charset_Fold.f (bs l) a1 a2 = some ([], 0, 1) := by
        unfold charset_Fold.f
        rw [if_pos ha]
      refine ⟨1, ?_⟩
      unfold remitterlaw05_CharsetFolds.f
      rw [if_neg (by omega), hF, Option.bind_some]
      by_cases hb : a1 < 1
      · rw [if_pos hb]
        exact jt 0
      · rw [if_neg hb, decide_eq_true (by omega)]
        exact jt 0
    · obtain ⟨w, rfl⟩ : ∃ w : Nat, a1 = (w : Int) := ⟨a1.toNat, by omega⟩
      obtain ⟨n, rfl⟩ : ∃ n : Nat, a2 = (n : Int) := ⟨a2.toNat, by omega⟩
      have hF : charset_Fold.f (bs l) w n = some ((foldL (keptL (bs l) w n) w).map bs, ((common (foldL (keptL (bs l) w n) w).flatten l : Nat) : Int), 0) := by
        unfold charset_Fold.f
        rw [if_neg ha, if_pos ⟨by omega, hr⟩, Int.toNat_natCast, Int.toNat_natCast, bs_data]
      have hsl : (subst (bs l)).length ≤ l.length := by
        have := subst_len (bs l)
        rw [bs_size] at this
        exact this
      have hkl : (keptL (bs l) w n).length ≤ 2000 := by
        rw [keptL_len]
        have := keepN_le w n (subst (bs l)).length
        omega
      have hcount := foldL_count (keptL (bs l) w n) w (by omega)
      have hpl : ∀ x ∈ foldL (keptL (bs l) w n) w, x.length ≤ 2000 := fun x hx => by
        unfold foldL at hx
        obtain ⟨i, _, rfl⟩ := List.mem_map.1 hx
        rw [piece_length]
        omega
      have hR := fold_f l (by omega) w n 2000 (by omega) (by omega)
      obtain ⟨ls, hls⟩ : ∃ ls, foldL (keptL (bs l) w n) w = ls := ⟨_, rfl⟩
      rw [hls] at hF hcount hpl hR
      refine ⟨2000 + 5 * l.length + 70 + 1, ?_⟩
      unfold remitterlaw05_CharsetFolds.f
      rw [if_neg (by omega), hF, Option.bind_some, if_neg (by omega), decide_eq_false (by omega)]
      rw [remitterlaw05_CharsetFolds.j0, if_neg (by decide), hR, Option.bind_some, if_pos rfl, if_pos rfl]
      have hne : (((ls.map bs).length : Int) != ((ls.map bs).length : Int)) = false := by simp
      dsimp only
      rw [hne, show 2000 + 5 * l.length + 70 = (2000 + 5 * l.length + 69) + 1 by omega, remitterlaw05_CharsetFolds.j1, if_neg (by decide)]
      have hz := folds_l0 ls (by omega) hpl ls.length 0 (2000 + 5 * l.length + 68 - ls.length) (by omega) (Nat.zero_le _)
      rw [show 2000 + 5 * l.length + 68 - ls.length + ls.length + 1 = 2000 + 5 * l.length + 69 by omega] at hz
      exact hz
end Go.Proofs.Ytjemnphmjbodfaa.Pure
