/- Plain law under DecimalAdds: the document's rows of digits, and how two of them stand. (Over the print of DecimalAdds: at, size, Cmp.) -/
import Derived.Test.YtggakekljbgeoaaDoorPAdsx3
import Derived.Test.YtggakekljbgeoaaDoorPureExact
namespace Go.Proofs.YtggakekljbgeoaaDoor.Pure
open Go.RowKit Go.Proofs.YtggakekljbgeoaaDoor.PAll Go.Proofs.YtggakekljbgeoaaDoorW.PrintWords Go.Proofs.YtggakekljbgeoaaDoorW.PrintLast GPlain
set_option linter.unusedSimpArgs false

/-- The digit of 10^i. -/
def dg (v i : Nat) : Int := ((v / 10 ^ i % 10 : Nat) : Int)
/-- The n lowest digits, the lowest first. -/
def dl (v n : Nat) : List Int := (List.range n).map (dg v)
theorem dl_len (v n : Nat) : (dl v n).length = n := by unfold dl; rw [List.length_map, List.length_range]
theorem dl_succ (v n : Nat) : dl v (n + 1) = dl v n ++ [dg v n] := by unfold dl; rw [List.range_succ, List.map_append]; rfl
theorem dl_zero (v : Nat) : dl v 0 = [] := rfl
theorem dl_rd (v n i : Nat) (h : i < n) : rd (dl v n) (i : Int) = dg v i := by
  show (dl v n).getD i 0 = _
  unfold dl
  rw [List.getD_eq_getElem?_getD, List.getElem?_map, List.getElem?_range h]
  rfl
theorem dg_low (c p i : Nat) (h : i < p) : dg (c * 10 ^ p) i = 0 := by
  unfold dg
  have e : c * 10 ^ p = 10 ^ i * (10 * (c * 10 ^ (p - i - 1))) := by
    have h2 : 10 ^ p = 10 ^ i * (10 * 10 ^ (p - i - 1)) := by
      rw [← Nat.pow_succ', ← Nat.pow_add]
      congr 1
      omega
    rw [h2, ← Nat.mul_assoc, Nat.mul_comm c, Nat.mul_assoc, Nat.mul_left_comm c]
  rw [e, Nat.mul_div_cancel_left _ (Nat.pow_pos (by decide)), Nat.mul_mod_right]
  rfl
theorem dg_high (c p j : Nat) : dg (c * 10 ^ p) (p + j) = ((c / 10 ^ j % 10 : Nat) : Int) := by
  unfold dg
  rw [Nat.pow_add, ← Nat.div_div_eq_div_mul, Nat.mul_div_cancel _ (Nat.pow_pos (by decide))]
theorem dg_over (v i : Nat) (h : v < 10 ^ i) : dg v i = 0 := by
  unfold dg
  rw [Nat.div_eq_of_lt h]
  rfl
theorem at_l2 (v : Nat) (d : Nat) : ∀ (n k : Nat), 30 - n = d → n ≤ 30 → v < 10 ^ n → d < k → remitterref01_at.l2 k (dl v n) = some (dl v 30) := by
  induction d with
  | zero =>
    intro n k hd hn _ hk
    obtain ⟨k, rfl⟩ : ∃ m, k = m + 1 := ⟨k - 1, by omega⟩
    obtain rfl : n = 30 := by omega
    rw [remitterref01_at.l2, dl_len, if_neg (by omega)]
  | succ d ih =>
    intro n k hd hn hv hk
    obtain ⟨k, rfl⟩ : ∃ m, k = m + 1 := ⟨k - 1, by omega⟩
    have e : dl v n ++ [0] = dl v (n + 1) := by rw [dl_succ, dg_over v n hv]
    rw [remitterref01_at.l2, dl_len, if_pos (by omega), if_pos (by omega), e]
    exact ih (n + 1) k (by omega) (by omega) (Nat.lt_of_lt_of_le hv (Nat.pow_le_pow_right (by decide) (by omega))) (by omega)
theorem at_l1 (c p : Nat) (hp : p ≤ 5) (hc : c < 1000000000000000000) (d : Nat) : ∀ (j k : Nat), c / 10 ^ j < 10 ^ d → j + d ≤ 18 → d + 32 < k →
    remitterref01_at.l1 k (dl (c * 10 ^ p) (p + j)) ((c / 10 ^ j : Nat) : Int) = some (dl (c * 10 ^ p) 30) := by
  have hend : ∀ (j k : Nat), c / 10 ^ j = 0 → j ≤ 18 → 31 < k → remitterref01_at.l2 k (dl (c * 10 ^ p) (p + j)) = some (dl (c * 10 ^ p) 30) := by
    intro j k h0 hj hk
    refine at_l2 _ (30 - (p + j)) _ _ rfl (by omega) ?_ (by omega)
    have : c < 10 ^ j := by
      rcases Nat.lt_or_ge c (10 ^ j) with h | h
      · exact h
      · have := Nat.div_pos h (Nat.pow_pos (by decide))
        omega
    rw [Nat.pow_add, Nat.mul_comm]
    exact Nat.mul_lt_mul_of_pos_left this (Nat.pow_pos (by decide))
  induction d with
  | zero =>
    intro j k hx hj hk
    obtain ⟨k, rfl⟩ : ∃ m, k = m + 1 := ⟨k - 1, by omega⟩
    have h0 : c / 10 ^ j = 0 := Nat.lt_one_iff.1 (by rw [Nat.pow_zero] at hx; exact hx)
    rw [remitterref01_at.l1, h0, if_neg (by decide)]
    exact hend j k h0 (by omega) (by omega)
  | succ d ih =>
    intro j k hx hj hk
    obtain ⟨k, rfl⟩ : ∃ m, k = m + 1 := ⟨k - 1, by omega⟩
    by_cases h0 : c / 10 ^ j = 0
    · rw [remitterref01_at.l1, h0, if_neg (by decide)]
      exact hend j k h0 (by omega) (by omega)
    · have hle : c / 10 ^ j ≤ c := Nat.div_le_self ..
      have hn : c / 10 ^ j / 10 = c / 10 ^ (j + 1) := by rw [Nat.div_div_eq_div_mul, Nat.pow_succ]
      have hg := dg_high c p j
      have hs := dl_succ (c * 10 ^ p) (p + j)
      have ih := fun k => ih (j + 1) k
      rw [Nat.pow_succ] at hx
      rw [← hn] at ih
      obtain ⟨q, hq⟩ : ∃ q, c / 10 ^ j = q := ⟨_, rfl⟩
      rw [hq] at hle hx h0 hg ih ⊢
      have e1 : Int.tmod (q : Int) 10 = dg (c * 10 ^ p) (p + j) := by
        rw [hg, Int.tmod_eq_emod_of_nonneg (by omega)]
        omega
      have e2 : wrap64 (Int.tdiv (q : Int) 10) = ((q / 10 : Nat) : Int) := by
        rw [Int.tdiv_eq_ediv_of_nonneg (by omega), wrap_ok (by omega) (by omega)]
        omega
      have h5 : (q : Int) > 0 := Int.natCast_pos.2 (Nat.pos_of_ne_zero h0)
      have h6 : p + j < 17592186044416 := by clear hn hg hs ih hx hq hend e1 e2; omega
      rw [remitterref01_at.l1, if_pos h5, dl_len, if_pos h6, e1, ← hs, e2]
      exact ih k (by clear hn hg hs ih hend e1 e2; omega) (by omega) (by omega)
theorem at_l0 (n : Bool) (c s : Nat) (hc : c < 1000000000000000000) (hs : s ≤ 5) (d : Nat) : ∀ (i k : Nat), 5 - i = d → s ≤ i → i ≤ 5 → d + 60 < k →
    remitterref01_at.l0 k (dl (c * 10 ^ (5 - s)) (i - s)) (i : Int) n (c : Int) (s : Int) = some (dl (c * 10 ^ (5 - s)) 30) := by
  induction d with
  | zero =>
    intro i k hd hi hi5 hk
    obtain ⟨k, rfl⟩ : ∃ m, k = m + 1 := ⟨k - 1, by omega⟩
    obtain rfl : i = 5 := by omega
    obtain ⟨D, hD⟩ : ∃ D : Nat, D = 18 := ⟨18, rfl⟩
    have hcD : c / 10 ^ 0 < 10 ^ D := by
      rw [Nat.pow_zero, Nat.div_one, hD]
      have e : (10 : Nat) ^ 18 = 1000000000000000000 := by decide
      rw [e]
      exact hc
    have := at_l1 c (5 - s) (Nat.sub_le _ _) hc D 0 k hcD (by omega) (by omega)
    rw [Nat.pow_zero, Nat.div_one, Nat.add_zero] at this
    rw [remitterref01_at.l0, if_neg (by decide)]
    exact this
  | succ d ih =>
    intro i k hd hi hi5 hk
    obtain ⟨k, rfl⟩ : ∃ m, k = m + 1 := ⟨k - 1, by omega⟩
    have e : dl (c * 10 ^ (5 - s)) (i - s) ++ [0] = dl (c * 10 ^ (5 - s)) (i + 1 - s) := by
      rw [show i + 1 - s = (i - s) + 1 by omega, dl_succ, dg_low _ _ _ (by omega)]
    rw [remitterref01_at.l0, if_pos (by omega), dl_len, if_pos (by omega), e, wrap_ok (by omega) (by omega), show ((i : Int) + 1) = ((i + 1 : Nat) : Int) by omega]
    exact ih (i + 1) k (by omega) (by omega) (by omega) (by omega)
/-- The document's row of a good number: its 30 digits in hundred-thousandths. -/
theorem at_f {n : Bool} {c s : Nat} (h : GoodN n c s) (k : Nat) (hk : 80 ≤ k) : remitterref01_at.f k n c s = some (dl (c * 10 ^ (5 - s)) 30) := by
  have := at_l0 n c s h.1 h.2.1 (5 - s) s k rfl (Nat.le_refl _) h.2.1 (by omega)
  rw [Nat.sub_self, dl_zero] at this
  exact this
theorem mod_split (x i : Nat) : ((x % 10 ^ (i + 1) : Nat) : Int) = dg x i * ((10 ^ i : Nat) : Int) + ((x % 10 ^ i : Nat) : Int) := by
  unfold dg
  rw [Nat.pow_succ, Nat.mod_mul, Int.natCast_add, Int.natCast_mul, Int.mul_comm, Int.add_comm]
theorem size_l0 (x y : Nat) : ∀ (m k : Nat), m ≤ 30 → m < k → remitterref01_size.l0 k (dl x 30) (dl y 30) ((m : Int) - 1) = some (cmpN (x % 10 ^ m) (y % 10 ^ m)) := by
  intro m
  induction m with
  | zero =>
    intro k _ hk
    obtain ⟨k, rfl⟩ : ∃ m, k = m + 1 := ⟨k - 1, by omega⟩
    rw [remitterref01_size.l0, if_neg (by decide)]
    simp [cmpN, Nat.mod_one]
  | succ m ih =>
    intro k hm hk
    obtain ⟨k, rfl⟩ : ∃ m, k = m + 1 := ⟨k - 1, by omega⟩
    have h1 := mod_split x m
    have h2 := mod_split y m
    have hp : 0 < 10 ^ m := Nat.pow_pos (by decide)
    have b1 := Nat.mod_lt x hp
    have b2 := Nat.mod_lt y hp
    have ih := ih k (by omega) (by omega)
    rw [remitterref01_size.l0, show (((m + 1 : Nat) : Int) - 1) = (m : Int) by omega, dl_len, dl_len, if_pos (by omega), if_pos (by omega), if_pos (by omega), if_pos (by omega), dl_rd _ _ _ (by omega), dl_rd _ _ _ (by omega), wrap_ok (by omega) (by omega), ih]
    unfold cmpN
    generalize dg x m = u at h1
    generalize dg y m = v at h2
    generalize x % 10 ^ (m + 1) = X at h1
    generalize y % 10 ^ (m + 1) = Y at h2
    generalize x % 10 ^ m = xm at h1 b1
    generalize y % 10 ^ m = ym at h2 b2
    generalize 10 ^ m = P at h1 h2 hp b1 b2
    by_cases c1 : u < v
    · have := Int.mul_le_mul_of_nonneg_right (show u + 1 ≤ v by omega) (show (0 : Int) ≤ (P : Int) by omega)
      rw [Int.add_mul, Int.one_mul] at this
      rw [if_pos c1, if_pos (show X < Y by omega)]
    · rw [if_neg c1]
      by_cases c2 : u > v
      · have := Int.mul_le_mul_of_nonneg_right (show v + 1 ≤ u by omega) (show (0 : Int) ≤ (P : Int) by omega)
        rw [Int.add_mul, Int.one_mul] at this
        rw [if_pos c2, if_neg (show ¬ X < Y by omega), if_pos (show Y < X by omega)]
      · obtain rfl : u = v := by omega
        rw [if_neg c2]
        congr 1
        by_cases c3 : xm < ym
        · rw [if_pos c3, if_pos (show X < Y by omega)]
        · rw [if_neg c3, if_neg (show ¬ X < Y by omega)]
          by_cases c4 : ym < xm
          · rw [if_pos c4, if_pos (show Y < X by omega)]
          · rw [if_neg c4, if_neg (show ¬ Y < X by omega)]
theorem size_f {x y : Nat} (hx : x < 10 ^ 30) (hy : y < 10 ^ 30) (k : Nat) (hk : 40 ≤ k) : remitterref01_size.f k (dl x 30) (dl y 30) = some (cmpN x y) := by
  have := size_l0 x y 30 k (by omega) (by omega)
  rw [Nat.mod_eq_of_lt hx, Nat.mod_eq_of_lt hy] at this
  exact this
theorem unit_lt {n : Bool} {c s : Nat} (h : GoodN n c s) : c * 10 ^ (5 - s) < 10 ^ 30 := by
  have h1 : 10 ^ (5 - s) ≤ 10 ^ 5 := Nat.pow_le_pow_right (by decide) (by omega)
  have h2 := Nat.mul_le_mul (Nat.le_of_lt h.1) h1
  have h3 : (1000000000000000000 * 10 ^ 5 : Nat) < 10 ^ 30 := by decide
  omega
/-- The document's Cmp of good numbers. -/
theorem refcmp_f {na nb : Bool} {ca sa cb sb : Nat} (ha : GoodN na ca sa) (hb : GoodN nb cb sb) (k : Nat) (hk : 100 ≤ k) :
    remitterref01_Cmp.f k na ca sa nb cb sb = some (cmpI (worthN na ca sa) (worthN nb cb sb)) := by
  have hpa : 0 < 10 ^ (5 - sa) := Nat.pow_pos (by decide)
  have hpb : 0 < 10 ^ (5 - sb) := Nat.pow_pos (by decide)
  have za : na = true → 0 < ca * 10 ^ (5 - sa) := fun h => Nat.mul_pos (ha.2.2 h) hpa
  have zb : nb = true → 0 < cb * 10 ^ (5 - sb) := fun h => Nat.mul_pos (hb.2.2 h) hpb
  unfold remitterref01_Cmp.f
  rw [at_f ha k (by omega), at_f hb k (by omega), Option.bind_some, Option.bind_some, size_f (unit_lt ha) (unit_lt hb) k (by omega), Option.bind_some]
  unfold worthN atS
  generalize ca * 10 ^ (5 - sa) = x at za
  generalize cb * 10 ^ (5 - sb) = y at zb
  have hw : wrap64 (-cmpN x y) = -cmpN x y := wrap_ok (by unfold cmpN; split <;> (try split) <;> omega) (by unfold cmpN; split <;> (try split) <;> omega)
  rw [hw]
  cases na <;> cases nb <;> simp only [sgn] <;> simp only [Bool.false_eq_true, if_false, if_true, bne_self_eq_false, Bool.true_bne, Bool.false_bne, Bool.not_false] <;> unfold cmpI <;> (try unfold cmpN) <;> (have := za) <;> (have := zb) <;> simp at za zb ⊢ <;> (repeat' split) <;> omega
end Go.Proofs.YtggakekljbgeoaaDoor.Pure
