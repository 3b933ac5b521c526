/- The contract of the document's Add, in decimal.Add's words: out of its printed walk (GAddP), and the plain law of its three loops. -/
import Derived.Test.YtggakekljbgeoaaDoorGAddP
import Derived.Test.YtggakekljbgeoaaDoorPureAt
import Derived.Test.YtggakekljbgeoaaDoorPureCarry
namespace Go.Proofs.YtggakekljbgeoaaDoor.Pure
open Go.RowKit Go.Proofs.YtggakekljbgeoaaDoor.PAll Go.Proofs.YtggakekljbgeoaaDoorW.PrintWords Go.Proofs.YtggakekljbgeoaaDoorW.PrintLast Go.Proofs.YtggakekljbgeoaaDoorW.PrintMore GPlain
set_option linter.unusedSimpArgs false

theorem dg_bd (v i : Nat) : 0 ≤ dg v i ∧ dg v i ≤ 9 := by unfold dg; omega
/-- The row that is made: i digits are in place. -/
def dz (v i : Nat) : List Int := dl v i ++ List.replicate (30 - i) 0
theorem dz_len (v i : Nat) (h : i ≤ 30) : (dz v i).length = 30 := by unfold dz; rw [List.length_append, dl_len, List.length_replicate]; omega
theorem dz_set (v i : Nat) (h : i < 30) : (dz v i).set i (dg v i) = dz v (i + 1) := by
  unfold dz
  rw [List.set_append_right _ _ (by rw [dl_len]; exact Nat.le_refl _), dl_len, Nat.sub_self, show 30 - i = (30 - (i + 1)) + 1 by omega, List.replicate_succ, List.set_cons_zero, dl_succ, List.append_assoc]
  rfl
theorem dz_zero (v : Nat) : dz v 0 = List.replicate 30 0 := by unfold dz; rw [dl_zero, List.nil_append]
theorem dz_full (v : Nat) : dz v 30 = dl v 30 := by unfold dz; rw [Nat.sub_self]; simp
/-- The carry behind the digits below P. -/
def car (x y P : Nat) : Nat := (x % P + y % P) / P
theorem car_le (x y P : Nat) (hP : 0 < P) : car x y P ≤ 1 := by
  have h1 := Nat.mod_lt x hP
  have h2 := Nat.mod_lt y hP
  exact Nat.lt_succ_iff.1 (Nat.div_lt_of_lt_mul (by omega))
theorem add_l0 (x y : Nat) (n na nb : Bool) (ca sa cb sb : Int) (k : Nat) : ∀ (d i : Nat), 30 - i = d → i ≤ 30 →
    remitterref01_AddP.l0 (d + (k + 1)) (dl x 30) (dl y 30) n (dz (x + y) i) (car x y (10 ^ i) : Int) (i : Int) na ca sa nb cb sb = remitterref01_AddP.j4 k n (dl (x + y) 30) na ca sa nb cb sb := by
  intro d
  induction d with
  | zero =>
    intro i hd hi
    obtain rfl : i = 30 := by omega
    rw [Nat.zero_add, remitterref01_AddP.l0, if_neg (by decide), dz_full]
  | succ d ih =>
    intro i hd hi
    have ih := ih (i + 1) (by omega) (by omega)
    have hP : 0 < 10 ^ i := Nat.pow_pos (by decide)
    have b1 := dg_bd x i
    have b2 := dg_bd y i
    have hset := dz_set (x + y) i (by omega)
    have e1 : Int.tmod (dg x i + dg y i + (car x y (10 ^ i) : Int)) 10 = dg (x + y) i := by
      have h := carry_digit x y (10 ^ i) hP
      rw [Int.tmod_eq_emod_of_nonneg (by omega)]
      unfold dg car
      omega
    have e2 : Int.tdiv (dg x i + dg y i + (car x y (10 ^ i) : Int)) 10 = (car x y (10 ^ (i + 1)) : Int) := by
      have h := carry_next x y (10 ^ i) hP
      rw [Int.tdiv_eq_ediv_of_nonneg (by omega)]
      unfold dg car
      rw [Nat.pow_succ]
      omega
    have hc := car_le x y (10 ^ i) hP
    have hc2 := car_le x y (10 ^ (i + 1)) (Nat.pow_pos (by decide))
    generalize car x y (10 ^ i) = c at e1 e2 hc ⊢
    generalize car x y (10 ^ (i + 1)) = c2 at e2 hc2 ih
    rw [show d + 1 + (k + 1) = (d + (k + 1)) + 1 by omega, remitterref01_AddP.l0, dl_len, dl_len, dz_len _ _ (by omega), if_pos (by omega), if_pos (by omega), if_pos (by omega), if_pos (by omega), if_pos (by omega),
      dl_rd _ _ _ (by omega), dl_rd _ _ _ (by omega), wrap_ok (x := dg x i + dg y i) (by omega) (by omega), wrap_ok (x := dg x i + dg y i + (c : Int)) (by omega) (by omega), e1, e2, wrap_ok (x := (c2 : Int)) (by omega) (by omega),
      wrap_ok (x := (i : Int) + 1) (by omega) (by omega), Int.toNat_natCast, hset]
    exact ih
theorem add_l1 (x y : Nat) (hyx : y ≤ x) (n na nb : Bool) (ca sa cb sb : Int) (k : Nat) : ∀ (d i : Nat), 30 - i = d → i ≤ 30 →
    remitterref01_AddP.l1 (d + (k + 1)) (dl x 30) (dl y 30) n (dz (x - y) i) (bor x y (10 ^ i) : Int) (i : Int) na ca sa nb cb sb = remitterref01_AddP.j4 k n (dl (x - y) 30) na ca sa nb cb sb := by
  intro d
  induction d with
  | zero =>
    intro i hd hi
    obtain rfl : i = 30 := by omega
    rw [Nat.zero_add, remitterref01_AddP.l1, if_neg (by decide), dz_full]
  | succ d ih =>
    intro i hd hi
    have ih := ih (i + 1) (by omega) (by omega)
    have hP : 0 < 10 ^ i := Nat.pow_pos (by decide)
    have b1 := dg_bd x i
    have b2 := dg_bd y i
    have hset := dz_set (x - y) i (by omega)
    have h1 := bor_digit x y (10 ^ i) hP hyx
    have h2 := bor_next x y (10 ^ i) hP
    have hb : bor x y (10 ^ i) ≤ 1 := by unfold bor; split <;> omega
    rw [← Nat.pow_succ] at h2
    have e3 : dg x i = ((x / 10 ^ i % 10 : Nat) : Int) := rfl
    have e4 : dg y i = ((y / 10 ^ i % 10 : Nat) : Int) := rfl
    have e5 : dg (x - y) i = (((x - y) / 10 ^ i % 10 : Nat) : Int) := rfl
    rw [h2] at ih
    generalize bor x y (10 ^ i) = b at h1 ih hb ⊢
    rw [show d + 1 + (k + 1) = (d + (k + 1)) + 1 by omega, remitterref01_AddP.l1, dl_len, dl_len, dz_len _ _ (by omega), if_pos (by omega), if_pos (by omega), if_pos (by omega), if_pos (by omega),
      dl_rd _ _ _ (by omega), dl_rd _ _ _ (by omega), wrap_ok (x := dg x i - dg y i) (by omega) (by omega), wrap_ok (x := dg x i - dg y i - (b : Int)) (by omega) (by omega),
      wrap_ok (x := (i : Int) + 1) (by omega) (by omega), Int.toNat_natCast]
    by_cases c : x / 10 ^ i % 10 < y / 10 ^ i % 10 + b
    · rw [if_pos c] at ih
      rw [if_pos (by omega), if_pos (by omega), wrap_ok (x := dg x i - dg y i - (b : Int) + 10) (by omega) (by omega), show dg x i - dg y i - (b : Int) + 10 = dg (x - y) i by omega, hset]
      exact ih
    · rw [if_neg c] at ih
      rw [if_neg (by omega), if_pos (by omega), show dg x i - dg y i - (b : Int) = dg (x - y) i by omega, hset]
      exact ih
theorem rd_drop (xs : List Int) (p i : Nat) : rd (xs.drop p) (i : Int) = rd xs ((p + i : Nat) : Int) := by
  show (xs.drop p).getD i 0 = xs.getD (p + i) 0
  rw [List.getD_eq_getElem?_getD, List.getD_eq_getElem?_getD, List.getElem?_drop]
theorem add_l2 (u p : Nat) (hp : p ≤ 5) (n : Bool) (s : Int) (k : Nat) : ∀ m : Nat, m + p ≤ 30 → (18 ≤ m → u / 10 ^ m = 0) → (m < 18 → u < 1000000000000000000) →
    remitterref01_AddP.l2 (m + (k + 1)) n ((dl (u * 10 ^ p) 30).drop p) ((m : Int) - 1) false ((u / 10 ^ m : Nat) : Int) s =
      some (if u < 1000000000000000000 then (n && decide (0 < u), (u : Int), s, 0) else (false, 0, 0, 11)) := by
  have T : (10 : Nat) ^ 18 = 1000000000000000000 := by decide
  intro m
  induction m with
  | zero =>
    intro hm _ h1
    have h1 := h1 (by decide)
    rw [Nat.zero_add, remitterref01_AddP.l2, if_neg (by decide), if_pos h1, Nat.pow_zero, Nat.div_one]
    cases n
    · rw [if_neg (by decide), Bool.false_and]
    · rw [if_pos rfl, Bool.true_and, show ((u : Int) != 0) = decide (0 < u) by rw [Bool.eq_iff_iff]; simp; omega]
  | succ m ih =>
    intro hm h0 h1
    have hr : rd ((dl (u * 10 ^ p) 30).drop p) (m : Int) = ((u / 10 ^ m % 10 : Nat) : Int) := by
      rw [rd_drop, dl_rd _ _ _ (by omega), dg_high]
    have hl : ((dl (u * 10 ^ p) 30).drop p).length = 30 - p := by rw [List.length_drop, dl_len]
    have hn : u / 10 ^ (m + 1) = u / 10 ^ m / 10 := by rw [Nat.div_div_eq_div_mul, Nat.pow_succ]
    have hle : u / 10 ^ m ≤ u := Nat.div_le_self ..
    have hpos : 0 < 10 ^ m := Nat.pow_pos (by decide)
    have ih := ih (by omega)
    rw [show m + 1 + (k + 1) = (m + (k + 1)) + 1 by omega, remitterref01_AddP.l2, show (((m + 1 : Nat) : Int) - 1) = (m : Int) by omega, if_pos (by omega), hl, hr]
    by_cases c : 18 ≤ m
    · have h0 := h0 (by omega)
      rw [hn] at h0
      have hbig : u / 10 ^ m ≠ 0 → ¬ u < 1000000000000000000 := fun h h9 => by
        have h8 : 10 ^ 18 ≤ 10 ^ m := Nat.pow_le_pow_right (by decide) c
        rw [T] at h8
        exact h (Nat.div_eq_of_lt (by omega))
      have ih := fun h => ih (fun _ => h) (fun h2 => by omega)
      generalize u / 10 ^ m = q at *
      rw [if_pos (by omega), if_pos (by omega), if_pos (by omega), hn, h0]
      by_cases c0 : q = 0
      · subst c0
        rw [if_pos (by decide), wrap_ok (x := (m : Int) - 1) (by omega) (by omega), show wrap64 (wrap64 (10 * ((0 : Nat) : Int)) + ((0 % 10 : Nat) : Int)) = ((0 : Nat) : Int) by rw [wrap_ok (x := 10 * ((0 : Nat) : Int)) (by decide) (by decide), wrap_ok (by decide) (by decide)]; rfl]
        exact ih rfl
      · rw [if_neg (by omega), if_neg (hbig c0)]
    · have hu : u < 1000000000000000000 := by
        rcases Nat.lt_or_ge (m + 1) 18 with h9 | h9
        · exact h1 h9
        · have := (Nat.div_eq_zero_iff_lt (Nat.pow_pos (by decide))).1 (h0 h9)
          rw [show m + 1 = 18 by omega, T] at this
          exact this
      have ih := ih (fun h => absurd h c) (fun _ => hu)
      rw [hn]
      generalize u / 10 ^ m = q at *
      rw [if_neg (by omega), if_pos (by omega), if_pos (by omega), wrap_ok (x := (m : Int) - 1) (by omega) (by omega), wrap_ok (x := 10 * ((q / 10 : Nat) : Int)) (by omega) (by omega),
        show 10 * ((q / 10 : Nat) : Int) + ((q % 10 : Nat) : Int) = (q : Int) by omega, wrap_ok (x := (q : Int)) (by omega) (by omega)]
      exact ih
/-- What follows the row of the result's digits. -/
theorem add_j4 (u : Nat) (n na nb : Bool) (ca cb : Int) (sa sb : Nat) (ha : sa ≤ 5) (hb : sb ≤ 5) (hu : u * 10 ^ (5 - max sa sb) < 10 ^ 30) (k : Nat) (hk : 32 < k) :
    remitterref01_AddP.j4 k n (dl (u * 10 ^ (5 - max sa sb)) 30) na ca sa nb cb sb = some (if u < 1000000000000000000 then (n && decide (0 < u), (u : Int), ((max sa sb : Nat) : Int), 0) else (false, 0, 0, 11)) := by
  have hm : mx (sa : Int) (sb : Int) = ((max sa sb : Nat) : Int) := by unfold mx; split <;> omega
  obtain ⟨s, hs⟩ : ∃ s, max sa sb = s := ⟨_, rfl⟩
  rw [hs] at hm hu ⊢
  have hs5 : s ≤ 5 := by omega
  obtain ⟨p, hp⟩ : ∃ p, 5 - s = p := ⟨_, rfl⟩
  rw [hp] at hu ⊢
  have hw : wrap64 (5 - (s : Int)) = (p : Int) := by rw [wrap_ok (by omega) (by omega)]; omega
  have hl : ((dl (u * 10 ^ p) 30).drop p).length = 30 - p := by rw [List.length_drop, dl_len]
  obtain ⟨k, rfl⟩ : ∃ m, k = (30 - p) + (m + 1) + 1 := ⟨k - 1 - (30 - p) - 1, by omega⟩
  rw [remitterref01_AddP.j4, hm, hw, if_pos (by omega), dl_len, if_pos (by omega), Option.bind_some, Int.toNat_natCast, hl, wrap_ok (by omega) (by omega)]
  have h0 : u / 10 ^ (30 - p) = 0 := Nat.div_eq_of_lt (by
    have e : (10 : Nat) ^ 30 = 10 ^ (30 - p) * 10 ^ p := by rw [← Nat.pow_add]; congr 1; omega
    rw [e] at hu
    exact Nat.lt_of_mul_lt_mul_right hu)
  have h := add_l2 u p (by omega) n (s : Int) k (30 - p) (by omega) (fun _ => h0) (fun h => by omega)
  rw [h0] at h
  exact h
theorem add_f {na nb : Bool} {ca sa cb sb : Nat} (ha : GoodN na ca sa) (hb : GoodN nb cb sb) :
    remitterref01_AddP.f 150 na ca sa nb cb sb = some (addV na ca sa nb cb sb) := by
  have g1 : remitterref01_Good.f na ca sa = some true := congrArg some (goodB_of ha)
  have g2 : remitterref01_Good.f nb cb sb = some true := congrArg some (goodB_of hb)
  have fa := fun k hk => at_f ha k hk
  have fb := fun k hk => at_f hb k hk
  have ua := unit_lt ha
  have ub := unit_lt hb
  have hsa := ha.2.1
  have hsb := hb.2.1
  obtain ⟨p, hp⟩ : ∃ p, 5 - max sa sb = p := ⟨_, rfl⟩
  have ea : ca * 10 ^ (5 - sa) = ca * 10 ^ (max sa sb - sa) * 10 ^ p := by rw [Nat.mul_assoc, ← Nat.pow_add]; congr 2; omega
  have eb : cb * 10 ^ (5 - sb) = cb * 10 ^ (max sa sb - sb) * 10 ^ p := by rw [Nat.mul_assoc, ← Nat.pow_add]; congr 2; omega
  have hP : 0 < 10 ^ p := Nat.pow_pos (by decide)
  have bx : ca * 10 ^ (5 - sa) < 10 ^ 29 := by
    have h1 : 10 ^ (5 - sa) ≤ 10 ^ 5 := Nat.pow_le_pow_right (by decide) (by omega)
    have h2 := Nat.mul_le_mul (Nat.le_of_lt ha.1) h1
    have h3 : (1000000000000000000 * 10 ^ 5 : Nat) < 10 ^ 29 := by decide
    omega
  have bY : cb * 10 ^ (5 - sb) < 10 ^ 29 := by
    have h1 : 10 ^ (5 - sb) ≤ 10 ^ 5 := Nat.pow_le_pow_right (by decide) (by omega)
    have h2 := Nat.mul_le_mul (Nat.le_of_lt hb.1) h1
    have h3 : (1000000000000000000 * 10 ^ 5 : Nat) < 10 ^ 29 := by decide
    omega
  have j4 := fun (u : Nat) (n : Bool) (hu : u * 10 ^ p < 10 ^ 30) (k : Nat) (hk : 32 < k) => add_j4 u n na nb ca cb sa sb hsa hsb (by rw [hp]; exact hu) k hk
  rw [hp] at j4
  have fin := fun (sg : Bool) (v : Nat) h => add_fin (na := na) (nb := nb) (sg := sg) (x := ca * 10 ^ (max sa sb - sa)) (y := cb * 10 ^ (max sa sb - sb)) (v := v) h
  have T30 : (10 : Nat) ^ 30 = 10 * 10 ^ 29 := by decide
  have hsz := fun (k : Nat) (hk : 40 ≤ k) => size_f ua ub k hk
  unfold addV
  unfold remitterref01_AddP.f
  rw [g1, Option.bind_some, if_pos rfl, g2, Option.bind_some, show (150 : Nat) = 149 + 1 from rfl, remitterref01_AddP.j0, if_neg (by decide), fa 149 (by decide), Option.bind_some, fb 149 (by decide), Option.bind_some, if_pos (by decide), Option.bind_some]
  rw [ea] at fa hsz bx ⊢
  rw [eb] at fb hsz bY ⊢
  generalize ca * 10 ^ (max sa sb - sa) = x at *
  generalize cb * 10 ^ (max sa sb - sb) = y at *
  generalize (10 : Nat) ^ 29 = T at *
  generalize (10 : Nat) ^ p = P at *
  have hz : ∀ v, (List.replicate 30 0 : List Int) = dz v 0 := fun v => (dz_zero v).symm
  by_cases c : na = nb
  · subst c
    obtain ⟨f1, f2⟩ := fin na (x + y) (.inl ⟨rfl, rfl, rfl⟩)
    rw [if_pos (by cases na <;> rfl), f1, f2, hz (x * P + y * P)]
    have h := add_l0 (x * P) (y * P) na na na ca sa cb sb 118 30 0 rfl (by omega)
    rw [show car (x * P) (y * P) (10 ^ 0) = 0 by unfold car; rw [Nat.pow_zero, Nat.mod_one, Nat.mod_one], ← Nat.add_mul] at h
    rw [← Nat.add_mul]
    exact h.trans (j4 (x + y) na (by rw [Nat.add_mul]; omega) 118 (by decide))
  · rw [if_neg (by revert c; cases na <;> cases nb <;> decide), hsz 149 (by decide), Option.bind_some]
    by_cases c2 : x < y
    · have hlt : x * P < y * P := Nat.mul_lt_mul_of_pos_right c2 hP
      obtain ⟨f1, f2⟩ := fin nb (y - x) (.inr (.inr ⟨c, c2, rfl, rfl⟩))
      rw [show cmpN (x * P) (y * P) = -1 by unfold cmpN; rw [if_pos hlt], if_pos (by decide), Option.bind_some, Option.bind_some, show (149 : Nat) = 148 + 1 from rfl, remitterref01_AddP.j2, f1, f2, hz (y * P - x * P)]
      have h := add_l1 (y * P) (x * P) (by omega) nb na nb ca sa cb sb 117 30 0 rfl (by omega)
      rw [show bor (y * P) (x * P) (10 ^ 0) = 0 by unfold bor; rw [Nat.pow_zero, Nat.mod_one, Nat.mod_one]; rfl, ← Nat.sub_mul] at h
      rw [← Nat.sub_mul]
      exact h.trans (j4 (y - x) nb (by rw [Nat.sub_mul]; omega) 117 (by decide))
    · have hge : ¬ x * P < y * P := Nat.not_lt.2 (Nat.mul_le_mul_right P (by omega))
      obtain ⟨f1, f2⟩ := fin na (x - y) (.inr (.inl ⟨c, by omega, rfl, rfl⟩))
      rw [if_neg (show ¬ cmpN (x * P) (y * P) < 0 by unfold cmpN; rw [if_neg hge]; split <;> decide), show (149 : Nat) = 148 + 1 from rfl, remitterref01_AddP.j2, f1, f2, hz (x * P - y * P)]
      have h := add_l1 (x * P) (y * P) (by omega) na na nb ca sa cb sb 117 30 0 rfl (by omega)
      rw [show bor (x * P) (y * P) (10 ^ 0) = 0 by unfold bor; rw [Nat.pow_zero, Nat.mod_one, Nat.mod_one]; rfl, ← Nat.sub_mul] at h
      rw [← Nat.sub_mul]
      exact h.trans (j4 (x - y) na (by rw [Nat.sub_mul]; omega) 117 (by decide))
theorem add_all (a0_0 : Bool) (a0_1 a0_2 : Int) (a1_0 : Bool) (a1_1 a1_2 : Int) : remitterref01_AddP.f 150 a0_0 a0_1 a0_2 a1_0 a1_1 a1_2 = decimal_Add.f a0_0 a0_1 a0_2 a1_0 a1_1 a1_2 := by
  have h1 : remitterref01_Good.f a0_0 a0_1 a0_2 = some (goodB a0_0 a0_1 a0_2) := rfl
  have h2 : remitterref01_Good.f a1_0 a1_1 a1_2 = some (goodB a1_0 a1_1 a1_2) := rfl
  unfold decimal_Add.f
  cases g1 : goodB a0_0 a0_1 a0_2
  · unfold remitterref01_AddP.f
    rw [h1, g1, Option.bind_some, if_neg (by decide), show (150 : Nat) = 149 + 1 from rfl, remitterref01_AddP.j0, if_pos rfl, Bool.false_and, if_neg (by decide)]
  · cases g2 : goodB a1_0 a1_1 a1_2
    · unfold remitterref01_AddP.f
      rw [h1, g1, Option.bind_some, if_pos rfl, h2, g2, Option.bind_some, show (150 : Nat) = 149 + 1 from rfl, remitterref01_AddP.j0, if_pos (by decide), Bool.and_false, if_neg (by decide)]
    · obtain ⟨e1, e2, ga⟩ := goodN_of g1
      obtain ⟨e3, e4, gb⟩ := goodN_of g2
      rw [Bool.and_self, if_pos rfl]
      have h := add_f ga gb
      rw [← e1, ← e2, ← e3, ← e4] at h
      exact h
end Go.Proofs.YtggakekljbgeoaaDoor.Pure
namespace Go.Proofs.YtggakekljbgeoaaDoor.PAll
open Go.RowKit GPlain
def remitterref01_Add.f (a0_0 : Bool) (a0_1 a0_2 : Int) (a1_0 : Bool) (a1_1 a1_2 : Int) : Option (Bool × Int × Int × Int) := decimal_Add.f a0_0 a0_1 a0_2 a1_0 a1_1 a1_2
theorem remitterref01_Add.calls (a0_0 : Bool) (a0_1 a0_2 : Int) (a1_0 : Bool) (a1_1 a1_2 : Int) (r1 : Bool) (r2 r3 r4 : Int) (w : World) (h : remitterref01_Add.f a0_0 a0_1 a0_2 a1_0 a1_1 a1_2 = some (r1, r2, r3, r4)) :
    Calls Tryd.prog 25 #[.agg #[.bool a0_0, .int .i64 a0_1, .int .i64 a0_2], .agg #[.bool a1_0, .int .i64 a1_1, .int .i64 a1_2]] w fun e w' => e = .returned (.tuple #[.agg #[.bool r1, .int .i64 r2, .int .i64 r3], .int .i64 r4]) ∧ Below w.heap.size w w' :=
  remitterref01_AddP.calls 150 _ _ _ _ _ _ r1 r2 r3 r4 w ((Pure.add_all _ _ _ _ _ _).trans h)
end Go.Proofs.YtggakekljbgeoaaDoor.PAll
