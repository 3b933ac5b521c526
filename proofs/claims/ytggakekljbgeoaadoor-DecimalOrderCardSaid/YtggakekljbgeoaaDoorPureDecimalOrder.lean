/- Plain law: decimal.Cmp is an order, Least keeps the value, Neg turns it. -/
import Derived.Test.YtggakekljbgeoaaDoorPOrdx4
import Derived.Test.YtggakekljbgeoaaDoorPureDec1
namespace Go.Proofs.YtggakekljbgeoaaDoor.Pure
open Go.RowKit Go.Proofs.YtggakekljbgeoaaDoor.PAll Go.Proofs.YtggakekljbgeoaaDoorW.PrintWords Go.Proofs.YtggakekljbgeoaaDoorW.PrintLast GPlain
set_option linter.unusedSimpArgs false

theorem cut_f (l : List UInt8) (hl : l.length ≤ 1000) (c : UInt8) : strings_Cut.f (bs l) ⟨#[c]⟩ = some (bs (cutC c l).1, bs (cutC c l).2.1, (cutC c l).2.2) := by
  unfold strings_Cut.f
  rw [if_pos (by rw [bs_size]; omega), bs_data]
  show some (bs (Lib.cut l [c]).1, bs (Lib.cut l [c]).2.1, (Lib.cut l [c]).2.2) = _
  rw [cut_eq]
theorem parse_f (a b : List UInt8) (h : a.length + b.length ≤ 1000) : decimal_parse.f (bs a) (bs b) = some (readN a b) := by
  unfold decimal_parse.f
  rw [if_pos (by rw [bs_size, bs_size]; omega), bs_data, bs_data, parseR_eq]
theorem parseMT_f (l : List UInt8) (hl : l.length ≤ 1000) : decimal_ParseMT.f (bs l) = some (readMT l) := by
  have := cutC_len 44 l
  unfold decimal_ParseMT.f readMT
  rw [cut_f l hl, Option.bind_some]
  dsimp only
  by_cases h : (cutC 44 l).2.2 = true
  · rw [if_pos h, if_pos h, parse_f _ _ (by omega)]
    rfl
  · rw [if_neg h, if_neg h]
theorem parseXML_f (l : List UInt8) (hl : l.length ≤ 1000) : decimal_ParseXML.f (bs l) = some (readXML l) := by
  have := cutC_len 46 l
  unfold decimal_ParseXML.f readXML
  rw [cut_f l hl, Option.bind_some]
  dsimp only
  by_cases h : (cutC 46 l).2.2 = true
  · rw [if_pos h, bs_toList]
    by_cases h2 : (cutC 46 l).2.1 = []
    · rw [if_pos h2, if_pos ⟨h, h2⟩]
    · rw [if_neg h2, if_neg (fun h3 => h2 h3.2), parse_f _ _ (by omega)]
      rfl
  · rw [if_neg h, if_neg (fun h3 => h h3.1), parse_f _ _ (by omega)]
    rfl
theorem wakes_ok : remitterlaw01_wakes.f = some true := by
  have e1 : decimal_ParseMT.f (⟨#[48, 48, 49, 50, 44, 53]⟩ : ByteArray) = some (false, 125, 1, 0) := parseMT_f [48, 48, 49, 50, 44, 53] (by decide)
  have e2 : decimal_ParseXML.f (⟨#[49, 50, 46]⟩ : ByteArray) = some (false, 0, 0, 10) := parseXML_f [49, 50, 46] (by decide)
  have e3 : decimal_ParseMT.f (⟨#[49, 44, 49, 50, 51, 52, 53, 54]⟩ : ByteArray) = some (false, 0, 0, 11) := parseMT_f [49, 44, 49, 50, 51, 52, 53, 54] (by decide)
  have e4 : decimal_MT.f false 7 0 = some (⟨#[55, 44]⟩, 0) := by
    unfold decimal_MT.f decimal_text.f
    rw [if_pos (by decide), Option.bind_some, if_pos (by decide)]
    show some (bs (textL 7 0 [44] true), (0 : Int)) = _
    unfold textL behindL
    rw [if_neg (by decide), if_pos rfl, show (7 : Nat) / 10 ^ 0 = 7 from rfl, Lib.decDigits_one (by decide)]
    rfl
  have e5 : decimal_Add.f false 1250 2 true 125 1 = some (false, 0, 2, 0) := by decide
  unfold remitterlaw01_wakes.f
  have e6 : decimal_Good.f false 125 1 = some true := by decide
  rw [e1, e2, e3, e4, e5]
  simp only [Option.bind_some]
  rw [if_pos (by decide), if_pos (by decide), if_pos (by decide), if_pos (by decide), if_pos (by decide), if_pos (show (⟨#[55, 44]⟩ : ByteArray).toList = [55, 44] from bs_toList [55, 44]), if_pos (by decide), if_pos (by decide), e6]
  rfl
theorem good_f (n : Bool) (c s : Int) : decimal_Good.f n c s = some (goodB n c s) := by
  unfold decimal_Good.f goodB
  by_cases h1 : c ≥ 0
  · rw [if_pos h1, decide_eq_true (show 0 ≤ c from h1)]
    by_cases h2 : c < 1000000000000000000
    · rw [if_pos h2, decide_eq_true h2]
      by_cases h3 : s ≥ 0
      · rw [if_pos h3, decide_eq_true (show 0 ≤ s from h3)]
        by_cases h4 : s ≤ 5
        · rw [if_pos h4, decide_eq_true h4]
          cases n <;> simp
        · rw [if_neg h4, decide_eq_false h4]
          rfl
      · rw [if_neg h3, decide_eq_false (show ¬ 0 ≤ s from h3)]
        rfl
    · rw [if_neg h2, decide_eq_false h2]
      rfl
  · rw [if_neg h1, decide_eq_false (show ¬ 0 ≤ c from h1)]
    rfl
/-- A number's value in hundred-thousandths. -/
def valN (n : Bool) (c s : Nat) : Int := sgn n (c * 10 ^ (5 - s))
theorem cmp_f {na nb : Bool} {ca sa cb sb : Nat} (ha : GoodN na ca sa) (hb : GoodN nb cb sb) : decimal_Cmp.f na ca sa nb cb sb = some (cmpI (valN na ca sa) (valN nb cb sb)) := by
  unfold decimal_Cmp.f
  rw [goodB_of ha, goodB_of hb]
  rfl
theorem cmpI_le (x y : Int) : cmpI x y ≤ 0 ↔ x ≤ y := by unfold cmpI; split <;> (try split) <;> omega
theorem cmpI_gt (x y : Int) : cmpI x y > 0 ↔ y < x := by unfold cmpI; split <;> (try split) <;> omega
theorem cmpI_self (x : Int) : cmpI x x = 0 := by unfold cmpI; rw [if_neg (by omega), if_neg (by omega)]
theorem cmpI_neg (x y : Int) : cmpI (-x) (-y) = cmpI y x := by unfold cmpI; split <;> split <;> (try split) <;> (try split) <;> omega
theorem least_l0 (n : Bool) : ∀ (s c k : Nat), GoodN n c s → s < k → ∃ c2 s2 : Nat, decimal_Least.l0 k n c s = some (n, (c2 : Int), (s2 : Int)) ∧ GoodN n c2 s2 ∧ valN n c2 s2 = valN n c s := by
  intro s
  induction s with
  | zero =>
    intro c k h hk
    obtain ⟨k, rfl⟩ : ∃ m, k = m + 1 := ⟨k - 1, by omega⟩
    refine ⟨c, 0, ?_, h, rfl⟩
    rw [decimal_Least.l0, good_f, goodB_of h, Option.bind_some, if_pos rfl, if_neg (by omega)]
  | succ s ih =>
    intro c k h hk
    obtain ⟨k, rfl⟩ : ∃ m, k = m + 1 := ⟨k - 1, by omega⟩
    have hg := goodB_of h
    obtain ⟨h1, h2, h3⟩ := h
    rw [decimal_Least.l0, good_f, hg, Option.bind_some, if_pos rfl, if_pos (by omega)]
    by_cases h0 : c % 10 = 0
    · have e1 : Int.tmod (c : Int) 10 = 0 := by rw [Int.tmod_eq_emod_of_nonneg (by omega)]; omega
      have e2 : Int.tdiv (c : Int) 10 = ((c / 10 : Nat) : Int) := by rw [Int.tdiv_eq_ediv_of_nonneg (by omega)]; omega
      rw [if_pos e1, e2, wrap_ok (by omega) (by omega), wrap_ok (by omega) (by omega), show (((s + 1 : Nat) : Int) - 1) = (s : Int) by omega]
      obtain ⟨c2, s2, e, g, v⟩ := ih (c / 10) k ⟨by omega, by omega, fun hn => by have := h3 hn; omega⟩ (by omega)
      refine ⟨c2, s2, e, g, v.trans ?_⟩
      unfold valN
      refine congrArg (sgn n) ?_
      rw [show 5 - s = (5 - (s + 1)) + 1 by omega, Nat.pow_succ, Nat.mul_comm (10 ^ (5 - (s + 1))) 10, ← Nat.mul_assoc, show c / 10 * 10 = c by omega]
    · have e1 : ¬ Int.tmod (c : Int) 10 = 0 := by rw [Int.tmod_eq_emod_of_nonneg (by omega)]; omega
      rw [if_neg e1]
      exact ⟨c, s + 1, rfl, ⟨h1, h2, h3⟩, rfl⟩
theorem neg_f {n : Bool} {c s : Nat} (h : GoodN n c s) : ∃ n2 : Bool, decimal_Neg.f n c s = some (n2, (c : Int), (s : Int)) ∧ GoodN n2 c s ∧ valN n2 c s = -valN n c s := by
  obtain ⟨h1, h2, h3⟩ := h
  have hp : 0 < 10 ^ (5 - s) := Nat.pow_pos (by decide)
  unfold decimal_Neg.f
  cases n
  · rw [if_neg (by decide)]
    by_cases h0 : c = 0
    · subst h0
      exact ⟨false, rfl, ⟨h1, h2, fun h => by cases h⟩, by simp [valN, sgn]⟩
    · refine ⟨true, ?_, ⟨h1, h2, fun _ => by omega⟩, by simp [valN, sgn]⟩
      have : ((c : Int) != 0) = true := by simp; exact h0
      rw [this]
  · rw [if_pos rfl]
    exact ⟨false, rfl, ⟨h1, h2, fun h => by cases h⟩, by simp [valN, sgn]⟩
theorem order_good {na nb nc : Bool} {ca sa cb sb cc sc : Nat} (ha : GoodN na ca sa) (hb : GoodN nb cb sb) (hc : GoodN nc cc sc) (k : Nat) (hk : 40 ≤ k) : remitterlaw01_DecimalOrder.j0 (k + 2) false na ca sa nb cb sb nc cc sc = some true := by
  have hj : remitterlaw01_DecimalOrder.j1 (k + 1) false na ca sa nb cb sb = some true := by
    obtain ⟨c2, s2, e, g, v⟩ := least_l0 na sa ca k ha (by have := ha.2.1; omega)
    obtain ⟨n1, e1, g1, v1⟩ := neg_f ha
    obtain ⟨n2, e2, g2, v2⟩ := neg_f hb
    have hl : decimal_Least.f k na ca sa = some (na, (c2 : Int), (s2 : Int)) := e
    have hp1 : decimal_Cmp.f na (c2 : Int) (s2 : Int) nb cb sb = some (cmpI (valN na ca sa) (valN nb cb sb)) := (cmp_f g hb).trans (congrArg (fun x => some (cmpI x (valN nb cb sb))) v)
    have hp2 : decimal_Cmp.f n1 ca sa n2 cb sb = some (cmpI (valN nb cb sb) (valN na ca sa)) := by
      rw [cmp_f g1 g2, v1, v2, cmpI_neg]
    have hp3 := cmp_f ha hb
    have hp4 := cmp_f hb ha
    generalize cmpI (valN na ca sa) (valN nb cb sb) = x at hp1 hp3
    generalize cmpI (valN nb cb sb) (valN na ca sa) = y at hp2 hp4
    rw [remitterlaw01_DecimalOrder.j1, if_neg (by decide), hl, Option.bind_some]
    dsimp only
    rw [hp1, Option.bind_some, hp3, Option.bind_some, if_pos rfl, e1, Option.bind_some, e2, Option.bind_some]
    dsimp only
    rw [hp2, Option.bind_some, hp4, Option.bind_some, if_pos rfl, wakes_ok]
    rfl
  have hz : remitterlaw01_DecimalOrder.j1 (k + 1) (cmpI (valN na ca sa) (valN na ca sa) != 0) na ca sa nb cb sb = some true := by
    rw [cmpI_self, show ((0 : Int) != 0) = false from rfl]
    exact hj
  rw [remitterlaw01_DecimalOrder.j0, if_neg (by decide), cmp_f ha hb, cmp_f hb hc, cmp_f ha hc, cmp_f ha ha]
  simp only [Option.bind_some]
  by_cases h1 : cmpI (valN na ca sa) (valN nb cb sb) ≤ 0
  · rw [if_pos h1]
    by_cases h2 : cmpI (valN nb cb sb) (valN nc cc sc) ≤ 0
    · rw [if_pos h2, if_neg (show ¬ cmpI (valN na ca sa) (valN nc cc sc) > 0 from fun h => by
        have := (cmpI_le _ _).1 h1
        have := (cmpI_le _ _).1 h2
        have := (cmpI_gt _ _).1 h
        omega)]
      exact hz
    · rw [if_neg h2]
      exact hz
  · rw [if_neg h1]
    exact hz
theorem DecimalOrder (a0_0 : Bool) (a0_1 a0_2 : Int) (a1_0 : Bool) (a1_1 a1_2 : Int) (a2_0 : Bool) (a2_1 a2_2 : Int) :
    ∃ k, remitterlaw01_DecimalOrder.f k a0_0 a0_1 a0_2 a1_0 a1_1 a1_2 a2_0 a2_1 a2_2 = some true := by
  refine ⟨50, ?_⟩
  have ht : remitterlaw01_DecimalOrder.j0 50 true a0_0 a0_1 a0_2 a1_0 a1_1 a1_2 a2_0 a2_1 a2_2 = some true := by
    rw [remitterlaw01_DecimalOrder.j0, if_pos rfl, wakes_ok]
    rfl
  unfold remitterlaw01_DecimalOrder.f
  simp only [good_f, Option.bind_some]
  cases h0 : goodB a0_0 a0_1 a0_2
  · exact ht
  · cases h1 : goodB a1_0 a1_1 a1_2
    · exact ht
    · cases h2 : goodB a2_0 a2_1 a2_2
      · exact ht
      · obtain ⟨e1, e2, g0⟩ := goodN_of h0
        obtain ⟨e3, e4, g1⟩ := goodN_of h1
        obtain ⟨e5, e6, g2⟩ := goodN_of h2
        rw [if_pos rfl, if_pos rfl, e1, e2, e3, e4, e5, e6]
        exact order_good g0 g1 g2 48 (by decide)
end Go.Proofs.YtggakekljbgeoaaDoor.Pure
