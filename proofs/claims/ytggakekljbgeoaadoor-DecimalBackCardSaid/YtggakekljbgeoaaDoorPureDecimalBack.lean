/- Plain law: what is read and written is worth the same. -/
import Derived.Test.YtggakekljbgeoaaDoorPBacx3
import Derived.Test.YtggakekljbgeoaaDoorPureDec1
import Derived.Test.YtggakekljbgeoaaDoorPureDec3
namespace Go.Proofs.YtggakekljbgeoaaDoor.Pure
open Go.RowKit Go.Proofs.YtggakekljbgeoaaDoor.PAll Go.Proofs.YtggakekljbgeoaaDoorW.PrintWords Go.Proofs.YtggakekljbgeoaaDoorW.PrintLast GPlain
set_option linter.unusedSimpArgs false

theorem cut_f (l : List UInt8) (hl : l.length ≤ 1000) (c : UInt8) : strings_Cut.f (bs l) ⟨#[c]⟩ = some (bs (cutC c l).1, bs (cutC c l).2.1, (cutC c l).2.2) := by
  unfold strings_Cut.f
  rw [if_pos (by rw [bs_size]; omega), bs_data]
  show some (bs (Lib.cut l [c]).1, bs (Lib.cut l [c]).2.1, (Lib.cut l [c]).2.2) = _
  rw [cut_eq]
theorem parse_f (a b : List UInt8) (h : a.length + b.length ≤ 1000) : decimal_parse.f (bs a) (bs b) = some (readN a b) := by
  unfold decimal_parse.f
  rw [if_pos (by rw [bs_size, bs_size]; omega), bs_data, bs_data, parseR_eq]
theorem parseMT_f (l : List UInt8) (hl : l.length ≤ 1000) : decimal_ParseMT.f (bs l) = some (readMT l) := by
  have := cutC_len 44 l
  unfold decimal_ParseMT.f readMT
  rw [cut_f l hl, Option.bind_some]
  dsimp only
  by_cases h : (cutC 44 l).2.2 = true
  · rw [if_pos h, if_pos h, parse_f _ _ (by omega)]
    rfl
  · rw [if_neg h, if_neg h]
theorem parseXML_f (l : List UInt8) (hl : l.length ≤ 1000) : decimal_ParseXML.f (bs l) = some (readXML l) := by
  have := cutC_len 46 l
  unfold decimal_ParseXML.f readXML
  rw [cut_f l hl, Option.bind_some]
  dsimp only
  by_cases h : (cutC 46 l).2.2 = true
  · rw [if_pos h, bs_toList]
    by_cases h2 : (cutC 46 l).2.1 = []
    · rw [if_pos h2, if_pos ⟨h, h2⟩]
    · rw [if_neg h2, if_neg (fun h3 => h2 h3.2), parse_f _ _ (by omega)]
      rfl
  · rw [if_neg h, if_neg (fun h3 => h h3.1), parse_f _ _ (by omega)]
    rfl
theorem wakes_ok : remitterlaw01_wakes.f = some true := by
  have e1 : decimal_ParseMT.f (⟨#[48, 48, 49, 50, 44, 53]⟩ : ByteArray) = some (false, 125, 1, 0) := parseMT_f [48, 48, 49, 50, 44, 53] (by decide)
  have e2 : decimal_ParseXML.f (⟨#[49, 50, 46]⟩ : ByteArray) = some (false, 0, 0, 10) := parseXML_f [49, 50, 46] (by decide)
  have e3 : decimal_ParseMT.f (⟨#[49, 44, 49, 50, 51, 52, 53, 54]⟩ : ByteArray) = some (false, 0, 0, 11) := parseMT_f [49, 44, 49, 50, 51, 52, 53, 54] (by decide)
  have e4 : decimal_MT.f false 7 0 = some (⟨#[55, 44]⟩, 0) := by
    unfold decimal_MT.f decimal_text.f
    rw [if_pos (by decide), Option.bind_some, if_pos (by decide)]
    show some (bs (textL 7 0 [44] true), (0 : Int)) = _
    unfold textL behindL
    rw [if_neg (by decide), if_pos rfl, show (7 : Nat) / 10 ^ 0 = 7 from rfl, Lib.decDigits_one (by decide)]
    rfl
  have e5 : decimal_Add.f false 1250 2 true 125 1 = some (false, 0, 2, 0) := by decide
  unfold remitterlaw01_wakes.f
  have e6 : decimal_Good.f false 125 1 = some true := by decide
  rw [e1, e2, e3, e4, e5]
  simp only [Option.bind_some]
  rw [if_pos (by decide), if_pos (by decide), if_pos (by decide), if_pos (by decide), if_pos (by decide), if_pos (show (⟨#[55, 44]⟩ : ByteArray).toList = [55, 44] from bs_toList [55, 44]), if_pos (by decide), if_pos (by decide), e6]
  rfl
theorem good_f (n : Bool) (c s : Int) : decimal_Good.f n c s = some (goodB n c s) := by
  unfold decimal_Good.f goodB
  by_cases h1 : c ≥ 0
  · rw [if_pos h1, decide_eq_true (show 0 ≤ c from h1)]
    by_cases h2 : c < 1000000000000000000
    · rw [if_pos h2, decide_eq_true h2]
      by_cases h3 : s ≥ 0
      · rw [if_pos h3, decide_eq_true (show 0 ≤ s from h3)]
        by_cases h4 : s ≤ 5
        · rw [if_pos h4, decide_eq_true h4]
          cases n <;> simp
        · rw [if_neg h4, decide_eq_false h4]
          rfl
      · rw [if_neg h3, decide_eq_false (show ¬ 0 ≤ s from h3)]
        rfl
    · rw [if_neg h2, decide_eq_false h2]
      rfl
  · rw [if_neg h1, decide_eq_false (show ¬ 0 ≤ c from h1)]
    rfl
/-- A number's value in hundred-thousandths. -/
def valN (n : Bool) (c s : Nat) : Int := sgn n (c * 10 ^ (5 - s))
theorem cmp_f {na nb : Bool} {ca sa cb sb : Nat} (ha : GoodN na ca sa) (hb : GoodN nb cb sb) : decimal_Cmp.f na ca sa nb cb sb = some (cmpI (valN na ca sa) (valN nb cb sb)) := by
  unfold decimal_Cmp.f
  rw [goodB_of ha, goodB_of hb]
  rfl
theorem cmpI_self (x : Int) : cmpI x x = 0 := by unfold cmpI; rw [if_neg (by omega), if_neg (by omega)]
theorem least_l0 (n : Bool) : ∀ (s c k : Nat), GoodN n c s → s < k → ∃ c2 s2 : Nat, decimal_Least.l0 k n c s = some (n, (c2 : Int), (s2 : Int)) ∧ GoodN n c2 s2 ∧ valN n c2 s2 = valN n c s ∧ (s2 = 0 ∨ ¬ Int.tmod (c2 : Int) 10 = 0) := by
  intro s
  induction s with
  | zero =>
    intro c k h hk
    obtain ⟨k, rfl⟩ : ∃ m, k = m + 1 := ⟨k - 1, by omega⟩
    refine ⟨c, 0, ?_, h, rfl, .inl rfl⟩
    rw [decimal_Least.l0, good_f, goodB_of h, Option.bind_some, if_pos rfl, if_neg (by omega)]
  | succ s ih =>
    intro c k h hk
    obtain ⟨k, rfl⟩ : ∃ m, k = m + 1 := ⟨k - 1, by omega⟩
    have hg := goodB_of h
    obtain ⟨h1, h2, h3⟩ := h
    rw [decimal_Least.l0, good_f, hg, Option.bind_some, if_pos rfl, if_pos (by omega)]
    by_cases h0 : c % 10 = 0
    · have e1 : Int.tmod (c : Int) 10 = 0 := by rw [Int.tmod_eq_emod_of_nonneg (by omega)]; omega
      have e2 : Int.tdiv (c : Int) 10 = ((c / 10 : Nat) : Int) := by rw [Int.tdiv_eq_ediv_of_nonneg (by omega)]; omega
      rw [if_pos e1, e2, wrap_ok (by omega) (by omega), wrap_ok (by omega) (by omega), show (((s + 1 : Nat) : Int) - 1) = (s : Int) by omega]
      obtain ⟨c2, s2, e, g, v, z⟩ := ih (c / 10) k ⟨by omega, by omega, fun hn => by have := h3 hn; omega⟩ (by omega)
      refine ⟨c2, s2, e, g, v.trans ?_, z⟩
      unfold valN
      refine congrArg (sgn n) ?_
      rw [show 5 - s = (5 - (s + 1)) + 1 by omega, Nat.pow_succ, Nat.mul_comm (10 ^ (5 - (s + 1))) 10, ← Nat.mul_assoc, show c / 10 * 10 = c by omega]
    · have e1 : ¬ Int.tmod (c : Int) 10 = 0 := by rw [Int.tmod_eq_emod_of_nonneg (by omega)]; omega
      rw [if_neg e1]
      exact ⟨c, s + 1, rfl, ⟨h1, h2, h3⟩, rfl, .inr e1⟩
/-- How large a value of so many digits is. -/
theorem valI_bd : ∀ (ds : List Int) (n : Int), (∀ d ∈ ds, 0 ≤ d ∧ d ≤ 9) → 0 ≤ n → n * (10 : Int) ^ ds.length ≤ valI ds n ∧ valI ds n < (n + 1) * (10 : Int) ^ ds.length
  | [], n, _, _ => by simp [valI]; omega
  | d :: r, n, hd, h => by
    have h1 := hd d List.mem_cons_self
    obtain ⟨h2, h3⟩ := valI_bd r (10 * n + d) (fun x hx => hd x (List.mem_cons_of_mem _ hx)) (by omega)
    have hp : (0 : Int) < (10 : Int) ^ r.length := Int.pow_pos (by decide)
    refine ⟨?_, ?_⟩
    · show n * 10 ^ (r.length + 1) ≤ valI r (10 * n + d)
      refine Int.le_trans ?_ h2
      rw [Int.pow_succ, Int.mul_comm ((10 : Int) ^ r.length) 10, ← Int.mul_assoc]
      exact Int.mul_le_mul_of_nonneg_right (by omega) (Int.le_of_lt hp)
    · show valI r (10 * n + d) < (n + 1) * 10 ^ (r.length + 1)
      refine Int.lt_of_lt_of_le h3 ?_
      rw [Int.pow_succ, Int.mul_comm ((10 : Int) ^ r.length) 10, ← Int.mul_assoc]
      exact Int.mul_le_mul_of_nonneg_right (by omega) (Int.le_of_lt hp)
theorem readMT_cases (l : List UInt8) : (∃ e, (e = 10 ∨ e = 11) ∧ readMT l = (false, 0, 0, e)) ∨ ∃ (k c s : Nat), readMT l = (false, (c : Int), (s : Int), 0) ∧ c < 1000000000000000000 ∧ s ≤ 5 ∧ c < 10 ^ (k + 1 + s) ∧ l.length = k + 1 + 1 + s := by
  unfold readMT
  by_cases h : (cutC 44 l).2.2 = true
  · rw [if_pos h]
    rcases hcc : cutC 44 l with ⟨a, b, f⟩
    rw [hcc] at h
    have h : f = true := h
    subst h
    obtain ⟨rfl, -⟩ := cutC_true hcc
    dsimp only
    unfold readN
    by_cases h1 : (a ++ b).all digB = false
    · rw [if_pos h1]
      exact .inl ⟨10, .inl rfl, rfl⟩
    · rw [if_neg h1]
      by_cases h2 : a = []
      · rw [if_pos h2]
        exact .inl ⟨10, .inl rfl, rfl⟩
      · rw [if_neg h2]
        by_cases h3 : 5 < b.length ∨ 1000000000000000000 ≤ valI (digs (a ++ b)) 0
        · rw [if_pos h3]
          exact .inl ⟨11, .inr rfl, rfl⟩
        · rw [if_neg h3]
          have hd : ∀ d ∈ digs (a ++ b), 0 ≤ d ∧ d ≤ 9 := by
            intro d hd
            obtain ⟨c, hc, rfl⟩ := List.mem_map.1 hd
            have := List.all_eq_true.1 (by simpa using h1 : (a ++ b).all digB = true) c hc
            unfold digB at this
            simp only [Bool.and_eq_true, decide_eq_true_eq] at this
            exact ⟨by omega, by omega⟩
          obtain ⟨b1, b2⟩ := valI_bd (digs (a ++ b)) 0 hd (Int.le_refl _)
          have hlen : (digs (a ++ b)).length = a.length + b.length := by unfold digs; rw [List.length_map, List.length_append]
          have ha : 0 < a.length := List.length_pos_iff.2 h2
          rw [Int.zero_mul] at b1
          refine .inr ⟨a.length - 1, (valI (digs (a ++ b)) 0).toNat, b.length, ?_, by omega, by omega, ?_, ?_⟩
          · rw [Int.toNat_of_nonneg b1]
          · rw [show a.length - 1 + 1 + b.length = (digs (a ++ b)).length by omega]
            rw [Int.zero_add, Int.one_mul] at b2
            have e : ((10 : Int) ^ (digs (a ++ b)).length) = ((10 ^ (digs (a ++ b)).length : Nat) : Int) := by simp
            rw [e] at b2
            omega
          · rw [List.length_append, List.length_cons]; omega
  · rw [if_neg h]
    exact .inl ⟨10, .inl rfl, rfl⟩
theorem DecimalBack : remitterlaw01_DecimalBack.Pure := by
  intro a0 _
  refine ⟨50, ?_⟩
  obtain ⟨l, rfl⟩ := bs_ex a0
  unfold remitterlaw01_DecimalBack.f
  rw [bs_size, wakes_ok]
  by_cases h : (l.length : Int) > 60
  · rw [if_pos h]
    rfl
  · have hl : l.length ≤ 1000 := by omega
    rw [if_neg h, parseMT_f l hl, Option.bind_some]
    rcases readMT_cases l with ⟨e, he, hr⟩ | ⟨k, c, s, hr, hc, hs, hck, hlen⟩
    · rw [hr]
      dsimp only
      rw [if_neg (by omega)]
      rfl
    · rw [hr]
      dsimp only
      have hg : GoodN false c s := ⟨hc, hs, fun h => by cases h⟩
      have hgb := goodB_of hg
      have e1 : decimal_MT.f false (c : Int) (s : Int) = some (bs (textL c s [44] true), 0) := by
        unfold decimal_MT.f decimal_text.f
        rw [if_pos (by decide), Option.bind_some, if_pos ⟨hgb, rfl⟩]
        rfl
      have e2 : decimal_XML.f false (c : Int) (s : Int) = some (bs (textL c s [46] false), 0) := by
        unfold decimal_XML.f decimal_text.f
        rw [if_pos (by decide), Option.bind_some, if_pos ⟨hgb, rfl⟩]
        rfl
      have hd : (Lib.decDigits (c / 10 ^ s)).length ≤ k + 1 := digits_len10 k _ (by
        rw [Nat.div_lt_iff_lt_mul (Nat.pow_pos (by decide)), ← Nat.pow_add]
        exact hck)
      have hm := text_mt_len c s
      have hx : (textL c s [46] false).length ≤ 1000 := by
        unfold textL
        split
        · omega
        · rw [List.length_append, List.length_append, behind_len]
          show (Lib.decDigits (c / 10 ^ s)).length + 1 + s ≤ 1000
          omega
      have e3 : decimal_ParseMT.f (bs (textL c s [44] true)) = some (false, (c : Int), (s : Int), 0) := by rw [parseMT_f _ (by omega), text_mt hc hs]
      have e4 : decimal_ParseXML.f (bs (textL c s [46] false)) = some (false, (c : Int), (s : Int), 0) := by rw [parseXML_f _ hx, text_xml hc hs]
      obtain ⟨c2, s2, e, g, v, z⟩ := least_l0 false s c 50 hg (by omega)
      have e5 : decimal_Least.f 50 false (c : Int) (s : Int) = some (false, (c2 : Int), (s2 : Int)) := e
      have e6 : decimal_Cmp.f false (c2 : Int) (s2 : Int) false (c : Int) (s : Int) = some 0 := by rw [cmp_f g hg, v, cmpI_self]
      have e7 : ((bs (textL c s [44] true)).size : Int) ≤ (l.length : Int) := by rw [bs_size]; omega
      rw [if_pos rfl, e1, Option.bind_some, e2, Option.bind_some]
      dsimp only
      rw [e3, Option.bind_some, e4, Option.bind_some, e5, Option.bind_some]
      dsimp only
      rw [if_pos rfl, if_pos rfl, if_pos rfl, if_pos rfl, if_pos (by simp), if_pos (by simp), e6, Option.bind_some, if_pos rfl, if_pos e7]
      rcases z with z | z
      · rw [if_pos (by omega)]
        rfl
      · by_cases hz : (s2 : Int) = 0
        · rw [if_pos hz]
          rfl
        · rw [if_neg hz, if_neg z]
          rfl
end Go.Proofs.YtggakekljbgeoaaDoor.Pure
