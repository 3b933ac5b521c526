/- Plain law: DecimalExact. -/
import Derived.Test.YtggakekljbgeoaaDoorPExax3
import Derived.Test.YtggakekljbgeoaaDoorPureExact
namespace Go.Proofs.YtggakekljbgeoaaDoor.Pure
open Go.RowKit Go.Proofs.YtggakekljbgeoaaDoor.PAll Go.Proofs.YtggakekljbgeoaaDoorW.PrintWords Go.Proofs.YtggakekljbgeoaaDoorW.PrintLast GPlain
set_option linter.unusedSimpArgs false

theorem good_f (n : Bool) (c s : Int) : decimal_Good.f n c s = some (goodB n c s) := by
  unfold decimal_Good.f goodB
  by_cases h1 : c ≥ 0
  · rw [if_pos h1, decide_eq_true (show 0 ≤ c from h1)]
    by_cases h2 : c < 1000000000000000000
    · rw [if_pos h2, decide_eq_true h2]
      by_cases h3 : s ≥ 0
      · rw [if_pos h3, decide_eq_true (show 0 ≤ s from h3)]
        by_cases h4 : s ≤ 5
        · rw [if_pos h4, decide_eq_true h4]
          cases n <;> simp
        · rw [if_neg h4, decide_eq_false h4]
          rfl
      · rw [if_neg h3, decide_eq_false (show ¬ 0 ≤ s from h3)]
        rfl
    · rw [if_neg h2, decide_eq_false h2]
      rfl
  · rw [if_neg h1, decide_eq_false (show ¬ 0 ≤ c from h1)]
    rfl
theorem neg_f (n : Bool) (c : Nat) (s : Int) : decimal_Neg.f n (c : Int) s = some (negB n c, (c : Int), s) := by
  unfold decimal_Neg.f negB
  cases n
  · rw [if_neg (by decide), if_neg (by decide)]
    by_cases h : c = 0
    · subst h; rfl
    · have e : ((c : Int) != 0) = true := by simp; exact h
      rw [e, decide_eq_true h]
  · rfl
/-- What Add tells of good numbers: a sum, or that it is too great. -/
theorem add_cases {na nb : Bool} {ca sa cb sb : Nat} (ha : GoodN na ca sa) (hb : GoodN nb cb sb) :
    (decimal_Add.f na ca sa nb cb sb = some (decide (sumV na ca sa nb cb sb < 0), ((sumV na ca sa nb cb sb).natAbs : Int), ((max sa sb : Nat) : Int), 0) ∧ GoodN (decide (sumV na ca sa nb cb sb < 0)) (sumV na ca sa nb cb sb).natAbs (max sa sb)) ∨ decimal_Add.f na ca sa nb cb sb = some (false, 0, 0, 11) := by
  rw [add_good ha hb]
  by_cases h : (sumV na ca sa nb cb sb).natAbs < 1000000000000000000
  · rw [if_pos h]
    exact .inl ⟨rfl, goodN_of_val _ _ h (by have := ha.2.1; have := hb.2.1; omega)⟩
  · rw [if_neg h]
    exact .inr rfl
section
variable {na nb nc : Bool} {ca sa cb sb cc sc : Nat} (ha : GoodN na ca sa) (hb : GoodN nb cb sb) (hc : GoodN nc cc sc)
include ha hb hc
theorem ex_j3 (k : Nat) : remitterlaw01_DecimalExact.j3 (k + 1) na ca sa nb cb sb nc cc sc = some true := by
  rw [remitterlaw01_DecimalExact.j3]
  rcases add_cases ha hc with ⟨e1, g1⟩ | e1
  · rcases add_cases hb hc with ⟨e2, g2⟩ | e2
    · have e3 : decimal_Cmp.f (decide (sumV na ca sa nc cc sc < 0)) ((sumV na ca sa nc cc sc).natAbs : Int) ((max sa sc : Nat) : Int) (decide (sumV nb cb sb nc cc sc < 0)) ((sumV nb cb sb nc cc sc).natAbs : Int) ((max sb sc : Nat) : Int) = some (cmpI (worthN na ca sa) (worthN nb cb sb)) := by
        rw [cmp_good_f g1 g2, worth_sum ha.2.1 hc.2.1, worth_sum hb.2.1 hc.2.1, cmpI_add]
      have e4 := cmp_good_f ha hb
      generalize cmpI (worthN na ca sa) (worthN nb cb sb) = x at e3 e4
      rw [e1, e2, Option.bind_some, Option.bind_some]
      dsimp only
      rw [if_pos rfl, if_pos rfl, e3, Option.bind_some, e4, Option.bind_some, if_pos rfl, wakes_ok]
      rfl
    · rw [e1, e2, Option.bind_some, Option.bind_some]
      dsimp only
      rw [if_pos rfl, if_neg (by decide), wakes_ok]
      rfl
  · rcases add_cases hb hc with ⟨e2, g2⟩ | e2
    · rw [e1, e2, Option.bind_some, Option.bind_some]
      dsimp only
      rw [if_neg (by decide), wakes_ok]
      rfl
    · rw [e1, e2, Option.bind_some, Option.bind_some]
      dsimp only
      rw [if_neg (by decide), wakes_ok]
      rfl
theorem ex_j2 (k : Nat) (hx : GoodN (decide (sumV na ca sa nb cb sb < 0)) (sumV na ca sa nb cb sb).natAbs (max sa sb)) :
    remitterlaw01_DecimalExact.j2 (k + 2) false na ca sa nb cb sb nc cc sc (decide (sumV na ca sa nb cb sb < 0)) ((sumV na ca sa nb cb sb).natAbs : Int) ((max sa sb : Nat) : Int) = some true := by
  have h3 := ex_j3 ha hb hc k
  rw [remitterlaw01_DecimalExact.j2, if_neg (by decide)]
  rcases add_cases hx hc with ⟨e1, g1⟩ | e1
  · rcases add_cases hb hc with ⟨e2, g2⟩ | e2
    · rcases add_cases ha g2 with ⟨e3, g3⟩ | e3
      · rw [e1, e2, Option.bind_some, Option.bind_some]
        dsimp only
        rw [e3, Option.bind_some]
        dsimp only
        rw [if_pos rfl, if_pos rfl, if_pos rfl, sum3, show max (max sa sb) sc = max sa (max sb sc) by omega, if_neg (by simp)]
        exact h3
      · rw [e1, e2, Option.bind_some, Option.bind_some]
        dsimp only
        rw [e3, Option.bind_some]
        dsimp only
        rw [if_pos rfl, if_pos rfl, if_neg (by decide)]
        exact h3
    · obtain ⟨⟨w1, w2, w3, w4⟩, e3⟩ : ∃ v, decimal_Add.f na (ca : Int) (sa : Int) false 0 0 = some v := ⟨_, rfl⟩
      rw [e1, e2, Option.bind_some, Option.bind_some]
      dsimp only
      rw [e3, Option.bind_some]
      dsimp only
      rw [if_pos rfl, if_neg (by decide)]
      exact h3
  · obtain ⟨⟨v1, v2, v3, v4⟩, e2⟩ : ∃ v, decimal_Add.f nb (cb : Int) (sb : Int) nc (cc : Int) (sc : Int) = some v := ⟨_, rfl⟩
    obtain ⟨⟨w1, w2, w3, w4⟩, e3⟩ : ∃ v, decimal_Add.f na (ca : Int) (sa : Int) v1 v2 v3 = some v := ⟨_, rfl⟩
    rw [e1, e2, Option.bind_some, Option.bind_some]
    dsimp only
    rw [e3, Option.bind_some]
    dsimp only
    rw [if_neg (by decide)]
    exact h3
theorem ex_j1 (k : Nat) (hx : GoodN (decide (sumV na ca sa nb cb sb < 0)) (sumV na ca sa nb cb sb).natAbs (max sa sb)) :
    remitterlaw01_DecimalExact.j1 (k + 3) 0 false na ca sa nb cb sb nc cc sc (decide (sumV na ca sa nb cb sb < 0)) ((sumV na ca sa nb cb sb).natAbs : Int) ((max sa sb : Nat) : Int) = some true := by
  have h2 := ex_j2 ha hb hc k hx
  have hg := good_f (decide (sumV na ca sa nb cb sb < 0)) ((sumV na ca sa nb cb sb).natAbs : Int) ((max sa sb : Nat) : Int)
  rw [goodB_of hx] at hg
  rw [remitterlaw01_DecimalExact.j1, if_neg (by decide), if_pos rfl, neg_f, Option.bind_some]
  dsimp only
  rcases add_cases hx (neg_good hb) with ⟨e1, g1⟩ | e1
  · have e2 := cmp_good_f g1 ha
    rw [back_worth ha hb, cmpI_refl] at e2
    rw [e1, Option.bind_some]
    dsimp only
    rw [if_pos rfl, e2, Option.bind_some, if_pos rfl, hg, Option.bind_some]
    exact h2
  · rw [e1, Option.bind_some]
    dsimp only
    rw [if_neg (by decide), hg, Option.bind_some]
    exact h2
theorem ex_j0 (k : Nat) : remitterlaw01_DecimalExact.j0 (k + 4) false na ca sa nb cb sb nc cc sc = some true := by
  have e2 := add_comm_f hb ha
  have e3 := add_self ha
  have e4 := cmp_good_f ha hb
  have e5 := cmp_good_f hb ha
  have hw : wrap64 (-(cmpI (worthN nb cb sb) (worthN na ca sa))) = cmpI (worthN na ca sa) (worthN nb cb sb) := by
    have h1 := cmpI_bd (worthN nb cb sb) (worthN na ca sa)
    have h2 := cmpI_flip (worthN na ca sa) (worthN nb cb sb)
    rw [wrap_ok (by omega) (by omega)]
    omega
  generalize cmpI (worthN nb cb sb) (worthN na ca sa) = y at e5 hw
  generalize cmpI (worthN na ca sa) (worthN nb cb sb) = x at e4 hw
  rw [remitterlaw01_DecimalExact.j0, if_neg (by decide), e2, neg_f]
  simp only [Option.bind_some]
  rcases add_cases ha hb with ⟨e1, g1⟩ | e1
  · have h1 := ex_j1 ha hb hc k g1
    rw [e1, e3, Option.bind_some, Option.bind_some, Option.bind_some]
    dsimp only
    rw [if_neg (by simp), if_pos rfl, if_pos rfl, if_pos rfl, if_neg (by decide), e4, Option.bind_some, e5, Option.bind_some, hw, show (x != x) = false by simp]
    exact h1
  · have h3 := ex_j3 ha hb hc (k + 1)
    rw [e1, e3, Option.bind_some, Option.bind_some, Option.bind_some]
    dsimp only
    rw [if_neg (by decide), if_pos rfl, if_pos rfl, if_pos rfl, if_neg (by decide), e4, Option.bind_some, e5, Option.bind_some, hw, show (x != x) = false by simp,
      remitterlaw01_DecimalExact.j1, if_neg (by decide), if_neg (by decide)]
    exact h3
end
theorem DecimalExact (a0_0 : Bool) (a0_1 a0_2 : Int) (a1_0 : Bool) (a1_1 a1_2 : Int) (a2_0 : Bool) (a2_1 a2_2 : Int) :
    ∃ k, remitterlaw01_DecimalExact.f k a0_0 a0_1 a0_2 a1_0 a1_1 a1_2 a2_0 a2_1 a2_2 = some true := by
  refine ⟨50, ?_⟩
  have ht : remitterlaw01_DecimalExact.j0 50 true a0_0 a0_1 a0_2 a1_0 a1_1 a1_2 a2_0 a2_1 a2_2 = some true := by
    rw [remitterlaw01_DecimalExact.j0, if_pos rfl, wakes_ok]
    rfl
  unfold remitterlaw01_DecimalExact.f
  simp only [good_f, Option.bind_some]
  cases h0 : goodB a0_0 a0_1 a0_2
  · exact ht
  · cases h1 : goodB a1_0 a1_1 a1_2
    · exact ht
    · cases h2 : goodB a2_0 a2_1 a2_2
      · exact ht
      · obtain ⟨e1, e2, g0⟩ := goodN_of h0
        obtain ⟨e3, e4, g1⟩ := goodN_of h1
        obtain ⟨e5, e6, g2⟩ := goodN_of h2
        rw [if_pos rfl, if_pos rfl, e1, e2, e3, e4, e5, e6]
        exact ex_j0 g0 g1 g2 46
end Go.Proofs.YtggakekljbgeoaaDoor.Pure
