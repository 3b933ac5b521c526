/- Plain law: CurrencySums. -/
import Derived.Test.YtggakekljbgeoaaDoorPCSumsx2
import Derived.Test.YtggakekljbgeoaaDoorPureCur
import Derived.Test.YtggakekljbgeoaaDoorPureExact
namespace Go.Proofs.YtggakekljbgeoaaDoor.Pure
open Go.RowKit Go.Proofs.YtggakekljbgeoaaDoor.PAll Go.Proofs.YtggakekljbgeoaaDoorW.PrintWords Go.Proofs.YtggakekljbgeoaaDoorW.PrintLast GPlain
set_option linter.unusedSimpArgs false
theorem wakes_ok : remitterlaw02_wakes.f = some true := by
  unfold remitterlaw02_wakes.f
  rw [known1, known2, known3, known4]
  have hA : currency_All.f.bind (fun t : List ByteArray => some ((t.length : Int) == 61)) = some true := by
    rw [show currency_All.f = some ccyAll from rfl, Option.bind_some, known5]
    rfl
  exact hA
theorem add_val {ca sa cb sb : Nat} (ha : GoodN false ca sa) (hb : GoodN false cb sb) :
    decimal_Add.f false ca sa false cb sb = some (if ca * 10 ^ (max sa sb - sa) + cb * 10 ^ (max sa sb - sb) < 1000000000000000000 then (false, ((ca * 10 ^ (max sa sb - sa) + cb * 10 ^ (max sa sb - sb) : Nat) : Int), ((max sa sb : Nat) : Int), 0) else (false, 0, 0, 11)) := by
  obtain ⟨f1, f2⟩ := add_fin (na := false) (nb := false) (sg := false) (x := ca * 10 ^ (max sa sb - sa)) (y := cb * 10 ^ (max sa sb - sb)) (v := ca * 10 ^ (max sa sb - sa) + cb * 10 ^ (max sa sb - sb)) (.inl ⟨rfl, rfl, rfl⟩)
  unfold decimal_Add.f
  rw [goodB_of ha, goodB_of hb, Bool.and_self, if_pos rfl, Int.toNat_natCast, Int.toNat_natCast, Int.toNat_natCast, Int.toNat_natCast]
  unfold addV
  rw [f1, f2, Bool.false_and]
theorem sum_fits {ca sa cb sb d : Nat} (ha : (lsN ca sa).2 ≤ d) (hb : (lsN cb sb).2 ≤ d) : (lsN (ca * 10 ^ (max sa sb - sa) + cb * 10 ^ (max sa sb - sb)) (max sa sb)).2 ≤ d := by
  rw [lsN_le] at ha hb ⊢
  rcases Nat.lt_or_ge d (max sa sb) with h | h
  · right
    have one : ∀ c s m : Nat, s ≤ m → d < m → (s ≤ d ∨ 10 ^ (s - d) ∣ c) → 10 ^ (m - d) ∣ c * 10 ^ (m - s) := by
      intro c s m h1 h2 h3
      rcases Nat.lt_or_ge d s with h4 | h4
      · have h5 : 10 ^ (s - d) ∣ c := by
          rcases h3 with h3 | h3
          · omega
          · exact h3
        rw [show m - d = (s - d) + (m - s) by omega, Nat.pow_add]
        exact Nat.mul_dvd_mul h5 (Nat.dvd_refl _)
      · exact Nat.dvd_trans (Nat.pow_dvd_pow 10 (by omega)) (Nat.dvd_mul_left _ _)
    exact Nat.dvd_add (one ca sa _ (Nat.le_max_left _ _) h ha) (one cb sb _ (Nat.le_max_right _ _) h hb)
  · exact .inl h
theorem CurrencySums (a0_0 : Bool) (a0_1 a0_2 : Int) (a1_0 : Bool) (a1_1 a1_2 : Int) (a2 a3 : ByteArray) : ∃ k, remitterlaw02_CurrencySums.f k a0_0 a0_1 a0_2 a1_0 a1_1 a1_2 a2 a3 = some true := by
  refine ⟨200, ?_⟩
  have hno : remitterlaw02_CurrencySums.j0 200 a2 a3 true a0_0 a0_1 a0_2 a1_0 a1_1 a1_2 = some true := by
    rw [show (200 : Nat) = 199 + 1 from rfl, remitterlaw02_CurrencySums.j0, if_pos rfl, wakes_ok]
    rfl
  unfold remitterlaw02_CurrencySums.f
  by_cases h2 : (a2.size : Int) > 60
  · rw [if_pos h2]
    exact hno
  · rw [if_neg h2]
    by_cases h3 : (a3.size : Int) > 60
    · rw [if_pos h3]
      exact hno
    · have F := fun n c s k hk => fits_f n c s a2 (by omega) k hk
      have F3 := fun n c s k hk => fits_f n c s a3 (by omega) k hk
      rw [if_neg h3, F _ _ _ 200 (by decide), Option.bind_some]
      by_cases fa : fitsV a0_0 a0_1 a0_2 (digitsC a2.data.toList) = 0
      · rw [if_pos fa, F _ _ _ 200 (by decide), Option.bind_some]
        by_cases fb : fitsV a1_0 a1_1 a1_2 (digitsC a2.data.toList) = 0
        · rw [fb]
          obtain ⟨rfl, e1, e2, ga, d, hd, la⟩ := fits_ok fa
          obtain ⟨rfl, e3, e4, gb, d', hd', lb⟩ := fits_ok fb
          rw [hd] at hd' fa
          obtain rfl := Option.some.inj hd'
          have hd0 := digits_nonneg hd
          have dg2 : currency_Digits.f a2 = some (d, true) := by rw [digits_f a2 (by omega), hd]
          rw [hd] at F
          rw [e1, e2] at fa
          rw [e1, e2, e3, e4]
          generalize a0_1.toNat = ca at *
          generalize a0_2.toNat = sa at *
          generalize a1_1.toNat = cb at *
          generalize a1_2.toNat = sb at *
          have lss := sum_fits (d := d.toNat) (show (lsN ca sa).2 ≤ d.toNat by omega) (show (lsN cb sb).2 ≤ d.toNat by omega)
          have hM : max sa sb ≤ 5 := by have := ga.2.1; have := gb.2.1; omega
          have least : decimal_Least.f 197 false ca sa = some (false, ((lsN ca sa).1 : Int), ((lsN ca sa).2 : Int)) := least_l0 false sa ca 197 ga (by have := ga.2.1; omega)
          have hl : fitsV false ((lsN ca sa).1 : Int) ((lsN ca sa).2 : Int) (some d) = 0 := fits_mk (lsN_good sa ca ga) (by rw [lsN_again]; exact la)
          have j2 : remitterlaw02_CurrencySums.j2 198 a2 true false false ca sa = some true := by
            rw [show (198 : Nat) = 197 + 1 from rfl, remitterlaw02_CurrencySums.j2, if_neg (by decide), if_pos rfl, least, Option.bind_some]
            dsimp only
            rw [F _ _ _ 197 (by decide), Option.bind_some, hl, if_pos rfl, wakes_ok]
            rfl
          have j1 : remitterlaw02_CurrencySums.j1 199 a2 a3 false false ca sa = some true := by
            rw [show (199 : Nat) = 198 + 1 from rfl, remitterlaw02_CurrencySums.j1, if_neg (by decide), dg2, Option.bind_some, digits_f a3 (by omega), Option.bind_some]
            cases ho : digitsC a3.data.toList with
            | none =>
              dsimp only
              rw [if_neg (by decide)]
              exact j2
            | some f =>
              dsimp only
              rw [if_pos rfl]
              by_cases hf : f ≥ d
              · rw [if_pos hf, F3 _ _ _ 198 (by decide), Option.bind_some, ho, fits_mk ga (by omega)]
                exact j2
              · rw [if_neg hf]
                exact j2
          have hsum := add_val ga gb
          generalize ca * 10 ^ (max sa sb - sa) + cb * 10 ^ (max sa sb - sb) = u at lss hsum
          show remitterlaw02_CurrencySums.j0 (199 + 1) a2 a3 false false ca sa false cb sb = some true
          rw [remitterlaw02_CurrencySums.j0, if_neg (by decide), hsum, Option.bind_some]
          by_cases hu : u < 1000000000000000000
          · rw [if_pos hu]
            dsimp only
            rw [if_pos rfl, F _ _ _ 199 (by decide), Option.bind_some, fits_mk ⟨hu, hM, fun h => by cases h⟩ (by omega), if_pos rfl]
            exact j1
          · rw [if_neg hu]
            dsimp only
            rw [if_neg (by decide)]
            exact j1
        · rw [show (fitsV a1_0 a1_1 a1_2 (digitsC a2.data.toList) != 0) = true by simpa using fb]
          exact hno
      · rw [if_neg fa]
        exact hno
end Go.Proofs.YtggakekljbgeoaaDoor.Pure
