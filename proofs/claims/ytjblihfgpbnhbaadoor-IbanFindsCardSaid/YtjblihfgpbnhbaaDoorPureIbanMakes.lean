/- IbanMakes: for every country and rest, what is made is one, or refused, as the document says. No condition. -/
import Derived.Test.YtjblihfgpbnhbaaDoorPAllx4
import Derived.Test.YtjblihfgpbnhbaaDoorPureIbanMk
namespace Go.Proofs.YtjblihfgpbnhbaaDoor.Pure
open Go.RowKit Go.Proofs.YtjblihfgpbnhbaaDoor.PAll Go.Proofs.YtjblihfgpbnhbaaDoorW.PrintWords Go.Proofs.YtjblihfgpbnhbaaDoorW.PrintLast GPlain GLenP
set_option linter.unusedSimpArgs false

theorem append00 (c s : List UInt8) : (bs c ++ (⟨#[48, 48]⟩ : ByteArray)) ++ bs s = bs (c ++ [48, 48] ++ s) := by
  rw [show (⟨#[48, 48]⟩ : ByteArray) = bs [48, 48] from rfl, bs_append, bs_append]
theorem make_bad (c s : List UInt8) (h : c.length + s.length ≤ 200) (hb : ¬ ((lenF c).2 = true ∧ (restF (c ++ [48, 48] ++ s)).2 = true ∧ (s.length : Int) = (lenF c).1 - 4)) (hn : 0 ≤ (lenF c).1 ∧ (lenF c).1 ≤ 100) :
    iban_Make.f (bs c) (bs s) = some (bs [], 13) := by
  unfold iban_Make.f
  have h00 : (bs c ++ (⟨#[48, 48]⟩ : ByteArray)).size = c.length + 2 := by rw [show (⟨#[48, 48]⟩ : ByteArray) = bs [48, 48] from rfl, bs_append, bs_size, List.length_append]; rfl
  rw [len_i c (by omega), Option.bind_some, bs_size, if_pos (by omega), h00, bs_size, if_pos (by omega), append00, rest_i _ (by simp; omega), Option.bind_some, wrap_ok (by omega) (by omega)]
  by_cases h1 : (lenF c).2 = true
  · rw [if_pos h1]
    by_cases h2 : (restF (c ++ [48, 48] ++ s)).2 = true
    · rw [if_pos h2, if_neg (fun h3 => hb ⟨h1, h2, h3⟩)]
      rfl
    · rw [if_neg h2]
      rfl
  · rw [if_neg h1]
    rfl
theorem make_good (c s : List UInt8) (n : Int) (h : c.length + s.length ≤ 200) (hn : numOf c = some n) (hs : (s.length : Int) = n - 4) (hok : (restF (c ++ [48, 48] ++ s)).2 = true) :
    iban_Make.f (bs c) (bs s) = some (bs (c ++ ab (mid c s) ++ s), 0) := by
  obtain ⟨m2, m98, hrm, _⟩ := made c s n hn hs hok
  unfold iban_Make.f
  have hL : lenF c = (n, true) := by unfold lenF; rw [hn]
  have hnb := numOf_bd hn
  have h00 : (bs c ++ (⟨#[48, 48]⟩ : ByteArray)).size = c.length + 2 := by rw [show (⟨#[48, 48]⟩ : ByteArray) = bs [48, 48] from rfl, bs_append, bs_size, List.length_append]; rfl
  have hit : strconv_Itoa.f (((100 + mid c s : Nat)) : Int) = some (bs (49 :: ab (mid c s))) := by
    unfold strconv_Itoa.f
    rw [if_pos (by omega), itoa_ab _ (by omega)]
  have hex : (bs (49 :: ab (mid c s))).extract 1 (49 :: ab (mid c s)).length = bs (ab (mid c s)) := by rw [bs_extract, List.take_length]; rfl
  rw [len_i c (by omega), Option.bind_some, bs_size, if_pos (by omega), h00, bs_size, if_pos (by omega), append00, rest_i _ (by simp; omega), Option.bind_some, hL]
  show (if true = true then (if (restF (c ++ [48, 48] ++ s)).2 = true then (if (s.length : Int) = wrap64 (n - 4) then _ else _) else _) else _) = _
  rw [if_pos rfl, if_pos hok, wrap_ok (x := n - 4) (by omega) (by omega), if_pos hs, hrm, show (198 : Int) - (98 - (mid c s : Int)) = ((100 + mid c s : Nat) : Int) by omega, wrap_ok (by omega) (by omega), hit, Option.bind_some, bs_size, if_pos (by simp [ab]), hex, bs_append, bs_append, bs_size, bs_size, if_pos (by simp [ab]; omega), if_pos (by simp [ab]; omega)]
theorem IbanMakes : remitterlaw03_IbanMakes.Pure := by
  intro a0 a1 hz0 hz1
  obtain ⟨c, rfl⟩ := bs_ex a0
  obtain ⟨s, rfl⟩ := bs_ex a1
  rw [bs_size] at hz0 hz1
  refine ⟨7001, ?_⟩
  unfold remitterlaw03_IbanMakes.f
  have hw : ∀ k, 5 ≤ k → remitterlaw03_wakes.f k = some true := fun k hk => up remitterlaw03_wakes.mono wakes3 k hk
  have h00 : (bs c ++ (⟨#[48, 48]⟩ : ByteArray)).size = c.length + 2 := by rw [show (⟨#[48, 48]⟩ : ByteArray) = bs [48, 48] from rfl, bs_append, bs_size, List.length_append]; rfl
  rw [bs_size, bs_size, wrap_ok (x := (c.length : Int) + (s.length : Int)) (by omega) (by omega)]
  by_cases h100 : (c.length : Int) + (s.length : Int) > 100
  · rw [if_pos h100, hw _ (by omega)]
    rfl
  · rw [if_neg h100]
    have hlb : 0 ≤ (lenF c).1 ∧ (lenF c).1 ≤ 100 := by
      unfold lenF
      cases hn : numOf c with
      | none => exact ⟨Int.le_refl _, by decide⟩
      | some n => have := numOf_bd hn; exact ⟨by show 0 ≤ n; omega, by show n ≤ 100; omega⟩
    have hbad : ∀ n k, 6 ≤ k → remitterlaw03_IbanMakes.j0 k (bs c) (bs s) (bs []) 13 n true = some true := fun n k hk => by
      obtain ⟨k, rfl⟩ : ∃ k', k = k' + 1 := ⟨k - 1, by omega⟩
      rw [remitterlaw03_IbanMakes.j0, if_pos rfl, bs_toList, if_pos rfl, if_pos rfl, hw _ (by omega)]
      rfl
    by_cases hg : (lenF c).2 = true ∧ (restF (c ++ [48, 48] ++ s)).2 = true ∧ (s.length : Int) = (lenF c).1 - 4
    · obtain ⟨g1, g2, g3⟩ := hg
      obtain ⟨n, hn⟩ : ∃ n, numOf c = some n := by
        unfold lenF at g1
        cases hn : numOf c with
        | none => rw [hn] at g1; cases g1
        | some n => exact ⟨n, rfl⟩
      have hL : lenF c = (n, true) := by unfold lenF; rw [hn]
      rw [hL] at g3
      have g3 : (s.length : Int) = n - 4 := g3
      have hnb := numOf_bd hn
      have hc := num_len hn
      obtain ⟨m2, m98, hrm, hck⟩ := made c s n hn g3 g2
      rw [make_good c s n (by omega) hn g3 g2, Option.bind_some, len_r c _ (by omega), Option.bind_some, if_pos (by omega), h00, if_pos (by omega), append00, rest_f _ (by simp; omega) _ (by omega), Option.bind_some, hL]
      show (if true = true then (if (restF (c ++ [48, 48] ++ s)).2 = true then remitterlaw03_IbanMakes.j0 (7000 + 1) (bs c) (bs s) (bs (c ++ ab (mid c s) ++ s)) 0 n ((s.length : Int) != wrap64 (n - 4)) else _) else _) = _
      rw [if_pos rfl, if_pos g2, wrap_ok (x := n - 4) (by omega) (by omega), show ((s.length : Int) != n - 4) = false by simp [g3], remitterlaw03_IbanMakes.j0, if_neg (by simp), if_pos rfl]
      obtain ⟨v, hv⟩ : ∃ v, mid c s = v := ⟨_, rfl⟩
      rw [hv] at m2 m98 hck ⊢
      have hl : (c ++ ab v ++ s).length = 4 + s.length := by simp [hc, ab]; omega
      have e1 : (c ++ ab v ++ s).take 2 = c := by rw [List.append_assoc, ← hc, List.take_left]
      have h4 : (c ++ ab v).length = 4 := by simp [hc, ab]
      have e2 : (c ++ ab v ++ s).drop 4 = s := by rw [← h4, List.drop_left]
      have e3 : ((c ++ ab v ++ s).take 4).drop 2 = ab v := by
        rw [← h4, List.take_left, ← hc, List.drop_left]
      have ho := abOk_all v (by omega)
      unfold abOk at ho
      simp only [Bool.and_eq_true, decide_eq_true_eq] at ho
      have ho := ho.2
      rw [decide_eq_false (show ¬ v < 2 by omega), decide_eq_false (show ¬ 98 < v by omega), Bool.false_or, Bool.false_or, Bool.and_eq_true] at ho
      rw [bs_size, hl, if_pos (by omega), if_pos (by omega), if_pos (by omega), bs_extract, List.drop_zero, e1, bs_toList, bs_toList, if_pos rfl, if_pos (by omega), bs_extract, show (c ++ ab v ++ s).take (4 + s.length) = c ++ ab v ++ s by rw [← hl, List.take_length], e2, bs_toList, if_pos rfl,
        chk_r _ (by omega) _ (by omega), Option.bind_some, hck, if_pos rfl, if_pos (by omega), bs_extract, e3, bs_toList, if_neg (by have := ho.1; simpa using this), if_neg (by have := ho.2; simpa using this), hw _ (by omega)]
      rfl
    · rw [make_bad c s (by omega) hg hlb, Option.bind_some, len_r c _ (by omega), Option.bind_some, if_pos (by omega), h00, if_pos (by omega), append00, rest_f _ (by simp; omega) _ (by omega), Option.bind_some]
      by_cases g1 : (lenF c).2 = true
      · rw [if_pos g1]
        by_cases g2 : (restF (c ++ [48, 48] ++ s)).2 = true
        · have g3 : ((s.length : Int) != wrap64 ((lenF c).1 - 4)) = true := by
            rw [wrap_ok (by omega) (by omega)]
            simp
            exact fun h => hg ⟨g1, g2, h⟩
          rw [if_pos g2, g3]
          exact hbad _ _ (by omega)
        · rw [if_neg g2]
          exact hbad _ _ (by omega)
      · rw [if_neg g1]
        exact hbad _ _ (by omega)
end Go.Proofs.YtjblihfgpbnhbaaDoor.Pure
