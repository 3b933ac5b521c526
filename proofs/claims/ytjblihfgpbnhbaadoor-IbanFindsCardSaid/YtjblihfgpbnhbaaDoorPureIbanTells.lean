/- IbanTells: for every text, whether it is an IBAN, its rest, and a country's length, are what the document says. No condition. -/
import Derived.Test.YtjblihfgpbnhbaaDoorPAllx3
import Derived.Test.YtjblihfgpbnhbaaDoorPureIban
namespace Go.Proofs.YtjblihfgpbnhbaaDoor.Pure
open Go.RowKit Go.Proofs.YtjblihfgpbnhbaaDoor.PAll Go.Proofs.YtjblihfgpbnhbaaDoorW.PrintWords Go.Proofs.YtjblihfgpbnhbaaDoorW.PrintLast GPlain GLenP
set_option linter.unusedSimpArgs false

theorem up {α : Type} {f : Nat → Option α} (h : ∀ k, LeO (f k) (f (k + 1))) {k : Nat} {r : α} (hf : f k = some r) (n : Nat) (hn : k ≤ n) : f n = some r := by
  obtain ⟨j, rfl⟩ : ∃ j, n = k + j := ⟨n - k, by omega⟩
  exact more_rounds h k j r hf
set_option maxRecDepth 100000 in
theorem wakes3 : remitterlaw03_wakes.f 5 = some true := by decide +kernel
/-- A country's length and whether it has one. -/
def lenF (c : List UInt8) : Int × Bool := match numOf c with | some n => (n, true) | none => (0, false)
theorem len_i (c : List UInt8) (h : c.length ≤ 1000000) : iban_Length.f (bs c) = some (lenF c) := by
  unfold iban_Length.f lenF
  rw [bs_size, bs_data, if_pos (by omega)]
  cases numOf c <;> rfl
def litL : List UInt8 := remitterref03_Length.lit.data.toList
theorem lit_bs : remitterref03_Length.lit = bs litL := bs_of _
theorem litL_len : litL.length = 208 := by decide +kernel
def ent (j : Nat) : List UInt8 × Int := ((litL.take (4 * j + 2)).drop (4 * j), 10 * ((((litL.getD (4 * j + 2) 0).toNat : Int) - 48) % 256) + (((litL.getD (4 * j + 3) 0).toNat : Int) - 48) % 256)
theorem ents : (List.range 52).map ent = pairs := by decide +kernel
theorem pairs_len : pairs.length = 52 := by rw [← ents]; simp
theorem pairs_drop (j : Nat) (hj : j < 52) : pairs.drop j = ent j :: pairs.drop (j + 1) := by
  rw [List.drop_eq_getElem_cons (by rw [pairs_len]; exact hj)]
  congr 1
  have h : pairs[j]? = some (ent j) := by rw [← ents, List.getElem?_map, List.getElem?_range hj]; rfl
  rw [List.getElem?_eq_getElem (by rw [pairs_len]; exact hj)] at h
  exact Option.some.inj h
theorem len_l0 (c : List UInt8) (d : Nat) : ∀ (k j : Nat), 52 - j = d → j ≤ 52 → d < k → remitterref03_Length.l0 k (bs c) (bs litL) ((4 * j : Nat) : Int) = some (match (pairs.drop j).find? (fun p => p.1 == c) with | some p => (p.2, true) | none => (0, false)) := by
  induction d with
  | zero =>
    intro k j hd hj hk
    obtain ⟨k, rfl⟩ : ∃ k', k = k' + 1 := ⟨k - 1, by omega⟩
    obtain rfl : j = 52 := by omega
    rw [remitterref03_Length.l0, bs_size, litL_len, wrap_ok (by omega) (by omega), if_neg (by omega), List.drop_of_length_le (by rw [pairs_len]; exact Nat.le_refl _)]
    rfl
  | succ d ih =>
    intro k j hd hj hk
    obtain ⟨k, rfl⟩ : ∃ k', k = k' + 1 := ⟨k - 1, by omega⟩
    have hj2 : j < 52 := by omega
    have w2 : wrap64 (((4 * j : Nat) : Int) + 2) = ((4 * j + 2 : Nat) : Int) := by rw [wrap_ok (by omega) (by omega)]; rfl
    have w3 : wrap64 (((4 * j : Nat) : Int) + 3) = ((4 * j + 3 : Nat) : Int) := by rw [wrap_ok (by omega) (by omega)]; rfl
    have w4 : wrap64 (((4 * j : Nat) : Int) + 4) = ((4 * (j + 1) : Nat) : Int) := by rw [wrap_ok (by omega) (by omega)]; omega
    rw [remitterref03_Length.l0, bs_size, litL_len, w2, w3, w4, if_pos (by omega), if_pos (by omega), if_pos (by omega), if_pos (by omega), bs_extract, bs_toList, bs_toList, show ((4 * j : Nat) : Int).toNat = 4 * j from rfl, show ((4 * j + 2 : Nat) : Int).toNat = 4 * j + 2 from rfl, pairs_drop j hj2, List.find?_cons]
    by_cases he : (litL.take (4 * j + 2)).drop (4 * j) = c
    · rw [if_pos he, if_pos (by omega), if_pos (by omega), if_pos (by omega), if_pos (by omega), bt_nat, bt_nat, show ((ent j).1 == c) = true by simpa [ent] using he]
      rfl
    · rw [if_neg he, show ((ent j).1 == c) = false by simpa [ent] using he]
      exact ih k (j + 1) (by omega) (by omega) (by omega)
theorem len_r (c : List UInt8) (k : Nat) (hk : 100 ≤ k) : remitterref03_Length.f k (bs c) = some (lenF c) := by
  unfold remitterref03_Length.f
  rw [lit_bs]
  have := len_l0 c 52 k 0 rfl (by omega) (by omega)
  rw [show remitterref03_Length.l0 k (bs c) (bs litL) 0 = _ from this, List.drop_zero]
  unfold lenF numOf
  cases pairs.find? fun p => p.1 == c <;> rfl
/-- What Check tells. -/
def chkF (l : List UInt8) : Int := if l.length < 4 then 13 else if (digit (l.getD 2 0) && digit (l.getD 3 0)) = true then (if (lenF (l.take 2)).2 = true then (if (lenF (l.take 2)).1 = (l.length : Int) then (if (restF l).2 = true then (if (restF l).1 = 1 then 0 else 13) else 13) else 13) else 13) else 13
theorem chk_i (l : List UInt8) (hl : l.length ≤ 1000000) (k : Nat) (hk : 1 ≤ k) : iban_Check.f k (bs l) = some (chkF l) := by
  obtain ⟨k, rfl⟩ : ∃ k', k = k' + 1 := ⟨k - 1, by omega⟩
  unfold iban_Check.f chkF
  rw [bs_size]
  by_cases h4 : l.length < 4
  · rw [if_pos (by omega), if_pos h4, iban_Check.j0, if_pos rfl]
  · have hd : iban_digits.f ((bs l).extract 2 4) = some (digit (l.getD 2 0) && digit (l.getD 3 0)) := by
      unfold iban_digits.f
      rw [bs_extract, bs_size, bs_data, if_pos (by simp; omega)]
      have : (l.take 4).drop 2 = [l.getD 2 0, l.getD 3 0] := by
        match l, h4 with
        | a :: b :: c :: d :: r, _ => rfl
        | [], h => simp at h
        | [_], h => simp at h
        | [_, _], h => simp at h
        | [_, _, _], h => simp at h
      rw [this]
      simp
    rw [if_neg (by omega), if_neg h4, if_pos (by omega), if_pos (by omega), hd, Option.bind_some, iban_Check.j0]
    cases hdd : (digit (l.getD 2 0) && digit (l.getD 3 0))
    · rw [if_pos (show (!false) = true from rfl), if_neg (by simp)]
    · rw [if_neg (show ¬ (!true) = true by simp), if_pos rfl, if_pos (by omega), bs_size, if_pos (by omega), bs_extract, List.drop_zero, len_i _ (by rw [List.length_take]; omega), Option.bind_some, rest_i l (by omega), Option.bind_some]
      split <;> (try rfl)
      split <;> (try rfl)
      split <;> (try rfl)
      split <;> rfl
theorem chk_r (l : List UInt8) (hl : l.length ≤ 200) (k : Nat) (hk : 6001 ≤ k) : remitterref03_Check.f k (bs l) = some (chkF l) := by
  unfold remitterref03_Check.f chkF
  rw [bs_size]
  have hj : remitterref03_Check.j0 k (bs l) true = some 13 := by
    obtain ⟨k, rfl⟩ : ∃ k', k = k' + 1 := ⟨k - 1, by omega⟩
    rw [remitterref03_Check.j0, if_pos rfl]
  by_cases h4 : l.length < 4
  · rw [if_pos (by omega), if_pos h4, hj]
  · rw [if_neg (by omega), if_neg h4, if_pos (by omega)]
    have b2 : bt (bs l) 2 = ((l.getD 2 0).toNat : Int) := bt_nat l 2
    have b3 : bt (bs l) 3 = ((l.getD 3 0).toNat : Int) := bt_nat l 3
    rw [b2, b3]
    obtain ⟨x, hx⟩ : ∃ x, l.getD 2 0 = x := ⟨_, rfl⟩
    obtain ⟨y, hy⟩ : ∃ y, l.getD 3 0 = y := ⟨_, rfl⟩
    rw [hx, hy]
    by_cases c1 : (x.toNat : Int) < 48
    · rw [if_pos c1, hj, if_neg (by unfold digit; simp; omega)]
    · rw [if_neg c1]
      by_cases c2 : (x.toNat : Int) > 57
      · rw [if_pos c2, hj, if_neg (by unfold digit; simp; omega)]
      · rw [if_neg c2, if_pos (by omega)]
        by_cases c3 : (y.toNat : Int) < 48
        · rw [if_pos c3, hj, if_neg (by unfold digit; simp; omega)]
        · rw [if_neg c3]
          by_cases c4 : (y.toNat : Int) > 57
          · rw [decide_eq_true c4, hj, if_neg (by unfold digit; simp; omega)]
          · rw [decide_eq_false c4, if_pos (by unfold digit; simp; omega)]
            obtain ⟨k, rfl⟩ : ∃ k', k = k' + 1 := ⟨k - 1, by omega⟩
            rw [remitterref03_Check.j0, if_neg (by simp), if_pos (by omega), bs_size, if_pos (by omega), bs_extract, List.drop_zero, len_r _ k (by omega), Option.bind_some, rest_f l hl k (by omega), Option.bind_some]
            cases h1 : (lenF (l.take 2)).2
            · rw [if_neg (by simp), if_neg (by simp)]
            · rw [if_pos rfl, if_pos rfl]
              cases h2 : (restF l).2
              · rw [if_neg (show ¬ (false = true) by simp)]
                split <;> rfl
              · rw [if_pos rfl, if_pos rfl]
                split
                · split <;> rfl
                · rfl
theorem IbanTells : remitterlaw03_IbanTells.Pure := by
  intro a0 _
  obtain ⟨l, rfl⟩ := bs_ex a0
  refine ⟨7001, ?_⟩
  unfold remitterlaw03_IbanTells.f
  have hw : ∀ k, 5 ≤ k → remitterlaw03_wakes.f k = some true := fun k hk => up remitterlaw03_wakes.mono wakes3 k hk
  rw [bs_size]
  by_cases h100 : (l.length : Int) > 100
  · rw [if_pos h100, hw _ (by omega)]
    rfl
  · have hm : ∃ m : Nat, mn (l.length : Int) 2 = (m : Int) ∧ m ≤ l.length ∧ m ≤ 2 := by
      unfold mn
      split
      · exact ⟨2, rfl, by omega, by omega⟩
      · exact ⟨l.length, rfl, by omega, by omega⟩
    obtain ⟨m, hm, hm1, hm2⟩ := hm
    rw [if_neg h100, rest_i l (by omega), Option.bind_some, rest_f l (by omega) _ (by omega), Option.bind_some, hm, if_pos (by omega), if_pos (by omega), show (m : Int).toNat = m from rfl, bs_extract, List.drop_zero, len_i _ (by rw [List.length_take]; omega), Option.bind_some, len_r _ _ (by omega), Option.bind_some,
      len_i _ (by omega), Option.bind_some, len_r _ _ (by omega), Option.bind_some, if_pos rfl, show ((lenF l).2 != (lenF l).2) = false by simp]
    show remitterlaw03_IbanTells.j0 (7000 + 1) _ _ _ _ _ _ _ _ _ _ = _
    rw [remitterlaw03_IbanTells.j0, if_neg (by simp), chk_i l (by omega) _ (by omega), Option.bind_some, chk_r l (by omega) _ (by omega), Option.bind_some, if_pos rfl, if_pos rfl, if_pos (by simp), if_pos rfl, if_pos (by simp), hw _ (by omega)]
    rfl
end Go.Proofs.YtjblihfgpbnhbaaDoor.Pure
