/- Plain law: CurrencyAll. -/
import Derived.Test.YtggakekljbgeoaaDoorPCAllx2
import Derived.Test.YtggakekljbgeoaaDoorPureCur
namespace Go.Proofs.YtggakekljbgeoaaDoor.Pure
open Go.RowKit Go.Proofs.YtggakekljbgeoaaDoor.PAll Go.Proofs.YtggakekljbgeoaaDoorW.PrintWords Go.Proofs.YtggakekljbgeoaaDoorW.PrintLast GPlain
set_option linter.unusedSimpArgs false
theorem wakes_ok : remitterlaw02_wakes.f = some true := by
  unfold remitterlaw02_wakes.f
  rw [known1, known2, known3, known4]
  have hA : currency_All.f.bind (fun t : List ByteArray => some ((t.length : Int) == 61)) = some true := by
    rw [show currency_All.f = some ccyAll from rfl, Option.bind_some, known5]
    rfl
  exact hA
set_option maxRecDepth 100000 in
theorem all_known : ∀ i, i < 61 → (digitsC (ccyL.getD i [])).isSome = true := by decide +kernel
set_option maxRecDepth 100000 in
theorem all_sorted : ∀ i, i < 60 → Op.bytesLess (ccyL.getD i []) (ccyL.getD (i + 1) []) = true := by decide +kernel
theorem all_len : ccyAll.length = 61 := by rfl
theorem all_rd (i : Nat) (h : i < 61) : rdOf ByteArray.empty ccyAll (i : Int) = bs (ccyL.getD i []) := by
  show ccyAll.getD i ByteArray.empty = _
  have hl : i < ccyL.length := h
  unfold ccyAll
  rw [List.getD_eq_getElem?_getD, List.getElem?_map, List.getElem?_eq_getElem hl, List.getD_eq_getElem?_getD, List.getElem?_eq_getElem hl]
  rfl
theorem all_l1 : ∀ (d i k : Nat), 61 - i = d → i ≤ 61 → d + 81 ≤ k → remitterlaw02_CurrencyAll.l1 k ccyAll 61 (i : Int) = some true := by
  intro d
  induction d with
  | zero =>
    intro i k hd hi hk
    obtain rfl : i = 61 := by omega
    obtain ⟨k, rfl⟩ : ∃ m, k = m + 1 := ⟨k - 1, by omega⟩
    rw [remitterlaw02_CurrencyAll.l1, all_len, if_neg (by decide), if_pos (by decide), wakes_ok]
    rfl
  | succ d ih =>
    intro i k hd hi hk
    obtain ⟨e, rfl⟩ : ∃ e, k = (80 + e) + 1 := ⟨k - 81, by omega⟩
    have ih := ih (i + 1) (80 + e) (by omega) (by omega) (by omega)
    have hs := all_known i (by omega)
    rw [remitterlaw02_CurrencyAll.l1, all_len, if_pos (by omega), if_pos (by omega), all_rd i (by omega), refDigits_f, Option.bind_some, bs_data]
    rw [Option.isSome_iff_exists] at hs
    obtain ⟨n, hn⟩ := hs
    rw [hn]
    dsimp only
    rw [if_pos rfl, wrap_ok (x := (i : Int) + 1) (by omega) (by omega), show (i : Int) + 1 = ((i + 1 : Nat) : Int) by omega, ih]
    by_cases h0 : i = 0
    · subst h0
      rw [if_neg (by decide)]
    · have hl := all_sorted (i - 1) (by omega)
      rw [show i - 1 + 1 = i by omega] at hl
      rw [if_pos (by omega), wrap_ok (x := (i : Int) - 1) (by omega) (by omega), if_pos (by omega), if_pos (by omega), show (i : Int) - 1 = ((i - 1 : Nat) : Int) by omega, all_rd (i - 1) (by omega), bs_toList, bs_toList, hl, if_pos rfl]
theorem sumW {a b c : Int} (hb : -1000 ≤ b ∧ b ≤ 1000) (hc : a + b = c) (h : -1000 ≤ c ∧ c ≤ 1000) : wrap64 (a + wrap64 b) = c := by rw [wrap_ok (x := b) (by omega) (by omega), hc, wrap_ok (by omega) (by omega)]
theorem incW {a b : Int} (hc : a + 1 = b) (h : -1000 ≤ b ∧ b ≤ 1000) : wrap64 (a + 1) = b := by rw [hc, wrap_ok (by omega) (by omega)]
theorem CurrencyAll : remitterlaw02_CurrencyAll.Pure := by
  refine ⟨300, ?_⟩
  have w0 : remitterref02_Words.f 0 = some wd0 := rfl
  have w1 : remitterref02_Words.f 1 = some ⟨#[]⟩ := rfl
  have w2 : remitterref02_Words.f 2 = some wd2 := rfl
  have w3 : remitterref02_Words.f 3 = some wd3 := rfl
  have w4 : remitterref02_Words.f 4 = some wd4 := rfl
  have s0 : wd0.size = 64 := rfl
  have s1 : (⟨#[]⟩ : ByteArray).size = 0 := rfl
  have s2 : wd2.size = 144 := rfl
  have s3 : wd3.size = 28 := rfl
  have s4 : wd4.size = 8 := rfl
  unfold remitterlaw02_CurrencyAll.f
  rw [show currency_All.f = some ccyAll from rfl, Option.bind_some]
  rw [show (300 : Nat) = 299 + 1 from rfl, remitterlaw02_CurrencyAll.l0, if_pos (by decide), w0, Option.bind_some, s0, show wrap64 ((0 : Int) + wrap64 (((64 : Nat) : Int) / 4)) = 16 from sumW (by decide) (by decide) (by decide), show wrap64 ((0 : Int) + 1) = 1 from incW (by decide) (by decide)]
  rw [show (299 : Nat) = 298 + 1 from rfl, remitterlaw02_CurrencyAll.l0, if_pos (by decide), w1, Option.bind_some, s1, show wrap64 ((16 : Int) + wrap64 (((0 : Nat) : Int) / 4)) = 16 from sumW (by decide) (by decide) (by decide), show wrap64 ((1 : Int) + 1) = 2 from incW (by decide) (by decide)]
  rw [show (298 : Nat) = 297 + 1 from rfl, remitterlaw02_CurrencyAll.l0, if_pos (by decide), w2, Option.bind_some, s2, show wrap64 ((16 : Int) + wrap64 (((144 : Nat) : Int) / 4)) = 52 from sumW (by decide) (by decide) (by decide), show wrap64 ((2 : Int) + 1) = 3 from incW (by decide) (by decide)]
  rw [show (297 : Nat) = 296 + 1 from rfl, remitterlaw02_CurrencyAll.l0, if_pos (by decide), w3, Option.bind_some, s3, show wrap64 ((52 : Int) + wrap64 (((28 : Nat) : Int) / 4)) = 59 from sumW (by decide) (by decide) (by decide), show wrap64 ((3 : Int) + 1) = 4 from incW (by decide) (by decide)]
  rw [show (296 : Nat) = 295 + 1 from rfl, remitterlaw02_CurrencyAll.l0, if_pos (by decide), w4, Option.bind_some, s4, show wrap64 ((59 : Int) + wrap64 (((8 : Nat) : Int) / 4)) = 61 from sumW (by decide) (by decide) (by decide), show wrap64 ((4 : Int) + 1) = 5 from incW (by decide) (by decide)]
  rw [show (295 : Nat) = 294 + 1 from rfl, remitterlaw02_CurrencyAll.l0, if_neg (by decide)]
  exact all_l1 61 0 294 rfl (by decide) (by decide)
end Go.Proofs.YtggakekljbgeoaaDoor.Pure
