/- Plain law: CurrencyBoth. -/
import Derived.Test.YtggakekljbgeoaaDoorPCBothx2
import Derived.Test.YtggakekljbgeoaaDoorPureCur
import Derived.Test.YtggakekljbgeoaaDoorPureDec3
namespace Go.Proofs.YtggakekljbgeoaaDoor.Pure
open Go.RowKit Go.Proofs.YtggakekljbgeoaaDoor.PAll Go.Proofs.YtggakekljbgeoaaDoorW.PrintWords Go.Proofs.YtggakekljbgeoaaDoorW.PrintLast GPlain
set_option linter.unusedSimpArgs false
theorem wakes_ok : remitterlaw02_wakes.f = some true := by
  unfold remitterlaw02_wakes.f
  rw [known1, known2, known3, known4]
  have hA : currency_All.f.bind (fun t : List ByteArray => some ((t.length : Int) == 61)) = some true := by
    rw [show currency_All.f = some ccyAll from rfl, Option.bind_some, known5]
    rfl
  exact hA
def signL (mt : Bool) : List UInt8 := if mt = true then [44] else [46]
theorem text_prog (n : Bool) (c s : Int) (mt : Bool) : decimal_text.f n c s (bs (signL mt)) mt = some (if goodB n c s = true ∧ n = false then (bs (textL c.toNat s.toNat (signL mt) mt), 0) else (bs [], 1)) := by
  unfold decimal_text.f
  rw [if_pos (by rw [bs_size]; unfold signL; split <;> decide), bs_data]
  rfl
theorem textX_len (c s : Nat) (hc : c < 1000000000000000000) (hs : s ≤ 5) : (textL c s [46] false).length ≤ 1000 := by
  have h1 : (textL c s [46] false).length ≤ (Lib.decDigits (c / 10 ^ s)).length + 1 + s := by
    unfold textL
    split
    · omega
    · rw [List.length_append, List.length_append, behind_len, List.length_singleton]
      omega
  have h2 := digits_len (c / 10 ^ s) (Nat.lt_of_le_of_lt (Nat.div_le_self ..) hc)
  omega
theorem CurrencyBoth : remitterlaw02_CurrencyBoth.Pure := by
  intro a0 a1 _ _
  refine ⟨200, ?_⟩
  obtain ⟨l, rfl⟩ := bs_ex a0
  have hno : remitterlaw02_CurrencyBoth.j0 200 (bs l) a1 true = some true := by
    rw [show (200 : Nat) = 199 + 1 from rfl, remitterlaw02_CurrencyBoth.j0, if_pos rfl, wakes_ok]
    rfl
  unfold remitterlaw02_CurrencyBoth.f
  rw [bs_size]
  by_cases h0 : (l.length : Int) > 60
  · rw [if_pos h0]
    exact hno
  · rw [if_neg h0]
    by_cases h1 : (a1.size : Int) > 60
    · rw [decide_eq_true h1]
      exact hno
    · rw [decide_eq_false h1, show (200 : Nat) = 199 + 1 from rfl, remitterlaw02_CurrencyBoth.j0, if_neg (by decide), amtMT_f l (by omega) a1 (by omega), Option.bind_some, parseMT_f l (by omega), Option.bind_some]
      rcases readMT_cases l with ⟨e, he, hr⟩ | ⟨c, s, hr, g⟩
      · rw [hr]
        have e1 : amtV (false, 0, 0, e) (digitsC a1.data.toList) = (false, 0, 0, e) := by unfold amtV; rw [if_neg (by dsimp only; omega)]
        rw [e1]
        dsimp only
        rw [if_neg (by omega), if_pos rfl, wakes_ok]
        rfl
      · have hx : decimal_XML.f false c s = some (bs (textL c s [46] false), 0) := by
          unfold decimal_XML.f
          have := text_prog false c s false
          rw [if_pos ⟨goodB_of g, rfl⟩, Int.toNat_natCast, Int.toNat_natCast] at this
          have this : decimal_text.f false c s (⟨#[46]⟩ : ByteArray) false = _ := this
          rw [this]
          rfl
        have hp := amtXML_f (textL c s [46] false) (textX_len c s g.1 g.2.1) a1 (by omega)
        rw [text_xml g.1 g.2.1] at hp
        rw [hr]
        dsimp only
        rw [if_pos rfl, hx, Option.bind_some]
        dsimp only
        rw [hp, Option.bind_some, if_pos rfl, if_pos rfl, fits_f _ _ _ _ (by omega) 199 (by decide), Option.bind_some]
        unfold amtV
        dsimp only
        rw [if_pos rfl]
        generalize fitsV false c s (digitsC a1.data.toList) = q
        by_cases hq : q = 0
        · subst hq
          rw [if_pos rfl]
          dsimp only
          rw [if_pos (by simp), if_pos (by decide), wakes_ok]
          rfl
        · rw [if_neg hq]
          dsimp only
          rw [if_pos (by simp), if_pos (by simp [hq]), wakes_ok]
          rfl
end Go.Proofs.YtggakekljbgeoaaDoor.Pure
