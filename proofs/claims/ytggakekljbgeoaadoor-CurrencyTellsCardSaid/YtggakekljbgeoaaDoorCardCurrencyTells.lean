/- CurrencyTells, as its tied card says it: for every input the law returns true; what the row lists is tied to the program's text. -/
import Derived.Test.YtggakekljbgeoaaDoorLawCurrencyTells
import Derived.Test.YtggakekljbgeoaaDoorCards
import Derived.Test.YtggakekljbgeoaaDoorTie
import Derived.SevenTiedAt
namespace Go.Proofs.YtggakekljbgeoaaDoor
open Go
theorem currencyTells_card : Rows.CurrencyTellsCardSaid :=
  Claim7.holds_tied_plain_at .later [] [.data, .listed, .data, .pinned] true (true, "7d8d24018297bcd2316b052caf02fdfd8571c94fa3e9f22cf8866e1b77fb7c03") false
    currencyTells_holds (fun _ h => by cases h) (by kernel_rfl) (fun _ h => by cases h) currencyTells_row_tie rfl ⟨rfl, rfl⟩ (by kernel_rfl) rfl
    (fun f fn hf hfn => by
      obtain rfl : f = 10 := Option.some.inj ((show Tryd.prog.funcNamed "remitter/remitterlaw02.CurrencyTells" = some 10 by kernel_rfl).symm.trans hf) |>.symm
      obtain rfl : fn = Tryd.f10 := (Option.some.inj (Tryd.func10.symm.trans hfn)).symm
      exact ⟨by kernel_rfl, fun j t ht => by
        rw [Tryd.params10] at ht
        match j, ht with
        | 0, ht =>
          obtain rfl : t = 9 := by simpa using ht.symm
          exact (show Tryd.prog.wantsStandIn 9 = false by kernel_rfl)
        | 1, ht =>
          obtain rfl : t = 9 := by simpa using ht.symm
          exact (show Tryd.prog.wantsStandIn 9 = false by kernel_rfl)
        | 2, ht =>
          obtain rfl : t = 24 := by simpa using ht.symm
          exact (show Tryd.prog.wantsStandIn 24 = false by kernel_rfl)
        | j + 3, ht => simp at ht⟩)
    (by kernel_rfl)
#print axioms currencyTells_card
end Go.Proofs.YtggakekljbgeoaaDoor
