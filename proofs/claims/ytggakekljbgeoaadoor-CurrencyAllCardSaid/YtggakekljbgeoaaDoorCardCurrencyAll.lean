/- CurrencyAll, as its tied card says it: for every input the law returns true; what the row lists is tied to the program's text. -/
import Derived.Test.YtggakekljbgeoaaDoorLawCurrencyAll
import Derived.Test.YtggakekljbgeoaaDoorCards
import Derived.Test.YtggakekljbgeoaaDoorTie
import Derived.SevenTiedAt
namespace Go.Proofs.YtggakekljbgeoaaDoor
open Go
theorem currencyAll_card : Rows.CurrencyAllCardSaid :=
  Claim7.holds_tied_plain_at .later [] [.data, .listed, .data, .pinned] true (true, "7d8d24018297bcd2316b052caf02fdfd8571c94fa3e9f22cf8866e1b77fb7c03") false
    currencyAll_holds (fun _ h => by cases h) (by kernel_rfl) (fun _ h => by cases h) currencyAll_row_tie rfl ⟨rfl, rfl⟩ (by kernel_rfl) rfl
    (fun f fn hf hfn => by
      obtain rfl : f = 9 := Option.some.inj ((show Tryd.prog.funcNamed "remitter/remitterlaw02.CurrencyAll" = some 9 by kernel_rfl).symm.trans hf) |>.symm
      obtain rfl : fn = Tryd.f9 := (Option.some.inj (Tryd.func9.symm.trans hfn)).symm
      exact ⟨by kernel_rfl, fun j t ht => by
        rw [Tryd.params9] at ht
        match j, ht with
        | j + 0, ht => simp at ht⟩)
    (by kernel_rfl)
#print axioms currencyAll_card
end Go.Proofs.YtggakekljbgeoaaDoor
