/- DecimalAdds, as its tied card says it: for every input the law returns true; what the row lists is tied to the program's text. -/
import Derived.Test.YtggakekljbgeoaaDoorLawDecimalAdds
import Derived.Test.YtggakekljbgeoaaDoorCards
import Derived.Test.YtggakekljbgeoaaDoorTie
import Derived.SevenTiedAt
namespace Go.Proofs.YtggakekljbgeoaaDoor
open Go
theorem decimalAdds_card : Rows.DecimalAddsCardSaid :=
  Claim7.holds_tied_plain_at .later [] [.data, .data, .data] true (true, "7d8d24018297bcd2316b052caf02fdfd8571c94fa3e9f22cf8866e1b77fb7c03") false
    decimalAdds_holds (fun _ h => by cases h) (by kernel_rfl) (fun _ h => by cases h) decimalAdds_row_tie rfl ⟨rfl, rfl⟩ (by kernel_rfl) rfl
    (fun f fn hf hfn => by
      obtain rfl : f = 5 := Option.some.inj ((show Tryd.prog.funcNamed "remitter/remitterlaw01.DecimalAdds" = some 5 by kernel_rfl).symm.trans hf) |>.symm
      obtain rfl : fn = Tryd.f5 := (Option.some.inj (Tryd.func5.symm.trans hfn)).symm
      exact ⟨by kernel_rfl, fun j t ht => by
        rw [Tryd.params5] at ht
        match j, ht with
        | 0, ht =>
          obtain rfl : t = 24 := by simpa using ht.symm
          exact (show Tryd.prog.wantsStandIn 24 = false by kernel_rfl)
        | 1, ht =>
          obtain rfl : t = 24 := by simpa using ht.symm
          exact (show Tryd.prog.wantsStandIn 24 = false by kernel_rfl)
        | j + 2, ht => simp at ht⟩)
    (by kernel_rfl)
#print axioms decimalAdds_card
end Go.Proofs.YtggakekljbgeoaaDoor
