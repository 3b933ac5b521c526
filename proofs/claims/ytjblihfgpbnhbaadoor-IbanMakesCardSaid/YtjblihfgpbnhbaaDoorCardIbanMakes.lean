/- IbanMakes, as its tied card says it: for every input the law returns true; what the row lists is tied to the program's text. -/
import Derived.Test.YtjblihfgpbnhbaaDoorLawIbanMakes
import Derived.Test.YtjblihfgpbnhbaaDoorCards
import Derived.Test.YtjblihfgpbnhbaaDoorTie
import Derived.SevenTiedAt
namespace Go.Proofs.YtjblihfgpbnhbaaDoor
open Go
theorem ibanMakes_card : Rows.IbanMakesCardSaid :=
  Claim7.holds_tied_plain_at .later [] [.data, .data, .data, .data, .listed, .data, .pinned] true (true, "b250792f77f16a86b91d814e4fe6cf3a155b61ed50413b7c45344e1a9ad3ceac") false
    ibanMakes_holds (fun _ h => by cases h) (by kernel_rfl) (fun _ h => by cases h) ibanMakes_row_tie rfl ⟨rfl, rfl⟩ (by kernel_rfl) rfl
    (fun f fn hf hfn => by
      obtain rfl : f = 4 := Option.some.inj ((show Tryd.prog.funcNamed "remitter/remitterlaw03.IbanMakes" = some 4 by kernel_rfl).symm.trans hf) |>.symm
      obtain rfl : fn = Tryd.f4 := (Option.some.inj (Tryd.func4.symm.trans hfn)).symm
      exact ⟨by kernel_rfl, fun j t ht => by
        rw [Tryd.params4] at ht
        match j, ht with
        | 0, ht =>
          obtain rfl : t = 9 := by simpa using ht.symm
          exact (show Tryd.prog.wantsStandIn 9 = false by kernel_rfl)
        | 1, ht =>
          obtain rfl : t = 9 := by simpa using ht.symm
          exact (show Tryd.prog.wantsStandIn 9 = false by kernel_rfl)
        | j + 2, ht => simp at ht⟩)
    (by kernel_rfl)
#print axioms ibanMakes_card
end Go.Proofs.YtjblihfgpbnhbaaDoor
