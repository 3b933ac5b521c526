/- RefMakes, as its tied card says it: for every input the law returns true; what the row lists is tied to the program's text. -/
import Derived.Test.YtiadcjdpeegbbaaDoorLawRefMakes
import Derived.Test.YtiadcjdpeegbbaaDoorCards
import Derived.Test.YtiadcjdpeegbbaaDoorTie
import Derived.SevenTiedAt
namespace Go.Proofs.YtiadcjdpeegbbaaDoor
open Go
theorem refMakes_card : Rows.RefMakesCardSaid :=
  Claim7.holds_tied_plain_at .later [] [.data, .data, .data] true (true, "cb1a7aaa1be6ccd30a1011a511e588c8f47e9f65e0020fbab32e214c16930c1c") false
    refMakes_holds (fun _ h => by cases h) (by kernel_rfl) (fun _ h => by cases h) refMakes_row_tie rfl ⟨rfl, rfl⟩ (by kernel_rfl) rfl
    (fun f fn hf hfn => by
      obtain rfl : f = 4 := Option.some.inj ((show Tryd.prog.funcNamed "remitter/remitterlaw07.RefMakes" = some 4 by kernel_rfl).symm.trans hf) |>.symm
      obtain rfl : fn = Tryd.f4 := (Option.some.inj (Tryd.func4.symm.trans hfn)).symm
      exact ⟨by kernel_rfl, fun j t ht => by
        rw [Tryd.params4] at ht
        match j, ht with
        | 0, ht =>
          obtain rfl : t = 28 := by simpa using ht.symm
          exact (show Tryd.prog.wantsStandIn 28 = false by kernel_rfl)
        | 1, ht =>
          obtain rfl : t = 28 := by simpa using ht.symm
          exact (show Tryd.prog.wantsStandIn 28 = false by kernel_rfl)
        | 2, ht =>
          obtain rfl : t = 9 := by simpa using ht.symm
          exact (show Tryd.prog.wantsStandIn 9 = false by kernel_rfl)
        | j + 3, ht => simp at ht⟩)
    (by kernel_rfl)
#print axioms refMakes_card
end Go.Proofs.YtiadcjdpeegbbaaDoor
