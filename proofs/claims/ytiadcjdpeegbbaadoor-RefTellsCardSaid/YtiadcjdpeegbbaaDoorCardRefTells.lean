/- RefTells, as its tied card says it: for every input the law returns true; what the row lists is tied to the program's text. -/
import Derived.Test.YtiadcjdpeegbbaaDoorLawRefTells
import Derived.Test.YtiadcjdpeegbbaaDoorCards
import Derived.Test.YtiadcjdpeegbbaaDoorTie
import Derived.SevenTiedAt
namespace Go.Proofs.YtiadcjdpeegbbaaDoor
open Go
theorem refTells_card : Rows.RefTellsCardSaid :=
  Claim7.holds_tied_plain_at .later [] [.data, .data, .data] true (true, "cb1a7aaa1be6ccd30a1011a511e588c8f47e9f65e0020fbab32e214c16930c1c") false
    refTells_holds (fun _ h => by cases h) (by kernel_rfl) (fun _ h => by cases h) refTells_row_tie rfl ⟨rfl, rfl⟩ (by kernel_rfl) rfl
    (fun f fn hf hfn => by
      obtain rfl : f = 3 := Option.some.inj ((show Tryd.prog.funcNamed "remitter/remitterlaw07.RefTells" = some 3 by kernel_rfl).symm.trans hf) |>.symm
      obtain rfl : fn = Tryd.f3 := (Option.some.inj (Tryd.func3.symm.trans hfn)).symm
      exact ⟨by kernel_rfl, fun j t ht => by
        rw [Tryd.params3] at ht
        match j, ht with
        | 0, ht =>
          obtain rfl : t = 9 := by simpa using ht.symm
          exact (show Tryd.prog.wantsStandIn 9 = false by kernel_rfl)
        | j + 1, ht => simp at ht⟩)
    (by kernel_rfl)
#print axioms refTells_card
end Go.Proofs.YtiadcjdpeegbbaaDoor
