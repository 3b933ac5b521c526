/- LinesMore, as its tied card says it: for every input the law returns true; what the row lists is tied to the program's text. -/
import Derived.Test.YtkklccccjmipkaaDoorLLawLinesMore
import Derived.Test.YtkklccccjmipkaaDoorCards
import Derived.Test.YtkklccccjmipkaaDoorTie
import Derived.SevenTiedAt
namespace Go.Proofs.YtkklccccjmipkaaDoor
open Go
theorem linesMore_card : Rows.LinesMoreCardSaid :=
  Claim7.holds_tied_plain_at .later [] [.data, .pinned] true (true, "d009580c12bd3495ca4ce233d681fd40dcb0f4333bf36da7385172680a72a19a") true
    linesMore_holds (fun _ h => by cases h) (by kernel_rfl) (fun _ h => by cases h) linesMore_row_tie rfl ⟨rfl, rfl⟩ (by kernel_rfl) rfl
    (fun f fn hf hfn => by
      obtain rfl : f = 13 := Option.some.inj ((show Tryd.prog.funcNamed "remitter/remitterlaw15.LinesMore" = some 13 by kernel_rfl).symm.trans hf) |>.symm
      obtain rfl : fn = Tryd.f13 := (Option.some.inj (Tryd.func13.symm.trans hfn)).symm
      exact ⟨by kernel_rfl, fun j t ht => by
        rw [Tryd.params13] at ht
        match j, ht with
        | 0, ht =>
          obtain rfl : t = 9 := by simpa using ht.symm
          exact (show Tryd.prog.wantsStandIn 9 = false by kernel_rfl)
        | 1, ht =>
          obtain rfl : t = 9 := by simpa using ht.symm
          exact (show Tryd.prog.wantsStandIn 9 = false by kernel_rfl)
        | j + 2, ht => simp at ht⟩)
    (by kernel_rfl)
#print axioms linesMore_card
end Go.Proofs.YtkklccccjmipkaaDoor
