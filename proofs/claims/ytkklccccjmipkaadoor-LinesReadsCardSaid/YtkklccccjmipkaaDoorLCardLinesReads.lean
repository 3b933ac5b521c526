/- LinesReads, as its tied card says it: for every input the law returns true; what the row lists is tied to the program's text. -/
import Derived.Test.YtkklccccjmipkaaDoorLLawLinesReads
import Derived.Test.YtkklccccjmipkaaDoorCards
import Derived.Test.YtkklccccjmipkaaDoorTie
import Derived.SevenTiedAt
namespace Go.Proofs.YtkklccccjmipkaaDoor
open Go
theorem linesReads_card : Rows.LinesReadsCardSaid :=
  Claim7.holds_tied_plain_at .later [] [.data, .pinned] true (true, "d009580c12bd3495ca4ce233d681fd40dcb0f4333bf36da7385172680a72a19a") true
    linesReads_holds (fun _ h => by cases h) (by kernel_rfl) (fun _ h => by cases h) linesReads_row_tie rfl ⟨rfl, rfl⟩ (by kernel_rfl) rfl
    (fun f fn hf hfn => by
      obtain rfl : f = 9 := Option.some.inj ((show Tryd.prog.funcNamed "remitter/remitterlaw15.LinesReads" = some 9 by kernel_rfl).symm.trans hf) |>.symm
      obtain rfl : fn = Tryd.f9 := (Option.some.inj (Tryd.func9.symm.trans hfn)).symm
      exact ⟨by kernel_rfl, fun j t ht => by
        rw [Tryd.params9] at ht
        match j, ht with
        | 0, ht =>
          obtain rfl : t = 9 := by simpa using ht.symm
          exact (show Tryd.prog.wantsStandIn 9 = false by kernel_rfl)
        | j + 1, ht => simp at ht⟩)
    (by kernel_rfl)
#print axioms linesReads_card
end Go.Proofs.YtkklccccjmipkaaDoor
