/- LinesBack, as its tied card says it: for every input the law returns true; what the row lists is tied to the program's text. -/
import Derived.Test.YtkklccccjmipkaaDoorLLawLinesBack
import Derived.Test.YtkklccccjmipkaaDoorCards
import Derived.Test.YtkklccccjmipkaaDoorTie
import Derived.SevenTiedAt
namespace Go.Proofs.YtkklccccjmipkaaDoor
open Go
theorem linesBack_card : Rows.LinesBackCardSaid :=
  Claim7.holds_tied_plain_at .later [] [.data, .pinned] true (true, "d009580c12bd3495ca4ce233d681fd40dcb0f4333bf36da7385172680a72a19a") true
    linesBack_holds (fun _ h => by cases h) (by kernel_rfl) (fun _ h => by cases h) linesBack_row_tie rfl ⟨rfl, rfl⟩ (by kernel_rfl) rfl
    (fun f fn hf hfn => by
      obtain rfl : f = 11 := Option.some.inj ((show Tryd.prog.funcNamed "remitter/remitterlaw15.LinesBack" = some 11 by kernel_rfl).symm.trans hf) |>.symm
      obtain rfl : fn = Tryd.f11 := (Option.some.inj (Tryd.func11.symm.trans hfn)).symm
      exact ⟨by kernel_rfl, fun j t ht => by
        rw [Tryd.params11] at ht
        match j, ht with
        | 0, ht =>
          obtain rfl : t = 9 := by simpa using ht.symm
          exact (show Tryd.prog.wantsStandIn 9 = false by kernel_rfl)
        | 1, ht =>
          obtain rfl : t = 58 := by simpa using ht.symm
          exact (show Tryd.prog.wantsStandIn 58 = false by kernel_rfl)
        | j + 2, ht => simp at ht⟩)
    (by kernel_rfl)
#print axioms linesBack_card
end Go.Proofs.YtkklccccjmipkaaDoor
