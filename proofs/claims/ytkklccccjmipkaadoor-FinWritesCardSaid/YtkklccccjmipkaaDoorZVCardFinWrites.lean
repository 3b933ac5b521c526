/- FinWrites, as its tied card says it: for every input the law returns true; what the row lists is tied to the program's text. -/
import Derived.Test.YtkklccccjmipkaaDoorZVLawFinWrites
import Derived.Test.YtkklccccjmipkaaDoorCards
import Derived.Test.YtkklccccjmipkaaDoorTie
import Derived.SevenTiedAt
namespace Go.Proofs.YtkklccccjmipkaaDoor
open Go
theorem finWrites_card : Rows.FinWritesCardSaid :=
  Claim7.holds_tied_plain_at .later [] [.data, .pinned] true (true, "d009580c12bd3495ca4ce233d681fd40dcb0f4333bf36da7385172680a72a19a") true
    finWrites_holds (fun _ h => by cases h) (by kernel_rfl) (fun _ h => by cases h) finWrites_row_tie rfl ⟨rfl, rfl⟩ (by kernel_rfl) rfl
    (fun f fn hf hfn => by
      obtain rfl : f = 4 := Option.some.inj ((show Tryd.prog.funcNamed "remitter/remitterlaw14.FinWrites" = some 4 by kernel_rfl).symm.trans hf) |>.symm
      obtain rfl : fn = Tryd.f4 := (Option.some.inj (Tryd.func4.symm.trans hfn)).symm
      exact ⟨by kernel_rfl, fun j t ht => by
        rw [Tryd.params4] at ht
        match j, ht with
        | 0, ht =>
          obtain rfl : t = 24 := by simpa using ht.symm
          exact (show Tryd.prog.wantsStandIn 24 = false by kernel_rfl)
        | j + 1, ht => simp at ht⟩)
    (by kernel_rfl)
#print axioms finWrites_card
end Go.Proofs.YtkklccccjmipkaaDoor
