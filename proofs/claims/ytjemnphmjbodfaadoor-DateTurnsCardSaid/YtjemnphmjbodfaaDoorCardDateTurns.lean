/- DateTurns, as its tied card says it: for every input the law returns true; what the row lists is tied to the program's text. -/
import Derived.Test.YtjemnphmjbodfaaDoorLawDateTurns
import Derived.Test.YtjemnphmjbodfaaDoorCards
import Derived.Test.YtjemnphmjbodfaaDoorTie
import Derived.SevenTiedAt
namespace Go.Proofs.YtjemnphmjbodfaaDoor
open Go
theorem dateTurns_card : Rows.DateTurnsCardSaid :=
  Claim7.holds_tied_plain_at .later [] [.data, .pinned] true (true, "0f765758f053bb2d9d9024ecaec4fffbd2fea7eb24ab07489e7314f2effa70ce") false
    dateTurns_holds (fun _ h => by cases h) (by kernel_rfl) (fun _ h => by cases h) dateTurns_row_tie rfl ⟨rfl, rfl⟩ (by kernel_rfl) rfl
    (fun f fn hf hfn => by
      obtain rfl : f = 4 := Option.some.inj ((show Tryd.prog.funcNamed "remitter/remitterlaw06.DateTurns" = some 4 by kernel_rfl).symm.trans hf) |>.symm
      obtain rfl : fn = Tryd.f4 := (Option.some.inj (Tryd.func4.symm.trans hfn)).symm
      exact ⟨by kernel_rfl, fun j t ht => by
        rw [Tryd.params4] at ht
        match j, ht with
        | 0, ht =>
          obtain rfl : t = 32 := by simpa using ht.symm
          exact (show Tryd.prog.wantsStandIn 32 = false by kernel_rfl)
        | j + 1, ht => simp at ht⟩)
    (by kernel_rfl)
#print axioms dateTurns_card
end Go.Proofs.YtjemnphmjbodfaaDoor
