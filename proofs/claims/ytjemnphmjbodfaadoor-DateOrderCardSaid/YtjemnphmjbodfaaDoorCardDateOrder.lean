/- DateOrder, as its tied card says it: for every input the law returns true; what the row lists is tied to the program's text. -/
import Derived.Test.YtjemnphmjbodfaaDoorLawDateOrder
import Derived.Test.YtjemnphmjbodfaaDoorCards
import Derived.Test.YtjemnphmjbodfaaDoorTie
import Derived.SevenTiedAt
namespace Go.Proofs.YtjemnphmjbodfaaDoor
open Go
theorem dateOrder_card : Rows.DateOrderCardSaid :=
  Claim7.holds_tied_plain_at .later [] [.data, .pinned] true (true, "0f765758f053bb2d9d9024ecaec4fffbd2fea7eb24ab07489e7314f2effa70ce") false
    dateOrder_holds (fun _ h => by cases h) (by kernel_rfl) (fun _ h => by cases h) dateOrder_row_tie rfl ⟨rfl, rfl⟩ (by kernel_rfl) rfl
    (fun f fn hf hfn => by
      obtain rfl : f = 5 := Option.some.inj ((show Tryd.prog.funcNamed "remitter/remitterlaw06.DateOrder" = some 5 by kernel_rfl).symm.trans hf) |>.symm
      obtain rfl : fn = Tryd.f5 := (Option.some.inj (Tryd.func5.symm.trans hfn)).symm
      exact ⟨by kernel_rfl, fun j t ht => by
        rw [Tryd.params5] at ht
        match j, ht with
        | 0, ht =>
          obtain rfl : t = 9 := by simpa using ht.symm
          exact (show Tryd.prog.wantsStandIn 9 = false by kernel_rfl)
        | 1, ht =>
          obtain rfl : t = 9 := by simpa using ht.symm
          exact (show Tryd.prog.wantsStandIn 9 = false by kernel_rfl)
        | j + 2, ht => simp at ht⟩)
    (by kernel_rfl)
#print axioms dateOrder_card
end Go.Proofs.YtjemnphmjbodfaaDoor
