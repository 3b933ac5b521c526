/- IbanFinds, as its tied card says it: for every input the law returns true; what the row lists is tied to the program's text. -/
import Derived.Test.YtjblihfgpbnhbaaDoorLawIbanFinds
import Derived.Test.YtjblihfgpbnhbaaDoorCards
import Derived.Test.YtjblihfgpbnhbaaDoorTie
import Derived.SevenTiedAt
namespace Go.Proofs.YtjblihfgpbnhbaaDoor
open Go
theorem ibanFinds_card : Rows.IbanFindsCardSaid :=
  Claim7.holds_tied_plain_at .later [] [.data, .data, .data, .data, .listed, .data, .pinned] true (true, "b250792f77f16a86b91d814e4fe6cf3a155b61ed50413b7c45344e1a9ad3ceac") false
    ibanFinds_holds (fun _ h => by cases h) (by kernel_rfl) (fun _ h => by cases h) ibanFinds_row_tie rfl ⟨rfl, rfl⟩ (by kernel_rfl) rfl
    (fun f fn hf hfn => by
      obtain rfl : f = 5 := Option.some.inj ((show Tryd.prog.funcNamed "remitter/remitterlaw03.IbanFinds" = some 5 by kernel_rfl).symm.trans hf) |>.symm
      obtain rfl : fn = Tryd.f5 := (Option.some.inj (Tryd.func5.symm.trans hfn)).symm
      exact ⟨by kernel_rfl, fun j t ht => by
        rw [Tryd.params5] at ht
        match j, ht with
        | 0, ht =>
          obtain rfl : t = 9 := by simpa using ht.symm
          exact (show Tryd.prog.wantsStandIn 9 = false by kernel_rfl)
        | 1, ht =>
          obtain rfl : t = 9 := by simpa using ht.symm
          exact (show Tryd.prog.wantsStandIn 9 = false by kernel_rfl)
        | 2, ht =>
          obtain rfl : t = 5 := by simpa using ht.symm
          exact (show Tryd.prog.wantsStandIn 5 = false by kernel_rfl)
        | 3, ht =>
          obtain rfl : t = 5 := by simpa using ht.symm
          exact (show Tryd.prog.wantsStandIn 5 = false by kernel_rfl)
        | j + 4, ht => simp at ht⟩)
    (by kernel_rfl)
#print axioms ibanFinds_card
end Go.Proofs.YtjblihfgpbnhbaaDoor
