/-
  DERIVED. GIVEN WITH THE SEED: THE CARDS: each row of YtiadcjdpeegbbaaDoorRows.lean that lists a variable, with what it lists TIED to the program's text (the seventh form; the later family's looks); each row that meets fmt, with fmt's text TOLD by the authors' own Lean function (tested against real Go, not proved from fmt's source: count such statements apart). THE CARD IS WHAT COUNTS. Prove the row's statement (the work); the ties are given (YtiadcjdpeegbbaaDoorTie.lean); close each card by the builder's one call (the guide's Derived/Test/ToyasCard.lean, 'card_holds'). Laid BY PROGRAM, IN A SANDBOX (cutbox-door.mjs). By AI agents, Wed Nov 11 2026. No macro, syntax, notation, axiom, sorry.
-/
import Derived.Test.YtiadcjdpeegbbaaDoorRows
import GoSem.ClaimSeven
namespace Go.Proofs.YtiadcjdpeegbbaaDoor
namespace Rows

/-- THE TIED CARD OF 'remitterlaw07.RefTells'. -/
def refTellsCard : Claim7 := { stood := { row := refTellsRow, standIns := [], harness := (true, "cb1a7aaa1be6ccd30a1011a511e588c8f47e9f65e0020fbab32e214c16930c1c"), looks := false }, kinds := [], alts := [], laidByText := true, laidKinds := [.data, .data, .data], laidTests := true, laidLooks := .later }
def RefTellsCardSaid : Prop := Claim7.holds Tryd.pinned (.plain (OpenSpec.ofChange refTellsSpec)) refTellsCard

/-- THE TIED CARD OF 'remitterlaw07.RefMakes'. -/
def refMakesCard : Claim7 := { stood := { row := refMakesRow, standIns := [], harness := (true, "cb1a7aaa1be6ccd30a1011a511e588c8f47e9f65e0020fbab32e214c16930c1c"), looks := false }, kinds := [], alts := [], laidByText := true, laidKinds := [.data, .data, .data], laidTests := true, laidLooks := .later }
def RefMakesCardSaid : Prop := Claim7.holds Tryd.pinned (.plain (OpenSpec.ofChange refMakesSpec)) refMakesCard

/-- THE SECOND FORM's CARD OF 'remitterlaw07.RefTells'. -/
def refTellsUptoCard : Claim7 := { stood := { row := refTellsUptoRow, standIns := [], harness := (true, "cb1a7aaa1be6ccd30a1011a511e588c8f47e9f65e0020fbab32e214c16930c1c"), looks := false }, kinds := [], alts := [], laidByText := true, laidKinds := [.data, .data, .data], laidTests := true, laidLooks := .later }
def RefTellsUptoCardSaid : Prop := Claim7.holds Tryd.pinned (.plain (OpenSpec.upto refTellsSpec)) refTellsUptoCard

/-- THE SECOND FORM's CARD OF 'remitterlaw07.RefMakes'. -/
def refMakesUptoCard : Claim7 := { stood := { row := refMakesUptoRow, standIns := [], harness := (true, "cb1a7aaa1be6ccd30a1011a511e588c8f47e9f65e0020fbab32e214c16930c1c"), looks := false }, kinds := [], alts := [], laidByText := true, laidKinds := [.data, .data, .data], laidTests := true, laidLooks := .later }
def RefMakesUptoCardSaid : Prop := Claim7.holds Tryd.pinned (.plain (OpenSpec.upto refMakesSpec)) refMakesUptoCard
end Rows
end Go.Proofs.YtiadcjdpeegbbaaDoor
