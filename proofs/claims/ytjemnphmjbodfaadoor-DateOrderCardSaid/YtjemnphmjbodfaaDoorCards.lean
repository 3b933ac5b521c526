/-
  DERIVED. GIVEN WITH THE SEED: THE CARDS: each row of YtjemnphmjbodfaaDoorRows.lean that lists a variable, with what it lists TIED to the program's text (the seventh form; the later family's looks); each row that meets fmt, with fmt's text TOLD by the authors' own Lean function (tested against real Go, not proved from fmt's source: count such statements apart). THE CARD IS WHAT COUNTS. Prove the row's statement (the work); the ties are given (YtjemnphmjbodfaaDoorTie.lean); close each card by the builder's one call (the guide's Derived/Test/ToyasCard.lean, 'card_holds'). Laid BY PROGRAM, IN A SANDBOX (cutbox-door.mjs). By AI agents, Wed Nov 11 2026. No macro, syntax, notation, axiom, sorry.
-/
import Derived.Test.YtjemnphmjbodfaaDoorRows
import GoSem.ClaimSeven
namespace Go.Proofs.YtjemnphmjbodfaaDoor
namespace Rows

/-- THE TIED CARD OF 'remitterlaw06.DateTells'. -/
def dateTellsCard : Claim7 := { stood := { row := dateTellsRow, standIns := [], harness := (true, "0f765758f053bb2d9d9024ecaec4fffbd2fea7eb24ab07489e7314f2effa70ce"), looks := false }, kinds := [], alts := [], laidByText := true, laidKinds := [.data, .pinned], laidTests := true, laidLooks := .later }
def DateTellsCardSaid : Prop := Claim7.holds Tryd.pinned (.plain (OpenSpec.ofChange dateTellsSpec)) dateTellsCard

/-- THE TIED CARD OF 'remitterlaw06.DateTurns'. -/
def dateTurnsCard : Claim7 := { stood := { row := dateTurnsRow, standIns := [], harness := (true, "0f765758f053bb2d9d9024ecaec4fffbd2fea7eb24ab07489e7314f2effa70ce"), looks := false }, kinds := [], alts := [], laidByText := true, laidKinds := [.data, .pinned], laidTests := true, laidLooks := .later }
def DateTurnsCardSaid : Prop := Claim7.holds Tryd.pinned (.plain (OpenSpec.ofChange dateTurnsSpec)) dateTurnsCard

/-- THE TIED CARD OF 'remitterlaw06.DateOrder'. -/
def dateOrderCard : Claim7 := { stood := { row := dateOrderRow, standIns := [], harness := (true, "0f765758f053bb2d9d9024ecaec4fffbd2fea7eb24ab07489e7314f2effa70ce"), looks := false }, kinds := [], alts := [], laidByText := true, laidKinds := [.data, .pinned], laidTests := true, laidLooks := .later }
def DateOrderCardSaid : Prop := Claim7.holds Tryd.pinned (.plain (OpenSpec.ofChange dateOrderSpec)) dateOrderCard

/-- THE SECOND FORM's CARD OF 'remitterlaw06.DateTells'. -/
def dateTellsUptoCard : Claim7 := { stood := { row := dateTellsUptoRow, standIns := [], harness := (true, "0f765758f053bb2d9d9024ecaec4fffbd2fea7eb24ab07489e7314f2effa70ce"), looks := false }, kinds := [], alts := [], laidByText := true, laidKinds := [.data, .pinned], laidTests := true, laidLooks := .later }
def DateTellsUptoCardSaid : Prop := Claim7.holds Tryd.pinned (.plain (OpenSpec.upto dateTellsSpec)) dateTellsUptoCard

/-- THE SECOND FORM's CARD OF 'remitterlaw06.DateTurns'. -/
def dateTurnsUptoCard : Claim7 := { stood := { row := dateTurnsUptoRow, standIns := [], harness := (true, "0f765758f053bb2d9d9024ecaec4fffbd2fea7eb24ab07489e7314f2effa70ce"), looks := false }, kinds := [], alts := [], laidByText := true, laidKinds := [.data, .pinned], laidTests := true, laidLooks := .later }
def DateTurnsUptoCardSaid : Prop := Claim7.holds Tryd.pinned (.plain (OpenSpec.upto dateTurnsSpec)) dateTurnsUptoCard

/-- THE SECOND FORM's CARD OF 'remitterlaw06.DateOrder'. -/
def dateOrderUptoCard : Claim7 := { stood := { row := dateOrderUptoRow, standIns := [], harness := (true, "0f765758f053bb2d9d9024ecaec4fffbd2fea7eb24ab07489e7314f2effa70ce"), looks := false }, kinds := [], alts := [], laidByText := true, laidKinds := [.data, .pinned], laidTests := true, laidLooks := .later }
def DateOrderUptoCardSaid : Prop := Claim7.holds Tryd.pinned (.plain (OpenSpec.upto dateOrderSpec)) dateOrderUptoCard
end Rows
end Go.Proofs.YtjemnphmjbodfaaDoor
