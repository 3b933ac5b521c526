/-
  DERIVED. GIVEN WITH THE SEED: THE CARDS: each row of YtjblihfgpbnhbaaDoorRows.lean that lists a variable, with what it lists TIED to the program's text (the seventh form; the later family's looks); each row that meets fmt, with fmt's text TOLD by the authors' own Lean function (tested against real Go, not proved from fmt's source: count such statements apart). THE CARD IS WHAT COUNTS. Prove the row's statement (the work); the ties are given (YtjblihfgpbnhbaaDoorTie.lean); close each card by the builder's one call (the guide's Derived/Test/ToyasCard.lean, 'card_holds'). Laid BY PROGRAM, IN A SANDBOX (cutbox-door.mjs). By AI agents, Wed Nov 11 2026. No macro, syntax, notation, axiom, sorry.
-/
import Derived.Test.YtjblihfgpbnhbaaDoorRows
import GoSem.ClaimSeven
namespace Go.Proofs.YtjblihfgpbnhbaaDoor
namespace Rows

/-- THE TIED CARD OF 'remitterlaw03.IbanTells'. -/
def ibanTellsCard : Claim7 := { stood := { row := ibanTellsRow, standIns := [], harness := (true, "b250792f77f16a86b91d814e4fe6cf3a155b61ed50413b7c45344e1a9ad3ceac"), looks := false }, kinds := [], alts := [], laidByText := true, laidKinds := [.data, .listed, .data, .pinned], laidTests := true, laidLooks := .later }
def IbanTellsCardSaid : Prop := Claim7.holds Tryd.pinned (.plain (OpenSpec.ofChange ibanTellsSpec)) ibanTellsCard

/-- THE TIED CARD OF 'remitterlaw03.IbanMakes'. -/
def ibanMakesCard : Claim7 := { stood := { row := ibanMakesRow, standIns := [], harness := (true, "b250792f77f16a86b91d814e4fe6cf3a155b61ed50413b7c45344e1a9ad3ceac"), looks := false }, kinds := [], alts := [], laidByText := true, laidKinds := [.data, .data, .data, .data, .listed, .data, .pinned], laidTests := true, laidLooks := .later }
def IbanMakesCardSaid : Prop := Claim7.holds Tryd.pinned (.plain (OpenSpec.ofChange ibanMakesSpec)) ibanMakesCard

/-- THE TIED CARD OF 'remitterlaw03.IbanFinds'. -/
def ibanFindsCard : Claim7 := { stood := { row := ibanFindsRow, standIns := [], harness := (true, "b250792f77f16a86b91d814e4fe6cf3a155b61ed50413b7c45344e1a9ad3ceac"), looks := false }, kinds := [], alts := [], laidByText := true, laidKinds := [.data, .data, .data, .data, .listed, .data, .pinned], laidTests := true, laidLooks := .later }
def IbanFindsCardSaid : Prop := Claim7.holds Tryd.pinned (.plain (OpenSpec.ofChange ibanFindsSpec)) ibanFindsCard

/-- THE SECOND FORM's CARD OF 'remitterlaw03.IbanTells'. -/
def ibanTellsUptoCard : Claim7 := { stood := { row := ibanTellsUptoRow, standIns := [], harness := (true, "b250792f77f16a86b91d814e4fe6cf3a155b61ed50413b7c45344e1a9ad3ceac"), looks := false }, kinds := [], alts := [], laidByText := true, laidKinds := [.data, .listed, .data, .pinned], laidTests := true, laidLooks := .later }
def IbanTellsUptoCardSaid : Prop := Claim7.holds Tryd.pinned (.plain (OpenSpec.upto ibanTellsSpec)) ibanTellsUptoCard

/-- THE SECOND FORM's CARD OF 'remitterlaw03.IbanMakes'. -/
def ibanMakesUptoCard : Claim7 := { stood := { row := ibanMakesUptoRow, standIns := [], harness := (true, "b250792f77f16a86b91d814e4fe6cf3a155b61ed50413b7c45344e1a9ad3ceac"), looks := false }, kinds := [], alts := [], laidByText := true, laidKinds := [.data, .data, .data, .data, .listed, .data, .pinned], laidTests := true, laidLooks := .later }
def IbanMakesUptoCardSaid : Prop := Claim7.holds Tryd.pinned (.plain (OpenSpec.upto ibanMakesSpec)) ibanMakesUptoCard

/-- THE SECOND FORM's CARD OF 'remitterlaw03.IbanFinds'. -/
def ibanFindsUptoCard : Claim7 := { stood := { row := ibanFindsUptoRow, standIns := [], harness := (true, "b250792f77f16a86b91d814e4fe6cf3a155b61ed50413b7c45344e1a9ad3ceac"), looks := false }, kinds := [], alts := [], laidByText := true, laidKinds := [.data, .data, .data, .data, .listed, .data, .pinned], laidTests := true, laidLooks := .later }
def IbanFindsUptoCardSaid : Prop := Claim7.holds Tryd.pinned (.plain (OpenSpec.upto ibanFindsSpec)) ibanFindsUptoCard
end Rows
end Go.Proofs.YtjblihfgpbnhbaaDoor
