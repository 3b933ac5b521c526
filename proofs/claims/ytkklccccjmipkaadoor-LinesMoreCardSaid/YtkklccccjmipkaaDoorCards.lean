/-
  DERIVED. GIVEN WITH THE SEED: THE CARDS: each row of YtkklccccjmipkaaDoorRows.lean that lists a variable, with what it lists TIED to the program's text (the seventh form; the later family's looks); each row that meets fmt, with fmt's text TOLD by the authors' own Lean function (tested against real Go, not proved from fmt's source: count such statements apart). THE CARD IS WHAT COUNTS. Prove the row's statement (the work); the ties are given (YtkklccccjmipkaaDoorTie.lean); close each card by the builder's one call (the guide's Derived/Test/ToyasCard.lean, 'card_holds'). Laid BY PROGRAM, IN A SANDBOX (cutbox-door.mjs). By AI agents, Wed Nov 11 2026. No macro, syntax, notation, axiom, sorry.
-/
import Derived.Test.YtkklccccjmipkaaDoorRows
import GoSem.ClaimSeven
namespace Go.Proofs.YtkklccccjmipkaaDoor
namespace Rows

/-- THE TIED CARD OF 'remitterlaw14.FinReads'. -/
def finReadsCard : Claim7 := { stood := { row := finReadsRow, standIns := [], harness := (true, "d009580c12bd3495ca4ce233d681fd40dcb0f4333bf36da7385172680a72a19a"), looks := true }, kinds := [], alts := [], laidByText := true, laidKinds := [.data, .pinned], laidTests := true, laidLooks := .later }
def FinReadsCardSaid : Prop := Claim7.holds Tryd.pinned (.plain (OpenSpec.ofChange finReadsSpec)) finReadsCard

/-- THE TIED CARD OF 'remitterlaw14.FinWrites'. -/
def finWritesCard : Claim7 := { stood := { row := finWritesRow, standIns := [], harness := (true, "d009580c12bd3495ca4ce233d681fd40dcb0f4333bf36da7385172680a72a19a"), looks := true }, kinds := [], alts := [], laidByText := true, laidKinds := [.data, .pinned], laidTests := true, laidLooks := .later }
def FinWritesCardSaid : Prop := Claim7.holds Tryd.pinned (.plain (OpenSpec.ofChange finWritesSpec)) finWritesCard

/-- THE TIED CARD OF 'remitterlaw14.FinBack'. -/
def finBackCard : Claim7 := { stood := { row := finBackRow, standIns := [], harness := (true, "d009580c12bd3495ca4ce233d681fd40dcb0f4333bf36da7385172680a72a19a"), looks := true }, kinds := [], alts := [], laidByText := true, laidKinds := [.data, .pinned], laidTests := true, laidLooks := .later }
def FinBackCardSaid : Prop := Claim7.holds Tryd.pinned (.plain (OpenSpec.ofChange finBackSpec)) finBackCard

/-- THE TIED CARD OF 'remitterlaw16.PartsReads'. -/
def partsReadsCard : Claim7 := { stood := { row := partsReadsRow, standIns := [], harness := (true, "d009580c12bd3495ca4ce233d681fd40dcb0f4333bf36da7385172680a72a19a"), looks := true }, kinds := [], alts := [], laidByText := true, laidKinds := [.data, .pinned], laidTests := true, laidLooks := .later }
def PartsReadsCardSaid : Prop := Claim7.holds Tryd.pinned (.plain (OpenSpec.ofChange partsReadsSpec)) partsReadsCard

/-- THE TIED CARD OF 'remitterlaw16.PartsWrites'. -/
def partsWritesCard : Claim7 := { stood := { row := partsWritesRow, standIns := [], harness := (true, "d009580c12bd3495ca4ce233d681fd40dcb0f4333bf36da7385172680a72a19a"), looks := true }, kinds := [], alts := [], laidByText := true, laidKinds := [.data, .pinned], laidTests := true, laidLooks := .later }
def PartsWritesCardSaid : Prop := Claim7.holds Tryd.pinned (.plain (OpenSpec.ofChange partsWritesSpec)) partsWritesCard

/-- THE TIED CARD OF 'remitterlaw16.PartsBack'. -/
def partsBackCard : Claim7 := { stood := { row := partsBackRow, standIns := [], harness := (true, "d009580c12bd3495ca4ce233d681fd40dcb0f4333bf36da7385172680a72a19a"), looks := true }, kinds := [], alts := [], laidByText := true, laidKinds := [.data, .pinned], laidTests := true, laidLooks := .later }
def PartsBackCardSaid : Prop := Claim7.holds Tryd.pinned (.plain (OpenSpec.ofChange partsBackSpec)) partsBackCard

/-- THE TIED CARD OF 'remitterlaw15.LinesReads'. -/
def linesReadsCard : Claim7 := { stood := { row := linesReadsRow, standIns := [], harness := (true, "d009580c12bd3495ca4ce233d681fd40dcb0f4333bf36da7385172680a72a19a"), looks := true }, kinds := [], alts := [], laidByText := true, laidKinds := [.data, .pinned], laidTests := true, laidLooks := .later }
def LinesReadsCardSaid : Prop := Claim7.holds Tryd.pinned (.plain (OpenSpec.ofChange linesReadsSpec)) linesReadsCard

/-- THE TIED CARD OF 'remitterlaw15.LinesWrites'. -/
def linesWritesCard : Claim7 := { stood := { row := linesWritesRow, standIns := [], harness := (true, "d009580c12bd3495ca4ce233d681fd40dcb0f4333bf36da7385172680a72a19a"), looks := true }, kinds := [], alts := [], laidByText := true, laidKinds := [.data, .pinned], laidTests := true, laidLooks := .later }
def LinesWritesCardSaid : Prop := Claim7.holds Tryd.pinned (.plain (OpenSpec.ofChange linesWritesSpec)) linesWritesCard

/-- THE TIED CARD OF 'remitterlaw15.LinesBack'. -/
def linesBackCard : Claim7 := { stood := { row := linesBackRow, standIns := [], harness := (true, "d009580c12bd3495ca4ce233d681fd40dcb0f4333bf36da7385172680a72a19a"), looks := true }, kinds := [], alts := [], laidByText := true, laidKinds := [.data, .pinned], laidTests := true, laidLooks := .later }
def LinesBackCardSaid : Prop := Claim7.holds Tryd.pinned (.plain (OpenSpec.ofChange linesBackSpec)) linesBackCard

/-- THE TIED CARD OF 'remitterlaw15.LinesLong'. -/
def linesLongCard : Claim7 := { stood := { row := linesLongRow, standIns := [], harness := (true, "d009580c12bd3495ca4ce233d681fd40dcb0f4333bf36da7385172680a72a19a"), looks := true }, kinds := [], alts := [], laidByText := true, laidKinds := [.data, .pinned], laidTests := true, laidLooks := .later }
def LinesLongCardSaid : Prop := Claim7.holds Tryd.pinned (.plain (OpenSpec.ofChange linesLongSpec)) linesLongCard

/-- THE TIED CARD OF 'remitterlaw15.LinesMore'. -/
def linesMoreCard : Claim7 := { stood := { row := linesMoreRow, standIns := [], harness := (true, "d009580c12bd3495ca4ce233d681fd40dcb0f4333bf36da7385172680a72a19a"), looks := true }, kinds := [], alts := [], laidByText := true, laidKinds := [.data, .pinned], laidTests := true, laidLooks := .later }
def LinesMoreCardSaid : Prop := Claim7.holds Tryd.pinned (.plain (OpenSpec.ofChange linesMoreSpec)) linesMoreCard

/-- THE SECOND FORM's CARD OF 'remitterlaw14.FinReads'. -/
def finReadsUptoCard : Claim7 := { stood := { row := finReadsUptoRow, standIns := [], harness := (true, "d009580c12bd3495ca4ce233d681fd40dcb0f4333bf36da7385172680a72a19a"), looks := true }, kinds := [], alts := [], laidByText := true, laidKinds := [.data, .pinned], laidTests := true, laidLooks := .later }
def FinReadsUptoCardSaid : Prop := Claim7.holds Tryd.pinned (.plain (OpenSpec.upto finReadsSpec)) finReadsUptoCard

/-- THE SECOND FORM's CARD OF 'remitterlaw14.FinWrites'. -/
def finWritesUptoCard : Claim7 := { stood := { row := finWritesUptoRow, standIns := [], harness := (true, "d009580c12bd3495ca4ce233d681fd40dcb0f4333bf36da7385172680a72a19a"), looks := true }, kinds := [], alts := [], laidByText := true, laidKinds := [.data, .pinned], laidTests := true, laidLooks := .later }
def FinWritesUptoCardSaid : Prop := Claim7.holds Tryd.pinned (.plain (OpenSpec.upto finWritesSpec)) finWritesUptoCard

/-- THE SECOND FORM's CARD OF 'remitterlaw14.FinBack'. -/
def finBackUptoCard : Claim7 := { stood := { row := finBackUptoRow, standIns := [], harness := (true, "d009580c12bd3495ca4ce233d681fd40dcb0f4333bf36da7385172680a72a19a"), looks := true }, kinds := [], alts := [], laidByText := true, laidKinds := [.data, .pinned], laidTests := true, laidLooks := .later }
def FinBackUptoCardSaid : Prop := Claim7.holds Tryd.pinned (.plain (OpenSpec.upto finBackSpec)) finBackUptoCard

/-- THE SECOND FORM's CARD OF 'remitterlaw16.PartsReads'. -/
def partsReadsUptoCard : Claim7 := { stood := { row := partsReadsUptoRow, standIns := [], harness := (true, "d009580c12bd3495ca4ce233d681fd40dcb0f4333bf36da7385172680a72a19a"), looks := true }, kinds := [], alts := [], laidByText := true, laidKinds := [.data, .pinned], laidTests := true, laidLooks := .later }
def PartsReadsUptoCardSaid : Prop := Claim7.holds Tryd.pinned (.plain (OpenSpec.upto partsReadsSpec)) partsReadsUptoCard

/-- THE SECOND FORM's CARD OF 'remitterlaw16.PartsWrites'. -/
def partsWritesUptoCard : Claim7 := { stood := { row := partsWritesUptoRow, standIns := [], harness := (true, "d009580c12bd3495ca4ce233d681fd40dcb0f4333bf36da7385172680a72a19a"), looks := true }, kinds := [], alts := [], laidByText := true, laidKinds := [.data, .pinned], laidTests := true, laidLooks := .later }
def PartsWritesUptoCardSaid : Prop := Claim7.holds Tryd.pinned (.plain (OpenSpec.upto partsWritesSpec)) partsWritesUptoCard

/-- THE SECOND FORM's CARD OF 'remitterlaw16.PartsBack'. -/
def partsBackUptoCard : Claim7 := { stood := { row := partsBackUptoRow, standIns := [], harness := (true, "d009580c12bd3495ca4ce233d681fd40dcb0f4333bf36da7385172680a72a19a"), looks := true }, kinds := [], alts := [], laidByText := true, laidKinds := [.data, .pinned], laidTests := true, laidLooks := .later }
def PartsBackUptoCardSaid : Prop := Claim7.holds Tryd.pinned (.plain (OpenSpec.upto partsBackSpec)) partsBackUptoCard

/-- THE SECOND FORM's CARD OF 'remitterlaw15.LinesReads'. -/
def linesReadsUptoCard : Claim7 := { stood := { row := linesReadsUptoRow, standIns := [], harness := (true, "d009580c12bd3495ca4ce233d681fd40dcb0f4333bf36da7385172680a72a19a"), looks := true }, kinds := [], alts := [], laidByText := true, laidKinds := [.data, .pinned], laidTests := true, laidLooks := .later }
def LinesReadsUptoCardSaid : Prop := Claim7.holds Tryd.pinned (.plain (OpenSpec.upto linesReadsSpec)) linesReadsUptoCard

/-- THE SECOND FORM's CARD OF 'remitterlaw15.LinesWrites'. -/
def linesWritesUptoCard : Claim7 := { stood := { row := linesWritesUptoRow, standIns := [], harness := (true, "d009580c12bd3495ca4ce233d681fd40dcb0f4333bf36da7385172680a72a19a"), looks := true }, kinds := [], alts := [], laidByText := true, laidKinds := [.data, .pinned], laidTests := true, laidLooks := .later }
def LinesWritesUptoCardSaid : Prop := Claim7.holds Tryd.pinned (.plain (OpenSpec.upto linesWritesSpec)) linesWritesUptoCard

/-- THE SECOND FORM's CARD OF 'remitterlaw15.LinesBack'. -/
def linesBackUptoCard : Claim7 := { stood := { row := linesBackUptoRow, standIns := [], harness := (true, "d009580c12bd3495ca4ce233d681fd40dcb0f4333bf36da7385172680a72a19a"), looks := true }, kinds := [], alts := [], laidByText := true, laidKinds := [.data, .pinned], laidTests := true, laidLooks := .later }
def LinesBackUptoCardSaid : Prop := Claim7.holds Tryd.pinned (.plain (OpenSpec.upto linesBackSpec)) linesBackUptoCard

/-- THE SECOND FORM's CARD OF 'remitterlaw15.LinesLong'. -/
def linesLongUptoCard : Claim7 := { stood := { row := linesLongUptoRow, standIns := [], harness := (true, "d009580c12bd3495ca4ce233d681fd40dcb0f4333bf36da7385172680a72a19a"), looks := true }, kinds := [], alts := [], laidByText := true, laidKinds := [.data, .pinned], laidTests := true, laidLooks := .later }
def LinesLongUptoCardSaid : Prop := Claim7.holds Tryd.pinned (.plain (OpenSpec.upto linesLongSpec)) linesLongUptoCard

/-- THE SECOND FORM's CARD OF 'remitterlaw15.LinesMore'. -/
def linesMoreUptoCard : Claim7 := { stood := { row := linesMoreUptoRow, standIns := [], harness := (true, "d009580c12bd3495ca4ce233d681fd40dcb0f4333bf36da7385172680a72a19a"), looks := true }, kinds := [], alts := [], laidByText := true, laidKinds := [.data, .pinned], laidTests := true, laidLooks := .later }
def LinesMoreUptoCardSaid : Prop := Claim7.holds Tryd.pinned (.plain (OpenSpec.upto linesMoreSpec)) linesMoreUptoCard
end Rows
end Go.Proofs.YtkklccccjmipkaaDoor
