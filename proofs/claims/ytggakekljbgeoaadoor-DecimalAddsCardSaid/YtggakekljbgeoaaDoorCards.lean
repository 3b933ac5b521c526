/-
  DERIVED. GIVEN WITH THE SEED: THE CARDS: each row of YtggakekljbgeoaaDoorRows.lean that lists a variable, with what it lists TIED to the program's text (the seventh form; the later family's looks); each row that meets fmt, with fmt's text TOLD by the authors' own Lean function (tested against real Go, not proved from fmt's source: count such statements apart). THE CARD IS WHAT COUNTS. Prove the row's statement (the work); the ties are given (YtggakekljbgeoaaDoorTie.lean); close each card by the builder's one call (the guide's Derived/Test/ToyasCard.lean, 'card_holds'). Laid BY PROGRAM, IN A SANDBOX (cutbox-door.mjs). By AI agents, Wed Nov 11 2026. No macro, syntax, notation, axiom, sorry.
-/
import Derived.Test.YtggakekljbgeoaaDoorRows
import GoSem.ClaimSeven
namespace Go.Proofs.YtggakekljbgeoaaDoor
namespace Rows

/-- THE TIED CARD OF 'remitterlaw01.DecimalReads'. -/
def decimalReadsCard : Claim7 := { stood := { row := decimalReadsRow, standIns := [], harness := (true, "7d8d24018297bcd2316b052caf02fdfd8571c94fa3e9f22cf8866e1b77fb7c03"), looks := false }, kinds := [], alts := [], laidByText := true, laidKinds := [.data, .data, .data], laidTests := true, laidLooks := .later }
def DecimalReadsCardSaid : Prop := Claim7.holds Tryd.pinned (.plain (OpenSpec.ofChange decimalReadsSpec)) decimalReadsCard

/-- THE TIED CARD OF 'remitterlaw01.DecimalTells'. -/
def decimalTellsCard : Claim7 := { stood := { row := decimalTellsRow, standIns := [], harness := (true, "7d8d24018297bcd2316b052caf02fdfd8571c94fa3e9f22cf8866e1b77fb7c03"), looks := false }, kinds := [], alts := [], laidByText := true, laidKinds := [.data, .data, .data], laidTests := true, laidLooks := .later }
def DecimalTellsCardSaid : Prop := Claim7.holds Tryd.pinned (.plain (OpenSpec.ofChange decimalTellsSpec)) decimalTellsCard

/-- THE TIED CARD OF 'remitterlaw01.DecimalAdds'. -/
def decimalAddsCard : Claim7 := { stood := { row := decimalAddsRow, standIns := [], harness := (true, "7d8d24018297bcd2316b052caf02fdfd8571c94fa3e9f22cf8866e1b77fb7c03"), looks := false }, kinds := [], alts := [], laidByText := true, laidKinds := [.data, .data, .data], laidTests := true, laidLooks := .later }
def DecimalAddsCardSaid : Prop := Claim7.holds Tryd.pinned (.plain (OpenSpec.ofChange decimalAddsSpec)) decimalAddsCard

/-- THE TIED CARD OF 'remitterlaw01.DecimalExact'. -/
def decimalExactCard : Claim7 := { stood := { row := decimalExactRow, standIns := [], harness := (true, "7d8d24018297bcd2316b052caf02fdfd8571c94fa3e9f22cf8866e1b77fb7c03"), looks := false }, kinds := [], alts := [], laidByText := true, laidKinds := [.data, .data, .data], laidTests := true, laidLooks := .later }
def DecimalExactCardSaid : Prop := Claim7.holds Tryd.pinned (.plain (OpenSpec.ofChange decimalExactSpec)) decimalExactCard

/-- THE TIED CARD OF 'remitterlaw01.DecimalBack'. -/
def decimalBackCard : Claim7 := { stood := { row := decimalBackRow, standIns := [], harness := (true, "7d8d24018297bcd2316b052caf02fdfd8571c94fa3e9f22cf8866e1b77fb7c03"), looks := false }, kinds := [], alts := [], laidByText := true, laidKinds := [.data, .data, .data], laidTests := true, laidLooks := .later }
def DecimalBackCardSaid : Prop := Claim7.holds Tryd.pinned (.plain (OpenSpec.ofChange decimalBackSpec)) decimalBackCard

/-- THE TIED CARD OF 'remitterlaw01.DecimalOrder'. -/
def decimalOrderCard : Claim7 := { stood := { row := decimalOrderRow, standIns := [], harness := (true, "7d8d24018297bcd2316b052caf02fdfd8571c94fa3e9f22cf8866e1b77fb7c03"), looks := false }, kinds := [], alts := [], laidByText := true, laidKinds := [.data, .data, .data], laidTests := true, laidLooks := .later }
def DecimalOrderCardSaid : Prop := Claim7.holds Tryd.pinned (.plain (OpenSpec.ofChange decimalOrderSpec)) decimalOrderCard

/-- THE TIED CARD OF 'remitterlaw02.CurrencyAll'. -/
def currencyAllCard : Claim7 := { stood := { row := currencyAllRow, standIns := [], harness := (true, "7d8d24018297bcd2316b052caf02fdfd8571c94fa3e9f22cf8866e1b77fb7c03"), looks := false }, kinds := [], alts := [], laidByText := true, laidKinds := [.data, .listed, .data, .pinned], laidTests := true, laidLooks := .later }
def CurrencyAllCardSaid : Prop := Claim7.holds Tryd.pinned (.plain (OpenSpec.ofChange currencyAllSpec)) currencyAllCard

/-- THE TIED CARD OF 'remitterlaw02.CurrencyTells'. -/
def currencyTellsCard : Claim7 := { stood := { row := currencyTellsRow, standIns := [], harness := (true, "7d8d24018297bcd2316b052caf02fdfd8571c94fa3e9f22cf8866e1b77fb7c03"), looks := false }, kinds := [], alts := [], laidByText := true, laidKinds := [.data, .listed, .data, .pinned], laidTests := true, laidLooks := .later }
def CurrencyTellsCardSaid : Prop := Claim7.holds Tryd.pinned (.plain (OpenSpec.ofChange currencyTellsSpec)) currencyTellsCard

/-- THE TIED CARD OF 'remitterlaw02.CurrencySums'. -/
def currencySumsCard : Claim7 := { stood := { row := currencySumsRow, standIns := [], harness := (true, "7d8d24018297bcd2316b052caf02fdfd8571c94fa3e9f22cf8866e1b77fb7c03"), looks := false }, kinds := [], alts := [], laidByText := true, laidKinds := [.data, .listed, .data, .pinned], laidTests := true, laidLooks := .later }
def CurrencySumsCardSaid : Prop := Claim7.holds Tryd.pinned (.plain (OpenSpec.ofChange currencySumsSpec)) currencySumsCard

/-- THE TIED CARD OF 'remitterlaw02.CurrencyBoth'. -/
def currencyBothCard : Claim7 := { stood := { row := currencyBothRow, standIns := [], harness := (true, "7d8d24018297bcd2316b052caf02fdfd8571c94fa3e9f22cf8866e1b77fb7c03"), looks := false }, kinds := [], alts := [], laidByText := true, laidKinds := [.data, .data, .data, .data, .listed, .data, .pinned], laidTests := true, laidLooks := .later }
def CurrencyBothCardSaid : Prop := Claim7.holds Tryd.pinned (.plain (OpenSpec.ofChange currencyBothSpec)) currencyBothCard

/-- THE SECOND FORM's CARD OF 'remitterlaw01.DecimalReads'. -/
def decimalReadsUptoCard : Claim7 := { stood := { row := decimalReadsUptoRow, standIns := [], harness := (true, "7d8d24018297bcd2316b052caf02fdfd8571c94fa3e9f22cf8866e1b77fb7c03"), looks := false }, kinds := [], alts := [], laidByText := true, laidKinds := [.data, .data, .data], laidTests := true, laidLooks := .later }
def DecimalReadsUptoCardSaid : Prop := Claim7.holds Tryd.pinned (.plain (OpenSpec.upto decimalReadsSpec)) decimalReadsUptoCard

/-- THE SECOND FORM's CARD OF 'remitterlaw01.DecimalTells'. -/
def decimalTellsUptoCard : Claim7 := { stood := { row := decimalTellsUptoRow, standIns := [], harness := (true, "7d8d24018297bcd2316b052caf02fdfd8571c94fa3e9f22cf8866e1b77fb7c03"), looks := false }, kinds := [], alts := [], laidByText := true, laidKinds := [.data, .data, .data], laidTests := true, laidLooks := .later }
def DecimalTellsUptoCardSaid : Prop := Claim7.holds Tryd.pinned (.plain (OpenSpec.upto decimalTellsSpec)) decimalTellsUptoCard

/-- THE SECOND FORM's CARD OF 'remitterlaw01.DecimalAdds'. -/
def decimalAddsUptoCard : Claim7 := { stood := { row := decimalAddsUptoRow, standIns := [], harness := (true, "7d8d24018297bcd2316b052caf02fdfd8571c94fa3e9f22cf8866e1b77fb7c03"), looks := false }, kinds := [], alts := [], laidByText := true, laidKinds := [.data, .data, .data], laidTests := true, laidLooks := .later }
def DecimalAddsUptoCardSaid : Prop := Claim7.holds Tryd.pinned (.plain (OpenSpec.upto decimalAddsSpec)) decimalAddsUptoCard

/-- THE SECOND FORM's CARD OF 'remitterlaw01.DecimalExact'. -/
def decimalExactUptoCard : Claim7 := { stood := { row := decimalExactUptoRow, standIns := [], harness := (true, "7d8d24018297bcd2316b052caf02fdfd8571c94fa3e9f22cf8866e1b77fb7c03"), looks := false }, kinds := [], alts := [], laidByText := true, laidKinds := [.data, .data, .data], laidTests := true, laidLooks := .later }
def DecimalExactUptoCardSaid : Prop := Claim7.holds Tryd.pinned (.plain (OpenSpec.upto decimalExactSpec)) decimalExactUptoCard

/-- THE SECOND FORM's CARD OF 'remitterlaw01.DecimalBack'. -/
def decimalBackUptoCard : Claim7 := { stood := { row := decimalBackUptoRow, standIns := [], harness := (true, "7d8d24018297bcd2316b052caf02fdfd8571c94fa3e9f22cf8866e1b77fb7c03"), looks := false }, kinds := [], alts := [], laidByText := true, laidKinds := [.data, .data, .data], laidTests := true, laidLooks := .later }
def DecimalBackUptoCardSaid : Prop := Claim7.holds Tryd.pinned (.plain (OpenSpec.upto decimalBackSpec)) decimalBackUptoCard

/-- THE SECOND FORM's CARD OF 'remitterlaw01.DecimalOrder'. -/
def decimalOrderUptoCard : Claim7 := { stood := { row := decimalOrderUptoRow, standIns := [], harness := (true, "7d8d24018297bcd2316b052caf02fdfd8571c94fa3e9f22cf8866e1b77fb7c03"), looks := false }, kinds := [], alts := [], laidByText := true, laidKinds := [.data, .data, .data], laidTests := true, laidLooks := .later }
def DecimalOrderUptoCardSaid : Prop := Claim7.holds Tryd.pinned (.plain (OpenSpec.upto decimalOrderSpec)) decimalOrderUptoCard

/-- THE SECOND FORM's CARD OF 'remitterlaw02.CurrencyAll'. -/
def currencyAllUptoCard : Claim7 := { stood := { row := currencyAllUptoRow, standIns := [], harness := (true, "7d8d24018297bcd2316b052caf02fdfd8571c94fa3e9f22cf8866e1b77fb7c03"), looks := false }, kinds := [], alts := [], laidByText := true, laidKinds := [.data, .listed, .data, .pinned], laidTests := true, laidLooks := .later }
def CurrencyAllUptoCardSaid : Prop := Claim7.holds Tryd.pinned (.plain (OpenSpec.upto currencyAllSpec)) currencyAllUptoCard

/-- THE SECOND FORM's CARD OF 'remitterlaw02.CurrencyTells'. -/
def currencyTellsUptoCard : Claim7 := { stood := { row := currencyTellsUptoRow, standIns := [], harness := (true, "7d8d24018297bcd2316b052caf02fdfd8571c94fa3e9f22cf8866e1b77fb7c03"), looks := false }, kinds := [], alts := [], laidByText := true, laidKinds := [.data, .listed, .data, .pinned], laidTests := true, laidLooks := .later }
def CurrencyTellsUptoCardSaid : Prop := Claim7.holds Tryd.pinned (.plain (OpenSpec.upto currencyTellsSpec)) currencyTellsUptoCard

/-- THE SECOND FORM's CARD OF 'remitterlaw02.CurrencySums'. -/
def currencySumsUptoCard : Claim7 := { stood := { row := currencySumsUptoRow, standIns := [], harness := (true, "7d8d24018297bcd2316b052caf02fdfd8571c94fa3e9f22cf8866e1b77fb7c03"), looks := false }, kinds := [], alts := [], laidByText := true, laidKinds := [.data, .listed, .data, .pinned], laidTests := true, laidLooks := .later }
def CurrencySumsUptoCardSaid : Prop := Claim7.holds Tryd.pinned (.plain (OpenSpec.upto currencySumsSpec)) currencySumsUptoCard

/-- THE SECOND FORM's CARD OF 'remitterlaw02.CurrencyBoth'. -/
def currencyBothUptoCard : Claim7 := { stood := { row := currencyBothUptoRow, standIns := [], harness := (true, "7d8d24018297bcd2316b052caf02fdfd8571c94fa3e9f22cf8866e1b77fb7c03"), looks := false }, kinds := [], alts := [], laidByText := true, laidKinds := [.data, .data, .data, .data, .listed, .data, .pinned], laidTests := true, laidLooks := .later }
def CurrencyBothUptoCardSaid : Prop := Claim7.holds Tryd.pinned (.plain (OpenSpec.upto currencyBothSpec)) currencyBothUptoCard
end Rows
end Go.Proofs.YtggakekljbgeoaaDoor
