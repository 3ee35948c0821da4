/-
  DERIVED. GIVEN WITH THE SEED: THE CARDS: each row of YtnkpfaoklkapdaaDoorRows.lean that lists a variable, with what it lists TIED to the program's text (the seventh form; the later family's looks); each row that meets fmt, with fmt's text TOLD by the authors' own Lean function (tested against real Go, not proved from fmt's source: count such statements apart). THE CARD IS WHAT COUNTS. Prove the row's statement (the work); the ties are given (YtnkpfaoklkapdaaDoorTie.lean); close each card by the builder's one call (the guide's Derived/Test/ToyasCard.lean, 'card_holds'). Laid BY PROGRAM, IN A SANDBOX (cutbox-door.mjs). By AI agents, Wed Nov 11 2026. No macro, syntax, notation, axiom, sorry.
-/
import Derived.Test.YtnkpfaoklkapdaaDoorRows
import GoSem.ClaimSeven
namespace Go.Proofs.YtnkpfaoklkapdaaDoor
namespace Rows

/-- THE TIED CARD OF 'bandplanlaw01.NumberOf'. -/
def numberOfCard : Claim7 := { stood := { row := numberOfRow, standIns := [], harness := (true, "9bd250413fc205dd3d29ad0bde6664eb6a224f6ea6dff81b23845fa6f11f9b98"), looks := false }, kinds := [], alts := [], laidByText := true, laidKinds := [.data, .pinned], laidTests := true, laidLooks := .later }
def NumberOfCardSaid : Prop := Claim7.holds Tryd.pinned (.plain (OpenSpec.ofChange numberOfSpec)) numberOfCard

/-- THE TIED CARD OF 'bandplanlaw01.NumberPowers'. -/
def numberPowersCard : Claim7 := { stood := { row := numberPowersRow, standIns := [], harness := (true, "9bd250413fc205dd3d29ad0bde6664eb6a224f6ea6dff81b23845fa6f11f9b98"), looks := false }, kinds := [], alts := [], laidByText := true, laidKinds := [.data, .pinned], laidTests := true, laidLooks := .later }
def NumberPowersCardSaid : Prop := Claim7.holds Tryd.pinned (.plain (OpenSpec.ofChange numberPowersSpec)) numberPowersCard

/-- THE TIED CARD OF 'bandplanlaw01.NumberTexts'. -/
def numberTextsCard : Claim7 := { stood := { row := numberTextsRow, standIns := [], harness := (true, "9bd250413fc205dd3d29ad0bde6664eb6a224f6ea6dff81b23845fa6f11f9b98"), looks := false }, kinds := [], alts := [], laidByText := true, laidKinds := [.data, .pinned], laidTests := true, laidLooks := .later }
def NumberTextsCardSaid : Prop := Claim7.holds Tryd.pinned (.plain (OpenSpec.ofChange numberTextsSpec)) numberTextsCard

/-- THE TIED CARD OF 'bandplanlaw01.NumberReads'. -/
def numberReadsCard : Claim7 := { stood := { row := numberReadsRow, standIns := [], harness := (true, "9bd250413fc205dd3d29ad0bde6664eb6a224f6ea6dff81b23845fa6f11f9b98"), looks := false }, kinds := [], alts := [], laidByText := true, laidKinds := [.data, .pinned], laidTests := true, laidLooks := .later }
def NumberReadsCardSaid : Prop := Claim7.holds Tryd.pinned (.plain (OpenSpec.ofChange numberReadsSpec)) numberReadsCard

/-- THE TIED CARD OF 'bandplanlaw01.NumberDivides'. -/
def numberDividesCard : Claim7 := { stood := { row := numberDividesRow, standIns := [], harness := (true, "9bd250413fc205dd3d29ad0bde6664eb6a224f6ea6dff81b23845fa6f11f9b98"), looks := false }, kinds := [], alts := [], laidByText := true, laidKinds := [.data, .pinned], laidTests := true, laidLooks := .later }
def NumberDividesCardSaid : Prop := Claim7.holds Tryd.pinned (.plain (OpenSpec.ofChange numberDividesSpec)) numberDividesCard

/-- THE TIED CARD OF 'bandplanlaw01.NumberValid'. -/
def numberValidCard : Claim7 := { stood := { row := numberValidRow, standIns := [], harness := (true, "9bd250413fc205dd3d29ad0bde6664eb6a224f6ea6dff81b23845fa6f11f9b98"), looks := false }, kinds := [], alts := [], laidByText := true, laidKinds := [.data, .pinned], laidTests := true, laidLooks := .later }
def NumberValidCardSaid : Prop := Claim7.holds Tryd.pinned (.plain (OpenSpec.ofChange numberValidSpec)) numberValidCard

/-- THE TIED CARD OF 'bandplanlaw01.NumberSums'. -/
def numberSumsCard : Claim7 := { stood := { row := numberSumsRow, standIns := [], harness := (true, "9bd250413fc205dd3d29ad0bde6664eb6a224f6ea6dff81b23845fa6f11f9b98"), looks := false }, kinds := [], alts := [], laidByText := true, laidKinds := [.data, .pinned], laidTests := true, laidLooks := .later }
def NumberSumsCardSaid : Prop := Claim7.holds Tryd.pinned (.plain (OpenSpec.ofChange numberSumsSpec)) numberSumsCard

/-- THE TIED CARD OF 'bandplanlaw01.NumberRing'. -/
def numberRingCard : Claim7 := { stood := { row := numberRingRow, standIns := [], harness := (true, "9bd250413fc205dd3d29ad0bde6664eb6a224f6ea6dff81b23845fa6f11f9b98"), looks := false }, kinds := [], alts := [], laidByText := true, laidKinds := [.data, .pinned], laidTests := true, laidLooks := .later }
def NumberRingCardSaid : Prop := Claim7.holds Tryd.pinned (.plain (OpenSpec.ofChange numberRingSpec)) numberRingCard

/-- THE SECOND FORM's CARD OF 'bandplanlaw01.NumberOf'. -/
def numberOfUptoCard : Claim7 := { stood := { row := numberOfUptoRow, standIns := [], harness := (true, "9bd250413fc205dd3d29ad0bde6664eb6a224f6ea6dff81b23845fa6f11f9b98"), looks := false }, kinds := [], alts := [], laidByText := true, laidKinds := [.data, .pinned], laidTests := true, laidLooks := .later }
def NumberOfUptoCardSaid : Prop := Claim7.holds Tryd.pinned (.plain (OpenSpec.upto numberOfSpec)) numberOfUptoCard

/-- THE SECOND FORM's CARD OF 'bandplanlaw01.NumberPowers'. -/
def numberPowersUptoCard : Claim7 := { stood := { row := numberPowersUptoRow, standIns := [], harness := (true, "9bd250413fc205dd3d29ad0bde6664eb6a224f6ea6dff81b23845fa6f11f9b98"), looks := false }, kinds := [], alts := [], laidByText := true, laidKinds := [.data, .pinned], laidTests := true, laidLooks := .later }
def NumberPowersUptoCardSaid : Prop := Claim7.holds Tryd.pinned (.plain (OpenSpec.upto numberPowersSpec)) numberPowersUptoCard

/-- THE SECOND FORM's CARD OF 'bandplanlaw01.NumberTexts'. -/
def numberTextsUptoCard : Claim7 := { stood := { row := numberTextsUptoRow, standIns := [], harness := (true, "9bd250413fc205dd3d29ad0bde6664eb6a224f6ea6dff81b23845fa6f11f9b98"), looks := false }, kinds := [], alts := [], laidByText := true, laidKinds := [.data, .pinned], laidTests := true, laidLooks := .later }
def NumberTextsUptoCardSaid : Prop := Claim7.holds Tryd.pinned (.plain (OpenSpec.upto numberTextsSpec)) numberTextsUptoCard

/-- THE SECOND FORM's CARD OF 'bandplanlaw01.NumberReads'. -/
def numberReadsUptoCard : Claim7 := { stood := { row := numberReadsUptoRow, standIns := [], harness := (true, "9bd250413fc205dd3d29ad0bde6664eb6a224f6ea6dff81b23845fa6f11f9b98"), looks := false }, kinds := [], alts := [], laidByText := true, laidKinds := [.data, .pinned], laidTests := true, laidLooks := .later }
def NumberReadsUptoCardSaid : Prop := Claim7.holds Tryd.pinned (.plain (OpenSpec.upto numberReadsSpec)) numberReadsUptoCard

/-- THE SECOND FORM's CARD OF 'bandplanlaw01.NumberDivides'. -/
def numberDividesUptoCard : Claim7 := { stood := { row := numberDividesUptoRow, standIns := [], harness := (true, "9bd250413fc205dd3d29ad0bde6664eb6a224f6ea6dff81b23845fa6f11f9b98"), looks := false }, kinds := [], alts := [], laidByText := true, laidKinds := [.data, .pinned], laidTests := true, laidLooks := .later }
def NumberDividesUptoCardSaid : Prop := Claim7.holds Tryd.pinned (.plain (OpenSpec.upto numberDividesSpec)) numberDividesUptoCard

/-- THE SECOND FORM's CARD OF 'bandplanlaw01.NumberValid'. -/
def numberValidUptoCard : Claim7 := { stood := { row := numberValidUptoRow, standIns := [], harness := (true, "9bd250413fc205dd3d29ad0bde6664eb6a224f6ea6dff81b23845fa6f11f9b98"), looks := false }, kinds := [], alts := [], laidByText := true, laidKinds := [.data, .pinned], laidTests := true, laidLooks := .later }
def NumberValidUptoCardSaid : Prop := Claim7.holds Tryd.pinned (.plain (OpenSpec.upto numberValidSpec)) numberValidUptoCard

/-- THE SECOND FORM's CARD OF 'bandplanlaw01.NumberSums'. -/
def numberSumsUptoCard : Claim7 := { stood := { row := numberSumsUptoRow, standIns := [], harness := (true, "9bd250413fc205dd3d29ad0bde6664eb6a224f6ea6dff81b23845fa6f11f9b98"), looks := false }, kinds := [], alts := [], laidByText := true, laidKinds := [.data, .pinned], laidTests := true, laidLooks := .later }
def NumberSumsUptoCardSaid : Prop := Claim7.holds Tryd.pinned (.plain (OpenSpec.upto numberSumsSpec)) numberSumsUptoCard

/-- THE SECOND FORM's CARD OF 'bandplanlaw01.NumberRing'. -/
def numberRingUptoCard : Claim7 := { stood := { row := numberRingUptoRow, standIns := [], harness := (true, "9bd250413fc205dd3d29ad0bde6664eb6a224f6ea6dff81b23845fa6f11f9b98"), looks := false }, kinds := [], alts := [], laidByText := true, laidKinds := [.data, .pinned], laidTests := true, laidLooks := .later }
def NumberRingUptoCardSaid : Prop := Claim7.holds Tryd.pinned (.plain (OpenSpec.upto numberRingSpec)) numberRingUptoCard
end Rows
end Go.Proofs.YtnkpfaoklkapdaaDoor
