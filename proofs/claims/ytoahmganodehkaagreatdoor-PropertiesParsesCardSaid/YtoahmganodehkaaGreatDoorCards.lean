/-
  DERIVED. GIVEN WITH THE SEED: THE CARDS: each row of YtoahmganodehkaaGreatDoorRows.lean that lists a variable, with what it lists TIED to the program's text (the seventh form; the later family's looks); each row that meets fmt, with fmt's text TOLD by the authors' own Lean function (tested against real Go, not proved from fmt's source: count such statements apart). THE CARD IS WHAT COUNTS. Prove the row's statement (the work); the ties are given (YtoahmganodehkaaGreatDoorTie.lean); close each card by the builder's one call (the guide's Derived/Test/ToyasCard.lean, 'card_holds'). Laid BY PROGRAM, IN A SANDBOX (cutbox-door.mjs). By AI agents, Wed Nov 11 2026. No macro, syntax, notation, axiom, sorry.
-/
import Derived.Test.YtoahmganodehkaaGreatDoorRows
import GoSem.ClaimSeven
namespace Go.Proofs.YtoahmganodehkaaGreatDoor
namespace Rows

/-- THE TIED CARD OF 'configlanglaw39.PropertiesLines'. -/
def propertiesLinesCard : Claim7 := { stood := { row := propertiesLinesRow, standIns := [], harness := (true, "ec85c6677fa0c54f315e71572124615603160ba9ee4237296381d686affb33bd"), looks := true }, kinds := [], alts := [], laidByText := true, laidKinds := [.data, .data, .data, .data, .sentinel, .sentinel, .pinned], laidTests := true, laidLooks := .later }
def PropertiesLinesCardSaid : Prop := Claim7.holds Tryz.pinned (.plain (OpenSpec.ofChange propertiesLinesSpec)) propertiesLinesCard

/-- THE TIED CARD OF 'configlanglaw39.PropertiesClash'. -/
def propertiesClashCard : Claim7 := { stood := { row := propertiesClashRow, standIns := [], harness := (true, "ec85c6677fa0c54f315e71572124615603160ba9ee4237296381d686affb33bd"), looks := true }, kinds := [], alts := [], laidByText := true, laidKinds := [.data, .data, .data, .data, .sentinel, .sentinel, .pinned], laidTests := true, laidLooks := .later }
def PropertiesClashCardSaid : Prop := Claim7.holds Tryz.pinned (.plain (OpenSpec.ofChange propertiesClashSpec)) propertiesClashCard

/-- THE TIED CARD OF 'configlanglaw39.PropertiesFlattens'. -/
def propertiesFlattensCard : Claim7 := { stood := { row := propertiesFlattensRow, standIns := [], harness := (true, "ec85c6677fa0c54f315e71572124615603160ba9ee4237296381d686affb33bd"), looks := true }, kinds := [], alts := [], laidByText := true, laidKinds := [.data, .data, .data, .data, .sentinel, .sentinel, .pinned], laidTests := true, laidLooks := .later }
def PropertiesFlattensCardSaid : Prop := Claim7.holds Tryz.pinned (.plain (OpenSpec.ofChange propertiesFlattensSpec)) propertiesFlattensCard

/-- THE TIED CARD OF 'configlanglaw39.PropertiesBuilds'. -/
def propertiesBuildsCard : Claim7 := { stood := { row := propertiesBuildsRow, standIns := [], harness := (true, "ec85c6677fa0c54f315e71572124615603160ba9ee4237296381d686affb33bd"), looks := true }, kinds := [], alts := [], laidByText := true, laidKinds := [.data, .data, .data, .data, .sentinel, .sentinel, .pinned], laidTests := true, laidLooks := .later }
def PropertiesBuildsCardSaid : Prop := Claim7.holds Tryz.pinned (.plain (OpenSpec.ofChange propertiesBuildsSpec)) propertiesBuildsCard

/-- THE TIED CARD OF 'configlanglaw39.PropertiesTexts'. -/
def propertiesTextsCard : Claim7 := { stood := { row := propertiesTextsRow, standIns := [], harness := (true, "ec85c6677fa0c54f315e71572124615603160ba9ee4237296381d686affb33bd"), looks := true }, kinds := [], alts := [], laidByText := true, laidKinds := [.data, .data, .data, .data, .sentinel, .sentinel, .pinned], laidTests := true, laidLooks := .later }
def PropertiesTextsCardSaid : Prop := Claim7.holds Tryz.pinned (.plain (OpenSpec.ofChange propertiesTextsSpec)) propertiesTextsCard

/-- THE TIED CARD OF 'configlanglaw39.PropertiesParses'. -/
def propertiesParsesCard : Claim7 := { stood := { row := propertiesParsesRow, standIns := [], harness := (true, "ec85c6677fa0c54f315e71572124615603160ba9ee4237296381d686affb33bd"), looks := true }, kinds := [], alts := [], laidByText := true, laidKinds := [.data, .data, .data, .data, .sentinel, .sentinel, .pinned], laidTests := true, laidLooks := .later }
def PropertiesParsesCardSaid : Prop := Claim7.holds Tryz.pinned (.plain (OpenSpec.ofChange propertiesParsesSpec)) propertiesParsesCard

/-- THE TIED CARD OF 'configlanglaw39.PropertiesOrder'. -/
def propertiesOrderCard : Claim7 := { stood := { row := propertiesOrderRow, standIns := [], harness := (true, "ec85c6677fa0c54f315e71572124615603160ba9ee4237296381d686affb33bd"), looks := true }, kinds := [], alts := [], laidByText := true, laidKinds := [.data, .data, .data, .data, .sentinel, .sentinel, .pinned], laidTests := true, laidLooks := .later }
def PropertiesOrderCardSaid : Prop := Claim7.holds Tryz.pinned (.plain (OpenSpec.ofChange propertiesOrderSpec)) propertiesOrderCard

/-- THE SECOND FORM's CARD OF 'configlanglaw39.PropertiesLines'. -/
def propertiesLinesUptoCard : Claim7 := { stood := { row := propertiesLinesUptoRow, standIns := [], harness := (true, "ec85c6677fa0c54f315e71572124615603160ba9ee4237296381d686affb33bd"), looks := true }, kinds := [], alts := [], laidByText := true, laidKinds := [.data, .data, .data, .data, .sentinel, .sentinel, .pinned], laidTests := true, laidLooks := .later }
def PropertiesLinesUptoCardSaid : Prop := Claim7.holds Tryz.pinned (.plain (OpenSpec.upto propertiesLinesSpec)) propertiesLinesUptoCard

/-- THE SECOND FORM's CARD OF 'configlanglaw39.PropertiesClash'. -/
def propertiesClashUptoCard : Claim7 := { stood := { row := propertiesClashUptoRow, standIns := [], harness := (true, "ec85c6677fa0c54f315e71572124615603160ba9ee4237296381d686affb33bd"), looks := true }, kinds := [], alts := [], laidByText := true, laidKinds := [.data, .data, .data, .data, .sentinel, .sentinel, .pinned], laidTests := true, laidLooks := .later }
def PropertiesClashUptoCardSaid : Prop := Claim7.holds Tryz.pinned (.plain (OpenSpec.upto propertiesClashSpec)) propertiesClashUptoCard

/-- THE SECOND FORM's CARD OF 'configlanglaw39.PropertiesFlattens'. -/
def propertiesFlattensUptoCard : Claim7 := { stood := { row := propertiesFlattensUptoRow, standIns := [], harness := (true, "ec85c6677fa0c54f315e71572124615603160ba9ee4237296381d686affb33bd"), looks := true }, kinds := [], alts := [], laidByText := true, laidKinds := [.data, .data, .data, .data, .sentinel, .sentinel, .pinned], laidTests := true, laidLooks := .later }
def PropertiesFlattensUptoCardSaid : Prop := Claim7.holds Tryz.pinned (.plain (OpenSpec.upto propertiesFlattensSpec)) propertiesFlattensUptoCard

/-- THE SECOND FORM's CARD OF 'configlanglaw39.PropertiesBuilds'. -/
def propertiesBuildsUptoCard : Claim7 := { stood := { row := propertiesBuildsUptoRow, standIns := [], harness := (true, "ec85c6677fa0c54f315e71572124615603160ba9ee4237296381d686affb33bd"), looks := true }, kinds := [], alts := [], laidByText := true, laidKinds := [.data, .data, .data, .data, .sentinel, .sentinel, .pinned], laidTests := true, laidLooks := .later }
def PropertiesBuildsUptoCardSaid : Prop := Claim7.holds Tryz.pinned (.plain (OpenSpec.upto propertiesBuildsSpec)) propertiesBuildsUptoCard

/-- THE SECOND FORM's CARD OF 'configlanglaw39.PropertiesTexts'. -/
def propertiesTextsUptoCard : Claim7 := { stood := { row := propertiesTextsUptoRow, standIns := [], harness := (true, "ec85c6677fa0c54f315e71572124615603160ba9ee4237296381d686affb33bd"), looks := true }, kinds := [], alts := [], laidByText := true, laidKinds := [.data, .data, .data, .data, .sentinel, .sentinel, .pinned], laidTests := true, laidLooks := .later }
def PropertiesTextsUptoCardSaid : Prop := Claim7.holds Tryz.pinned (.plain (OpenSpec.upto propertiesTextsSpec)) propertiesTextsUptoCard

/-- THE SECOND FORM's CARD OF 'configlanglaw39.PropertiesParses'. -/
def propertiesParsesUptoCard : Claim7 := { stood := { row := propertiesParsesUptoRow, standIns := [], harness := (true, "ec85c6677fa0c54f315e71572124615603160ba9ee4237296381d686affb33bd"), looks := true }, kinds := [], alts := [], laidByText := true, laidKinds := [.data, .data, .data, .data, .sentinel, .sentinel, .pinned], laidTests := true, laidLooks := .later }
def PropertiesParsesUptoCardSaid : Prop := Claim7.holds Tryz.pinned (.plain (OpenSpec.upto propertiesParsesSpec)) propertiesParsesUptoCard

/-- THE SECOND FORM's CARD OF 'configlanglaw39.PropertiesOrder'. -/
def propertiesOrderUptoCard : Claim7 := { stood := { row := propertiesOrderUptoRow, standIns := [], harness := (true, "ec85c6677fa0c54f315e71572124615603160ba9ee4237296381d686affb33bd"), looks := true }, kinds := [], alts := [], laidByText := true, laidKinds := [.data, .data, .data, .data, .sentinel, .sentinel, .pinned], laidTests := true, laidLooks := .later }
def PropertiesOrderUptoCardSaid : Prop := Claim7.holds Tryz.pinned (.plain (OpenSpec.upto propertiesOrderSpec)) propertiesOrderUptoCard
end Rows
end Go.Proofs.YtoahmganodehkaaGreatDoor
