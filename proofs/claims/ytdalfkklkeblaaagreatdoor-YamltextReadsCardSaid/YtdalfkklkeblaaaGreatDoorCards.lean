/-
  DERIVED. GIVEN WITH THE SEED: THE CARDS: each row of YtdalfkklkeblaaaGreatDoorRows.lean that lists a variable, with what it lists TIED to the program's text (the seventh form; the later family's looks); each row that meets fmt, with fmt's text TOLD by the authors' own Lean function (tested against real Go, not proved from fmt's source: count such statements apart). THE CARD IS WHAT COUNTS. Prove the row's statement (the work); the ties are given (YtdalfkklkeblaaaGreatDoorTie.lean); close each card by the builder's one call (the guide's Derived/Test/ToyasCard.lean, 'card_holds'). Laid BY PROGRAM, IN A SANDBOX (cutbox-door.mjs). By AI agents, Wed Nov 11 2026. No macro, syntax, notation, axiom, sorry.
-/
import Derived.Test.YtdalfkklkeblaaaGreatDoorRows
import GoSem.ClaimSeven
namespace Go.Proofs.YtdalfkklkeblaaaGreatDoor
namespace Rows

/-- THE TIED CARD OF 'configlanglaw38.YamltextWrites'. -/
def yamltextWritesCard : Claim7 := { stood := { row := yamltextWritesRow, standIns := [], harness := (true, "b10ff77b1aedc1dc6598965f81629d45ca5cea19a4fac7991987f1852b9e52a3"), looks := true }, kinds := [], alts := [], laidByText := true, laidKinds := [.data, .data, .data, .data, .sentinel, .sentinel, .pinned, .pinned], laidTests := true, laidLooks := .later }
def YamltextWritesCardSaid : Prop := Claim7.holds Tryz.pinned (.plain (OpenSpec.ofChange yamltextWritesSpec)) yamltextWritesCard

/-- THE TIED CARD OF 'configlanglaw38.YamltextReads'. -/
def yamltextReadsCard : Claim7 := { stood := { row := yamltextReadsRow, standIns := [], harness := (true, "b10ff77b1aedc1dc6598965f81629d45ca5cea19a4fac7991987f1852b9e52a3"), looks := true }, kinds := [], alts := [], laidByText := true, laidKinds := [.data, .data, .data, .data, .sentinel, .sentinel, .pinned, .pinned], laidTests := true, laidLooks := .later }
def YamltextReadsCardSaid : Prop := Claim7.holds Tryz.pinned (.plain (OpenSpec.ofChange yamltextReadsSpec)) yamltextReadsCard

/-- THE TIED CARD OF 'configlanglaw38.YamltextBack'. -/
def yamltextBackCard : Claim7 := { stood := { row := yamltextBackRow, standIns := [], harness := (true, "b10ff77b1aedc1dc6598965f81629d45ca5cea19a4fac7991987f1852b9e52a3"), looks := true }, kinds := [], alts := [], laidByText := true, laidKinds := [.data, .data, .data, .data, .sentinel, .sentinel, .pinned, .pinned], laidTests := true, laidLooks := .later }
def YamltextBackCardSaid : Prop := Claim7.holds Tryz.pinned (.plain (OpenSpec.ofChange yamltextBackSpec)) yamltextBackCard

/-- THE TIED CARD OF 'configlanglaw38.YamltextLoose'. -/
def yamltextLooseCard : Claim7 := { stood := { row := yamltextLooseRow, standIns := [], harness := (true, "b10ff77b1aedc1dc6598965f81629d45ca5cea19a4fac7991987f1852b9e52a3"), looks := true }, kinds := [], alts := [], laidByText := true, laidKinds := [.data, .data, .data, .data, .sentinel, .sentinel, .pinned, .pinned], laidTests := true, laidLooks := .later }
def YamltextLooseCardSaid : Prop := Claim7.holds Tryz.pinned (.plain (OpenSpec.ofChange yamltextLooseSpec)) yamltextLooseCard

/-- THE TIED CARD OF 'configlanglaw38.YamltextOrder'. -/
def yamltextOrderCard : Claim7 := { stood := { row := yamltextOrderRow, standIns := [], harness := (true, "b10ff77b1aedc1dc6598965f81629d45ca5cea19a4fac7991987f1852b9e52a3"), looks := true }, kinds := [], alts := [], laidByText := true, laidKinds := [.data, .data, .data, .data, .sentinel, .sentinel, .pinned, .pinned], laidTests := true, laidLooks := .later }
def YamltextOrderCardSaid : Prop := Claim7.holds Tryz.pinned (.plain (OpenSpec.ofChange yamltextOrderSpec)) yamltextOrderCard

/-- THE TIED CARD OF 'configlanglaw38.YamltextTwice'. -/
def yamltextTwiceCard : Claim7 := { stood := { row := yamltextTwiceRow, standIns := [], harness := (true, "b10ff77b1aedc1dc6598965f81629d45ca5cea19a4fac7991987f1852b9e52a3"), looks := true }, kinds := [], alts := [], laidByText := true, laidKinds := [.data, .data, .data, .data, .sentinel, .sentinel, .pinned, .pinned], laidTests := true, laidLooks := .later }
def YamltextTwiceCardSaid : Prop := Claim7.holds Tryz.pinned (.plain (OpenSpec.ofChange yamltextTwiceSpec)) yamltextTwiceCard

/-- THE TIED CARD OF 'configlanglaw38.YamltextStrings'. -/
def yamltextStringsCard : Claim7 := { stood := { row := yamltextStringsRow, standIns := [], harness := (true, "b10ff77b1aedc1dc6598965f81629d45ca5cea19a4fac7991987f1852b9e52a3"), looks := true }, kinds := [], alts := [], laidByText := true, laidKinds := [.data, .data, .data, .data, .sentinel, .sentinel, .pinned, .pinned], laidTests := true, laidLooks := .later }
def YamltextStringsCardSaid : Prop := Claim7.holds Tryz.pinned (.plain (OpenSpec.ofChange yamltextStringsSpec)) yamltextStringsCard

/-- THE TIED CARD OF 'configlanglaw38.YamltextNested'. -/
def yamltextNestedCard : Claim7 := { stood := { row := yamltextNestedRow, standIns := [], harness := (true, "b10ff77b1aedc1dc6598965f81629d45ca5cea19a4fac7991987f1852b9e52a3"), looks := true }, kinds := [], alts := [], laidByText := true, laidKinds := [.data, .data, .data, .data, .sentinel, .sentinel, .pinned, .pinned], laidTests := true, laidLooks := .later }
def YamltextNestedCardSaid : Prop := Claim7.holds Tryz.pinned (.plain (OpenSpec.ofChange yamltextNestedSpec)) yamltextNestedCard

/-- THE TIED CARD OF 'configlanglaw38.YamltextCut'. -/
def yamltextCutCard : Claim7 := { stood := { row := yamltextCutRow, standIns := [], harness := (true, "b10ff77b1aedc1dc6598965f81629d45ca5cea19a4fac7991987f1852b9e52a3"), looks := true }, kinds := [], alts := [], laidByText := true, laidKinds := [.data, .data, .data, .data, .sentinel, .sentinel, .pinned, .pinned], laidTests := true, laidLooks := .later }
def YamltextCutCardSaid : Prop := Claim7.holds Tryz.pinned (.plain (OpenSpec.ofChange yamltextCutSpec)) yamltextCutCard

/-- THE SECOND FORM's CARD OF 'configlanglaw38.YamltextWrites'. -/
def yamltextWritesUptoCard : Claim7 := { stood := { row := yamltextWritesUptoRow, standIns := [], harness := (true, "b10ff77b1aedc1dc6598965f81629d45ca5cea19a4fac7991987f1852b9e52a3"), looks := true }, kinds := [], alts := [], laidByText := true, laidKinds := [.data, .data, .data, .data, .sentinel, .sentinel, .pinned, .pinned], laidTests := true, laidLooks := .later }
def YamltextWritesUptoCardSaid : Prop := Claim7.holds Tryz.pinned (.plain (OpenSpec.upto yamltextWritesSpec)) yamltextWritesUptoCard

/-- THE SECOND FORM's CARD OF 'configlanglaw38.YamltextReads'. -/
def yamltextReadsUptoCard : Claim7 := { stood := { row := yamltextReadsUptoRow, standIns := [], harness := (true, "b10ff77b1aedc1dc6598965f81629d45ca5cea19a4fac7991987f1852b9e52a3"), looks := true }, kinds := [], alts := [], laidByText := true, laidKinds := [.data, .data, .data, .data, .sentinel, .sentinel, .pinned, .pinned], laidTests := true, laidLooks := .later }
def YamltextReadsUptoCardSaid : Prop := Claim7.holds Tryz.pinned (.plain (OpenSpec.upto yamltextReadsSpec)) yamltextReadsUptoCard

/-- THE SECOND FORM's CARD OF 'configlanglaw38.YamltextBack'. -/
def yamltextBackUptoCard : Claim7 := { stood := { row := yamltextBackUptoRow, standIns := [], harness := (true, "b10ff77b1aedc1dc6598965f81629d45ca5cea19a4fac7991987f1852b9e52a3"), looks := true }, kinds := [], alts := [], laidByText := true, laidKinds := [.data, .data, .data, .data, .sentinel, .sentinel, .pinned, .pinned], laidTests := true, laidLooks := .later }
def YamltextBackUptoCardSaid : Prop := Claim7.holds Tryz.pinned (.plain (OpenSpec.upto yamltextBackSpec)) yamltextBackUptoCard

/-- THE SECOND FORM's CARD OF 'configlanglaw38.YamltextLoose'. -/
def yamltextLooseUptoCard : Claim7 := { stood := { row := yamltextLooseUptoRow, standIns := [], harness := (true, "b10ff77b1aedc1dc6598965f81629d45ca5cea19a4fac7991987f1852b9e52a3"), looks := true }, kinds := [], alts := [], laidByText := true, laidKinds := [.data, .data, .data, .data, .sentinel, .sentinel, .pinned, .pinned], laidTests := true, laidLooks := .later }
def YamltextLooseUptoCardSaid : Prop := Claim7.holds Tryz.pinned (.plain (OpenSpec.upto yamltextLooseSpec)) yamltextLooseUptoCard

/-- THE SECOND FORM's CARD OF 'configlanglaw38.YamltextOrder'. -/
def yamltextOrderUptoCard : Claim7 := { stood := { row := yamltextOrderUptoRow, standIns := [], harness := (true, "b10ff77b1aedc1dc6598965f81629d45ca5cea19a4fac7991987f1852b9e52a3"), looks := true }, kinds := [], alts := [], laidByText := true, laidKinds := [.data, .data, .data, .data, .sentinel, .sentinel, .pinned, .pinned], laidTests := true, laidLooks := .later }
def YamltextOrderUptoCardSaid : Prop := Claim7.holds Tryz.pinned (.plain (OpenSpec.upto yamltextOrderSpec)) yamltextOrderUptoCard

/-- THE SECOND FORM's CARD OF 'configlanglaw38.YamltextTwice'. -/
def yamltextTwiceUptoCard : Claim7 := { stood := { row := yamltextTwiceUptoRow, standIns := [], harness := (true, "b10ff77b1aedc1dc6598965f81629d45ca5cea19a4fac7991987f1852b9e52a3"), looks := true }, kinds := [], alts := [], laidByText := true, laidKinds := [.data, .data, .data, .data, .sentinel, .sentinel, .pinned, .pinned], laidTests := true, laidLooks := .later }
def YamltextTwiceUptoCardSaid : Prop := Claim7.holds Tryz.pinned (.plain (OpenSpec.upto yamltextTwiceSpec)) yamltextTwiceUptoCard

/-- THE SECOND FORM's CARD OF 'configlanglaw38.YamltextStrings'. -/
def yamltextStringsUptoCard : Claim7 := { stood := { row := yamltextStringsUptoRow, standIns := [], harness := (true, "b10ff77b1aedc1dc6598965f81629d45ca5cea19a4fac7991987f1852b9e52a3"), looks := true }, kinds := [], alts := [], laidByText := true, laidKinds := [.data, .data, .data, .data, .sentinel, .sentinel, .pinned, .pinned], laidTests := true, laidLooks := .later }
def YamltextStringsUptoCardSaid : Prop := Claim7.holds Tryz.pinned (.plain (OpenSpec.upto yamltextStringsSpec)) yamltextStringsUptoCard

/-- THE SECOND FORM's CARD OF 'configlanglaw38.YamltextNested'. -/
def yamltextNestedUptoCard : Claim7 := { stood := { row := yamltextNestedUptoRow, standIns := [], harness := (true, "b10ff77b1aedc1dc6598965f81629d45ca5cea19a4fac7991987f1852b9e52a3"), looks := true }, kinds := [], alts := [], laidByText := true, laidKinds := [.data, .data, .data, .data, .sentinel, .sentinel, .pinned, .pinned], laidTests := true, laidLooks := .later }
def YamltextNestedUptoCardSaid : Prop := Claim7.holds Tryz.pinned (.plain (OpenSpec.upto yamltextNestedSpec)) yamltextNestedUptoCard

/-- THE SECOND FORM's CARD OF 'configlanglaw38.YamltextCut'. -/
def yamltextCutUptoCard : Claim7 := { stood := { row := yamltextCutUptoRow, standIns := [], harness := (true, "b10ff77b1aedc1dc6598965f81629d45ca5cea19a4fac7991987f1852b9e52a3"), looks := true }, kinds := [], alts := [], laidByText := true, laidKinds := [.data, .data, .data, .data, .sentinel, .sentinel, .pinned, .pinned], laidTests := true, laidLooks := .later }
def YamltextCutUptoCardSaid : Prop := Claim7.holds Tryz.pinned (.plain (OpenSpec.upto yamltextCutSpec)) yamltextCutUptoCard
end Rows
end Go.Proofs.YtdalfkklkeblaaaGreatDoor
