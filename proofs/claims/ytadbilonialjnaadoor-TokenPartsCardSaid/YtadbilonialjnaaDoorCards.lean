/-
  DERIVED. GIVEN WITH THE SEED: THE CARDS: each row of YtadbilonialjnaaDoorRows.lean that lists a variable, with what it lists TIED to the program's text (the seventh form; the later family's looks); each row that meets fmt, with fmt's text TOLD by the authors' own Lean function (tested against real Go, not proved from fmt's source: count such statements apart). THE CARD IS WHAT COUNTS. Prove the row's statement (the work); the ties are given (YtadbilonialjnaaDoorTie.lean); close each card by the builder's one call (the guide's Derived/Test/ToyasCard.lean, 'card_holds'). Laid BY PROGRAM, IN A SANDBOX (cutbox-door.mjs). By AI agents, Wed Nov 11 2026. No macro, syntax, notation, axiom, sorry.
-/
import Derived.Test.YtadbilonialjnaaDoorRows
import GoSem.ClaimSeven
namespace Go.Proofs.YtadbilonialjnaaDoor
namespace Rows

/-- THE TIED CARD OF 'configlanglaw24.TokenParts'. -/
def tokenPartsCard : Claim7 := { stood := { row := tokenPartsRow, standIns := [], harness := (true, "0f1406a28dfce828eb2054201f9144391e983c32d313d5cbc894cb28075bbe1d"), looks := true }, kinds := [], alts := [], laidByText := true, laidKinds := [.data, .data, .data, .data, .sentinel, .sentinel, .pinned], laidTests := true, laidLooks := .later }
def TokenPartsCardSaid : Prop := Claim7.holds Tryd.pinned (.plain (OpenSpec.ofChange tokenPartsSpec)) tokenPartsCard

/-- THE TIED CARD OF 'configlanglaw24.TokenGaps'. -/
def tokenGapsCard : Claim7 := { stood := { row := tokenGapsRow, standIns := [], harness := (true, "0f1406a28dfce828eb2054201f9144391e983c32d313d5cbc894cb28075bbe1d"), looks := true }, kinds := [], alts := [], laidByText := true, laidKinds := [.data, .data, .data, .data, .sentinel, .sentinel, .pinned], laidTests := true, laidLooks := .later }
def TokenGapsCardSaid : Prop := Claim7.holds Tryd.pinned (.plain (OpenSpec.ofChange tokenGapsSpec)) tokenGapsCard

/-- THE TIED CARD OF 'configlanglaw24.TokenJoins'. -/
def tokenJoinsCard : Claim7 := { stood := { row := tokenJoinsRow, standIns := [], harness := (true, "0f1406a28dfce828eb2054201f9144391e983c32d313d5cbc894cb28075bbe1d"), looks := true }, kinds := [], alts := [], laidByText := true, laidKinds := [.data, .data, .data, .data, .sentinel, .sentinel, .pinned], laidTests := true, laidLooks := .later }
def TokenJoinsCardSaid : Prop := Claim7.holds Tryd.pinned (.plain (OpenSpec.ofChange tokenJoinsSpec)) tokenJoinsCard

/-- THE TIED CARD OF 'configlanglaw24.TokenSpaces'. -/
def tokenSpacesCard : Claim7 := { stood := { row := tokenSpacesRow, standIns := [], harness := (true, "0f1406a28dfce828eb2054201f9144391e983c32d313d5cbc894cb28075bbe1d"), looks := true }, kinds := [], alts := [], laidByText := true, laidKinds := [.data, .data, .data, .data, .sentinel, .sentinel, .pinned], laidTests := true, laidLooks := .later }
def TokenSpacesCardSaid : Prop := Claim7.holds Tryd.pinned (.plain (OpenSpec.ofChange tokenSpacesSpec)) tokenSpacesCard

/-- THE TIED CARD OF 'configlanglaw24.TokenSizes'. -/
def tokenSizesCard : Claim7 := { stood := { row := tokenSizesRow, standIns := [], harness := (true, "0f1406a28dfce828eb2054201f9144391e983c32d313d5cbc894cb28075bbe1d"), looks := true }, kinds := [], alts := [], laidByText := true, laidKinds := [.data, .data, .data, .data, .sentinel, .sentinel, .pinned], laidTests := true, laidLooks := .later }
def TokenSizesCardSaid : Prop := Claim7.holds Tryd.pinned (.plain (OpenSpec.ofChange tokenSizesSpec)) tokenSizesCard

/-- THE TIED CARD OF 'configlanglaw24.TokenPositions'. -/
def tokenPositionsCard : Claim7 := { stood := { row := tokenPositionsRow, standIns := [], harness := (true, "0f1406a28dfce828eb2054201f9144391e983c32d313d5cbc894cb28075bbe1d"), looks := true }, kinds := [], alts := [], laidByText := true, laidKinds := [.data, .data, .data, .data, .sentinel, .sentinel, .pinned], laidTests := true, laidLooks := .later }
def TokenPositionsCardSaid : Prop := Claim7.holds Tryd.pinned (.plain (OpenSpec.ofChange tokenPositionsSpec)) tokenPositionsCard

/-- THE TIED CARD OF 'configlanglaw24.TokenLines'. -/
def tokenLinesCard : Claim7 := { stood := { row := tokenLinesRow, standIns := [], harness := (true, "0f1406a28dfce828eb2054201f9144391e983c32d313d5cbc894cb28075bbe1d"), looks := true }, kinds := [], alts := [], laidByText := true, laidKinds := [.data, .data, .data, .data, .sentinel, .sentinel, .pinned], laidTests := true, laidLooks := .later }
def TokenLinesCardSaid : Prop := Claim7.holds Tryd.pinned (.plain (OpenSpec.ofChange tokenLinesSpec)) tokenLinesCard

/-- THE SECOND FORM's CARD OF 'configlanglaw24.TokenParts'. -/
def tokenPartsUptoCard : Claim7 := { stood := { row := tokenPartsUptoRow, standIns := [], harness := (true, "0f1406a28dfce828eb2054201f9144391e983c32d313d5cbc894cb28075bbe1d"), looks := true }, kinds := [], alts := [], laidByText := true, laidKinds := [.data, .data, .data, .data, .sentinel, .sentinel, .pinned], laidTests := true, laidLooks := .later }
def TokenPartsUptoCardSaid : Prop := Claim7.holds Tryd.pinned (.plain (OpenSpec.upto tokenPartsSpec)) tokenPartsUptoCard

/-- THE SECOND FORM's CARD OF 'configlanglaw24.TokenGaps'. -/
def tokenGapsUptoCard : Claim7 := { stood := { row := tokenGapsUptoRow, standIns := [], harness := (true, "0f1406a28dfce828eb2054201f9144391e983c32d313d5cbc894cb28075bbe1d"), looks := true }, kinds := [], alts := [], laidByText := true, laidKinds := [.data, .data, .data, .data, .sentinel, .sentinel, .pinned], laidTests := true, laidLooks := .later }
def TokenGapsUptoCardSaid : Prop := Claim7.holds Tryd.pinned (.plain (OpenSpec.upto tokenGapsSpec)) tokenGapsUptoCard

/-- THE SECOND FORM's CARD OF 'configlanglaw24.TokenJoins'. -/
def tokenJoinsUptoCard : Claim7 := { stood := { row := tokenJoinsUptoRow, standIns := [], harness := (true, "0f1406a28dfce828eb2054201f9144391e983c32d313d5cbc894cb28075bbe1d"), looks := true }, kinds := [], alts := [], laidByText := true, laidKinds := [.data, .data, .data, .data, .sentinel, .sentinel, .pinned], laidTests := true, laidLooks := .later }
def TokenJoinsUptoCardSaid : Prop := Claim7.holds Tryd.pinned (.plain (OpenSpec.upto tokenJoinsSpec)) tokenJoinsUptoCard

/-- THE SECOND FORM's CARD OF 'configlanglaw24.TokenSpaces'. -/
def tokenSpacesUptoCard : Claim7 := { stood := { row := tokenSpacesUptoRow, standIns := [], harness := (true, "0f1406a28dfce828eb2054201f9144391e983c32d313d5cbc894cb28075bbe1d"), looks := true }, kinds := [], alts := [], laidByText := true, laidKinds := [.data, .data, .data, .data, .sentinel, .sentinel, .pinned], laidTests := true, laidLooks := .later }
def TokenSpacesUptoCardSaid : Prop := Claim7.holds Tryd.pinned (.plain (OpenSpec.upto tokenSpacesSpec)) tokenSpacesUptoCard

/-- THE SECOND FORM's CARD OF 'configlanglaw24.TokenSizes'. -/
def tokenSizesUptoCard : Claim7 := { stood := { row := tokenSizesUptoRow, standIns := [], harness := (true, "0f1406a28dfce828eb2054201f9144391e983c32d313d5cbc894cb28075bbe1d"), looks := true }, kinds := [], alts := [], laidByText := true, laidKinds := [.data, .data, .data, .data, .sentinel, .sentinel, .pinned], laidTests := true, laidLooks := .later }
def TokenSizesUptoCardSaid : Prop := Claim7.holds Tryd.pinned (.plain (OpenSpec.upto tokenSizesSpec)) tokenSizesUptoCard

/-- THE SECOND FORM's CARD OF 'configlanglaw24.TokenPositions'. -/
def tokenPositionsUptoCard : Claim7 := { stood := { row := tokenPositionsUptoRow, standIns := [], harness := (true, "0f1406a28dfce828eb2054201f9144391e983c32d313d5cbc894cb28075bbe1d"), looks := true }, kinds := [], alts := [], laidByText := true, laidKinds := [.data, .data, .data, .data, .sentinel, .sentinel, .pinned], laidTests := true, laidLooks := .later }
def TokenPositionsUptoCardSaid : Prop := Claim7.holds Tryd.pinned (.plain (OpenSpec.upto tokenPositionsSpec)) tokenPositionsUptoCard

/-- THE SECOND FORM's CARD OF 'configlanglaw24.TokenLines'. -/
def tokenLinesUptoCard : Claim7 := { stood := { row := tokenLinesUptoRow, standIns := [], harness := (true, "0f1406a28dfce828eb2054201f9144391e983c32d313d5cbc894cb28075bbe1d"), looks := true }, kinds := [], alts := [], laidByText := true, laidKinds := [.data, .data, .data, .data, .sentinel, .sentinel, .pinned], laidTests := true, laidLooks := .later }
def TokenLinesUptoCardSaid : Prop := Claim7.holds Tryd.pinned (.plain (OpenSpec.upto tokenLinesSpec)) tokenLinesUptoCard
end Rows
end Go.Proofs.YtadbilonialjnaaDoor
