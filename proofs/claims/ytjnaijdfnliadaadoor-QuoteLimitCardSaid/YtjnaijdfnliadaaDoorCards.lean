/-
  DERIVED. GIVEN WITH THE SEED: THE CARDS: each row of YtjnaijdfnliadaaDoorRows.lean that lists a variable, with what it lists TIED to the program's text (the seventh form; the later family's looks); each row that meets fmt, with fmt's text TOLD by the authors' own Lean function (tested against real Go, not proved from fmt's source: count such statements apart). THE CARD IS WHAT COUNTS. Prove the row's statement (the work); the ties are given (YtjnaijdfnliadaaDoorTie.lean); close each card by the builder's one call (the guide's Derived/Test/ToyasCard.lean, 'card_holds'). Laid BY PROGRAM, IN A SANDBOX (cutbox-door.mjs). By AI agents, Wed Nov 11 2026. No macro, syntax, notation, axiom, sorry.
-/
import Derived.Test.YtjnaijdfnliadaaDoorRows
import GoSem.ClaimSeven
namespace Go.Proofs.YtjnaijdfnliadaaDoor
namespace Rows

/-- THE TIED CARD OF 'configlanglaw02.QuoteWrites'. -/
def quoteWritesCard : Claim7 := { stood := { row := quoteWritesRow, standIns := [], harness := (true, "ab5ee61fcac55b5add801c797ed5c0851fbce749f9dce088c2bbb433879b7b1f"), looks := true }, kinds := [], alts := [], laidByText := true, laidKinds := [.data, .data, .data, .sentinel, .sentinel], laidTests := true, laidLooks := .later }
def QuoteWritesCardSaid : Prop := Claim7.holds Tryd.pinned (.plain (OpenSpec.ofChange quoteWritesSpec)) quoteWritesCard

/-- THE TIED CARD OF 'configlanglaw02.QuoteReads'. -/
def quoteReadsCard : Claim7 := { stood := { row := quoteReadsRow, standIns := [], harness := (true, "ab5ee61fcac55b5add801c797ed5c0851fbce749f9dce088c2bbb433879b7b1f"), looks := true }, kinds := [], alts := [], laidByText := true, laidKinds := [.data, .data, .data, .sentinel, .sentinel], laidTests := true, laidLooks := .later }
def QuoteReadsCardSaid : Prop := Claim7.holds Tryd.pinned (.plain (OpenSpec.ofChange quoteReadsSpec)) quoteReadsCard

/-- THE TIED CARD OF 'configlanglaw02.QuoteLimit'. -/
def quoteLimitCard : Claim7 := { stood := { row := quoteLimitRow, standIns := [], harness := (true, "ab5ee61fcac55b5add801c797ed5c0851fbce749f9dce088c2bbb433879b7b1f"), looks := true }, kinds := [], alts := [], laidByText := true, laidKinds := [.data, .data, .data, .sentinel, .sentinel], laidTests := true, laidLooks := .later }
def QuoteLimitCardSaid : Prop := Claim7.holds Tryd.pinned (.plain (OpenSpec.ofChange quoteLimitSpec)) quoteLimitCard

/-- THE TIED CARD OF 'configlanglaw02.QuoteBack'. -/
def quoteBackCard : Claim7 := { stood := { row := quoteBackRow, standIns := [], harness := (true, "ab5ee61fcac55b5add801c797ed5c0851fbce749f9dce088c2bbb433879b7b1f"), looks := true }, kinds := [], alts := [], laidByText := true, laidKinds := [.data, .data, .data, .sentinel, .sentinel], laidTests := true, laidLooks := .later }
def QuoteBackCardSaid : Prop := Claim7.holds Tryd.pinned (.plain (OpenSpec.ofChange quoteBackSpec)) quoteBackCard

/-- THE TIED CARD OF 'configlanglaw02.QuoteNames'. -/
def quoteNamesCard : Claim7 := { stood := { row := quoteNamesRow, standIns := [], harness := (true, "ab5ee61fcac55b5add801c797ed5c0851fbce749f9dce088c2bbb433879b7b1f"), looks := true }, kinds := [], alts := [], laidByText := true, laidKinds := [.data, .data, .data, .sentinel, .sentinel], laidTests := true, laidLooks := .later }
def QuoteNamesCardSaid : Prop := Claim7.holds Tryd.pinned (.plain (OpenSpec.ofChange quoteNamesSpec)) quoteNamesCard

/-- THE TIED CARD OF 'configlanglaw02.QuoteLabels'. -/
def quoteLabelsCard : Claim7 := { stood := { row := quoteLabelsRow, standIns := [], harness := (true, "ab5ee61fcac55b5add801c797ed5c0851fbce749f9dce088c2bbb433879b7b1f"), looks := true }, kinds := [], alts := [], laidByText := true, laidKinds := [.data, .data, .data, .sentinel, .sentinel], laidTests := true, laidLooks := .later }
def QuoteLabelsCardSaid : Prop := Claim7.holds Tryd.pinned (.plain (OpenSpec.ofChange quoteLabelsSpec)) quoteLabelsCard

/-- THE TIED CARD OF 'configlanglaw02.QuoteApart'. -/
def quoteApartCard : Claim7 := { stood := { row := quoteApartRow, standIns := [], harness := (true, "ab5ee61fcac55b5add801c797ed5c0851fbce749f9dce088c2bbb433879b7b1f"), looks := true }, kinds := [], alts := [], laidByText := true, laidKinds := [.data, .data, .data, .sentinel, .sentinel], laidTests := true, laidLooks := .later }
def QuoteApartCardSaid : Prop := Claim7.holds Tryd.pinned (.plain (OpenSpec.ofChange quoteApartSpec)) quoteApartCard

/-- THE TIED CARD OF 'configlanglaw02.QuoteJoins'. -/
def quoteJoinsCard : Claim7 := { stood := { row := quoteJoinsRow, standIns := [], harness := (true, "ab5ee61fcac55b5add801c797ed5c0851fbce749f9dce088c2bbb433879b7b1f"), looks := true }, kinds := [], alts := [], laidByText := true, laidKinds := [.data, .data, .data, .sentinel, .sentinel], laidTests := true, laidLooks := .later }
def QuoteJoinsCardSaid : Prop := Claim7.holds Tryd.pinned (.plain (OpenSpec.ofChange quoteJoinsSpec)) quoteJoinsCard

/-- THE TIED CARD OF 'configlanglaw02.QuoteCut'. -/
def quoteCutCard : Claim7 := { stood := { row := quoteCutRow, standIns := [], harness := (true, "ab5ee61fcac55b5add801c797ed5c0851fbce749f9dce088c2bbb433879b7b1f"), looks := true }, kinds := [], alts := [], laidByText := true, laidKinds := [.data, .data, .data, .sentinel, .sentinel], laidTests := true, laidLooks := .later }
def QuoteCutCardSaid : Prop := Claim7.holds Tryd.pinned (.plain (OpenSpec.ofChange quoteCutSpec)) quoteCutCard

/-- THE SECOND FORM's CARD OF 'configlanglaw02.QuoteWrites'. -/
def quoteWritesUptoCard : Claim7 := { stood := { row := quoteWritesUptoRow, standIns := [], harness := (true, "ab5ee61fcac55b5add801c797ed5c0851fbce749f9dce088c2bbb433879b7b1f"), looks := true }, kinds := [], alts := [], laidByText := true, laidKinds := [.data, .data, .data, .sentinel, .sentinel], laidTests := true, laidLooks := .later }
def QuoteWritesUptoCardSaid : Prop := Claim7.holds Tryd.pinned (.plain (OpenSpec.upto quoteWritesSpec)) quoteWritesUptoCard

/-- THE SECOND FORM's CARD OF 'configlanglaw02.QuoteReads'. -/
def quoteReadsUptoCard : Claim7 := { stood := { row := quoteReadsUptoRow, standIns := [], harness := (true, "ab5ee61fcac55b5add801c797ed5c0851fbce749f9dce088c2bbb433879b7b1f"), looks := true }, kinds := [], alts := [], laidByText := true, laidKinds := [.data, .data, .data, .sentinel, .sentinel], laidTests := true, laidLooks := .later }
def QuoteReadsUptoCardSaid : Prop := Claim7.holds Tryd.pinned (.plain (OpenSpec.upto quoteReadsSpec)) quoteReadsUptoCard

/-- THE SECOND FORM's CARD OF 'configlanglaw02.QuoteLimit'. -/
def quoteLimitUptoCard : Claim7 := { stood := { row := quoteLimitUptoRow, standIns := [], harness := (true, "ab5ee61fcac55b5add801c797ed5c0851fbce749f9dce088c2bbb433879b7b1f"), looks := true }, kinds := [], alts := [], laidByText := true, laidKinds := [.data, .data, .data, .sentinel, .sentinel], laidTests := true, laidLooks := .later }
def QuoteLimitUptoCardSaid : Prop := Claim7.holds Tryd.pinned (.plain (OpenSpec.upto quoteLimitSpec)) quoteLimitUptoCard

/-- THE SECOND FORM's CARD OF 'configlanglaw02.QuoteBack'. -/
def quoteBackUptoCard : Claim7 := { stood := { row := quoteBackUptoRow, standIns := [], harness := (true, "ab5ee61fcac55b5add801c797ed5c0851fbce749f9dce088c2bbb433879b7b1f"), looks := true }, kinds := [], alts := [], laidByText := true, laidKinds := [.data, .data, .data, .sentinel, .sentinel], laidTests := true, laidLooks := .later }
def QuoteBackUptoCardSaid : Prop := Claim7.holds Tryd.pinned (.plain (OpenSpec.upto quoteBackSpec)) quoteBackUptoCard

/-- THE SECOND FORM's CARD OF 'configlanglaw02.QuoteNames'. -/
def quoteNamesUptoCard : Claim7 := { stood := { row := quoteNamesUptoRow, standIns := [], harness := (true, "ab5ee61fcac55b5add801c797ed5c0851fbce749f9dce088c2bbb433879b7b1f"), looks := true }, kinds := [], alts := [], laidByText := true, laidKinds := [.data, .data, .data, .sentinel, .sentinel], laidTests := true, laidLooks := .later }
def QuoteNamesUptoCardSaid : Prop := Claim7.holds Tryd.pinned (.plain (OpenSpec.upto quoteNamesSpec)) quoteNamesUptoCard

/-- THE SECOND FORM's CARD OF 'configlanglaw02.QuoteLabels'. -/
def quoteLabelsUptoCard : Claim7 := { stood := { row := quoteLabelsUptoRow, standIns := [], harness := (true, "ab5ee61fcac55b5add801c797ed5c0851fbce749f9dce088c2bbb433879b7b1f"), looks := true }, kinds := [], alts := [], laidByText := true, laidKinds := [.data, .data, .data, .sentinel, .sentinel], laidTests := true, laidLooks := .later }
def QuoteLabelsUptoCardSaid : Prop := Claim7.holds Tryd.pinned (.plain (OpenSpec.upto quoteLabelsSpec)) quoteLabelsUptoCard

/-- THE SECOND FORM's CARD OF 'configlanglaw02.QuoteApart'. -/
def quoteApartUptoCard : Claim7 := { stood := { row := quoteApartUptoRow, standIns := [], harness := (true, "ab5ee61fcac55b5add801c797ed5c0851fbce749f9dce088c2bbb433879b7b1f"), looks := true }, kinds := [], alts := [], laidByText := true, laidKinds := [.data, .data, .data, .sentinel, .sentinel], laidTests := true, laidLooks := .later }
def QuoteApartUptoCardSaid : Prop := Claim7.holds Tryd.pinned (.plain (OpenSpec.upto quoteApartSpec)) quoteApartUptoCard

/-- THE SECOND FORM's CARD OF 'configlanglaw02.QuoteJoins'. -/
def quoteJoinsUptoCard : Claim7 := { stood := { row := quoteJoinsUptoRow, standIns := [], harness := (true, "ab5ee61fcac55b5add801c797ed5c0851fbce749f9dce088c2bbb433879b7b1f"), looks := true }, kinds := [], alts := [], laidByText := true, laidKinds := [.data, .data, .data, .sentinel, .sentinel], laidTests := true, laidLooks := .later }
def QuoteJoinsUptoCardSaid : Prop := Claim7.holds Tryd.pinned (.plain (OpenSpec.upto quoteJoinsSpec)) quoteJoinsUptoCard

/-- THE SECOND FORM's CARD OF 'configlanglaw02.QuoteCut'. -/
def quoteCutUptoCard : Claim7 := { stood := { row := quoteCutUptoRow, standIns := [], harness := (true, "ab5ee61fcac55b5add801c797ed5c0851fbce749f9dce088c2bbb433879b7b1f"), looks := true }, kinds := [], alts := [], laidByText := true, laidKinds := [.data, .data, .data, .sentinel, .sentinel], laidTests := true, laidLooks := .later }
def QuoteCutUptoCardSaid : Prop := Claim7.holds Tryd.pinned (.plain (OpenSpec.upto quoteCutSpec)) quoteCutUptoCard
end Rows
end Go.Proofs.YtjnaijdfnliadaaDoor
