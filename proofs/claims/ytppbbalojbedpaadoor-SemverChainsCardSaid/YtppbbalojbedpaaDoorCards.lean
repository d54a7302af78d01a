/-
  DERIVED. GIVEN WITH THE SEED: THE CARDS: each row of YtppbbalojbedpaaDoorRows.lean that lists a variable, with what it lists TIED to the program's text (the seventh form; the later family's looks); each row that meets fmt, with fmt's text TOLD by the authors' own Lean function (tested against real Go, not proved from fmt's source: count such statements apart). THE CARD IS WHAT COUNTS. Prove the row's statement (the work); the ties are given (YtppbbalojbedpaaDoorTie.lean); close each card by the builder's one call (the guide's Derived/Test/ToyasCard.lean, 'card_holds'). Laid BY PROGRAM, IN A SANDBOX (cutbox-door.mjs). By AI agents, Wed Nov 11 2026. No macro, syntax, notation, axiom, sorry.
-/
import Derived.Test.YtppbbalojbedpaaDoorRows
import GoSem.ClaimSeven
namespace Go.Proofs.YtppbbalojbedpaaDoor
namespace Rows

/-- THE TIED CARD OF 'configlanglaw43.SemverTexts'. -/
def semverTextsCard : Claim7 := { stood := { row := semverTextsRow, standIns := [], harness := (true, "35ed21d9937fd952369fa32a141d87068a4d00fa3db6a935312af03277bfa4f8"), looks := true }, kinds := [], alts := [], laidByText := true, laidKinds := [.data, .data, .data, .data, .sentinel, .sentinel, .pinned], laidTests := true, laidLooks := .later }
def SemverTextsCardSaid : Prop := Claim7.holds Tryd.pinned (.plain (OpenSpec.ofChange semverTextsSpec)) semverTextsCard

/-- THE TIED CARD OF 'configlanglaw43.SemverParses'. -/
def semverParsesCard : Claim7 := { stood := { row := semverParsesRow, standIns := [], harness := (true, "35ed21d9937fd952369fa32a141d87068a4d00fa3db6a935312af03277bfa4f8"), looks := true }, kinds := [], alts := [], laidByText := true, laidKinds := [.data, .data, .data, .data, .sentinel, .sentinel, .pinned], laidTests := true, laidLooks := .later }
def SemverParsesCardSaid : Prop := Claim7.holds Tryd.pinned (.plain (OpenSpec.ofChange semverParsesSpec)) semverParsesCard

/-- THE TIED CARD OF 'configlanglaw43.SemverChanges'. -/
def semverChangesCard : Claim7 := { stood := { row := semverChangesRow, standIns := [], harness := (true, "35ed21d9937fd952369fa32a141d87068a4d00fa3db6a935312af03277bfa4f8"), looks := true }, kinds := [], alts := [], laidByText := true, laidKinds := [.data, .data, .data, .data, .sentinel, .sentinel, .pinned], laidTests := true, laidLooks := .later }
def SemverChangesCardSaid : Prop := Claim7.holds Tryd.pinned (.plain (OpenSpec.ofChange semverChangesSpec)) semverChangesCard

/-- THE TIED CARD OF 'configlanglaw43.SemverRoundTrip'. -/
def semverRoundTripCard : Claim7 := { stood := { row := semverRoundTripRow, standIns := [], harness := (true, "35ed21d9937fd952369fa32a141d87068a4d00fa3db6a935312af03277bfa4f8"), looks := true }, kinds := [], alts := [], laidByText := true, laidKinds := [.data, .data, .data, .data, .sentinel, .sentinel, .pinned], laidTests := true, laidLooks := .later }
def SemverRoundTripCardSaid : Prop := Claim7.holds Tryd.pinned (.plain (OpenSpec.ofChange semverRoundTripSpec)) semverRoundTripCard

/-- THE TIED CARD OF 'configlanglaw43.SemverOrder'. -/
def semverOrderCard : Claim7 := { stood := { row := semverOrderRow, standIns := [], harness := (true, "35ed21d9937fd952369fa32a141d87068a4d00fa3db6a935312af03277bfa4f8"), looks := true }, kinds := [], alts := [], laidByText := true, laidKinds := [.data, .data, .data, .data, .sentinel, .sentinel, .pinned], laidTests := true, laidLooks := .later }
def SemverOrderCardSaid : Prop := Claim7.holds Tryd.pinned (.plain (OpenSpec.ofChange semverOrderSpec)) semverOrderCard

/-- THE TIED CARD OF 'configlanglaw43.SemverCompares'. -/
def semverComparesCard : Claim7 := { stood := { row := semverComparesRow, standIns := [], harness := (true, "35ed21d9937fd952369fa32a141d87068a4d00fa3db6a935312af03277bfa4f8"), looks := true }, kinds := [], alts := [], laidByText := true, laidKinds := [.data, .data, .data, .data, .sentinel, .sentinel, .pinned], laidTests := true, laidLooks := .later }
def SemverComparesCardSaid : Prop := Claim7.holds Tryd.pinned (.plain (OpenSpec.ofChange semverComparesSpec)) semverComparesCard

/-- THE TIED CARD OF 'configlanglaw43.SemverNexts'. -/
def semverNextsCard : Claim7 := { stood := { row := semverNextsRow, standIns := [], harness := (true, "35ed21d9937fd952369fa32a141d87068a4d00fa3db6a935312af03277bfa4f8"), looks := true }, kinds := [], alts := [], laidByText := true, laidKinds := [.data, .data, .data, .data, .sentinel, .sentinel, .pinned], laidTests := true, laidLooks := .later }
def SemverNextsCardSaid : Prop := Claim7.holds Tryd.pinned (.plain (OpenSpec.ofChange semverNextsSpec)) semverNextsCard

/-- THE TIED CARD OF 'configlanglaw43.SemverChains'. -/
def semverChainsCard : Claim7 := { stood := { row := semverChainsRow, standIns := [], harness := (true, "35ed21d9937fd952369fa32a141d87068a4d00fa3db6a935312af03277bfa4f8"), looks := true }, kinds := [], alts := [], laidByText := true, laidKinds := [.data, .data, .data, .data, .sentinel, .sentinel, .pinned], laidTests := true, laidLooks := .later }
def SemverChainsCardSaid : Prop := Claim7.holds Tryd.pinned (.plain (OpenSpec.ofChange semverChainsSpec)) semverChainsCard

/-- THE SECOND FORM's CARD OF 'configlanglaw43.SemverTexts'. -/
def semverTextsUptoCard : Claim7 := { stood := { row := semverTextsUptoRow, standIns := [], harness := (true, "35ed21d9937fd952369fa32a141d87068a4d00fa3db6a935312af03277bfa4f8"), looks := true }, kinds := [], alts := [], laidByText := true, laidKinds := [.data, .data, .data, .data, .sentinel, .sentinel, .pinned], laidTests := true, laidLooks := .later }
def SemverTextsUptoCardSaid : Prop := Claim7.holds Tryd.pinned (.plain (OpenSpec.upto semverTextsSpec)) semverTextsUptoCard

/-- THE SECOND FORM's CARD OF 'configlanglaw43.SemverParses'. -/
def semverParsesUptoCard : Claim7 := { stood := { row := semverParsesUptoRow, standIns := [], harness := (true, "35ed21d9937fd952369fa32a141d87068a4d00fa3db6a935312af03277bfa4f8"), looks := true }, kinds := [], alts := [], laidByText := true, laidKinds := [.data, .data, .data, .data, .sentinel, .sentinel, .pinned], laidTests := true, laidLooks := .later }
def SemverParsesUptoCardSaid : Prop := Claim7.holds Tryd.pinned (.plain (OpenSpec.upto semverParsesSpec)) semverParsesUptoCard

/-- THE SECOND FORM's CARD OF 'configlanglaw43.SemverChanges'. -/
def semverChangesUptoCard : Claim7 := { stood := { row := semverChangesUptoRow, standIns := [], harness := (true, "35ed21d9937fd952369fa32a141d87068a4d00fa3db6a935312af03277bfa4f8"), looks := true }, kinds := [], alts := [], laidByText := true, laidKinds := [.data, .data, .data, .data, .sentinel, .sentinel, .pinned], laidTests := true, laidLooks := .later }
def SemverChangesUptoCardSaid : Prop := Claim7.holds Tryd.pinned (.plain (OpenSpec.upto semverChangesSpec)) semverChangesUptoCard

/-- THE SECOND FORM's CARD OF 'configlanglaw43.SemverRoundTrip'. -/
def semverRoundTripUptoCard : Claim7 := { stood := { row := semverRoundTripUptoRow, standIns := [], harness := (true, "35ed21d9937fd952369fa32a141d87068a4d00fa3db6a935312af03277bfa4f8"), looks := true }, kinds := [], alts := [], laidByText := true, laidKinds := [.data, .data, .data, .data, .sentinel, .sentinel, .pinned], laidTests := true, laidLooks := .later }
def SemverRoundTripUptoCardSaid : Prop := Claim7.holds Tryd.pinned (.plain (OpenSpec.upto semverRoundTripSpec)) semverRoundTripUptoCard

/-- THE SECOND FORM's CARD OF 'configlanglaw43.SemverOrder'. -/
def semverOrderUptoCard : Claim7 := { stood := { row := semverOrderUptoRow, standIns := [], harness := (true, "35ed21d9937fd952369fa32a141d87068a4d00fa3db6a935312af03277bfa4f8"), looks := true }, kinds := [], alts := [], laidByText := true, laidKinds := [.data, .data, .data, .data, .sentinel, .sentinel, .pinned], laidTests := true, laidLooks := .later }
def SemverOrderUptoCardSaid : Prop := Claim7.holds Tryd.pinned (.plain (OpenSpec.upto semverOrderSpec)) semverOrderUptoCard

/-- THE SECOND FORM's CARD OF 'configlanglaw43.SemverCompares'. -/
def semverComparesUptoCard : Claim7 := { stood := { row := semverComparesUptoRow, standIns := [], harness := (true, "35ed21d9937fd952369fa32a141d87068a4d00fa3db6a935312af03277bfa4f8"), looks := true }, kinds := [], alts := [], laidByText := true, laidKinds := [.data, .data, .data, .data, .sentinel, .sentinel, .pinned], laidTests := true, laidLooks := .later }
def SemverComparesUptoCardSaid : Prop := Claim7.holds Tryd.pinned (.plain (OpenSpec.upto semverComparesSpec)) semverComparesUptoCard

/-- THE SECOND FORM's CARD OF 'configlanglaw43.SemverNexts'. -/
def semverNextsUptoCard : Claim7 := { stood := { row := semverNextsUptoRow, standIns := [], harness := (true, "35ed21d9937fd952369fa32a141d87068a4d00fa3db6a935312af03277bfa4f8"), looks := true }, kinds := [], alts := [], laidByText := true, laidKinds := [.data, .data, .data, .data, .sentinel, .sentinel, .pinned], laidTests := true, laidLooks := .later }
def SemverNextsUptoCardSaid : Prop := Claim7.holds Tryd.pinned (.plain (OpenSpec.upto semverNextsSpec)) semverNextsUptoCard

/-- THE SECOND FORM's CARD OF 'configlanglaw43.SemverChains'. -/
def semverChainsUptoCard : Claim7 := { stood := { row := semverChainsUptoRow, standIns := [], harness := (true, "35ed21d9937fd952369fa32a141d87068a4d00fa3db6a935312af03277bfa4f8"), looks := true }, kinds := [], alts := [], laidByText := true, laidKinds := [.data, .data, .data, .data, .sentinel, .sentinel, .pinned], laidTests := true, laidLooks := .later }
def SemverChainsUptoCardSaid : Prop := Claim7.holds Tryd.pinned (.plain (OpenSpec.upto semverChainsSpec)) semverChainsUptoCard
end Rows
end Go.Proofs.YtppbbalojbedpaaDoor
