/-
  DERIVED. GIVEN WITH THE SEED: THE CARDS: each row of YtpekkdgaeadepaaDoorRows.lean that lists a variable, with what it lists TIED to the program's text (the seventh form; the later family's looks); each row that meets fmt, with fmt's text TOLD by the authors' own Lean function (tested against real Go, not proved from fmt's source: count such statements apart). THE CARD IS WHAT COUNTS. Prove the row's statement (the work); the ties are given (YtpekkdgaeadepaaDoorTie.lean); close each card by the builder's one call (the guide's Derived/Test/ToyasCard.lean, 'card_holds'). Laid BY PROGRAM, IN A SANDBOX (cutbox-door.mjs). By AI agents, Wed Nov 11 2026. No macro, syntax, notation, axiom, sorry.
-/
import Derived.Test.YtpekkdgaeadepaaDoorRows
import GoSem.ClaimSeven
namespace Go.Proofs.YtpekkdgaeadepaaDoor
namespace Rows

/-- THE TIED CARD OF 'configlanglaw10.StepsTexts'. -/
def stepsTextsCard : Claim7 := { stood := { row := stepsTextsRow, standIns := [], harness := (true, "6931501c22c570da29bc88df4752cfc2982a70ca4e1aa2426bcb02b1ce428da4"), looks := true }, kinds := [], alts := [], laidByText := true, laidKinds := [.data, .data, .data, .sentinel, .sentinel], laidTests := true, laidLooks := .later }
def StepsTextsCardSaid : Prop := Claim7.holds Tryd.pinned (.plain (OpenSpec.ofChange stepsTextsSpec)) stepsTextsCard

/-- THE TIED CARD OF 'configlanglaw10.StepsParses'. -/
def stepsParsesCard : Claim7 := { stood := { row := stepsParsesRow, standIns := [], harness := (true, "6931501c22c570da29bc88df4752cfc2982a70ca4e1aa2426bcb02b1ce428da4"), looks := true }, kinds := [], alts := [], laidByText := true, laidKinds := [.data, .data, .data, .sentinel, .sentinel], laidTests := true, laidLooks := .later }
def StepsParsesCardSaid : Prop := Claim7.holds Tryd.pinned (.plain (OpenSpec.ofChange stepsParsesSpec)) stepsParsesCard

/-- THE TIED CARD OF 'configlanglaw10.StepsSize'. -/
def stepsSizeCard : Claim7 := { stood := { row := stepsSizeRow, standIns := [], harness := (true, "6931501c22c570da29bc88df4752cfc2982a70ca4e1aa2426bcb02b1ce428da4"), looks := true }, kinds := [], alts := [], laidByText := true, laidKinds := [.data, .data, .data, .sentinel, .sentinel], laidTests := true, laidLooks := .later }
def StepsSizeCardSaid : Prop := Claim7.holds Tryd.pinned (.plain (OpenSpec.ofChange stepsSizeSpec)) stepsSizeCard

/-- THE TIED CARD OF 'configlanglaw10.StepsRoundTrip'. -/
def stepsRoundTripCard : Claim7 := { stood := { row := stepsRoundTripRow, standIns := [], harness := (true, "6931501c22c570da29bc88df4752cfc2982a70ca4e1aa2426bcb02b1ce428da4"), looks := true }, kinds := [], alts := [], laidByText := true, laidKinds := [.data, .data, .data, .sentinel, .sentinel], laidTests := true, laidLooks := .later }
def StepsRoundTripCardSaid : Prop := Claim7.holds Tryd.pinned (.plain (OpenSpec.ofChange stepsRoundTripSpec)) stepsRoundTripCard

/-- THE TIED CARD OF 'configlanglaw10.StepsOnly'. -/
def stepsOnlyCard : Claim7 := { stood := { row := stepsOnlyRow, standIns := [], harness := (true, "6931501c22c570da29bc88df4752cfc2982a70ca4e1aa2426bcb02b1ce428da4"), looks := true }, kinds := [], alts := [], laidByText := true, laidKinds := [.data, .data, .data, .sentinel, .sentinel], laidTests := true, laidLooks := .later }
def StepsOnlyCardSaid : Prop := Claim7.holds Tryd.pinned (.plain (OpenSpec.ofChange stepsOnlySpec)) stepsOnlyCard

/-- THE TIED CARD OF 'configlanglaw10.StepsOrder'. -/
def stepsOrderCard : Claim7 := { stood := { row := stepsOrderRow, standIns := [], harness := (true, "6931501c22c570da29bc88df4752cfc2982a70ca4e1aa2426bcb02b1ce428da4"), looks := true }, kinds := [], alts := [], laidByText := true, laidKinds := [.data, .data, .data, .sentinel, .sentinel], laidTests := true, laidLooks := .later }
def StepsOrderCardSaid : Prop := Claim7.holds Tryd.pinned (.plain (OpenSpec.ofChange stepsOrderSpec)) stepsOrderCard

/-- THE TIED CARD OF 'configlanglaw10.StepsCompares'. -/
def stepsComparesCard : Claim7 := { stood := { row := stepsComparesRow, standIns := [], harness := (true, "6931501c22c570da29bc88df4752cfc2982a70ca4e1aa2426bcb02b1ce428da4"), looks := true }, kinds := [], alts := [], laidByText := true, laidKinds := [.data, .data, .data, .sentinel, .sentinel], laidTests := true, laidLooks := .later }
def StepsComparesCardSaid : Prop := Claim7.holds Tryd.pinned (.plain (OpenSpec.ofChange stepsComparesSpec)) stepsComparesCard

/-- THE TIED CARD OF 'configlanglaw10.StepsPrefixes'. -/
def stepsPrefixesCard : Claim7 := { stood := { row := stepsPrefixesRow, standIns := [], harness := (true, "6931501c22c570da29bc88df4752cfc2982a70ca4e1aa2426bcb02b1ce428da4"), looks := true }, kinds := [], alts := [], laidByText := true, laidKinds := [.data, .data, .data, .sentinel, .sentinel], laidTests := true, laidLooks := .later }
def StepsPrefixesCardSaid : Prop := Claim7.holds Tryd.pinned (.plain (OpenSpec.ofChange stepsPrefixesSpec)) stepsPrefixesCard

/-- THE SECOND FORM's CARD OF 'configlanglaw10.StepsTexts'. -/
def stepsTextsUptoCard : Claim7 := { stood := { row := stepsTextsUptoRow, standIns := [], harness := (true, "6931501c22c570da29bc88df4752cfc2982a70ca4e1aa2426bcb02b1ce428da4"), looks := true }, kinds := [], alts := [], laidByText := true, laidKinds := [.data, .data, .data, .sentinel, .sentinel], laidTests := true, laidLooks := .later }
def StepsTextsUptoCardSaid : Prop := Claim7.holds Tryd.pinned (.plain (OpenSpec.upto stepsTextsSpec)) stepsTextsUptoCard

/-- THE SECOND FORM's CARD OF 'configlanglaw10.StepsParses'. -/
def stepsParsesUptoCard : Claim7 := { stood := { row := stepsParsesUptoRow, standIns := [], harness := (true, "6931501c22c570da29bc88df4752cfc2982a70ca4e1aa2426bcb02b1ce428da4"), looks := true }, kinds := [], alts := [], laidByText := true, laidKinds := [.data, .data, .data, .sentinel, .sentinel], laidTests := true, laidLooks := .later }
def StepsParsesUptoCardSaid : Prop := Claim7.holds Tryd.pinned (.plain (OpenSpec.upto stepsParsesSpec)) stepsParsesUptoCard

/-- THE SECOND FORM's CARD OF 'configlanglaw10.StepsSize'. -/
def stepsSizeUptoCard : Claim7 := { stood := { row := stepsSizeUptoRow, standIns := [], harness := (true, "6931501c22c570da29bc88df4752cfc2982a70ca4e1aa2426bcb02b1ce428da4"), looks := true }, kinds := [], alts := [], laidByText := true, laidKinds := [.data, .data, .data, .sentinel, .sentinel], laidTests := true, laidLooks := .later }
def StepsSizeUptoCardSaid : Prop := Claim7.holds Tryd.pinned (.plain (OpenSpec.upto stepsSizeSpec)) stepsSizeUptoCard

/-- THE SECOND FORM's CARD OF 'configlanglaw10.StepsRoundTrip'. -/
def stepsRoundTripUptoCard : Claim7 := { stood := { row := stepsRoundTripUptoRow, standIns := [], harness := (true, "6931501c22c570da29bc88df4752cfc2982a70ca4e1aa2426bcb02b1ce428da4"), looks := true }, kinds := [], alts := [], laidByText := true, laidKinds := [.data, .data, .data, .sentinel, .sentinel], laidTests := true, laidLooks := .later }
def StepsRoundTripUptoCardSaid : Prop := Claim7.holds Tryd.pinned (.plain (OpenSpec.upto stepsRoundTripSpec)) stepsRoundTripUptoCard

/-- THE SECOND FORM's CARD OF 'configlanglaw10.StepsOnly'. -/
def stepsOnlyUptoCard : Claim7 := { stood := { row := stepsOnlyUptoRow, standIns := [], harness := (true, "6931501c22c570da29bc88df4752cfc2982a70ca4e1aa2426bcb02b1ce428da4"), looks := true }, kinds := [], alts := [], laidByText := true, laidKinds := [.data, .data, .data, .sentinel, .sentinel], laidTests := true, laidLooks := .later }
def StepsOnlyUptoCardSaid : Prop := Claim7.holds Tryd.pinned (.plain (OpenSpec.upto stepsOnlySpec)) stepsOnlyUptoCard

/-- THE SECOND FORM's CARD OF 'configlanglaw10.StepsOrder'. -/
def stepsOrderUptoCard : Claim7 := { stood := { row := stepsOrderUptoRow, standIns := [], harness := (true, "6931501c22c570da29bc88df4752cfc2982a70ca4e1aa2426bcb02b1ce428da4"), looks := true }, kinds := [], alts := [], laidByText := true, laidKinds := [.data, .data, .data, .sentinel, .sentinel], laidTests := true, laidLooks := .later }
def StepsOrderUptoCardSaid : Prop := Claim7.holds Tryd.pinned (.plain (OpenSpec.upto stepsOrderSpec)) stepsOrderUptoCard

/-- THE SECOND FORM's CARD OF 'configlanglaw10.StepsCompares'. -/
def stepsComparesUptoCard : Claim7 := { stood := { row := stepsComparesUptoRow, standIns := [], harness := (true, "6931501c22c570da29bc88df4752cfc2982a70ca4e1aa2426bcb02b1ce428da4"), looks := true }, kinds := [], alts := [], laidByText := true, laidKinds := [.data, .data, .data, .sentinel, .sentinel], laidTests := true, laidLooks := .later }
def StepsComparesUptoCardSaid : Prop := Claim7.holds Tryd.pinned (.plain (OpenSpec.upto stepsComparesSpec)) stepsComparesUptoCard

/-- THE SECOND FORM's CARD OF 'configlanglaw10.StepsPrefixes'. -/
def stepsPrefixesUptoCard : Claim7 := { stood := { row := stepsPrefixesUptoRow, standIns := [], harness := (true, "6931501c22c570da29bc88df4752cfc2982a70ca4e1aa2426bcb02b1ce428da4"), looks := true }, kinds := [], alts := [], laidByText := true, laidKinds := [.data, .data, .data, .sentinel, .sentinel], laidTests := true, laidLooks := .later }
def StepsPrefixesUptoCardSaid : Prop := Claim7.holds Tryd.pinned (.plain (OpenSpec.upto stepsPrefixesSpec)) stepsPrefixesUptoCard
end Rows
end Go.Proofs.YtpekkdgaeadepaaDoor
