/-
  DERIVED. GIVEN WITH THE SEED: THE CARDS: each row of YtopacgchhlnnaaaDoorRows.lean that lists a variable, with what it lists TIED to the program's text (the seventh form; the later family's looks); each row that meets fmt, with fmt's text TOLD by the authors' own Lean function (tested against real Go, not proved from fmt's source: count such statements apart). THE CARD IS WHAT COUNTS. Prove the row's statement (the work); the ties are given (YtopacgchhlnnaaaDoorTie.lean); close each card by the builder's one call (the guide's Derived/Test/ToyasCard.lean, 'card_holds'). Laid BY PROGRAM, IN A SANDBOX (cutbox-door.mjs). By AI agents, Wed Nov 11 2026. No macro, syntax, notation, axiom, sorry.
-/
import Derived.Test.YtopacgchhlnnaaaDoorRows
import GoSem.ClaimSeven
namespace Go.Proofs.YtopacgchhlnnaaaDoor
namespace Rows

/-- THE TIED CARD OF 'configlanglaw01.FixedText'. -/
def fixedTextCard : Claim7 := { stood := { row := fixedTextRow, standIns := [], harness := (true, "1edea3752a7140bdf9f6a13a0d123bd6f34c0d61ce9e01bfcfec5b3cc5d4b4eb"), looks := true }, kinds := [], alts := [], laidByText := true, laidKinds := [.data, .data, .data, .sentinel, .sentinel], laidTests := true, laidLooks := .later }
def FixedTextCardSaid : Prop := Claim7.holds Tryd.pinned (.plain (OpenSpec.ofChange fixedTextSpec)) fixedTextCard

/-- THE TIED CARD OF 'configlanglaw01.FixedParse'. -/
def fixedParseCard : Claim7 := { stood := { row := fixedParseRow, standIns := [], harness := (true, "1edea3752a7140bdf9f6a13a0d123bd6f34c0d61ce9e01bfcfec5b3cc5d4b4eb"), looks := true }, kinds := [], alts := [], laidByText := true, laidKinds := [.data, .data, .data, .sentinel, .sentinel], laidTests := true, laidLooks := .later }
def FixedParseCardSaid : Prop := Claim7.holds Tryd.pinned (.plain (OpenSpec.ofChange fixedParseSpec)) fixedParseCard

/-- THE TIED CARD OF 'configlanglaw01.FixedRoundTrip'. -/
def fixedRoundTripCard : Claim7 := { stood := { row := fixedRoundTripRow, standIns := [], harness := (true, "1edea3752a7140bdf9f6a13a0d123bd6f34c0d61ce9e01bfcfec5b3cc5d4b4eb"), looks := true }, kinds := [], alts := [], laidByText := true, laidKinds := [.data, .data, .data, .sentinel, .sentinel], laidTests := true, laidLooks := .later }
def FixedRoundTripCardSaid : Prop := Claim7.holds Tryd.pinned (.plain (OpenSpec.ofChange fixedRoundTripSpec)) fixedRoundTripCard

/-- THE TIED CARD OF 'configlanglaw01.FixedProduct'. -/
def fixedProductCard : Claim7 := { stood := { row := fixedProductRow, standIns := [], harness := (true, "1edea3752a7140bdf9f6a13a0d123bd6f34c0d61ce9e01bfcfec5b3cc5d4b4eb"), looks := true }, kinds := [], alts := [], laidByText := true, laidKinds := [.data, .data, .data, .sentinel, .sentinel], laidTests := true, laidLooks := .later }
def FixedProductCardSaid : Prop := Claim7.holds Tryd.pinned (.plain (OpenSpec.ofChange fixedProductSpec)) fixedProductCard

/-- THE TIED CARD OF 'configlanglaw01.FixedRemainder'. -/
def fixedRemainderCard : Claim7 := { stood := { row := fixedRemainderRow, standIns := [], harness := (true, "1edea3752a7140bdf9f6a13a0d123bd6f34c0d61ce9e01bfcfec5b3cc5d4b4eb"), looks := true }, kinds := [], alts := [], laidByText := true, laidKinds := [.data, .data, .data, .sentinel, .sentinel], laidTests := true, laidLooks := .later }
def FixedRemainderCardSaid : Prop := Claim7.holds Tryd.pinned (.plain (OpenSpec.ofChange fixedRemainderSpec)) fixedRemainderCard

/-- THE TIED CARD OF 'configlanglaw01.FixedKinds'. -/
def fixedKindsCard : Claim7 := { stood := { row := fixedKindsRow, standIns := [], harness := (true, "1edea3752a7140bdf9f6a13a0d123bd6f34c0d61ce9e01bfcfec5b3cc5d4b4eb"), looks := true }, kinds := [], alts := [], laidByText := true, laidKinds := [.data, .data, .data, .sentinel, .sentinel], laidTests := true, laidLooks := .later }
def FixedKindsCardSaid : Prop := Claim7.holds Tryd.pinned (.plain (OpenSpec.ofChange fixedKindsSpec)) fixedKindsCard

/-- THE TIED CARD OF 'configlanglaw01.FixedCommutes'. -/
def fixedCommutesCard : Claim7 := { stood := { row := fixedCommutesRow, standIns := [], harness := (true, "1edea3752a7140bdf9f6a13a0d123bd6f34c0d61ce9e01bfcfec5b3cc5d4b4eb"), looks := true }, kinds := [], alts := [], laidByText := true, laidKinds := [.data, .data, .data, .sentinel, .sentinel], laidTests := true, laidLooks := .later }
def FixedCommutesCardSaid : Prop := Claim7.holds Tryd.pinned (.plain (OpenSpec.ofChange fixedCommutesSpec)) fixedCommutesCard

/-- THE TIED CARD OF 'configlanglaw01.FixedArithmetic'. -/
def fixedArithmeticCard : Claim7 := { stood := { row := fixedArithmeticRow, standIns := [], harness := (true, "1edea3752a7140bdf9f6a13a0d123bd6f34c0d61ce9e01bfcfec5b3cc5d4b4eb"), looks := true }, kinds := [], alts := [], laidByText := true, laidKinds := [.data, .data, .data, .sentinel, .sentinel], laidTests := true, laidLooks := .later }
def FixedArithmeticCardSaid : Prop := Claim7.holds Tryd.pinned (.plain (OpenSpec.ofChange fixedArithmeticSpec)) fixedArithmeticCard

/-- THE TIED CARD OF 'configlanglaw01.FixedUndoes'. -/
def fixedUndoesCard : Claim7 := { stood := { row := fixedUndoesRow, standIns := [], harness := (true, "1edea3752a7140bdf9f6a13a0d123bd6f34c0d61ce9e01bfcfec5b3cc5d4b4eb"), looks := true }, kinds := [], alts := [], laidByText := true, laidKinds := [.data, .data, .data, .sentinel, .sentinel], laidTests := true, laidLooks := .later }
def FixedUndoesCardSaid : Prop := Claim7.holds Tryd.pinned (.plain (OpenSpec.ofChange fixedUndoesSpec)) fixedUndoesCard

/-- THE SECOND FORM's CARD OF 'configlanglaw01.FixedText'. -/
def fixedTextUptoCard : Claim7 := { stood := { row := fixedTextUptoRow, standIns := [], harness := (true, "1edea3752a7140bdf9f6a13a0d123bd6f34c0d61ce9e01bfcfec5b3cc5d4b4eb"), looks := true }, kinds := [], alts := [], laidByText := true, laidKinds := [.data, .data, .data, .sentinel, .sentinel], laidTests := true, laidLooks := .later }
def FixedTextUptoCardSaid : Prop := Claim7.holds Tryd.pinned (.plain (OpenSpec.upto fixedTextSpec)) fixedTextUptoCard

/-- THE SECOND FORM's CARD OF 'configlanglaw01.FixedParse'. -/
def fixedParseUptoCard : Claim7 := { stood := { row := fixedParseUptoRow, standIns := [], harness := (true, "1edea3752a7140bdf9f6a13a0d123bd6f34c0d61ce9e01bfcfec5b3cc5d4b4eb"), looks := true }, kinds := [], alts := [], laidByText := true, laidKinds := [.data, .data, .data, .sentinel, .sentinel], laidTests := true, laidLooks := .later }
def FixedParseUptoCardSaid : Prop := Claim7.holds Tryd.pinned (.plain (OpenSpec.upto fixedParseSpec)) fixedParseUptoCard

/-- THE SECOND FORM's CARD OF 'configlanglaw01.FixedRoundTrip'. -/
def fixedRoundTripUptoCard : Claim7 := { stood := { row := fixedRoundTripUptoRow, standIns := [], harness := (true, "1edea3752a7140bdf9f6a13a0d123bd6f34c0d61ce9e01bfcfec5b3cc5d4b4eb"), looks := true }, kinds := [], alts := [], laidByText := true, laidKinds := [.data, .data, .data, .sentinel, .sentinel], laidTests := true, laidLooks := .later }
def FixedRoundTripUptoCardSaid : Prop := Claim7.holds Tryd.pinned (.plain (OpenSpec.upto fixedRoundTripSpec)) fixedRoundTripUptoCard

/-- THE SECOND FORM's CARD OF 'configlanglaw01.FixedProduct'. -/
def fixedProductUptoCard : Claim7 := { stood := { row := fixedProductUptoRow, standIns := [], harness := (true, "1edea3752a7140bdf9f6a13a0d123bd6f34c0d61ce9e01bfcfec5b3cc5d4b4eb"), looks := true }, kinds := [], alts := [], laidByText := true, laidKinds := [.data, .data, .data, .sentinel, .sentinel], laidTests := true, laidLooks := .later }
def FixedProductUptoCardSaid : Prop := Claim7.holds Tryd.pinned (.plain (OpenSpec.upto fixedProductSpec)) fixedProductUptoCard

/-- THE SECOND FORM's CARD OF 'configlanglaw01.FixedRemainder'. -/
def fixedRemainderUptoCard : Claim7 := { stood := { row := fixedRemainderUptoRow, standIns := [], harness := (true, "1edea3752a7140bdf9f6a13a0d123bd6f34c0d61ce9e01bfcfec5b3cc5d4b4eb"), looks := true }, kinds := [], alts := [], laidByText := true, laidKinds := [.data, .data, .data, .sentinel, .sentinel], laidTests := true, laidLooks := .later }
def FixedRemainderUptoCardSaid : Prop := Claim7.holds Tryd.pinned (.plain (OpenSpec.upto fixedRemainderSpec)) fixedRemainderUptoCard

/-- THE SECOND FORM's CARD OF 'configlanglaw01.FixedKinds'. -/
def fixedKindsUptoCard : Claim7 := { stood := { row := fixedKindsUptoRow, standIns := [], harness := (true, "1edea3752a7140bdf9f6a13a0d123bd6f34c0d61ce9e01bfcfec5b3cc5d4b4eb"), looks := true }, kinds := [], alts := [], laidByText := true, laidKinds := [.data, .data, .data, .sentinel, .sentinel], laidTests := true, laidLooks := .later }
def FixedKindsUptoCardSaid : Prop := Claim7.holds Tryd.pinned (.plain (OpenSpec.upto fixedKindsSpec)) fixedKindsUptoCard

/-- THE SECOND FORM's CARD OF 'configlanglaw01.FixedCommutes'. -/
def fixedCommutesUptoCard : Claim7 := { stood := { row := fixedCommutesUptoRow, standIns := [], harness := (true, "1edea3752a7140bdf9f6a13a0d123bd6f34c0d61ce9e01bfcfec5b3cc5d4b4eb"), looks := true }, kinds := [], alts := [], laidByText := true, laidKinds := [.data, .data, .data, .sentinel, .sentinel], laidTests := true, laidLooks := .later }
def FixedCommutesUptoCardSaid : Prop := Claim7.holds Tryd.pinned (.plain (OpenSpec.upto fixedCommutesSpec)) fixedCommutesUptoCard

/-- THE SECOND FORM's CARD OF 'configlanglaw01.FixedArithmetic'. -/
def fixedArithmeticUptoCard : Claim7 := { stood := { row := fixedArithmeticUptoRow, standIns := [], harness := (true, "1edea3752a7140bdf9f6a13a0d123bd6f34c0d61ce9e01bfcfec5b3cc5d4b4eb"), looks := true }, kinds := [], alts := [], laidByText := true, laidKinds := [.data, .data, .data, .sentinel, .sentinel], laidTests := true, laidLooks := .later }
def FixedArithmeticUptoCardSaid : Prop := Claim7.holds Tryd.pinned (.plain (OpenSpec.upto fixedArithmeticSpec)) fixedArithmeticUptoCard

/-- THE SECOND FORM's CARD OF 'configlanglaw01.FixedUndoes'. -/
def fixedUndoesUptoCard : Claim7 := { stood := { row := fixedUndoesUptoRow, standIns := [], harness := (true, "1edea3752a7140bdf9f6a13a0d123bd6f34c0d61ce9e01bfcfec5b3cc5d4b4eb"), looks := true }, kinds := [], alts := [], laidByText := true, laidKinds := [.data, .data, .data, .sentinel, .sentinel], laidTests := true, laidLooks := .later }
def FixedUndoesUptoCardSaid : Prop := Claim7.holds Tryd.pinned (.plain (OpenSpec.upto fixedUndoesSpec)) fixedUndoesUptoCard
end Rows
end Go.Proofs.YtopacgchhlnnaaaDoor
