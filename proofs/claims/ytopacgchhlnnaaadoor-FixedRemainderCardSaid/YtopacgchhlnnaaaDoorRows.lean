/-
  NARROWER THAN 'FOR EVERY INPUT', by the rows' own cells (each row's printed sentence says how): FixedText: laid · FixedParse: laid · FixedRoundTrip: laid · FixedProduct: laid · FixedRemainder: laid · FixedKinds: laid · FixedCommutes: laid · FixedArithmetic: laid · FixedUndoes: laid.
  DERIVED. THE GIVEN ROWS OF THIS SEAT. 9 by the template 'for every input the law returns true; each argument reads behind the call as it read before'; 0 by the template 'total and deterministic' (their statements: YtopacgchhlnnaaaDoorTotals.lean).
  GIVEN WITH THE SEED: the statements are not yours to turn. If you find one false, say at which input.
  Laid BY PROGRAM, IN A SANDBOX (cutbox-rows.mjs): the forced cells as the released guide's own fill.sh prints them over the translation 0886a8c77521b618… (all of the seat's roots in one cut). By AI agents, Wed Nov 11 2026. No macro, syntax, notation, axiom, sorry.
-/
import Derived.Test.YtopacgchhlnnaaaDoorChecked
import GoSem.Claim
import GoSem.ClaimJoined
import GoSem.ClaimMapViews
import Derived.JoinedTies
import Derived.KernelRfl
namespace Go.Proofs.YtopacgchhlnnaaaDoor
/- THE CELL 'sum', in the pinned program and in every row, IS THE sha256 OF THE DUMP (.gsa) THAT YtopacgchhlnnaaaDoorProg.lean LOADS. Nothing in Lean hashes anything: it is a label: what it is worth is what the hold of that sum in a sandbox is worth. -/
noncomputable def Tryd.pinned : Pinned := { name := "ytopacgchhlnnaaadoor", sum := "0886a8c77521b618d08b9e076b72cba92387b5d75811f048f5ee2aa5fc05902e", checked := Tryd.checked }
namespace Rows
def none {H : Type} : Left H := { results := [], args := [] }

/- WHAT THE LISTED PACKAGE-LEVEL VARIABLES READ AS WHEN THE CALL BEGINS. Each datum BY PROGRAM (the guide's laid-datum.mjs) off the statement by which the dump's own 'gosem.cut.vars' lays the variable. In a bare row this is a premise. The card (YtopacgchhlnnaaaDoorCards.lean) ties it to the program's text. -/
def laid_math_bits_deBruijn32tab {H : Type} : DataW H := .agg [.lit (.int .u8 0), .lit (.int .u8 1), .lit (.int .u8 28), .lit (.int .u8 2), .lit (.int .u8 29), .lit (.int .u8 14), .lit (.int .u8 24), .lit (.int .u8 3), .lit (.int .u8 30), .lit (.int .u8 22), .lit (.int .u8 20), .lit (.int .u8 15), .lit (.int .u8 25), .lit (.int .u8 17), .lit (.int .u8 4), .lit (.int .u8 8), .lit (.int .u8 31), .lit (.int .u8 27), .lit (.int .u8 13), .lit (.int .u8 23), .lit (.int .u8 21), .lit (.int .u8 19), .lit (.int .u8 16), .lit (.int .u8 7), .lit (.int .u8 26), .lit (.int .u8 12), .lit (.int .u8 18), .lit (.int .u8 6), .lit (.int .u8 11), .lit (.int .u8 5), .lit (.int .u8 10), .lit (.int .u8 9)]
def laid_math_bits_deBruijn64tab {H : Type} : DataW H := .agg [.lit (.int .u8 0), .lit (.int .u8 1), .lit (.int .u8 56), .lit (.int .u8 2), .lit (.int .u8 57), .lit (.int .u8 49), .lit (.int .u8 28), .lit (.int .u8 3), .lit (.int .u8 61), .lit (.int .u8 58), .lit (.int .u8 42), .lit (.int .u8 50), .lit (.int .u8 38), .lit (.int .u8 29), .lit (.int .u8 17), .lit (.int .u8 4), .lit (.int .u8 62), .lit (.int .u8 47), .lit (.int .u8 59), .lit (.int .u8 36), .lit (.int .u8 45), .lit (.int .u8 43), .lit (.int .u8 51), .lit (.int .u8 22), .lit (.int .u8 53), .lit (.int .u8 39), .lit (.int .u8 33), .lit (.int .u8 30), .lit (.int .u8 24), .lit (.int .u8 18), .lit (.int .u8 12), .lit (.int .u8 5), .lit (.int .u8 63), .lit (.int .u8 55), .lit (.int .u8 48), .lit (.int .u8 27), .lit (.int .u8 60), .lit (.int .u8 41), .lit (.int .u8 37), .lit (.int .u8 16), .lit (.int .u8 46), .lit (.int .u8 35), .lit (.int .u8 44), .lit (.int .u8 21), .lit (.int .u8 52), .lit (.int .u8 32), .lit (.int .u8 23), .lit (.int .u8 11), .lit (.int .u8 54), .lit (.int .u8 26), .lit (.int .u8 40), .lit (.int .u8 15), .lit (.int .u8 34), .lit (.int .u8 20), .lit (.int .u8 31), .lit (.int .u8 10), .lit (.int .u8 25), .lit (.int .u8 14), .lit (.int .u8 19), .lit (.int .u8 9), .lit (.int .u8 13), .lit (.int .u8 8), .lit (.int .u8 7), .lit (.int .u8 6)]
def laid_internal_strconv_uint64pow10 {H : Type} : DataW H := .agg [.lit (.int .u64 1), .lit (.int .u64 10), .lit (.int .u64 100), .lit (.int .u64 1000), .lit (.int .u64 10000), .lit (.int .u64 100000), .lit (.int .u64 1000000), .lit (.int .u64 10000000), .lit (.int .u64 100000000), .lit (.int .u64 1000000000), .lit (.int .u64 10000000000), .lit (.int .u64 100000000000), .lit (.int .u64 1000000000000), .lit (.int .u64 10000000000000), .lit (.int .u64 100000000000000), .lit (.int .u64 1000000000000000), .lit (.int .u64 10000000000000000), .lit (.int .u64 100000000000000000), .lit (.int .u64 1000000000000000000), .lit (.int .u64 10000000000000000000)]
def laid_strconv_ErrRange {H : Type} : DataW H := .iface "*errors.errorString" (.ptr (.agg [.lit (.string [118, 97, 108, 117, 101, 32, 111, 117, 116, 32, 111, 102, 32, 114, 97, 110, 103, 101])]))
def laid_strconv_ErrSyntax {H : Type} : DataW H := .iface "*errors.errorString" (.ptr (.agg [.lit (.string [105, 110, 118, 97, 108, 105, 100, 32, 115, 121, 110, 116, 97, 120])]))

/-- 'configlanglaw01.FixedText': WHATEVER THE INPUT: true; the input reads as it did. -/
def fixedTextSpec : ChangeSpec := { name := "fixedText", fn := fun _ => fun
  | [d] => { results := [.lit (.bool true)], args := [d] }
  | _ => none }
def fixedTextRow : OpenClaim := { program := "ytopacgchhlnnaaadoor", sum := "0886a8c77521b618d08b9e076b72cba92387b5d75811f048f5ee2aa5fc05902e", func := "configlang/configlanglaw01.FixedText", spec := "fixedText", named := ["internal/strconv.uint64pow10", "math/bits.deBruijn32tab", "math/bits.deBruijn64tab", "math/bits.divideError", "math/bits.overflowError", "strconv.ErrSyntax", "strconv.ErrRange"], apart := false, laid := [("math/bits.deBruijn32tab", laid_math_bits_deBruijn32tab), ("math/bits.deBruijn64tab", laid_math_bits_deBruijn64tab), ("internal/strconv.uint64pow10", laid_internal_strconv_uint64pow10), ("strconv.ErrRange", laid_strconv_ErrRange), ("strconv.ErrSyntax", laid_strconv_ErrSyntax)] }
def FixedTextSaid : Prop := fixedTextRow.holds Tryd.pinned (OpenSpec.ofChange fixedTextSpec)

/-- ITS FALSE NEIGHBOUR: 'it returns false'. Refute it at one input. -/
def fixedTextWrong : ChangeSpec := { name := "fixedText", fn := fun _ => fun
  | [d] => { results := [.lit (.bool false)], args := [d] }
  | _ => none }
def FixedTextWrongFalsely : Prop := fixedTextRow.holds Tryd.pinned (OpenSpec.ofChange fixedTextWrong)

/-- 'configlanglaw01.FixedParse': WHATEVER THE INPUT: true; the input reads as it did. -/
def fixedParseSpec : ChangeSpec := { name := "fixedParse", fn := fun _ => fun
  | [d] => { results := [.lit (.bool true)], args := [d] }
  | _ => none }
def fixedParseRow : OpenClaim := { program := "ytopacgchhlnnaaadoor", sum := "0886a8c77521b618d08b9e076b72cba92387b5d75811f048f5ee2aa5fc05902e", func := "configlang/configlanglaw01.FixedParse", spec := "fixedParse", named := ["math/bits.divideError", "math/bits.overflowError", "strconv.ErrSyntax", "strconv.ErrRange", "internal/strconv.uint64pow10", "math/bits.deBruijn32tab", "math/bits.deBruijn64tab"], apart := false, laid := [("math/bits.deBruijn32tab", laid_math_bits_deBruijn32tab), ("math/bits.deBruijn64tab", laid_math_bits_deBruijn64tab), ("internal/strconv.uint64pow10", laid_internal_strconv_uint64pow10), ("strconv.ErrRange", laid_strconv_ErrRange), ("strconv.ErrSyntax", laid_strconv_ErrSyntax)] }
def FixedParseSaid : Prop := fixedParseRow.holds Tryd.pinned (OpenSpec.ofChange fixedParseSpec)

/-- ITS FALSE NEIGHBOUR: 'it returns false'. Refute it at one input. -/
def fixedParseWrong : ChangeSpec := { name := "fixedParse", fn := fun _ => fun
  | [d] => { results := [.lit (.bool false)], args := [d] }
  | _ => none }
def FixedParseWrongFalsely : Prop := fixedParseRow.holds Tryd.pinned (OpenSpec.ofChange fixedParseWrong)

/-- 'configlanglaw01.FixedRoundTrip': WHATEVER THE INPUT: true; the input reads as it did. -/
def fixedRoundTripSpec : ChangeSpec := { name := "fixedRoundTrip", fn := fun _ => fun
  | [d1, d2] => { results := [.lit (.bool true)], args := [d1, d2] }
  | _ => none }
def fixedRoundTripRow : OpenClaim := { program := "ytopacgchhlnnaaadoor", sum := "0886a8c77521b618d08b9e076b72cba92387b5d75811f048f5ee2aa5fc05902e", func := "configlang/configlanglaw01.FixedRoundTrip", spec := "fixedRoundTrip", named := ["internal/strconv.uint64pow10", "math/bits.deBruijn32tab", "math/bits.deBruijn64tab", "strconv.ErrSyntax", "strconv.ErrRange", "math/bits.divideError", "math/bits.overflowError"], apart := false, laid := [("math/bits.deBruijn32tab", laid_math_bits_deBruijn32tab), ("math/bits.deBruijn64tab", laid_math_bits_deBruijn64tab), ("internal/strconv.uint64pow10", laid_internal_strconv_uint64pow10), ("strconv.ErrRange", laid_strconv_ErrRange), ("strconv.ErrSyntax", laid_strconv_ErrSyntax)] }
def FixedRoundTripSaid : Prop := fixedRoundTripRow.holds Tryd.pinned (OpenSpec.ofChange fixedRoundTripSpec)

/-- ITS FALSE NEIGHBOUR: 'it returns false'. Refute it at one input. -/
def fixedRoundTripWrong : ChangeSpec := { name := "fixedRoundTrip", fn := fun _ => fun
  | [d1, d2] => { results := [.lit (.bool false)], args := [d1, d2] }
  | _ => none }
def FixedRoundTripWrongFalsely : Prop := fixedRoundTripRow.holds Tryd.pinned (OpenSpec.ofChange fixedRoundTripWrong)

/-- 'configlanglaw01.FixedProduct': WHATEVER THE INPUT: true; the input reads as it did. -/
def fixedProductSpec : ChangeSpec := { name := "fixedProduct", fn := fun _ => fun
  | [d1, d2] => { results := [.lit (.bool true)], args := [d1, d2] }
  | _ => none }
def fixedProductRow : OpenClaim := { program := "ytopacgchhlnnaaadoor", sum := "0886a8c77521b618d08b9e076b72cba92387b5d75811f048f5ee2aa5fc05902e", func := "configlang/configlanglaw01.FixedProduct", spec := "fixedProduct", named := ["math/bits.divideError", "math/bits.overflowError", "strconv.ErrSyntax", "strconv.ErrRange", "internal/strconv.uint64pow10", "math/bits.deBruijn32tab", "math/bits.deBruijn64tab"], apart := false, laid := [("math/bits.deBruijn32tab", laid_math_bits_deBruijn32tab), ("math/bits.deBruijn64tab", laid_math_bits_deBruijn64tab), ("internal/strconv.uint64pow10", laid_internal_strconv_uint64pow10), ("strconv.ErrRange", laid_strconv_ErrRange), ("strconv.ErrSyntax", laid_strconv_ErrSyntax)] }
def FixedProductSaid : Prop := fixedProductRow.holds Tryd.pinned (OpenSpec.ofChange fixedProductSpec)

/-- ITS FALSE NEIGHBOUR: 'it returns false'. Refute it at one input. -/
def fixedProductWrong : ChangeSpec := { name := "fixedProduct", fn := fun _ => fun
  | [d1, d2] => { results := [.lit (.bool false)], args := [d1, d2] }
  | _ => none }
def FixedProductWrongFalsely : Prop := fixedProductRow.holds Tryd.pinned (OpenSpec.ofChange fixedProductWrong)

/-- 'configlanglaw01.FixedRemainder': WHATEVER THE INPUT: true; the input reads as it did. -/
def fixedRemainderSpec : ChangeSpec := { name := "fixedRemainder", fn := fun _ => fun
  | [d1, d2] => { results := [.lit (.bool true)], args := [d1, d2] }
  | _ => none }
def fixedRemainderRow : OpenClaim := { program := "ytopacgchhlnnaaadoor", sum := "0886a8c77521b618d08b9e076b72cba92387b5d75811f048f5ee2aa5fc05902e", func := "configlang/configlanglaw01.FixedRemainder", spec := "fixedRemainder", named := ["math/bits.divideError", "math/bits.overflowError", "strconv.ErrSyntax", "strconv.ErrRange", "internal/strconv.uint64pow10", "math/bits.deBruijn32tab", "math/bits.deBruijn64tab"], apart := false, laid := [("math/bits.deBruijn32tab", laid_math_bits_deBruijn32tab), ("math/bits.deBruijn64tab", laid_math_bits_deBruijn64tab), ("internal/strconv.uint64pow10", laid_internal_strconv_uint64pow10), ("strconv.ErrRange", laid_strconv_ErrRange), ("strconv.ErrSyntax", laid_strconv_ErrSyntax)] }
def FixedRemainderSaid : Prop := fixedRemainderRow.holds Tryd.pinned (OpenSpec.ofChange fixedRemainderSpec)

/-- ITS FALSE NEIGHBOUR: 'it returns false'. Refute it at one input. -/
def fixedRemainderWrong : ChangeSpec := { name := "fixedRemainder", fn := fun _ => fun
  | [d1, d2] => { results := [.lit (.bool false)], args := [d1, d2] }
  | _ => none }
def FixedRemainderWrongFalsely : Prop := fixedRemainderRow.holds Tryd.pinned (OpenSpec.ofChange fixedRemainderWrong)

/-- 'configlanglaw01.FixedKinds': WHATEVER THE INPUT: true; the input reads as it did. -/
def fixedKindsSpec : ChangeSpec := { name := "fixedKinds", fn := fun _ => fun
  | [d] => { results := [.lit (.bool true)], args := [d] }
  | _ => none }
def fixedKindsRow : OpenClaim := { program := "ytopacgchhlnnaaadoor", sum := "0886a8c77521b618d08b9e076b72cba92387b5d75811f048f5ee2aa5fc05902e", func := "configlang/configlanglaw01.FixedKinds", spec := "fixedKinds", named := ["math/bits.divideError", "math/bits.overflowError", "strconv.ErrSyntax", "strconv.ErrRange", "internal/strconv.uint64pow10", "math/bits.deBruijn32tab", "math/bits.deBruijn64tab"], apart := false, laid := [("math/bits.deBruijn32tab", laid_math_bits_deBruijn32tab), ("math/bits.deBruijn64tab", laid_math_bits_deBruijn64tab), ("internal/strconv.uint64pow10", laid_internal_strconv_uint64pow10), ("strconv.ErrRange", laid_strconv_ErrRange), ("strconv.ErrSyntax", laid_strconv_ErrSyntax)] }
def FixedKindsSaid : Prop := fixedKindsRow.holds Tryd.pinned (OpenSpec.ofChange fixedKindsSpec)

/-- ITS FALSE NEIGHBOUR: 'it returns false'. Refute it at one input. -/
def fixedKindsWrong : ChangeSpec := { name := "fixedKinds", fn := fun _ => fun
  | [d] => { results := [.lit (.bool false)], args := [d] }
  | _ => none }
def FixedKindsWrongFalsely : Prop := fixedKindsRow.holds Tryd.pinned (OpenSpec.ofChange fixedKindsWrong)

/-- 'configlanglaw01.FixedCommutes': WHATEVER THE INPUT: true; the input reads as it did. -/
def fixedCommutesSpec : ChangeSpec := { name := "fixedCommutes", fn := fun _ => fun
  | [d1, d2, d3] => { results := [.lit (.bool true)], args := [d1, d2, d3] }
  | _ => none }
def fixedCommutesRow : OpenClaim := { program := "ytopacgchhlnnaaadoor", sum := "0886a8c77521b618d08b9e076b72cba92387b5d75811f048f5ee2aa5fc05902e", func := "configlang/configlanglaw01.FixedCommutes", spec := "fixedCommutes", named := ["math/bits.divideError", "math/bits.overflowError", "strconv.ErrSyntax", "strconv.ErrRange", "internal/strconv.uint64pow10", "math/bits.deBruijn32tab", "math/bits.deBruijn64tab"], apart := false, laid := [("math/bits.deBruijn32tab", laid_math_bits_deBruijn32tab), ("math/bits.deBruijn64tab", laid_math_bits_deBruijn64tab), ("internal/strconv.uint64pow10", laid_internal_strconv_uint64pow10), ("strconv.ErrRange", laid_strconv_ErrRange), ("strconv.ErrSyntax", laid_strconv_ErrSyntax)] }
def FixedCommutesSaid : Prop := fixedCommutesRow.holds Tryd.pinned (OpenSpec.ofChange fixedCommutesSpec)

/-- ITS FALSE NEIGHBOUR: 'it returns false'. Refute it at one input. -/
def fixedCommutesWrong : ChangeSpec := { name := "fixedCommutes", fn := fun _ => fun
  | [d1, d2, d3] => { results := [.lit (.bool false)], args := [d1, d2, d3] }
  | _ => none }
def FixedCommutesWrongFalsely : Prop := fixedCommutesRow.holds Tryd.pinned (OpenSpec.ofChange fixedCommutesWrong)

/-- 'configlanglaw01.FixedArithmetic': WHATEVER THE INPUT: true; the input reads as it did. -/
def fixedArithmeticSpec : ChangeSpec := { name := "fixedArithmetic", fn := fun _ => fun
  | [d1, d2] => { results := [.lit (.bool true)], args := [d1, d2] }
  | _ => none }
def fixedArithmeticRow : OpenClaim := { program := "ytopacgchhlnnaaadoor", sum := "0886a8c77521b618d08b9e076b72cba92387b5d75811f048f5ee2aa5fc05902e", func := "configlang/configlanglaw01.FixedArithmetic", spec := "fixedArithmetic", named := ["math/bits.divideError", "math/bits.overflowError", "strconv.ErrSyntax", "strconv.ErrRange", "internal/strconv.uint64pow10", "math/bits.deBruijn32tab", "math/bits.deBruijn64tab"], apart := false, laid := [("math/bits.deBruijn32tab", laid_math_bits_deBruijn32tab), ("math/bits.deBruijn64tab", laid_math_bits_deBruijn64tab), ("internal/strconv.uint64pow10", laid_internal_strconv_uint64pow10), ("strconv.ErrRange", laid_strconv_ErrRange), ("strconv.ErrSyntax", laid_strconv_ErrSyntax)] }
def FixedArithmeticSaid : Prop := fixedArithmeticRow.holds Tryd.pinned (OpenSpec.ofChange fixedArithmeticSpec)

/-- ITS FALSE NEIGHBOUR: 'it returns false'. Refute it at one input. -/
def fixedArithmeticWrong : ChangeSpec := { name := "fixedArithmetic", fn := fun _ => fun
  | [d1, d2] => { results := [.lit (.bool false)], args := [d1, d2] }
  | _ => none }
def FixedArithmeticWrongFalsely : Prop := fixedArithmeticRow.holds Tryd.pinned (OpenSpec.ofChange fixedArithmeticWrong)

/-- 'configlanglaw01.FixedUndoes': WHATEVER THE INPUT: true; the input reads as it did. -/
def fixedUndoesSpec : ChangeSpec := { name := "fixedUndoes", fn := fun _ => fun
  | [d1, d2] => { results := [.lit (.bool true)], args := [d1, d2] }
  | _ => none }
def fixedUndoesRow : OpenClaim := { program := "ytopacgchhlnnaaadoor", sum := "0886a8c77521b618d08b9e076b72cba92387b5d75811f048f5ee2aa5fc05902e", func := "configlang/configlanglaw01.FixedUndoes", spec := "fixedUndoes", named := ["math/bits.divideError", "math/bits.overflowError", "strconv.ErrSyntax", "strconv.ErrRange", "internal/strconv.uint64pow10", "math/bits.deBruijn32tab", "math/bits.deBruijn64tab"], apart := false, laid := [("math/bits.deBruijn32tab", laid_math_bits_deBruijn32tab), ("math/bits.deBruijn64tab", laid_math_bits_deBruijn64tab), ("internal/strconv.uint64pow10", laid_internal_strconv_uint64pow10), ("strconv.ErrRange", laid_strconv_ErrRange), ("strconv.ErrSyntax", laid_strconv_ErrSyntax)] }
def FixedUndoesSaid : Prop := fixedUndoesRow.holds Tryd.pinned (OpenSpec.ofChange fixedUndoesSpec)

/-- ITS FALSE NEIGHBOUR: 'it returns false'. Refute it at one input. -/
def fixedUndoesWrong : ChangeSpec := { name := "fixedUndoes", fn := fun _ => fun
  | [d1, d2] => { results := [.lit (.bool false)], args := [d1, d2] }
  | _ => none }
def FixedUndoesWrongFalsely : Prop := fixedUndoesRow.holds Tryd.pinned (OpenSpec.ofChange fixedUndoesWrong)

/- THE SECOND FORM. 'bulk': how many values and letters a reading holds, each counted each time it is reached (what is shared counts as often as it is met; a slice's spare places count too). A statement '..UptoSaid' is the law's where the arguments, and the package variables that the reading takes, are together of bulk at most 1048576: NARROWER than '..Said'. Prove '..Said' where nothing that the law and all that it calls make is longer than what came in: it says more and counts as full. Else prove '..UptoSaid'. A law counts once. -/
mutual
def uptoBulk {H : Type} : DataW H → Nat
  | .lit (.string bytes) => bytes.length + 1
  | .lit _ => 1
  | .nil => 1
  | .ptr d => uptoBulk d + 1
  | .slice elems spare => uptoBulkAll elems + uptoBulkAll spare + 1
  | .agg parts => uptoBulkAll parts + 1
  | .iface _ d => uptoBulk d + 1
  | .map entries => uptoBulkEntries entries + 1
  | .held _ => 1
def uptoBulkAll {H : Type} : List (DataW H) → Nat
  | [] => 0
  | d :: r => uptoBulk d + uptoBulkAll r
def uptoBulkEntries {H : Type} : List (Lit × DataW H) → Nat
  | [] => 0
  | x :: r => uptoBulkEntry x + uptoBulkEntries r
def uptoBulkEntry {H : Type} : Lit × DataW H → Nat
  | (.string bytes, d) => bytes.length + uptoBulk d + 1
  | (_, d) => uptoBulk d + 1
 end
def uptoSmall : (H : Type) → List (DataW H) → Bool := fun _ ds => decide (uptoBulkAll ds ≤ 1048576)
def OpenSpec.upto (s : _root_.Go.ChangeSpec) : _root_.Go.OpenSpec := { _root_.Go.OpenSpec.ofChange s with cond := some uptoSmall }

/-- 'configlanglaw01.FixedText', WHERE WHAT IT READS IS OF BULK AT MOST 1048576: true; the input reads as it did. -/
def fixedTextUptoRow : OpenClaim := { program := "ytopacgchhlnnaaadoor", sum := "0886a8c77521b618d08b9e076b72cba92387b5d75811f048f5ee2aa5fc05902e", func := "configlang/configlanglaw01.FixedText", spec := "fixedText", named := ["internal/strconv.uint64pow10", "math/bits.deBruijn32tab", "math/bits.deBruijn64tab", "math/bits.divideError", "math/bits.overflowError", "strconv.ErrSyntax", "strconv.ErrRange"], apart := false, laid := [("math/bits.deBruijn32tab", laid_math_bits_deBruijn32tab), ("math/bits.deBruijn64tab", laid_math_bits_deBruijn64tab), ("internal/strconv.uint64pow10", laid_internal_strconv_uint64pow10), ("strconv.ErrRange", laid_strconv_ErrRange), ("strconv.ErrSyntax", laid_strconv_ErrSyntax)], narrowed := true }
def FixedTextUptoSaid : Prop := fixedTextUptoRow.holds Tryd.pinned (OpenSpec.upto fixedTextSpec)

/-- 'configlanglaw01.FixedParse', WHERE WHAT IT READS IS OF BULK AT MOST 1048576: true; the input reads as it did. -/
def fixedParseUptoRow : OpenClaim := { program := "ytopacgchhlnnaaadoor", sum := "0886a8c77521b618d08b9e076b72cba92387b5d75811f048f5ee2aa5fc05902e", func := "configlang/configlanglaw01.FixedParse", spec := "fixedParse", named := ["math/bits.divideError", "math/bits.overflowError", "strconv.ErrSyntax", "strconv.ErrRange", "internal/strconv.uint64pow10", "math/bits.deBruijn32tab", "math/bits.deBruijn64tab"], apart := false, laid := [("math/bits.deBruijn32tab", laid_math_bits_deBruijn32tab), ("math/bits.deBruijn64tab", laid_math_bits_deBruijn64tab), ("internal/strconv.uint64pow10", laid_internal_strconv_uint64pow10), ("strconv.ErrRange", laid_strconv_ErrRange), ("strconv.ErrSyntax", laid_strconv_ErrSyntax)], narrowed := true }
def FixedParseUptoSaid : Prop := fixedParseUptoRow.holds Tryd.pinned (OpenSpec.upto fixedParseSpec)

/-- 'configlanglaw01.FixedRoundTrip', WHERE WHAT IT READS IS OF BULK AT MOST 1048576: true; the input reads as it did. -/
def fixedRoundTripUptoRow : OpenClaim := { program := "ytopacgchhlnnaaadoor", sum := "0886a8c77521b618d08b9e076b72cba92387b5d75811f048f5ee2aa5fc05902e", func := "configlang/configlanglaw01.FixedRoundTrip", spec := "fixedRoundTrip", named := ["internal/strconv.uint64pow10", "math/bits.deBruijn32tab", "math/bits.deBruijn64tab", "strconv.ErrSyntax", "strconv.ErrRange", "math/bits.divideError", "math/bits.overflowError"], apart := false, laid := [("math/bits.deBruijn32tab", laid_math_bits_deBruijn32tab), ("math/bits.deBruijn64tab", laid_math_bits_deBruijn64tab), ("internal/strconv.uint64pow10", laid_internal_strconv_uint64pow10), ("strconv.ErrRange", laid_strconv_ErrRange), ("strconv.ErrSyntax", laid_strconv_ErrSyntax)], narrowed := true }
def FixedRoundTripUptoSaid : Prop := fixedRoundTripUptoRow.holds Tryd.pinned (OpenSpec.upto fixedRoundTripSpec)

/-- 'configlanglaw01.FixedProduct', WHERE WHAT IT READS IS OF BULK AT MOST 1048576: true; the input reads as it did. -/
def fixedProductUptoRow : OpenClaim := { program := "ytopacgchhlnnaaadoor", sum := "0886a8c77521b618d08b9e076b72cba92387b5d75811f048f5ee2aa5fc05902e", func := "configlang/configlanglaw01.FixedProduct", spec := "fixedProduct", named := ["math/bits.divideError", "math/bits.overflowError", "strconv.ErrSyntax", "strconv.ErrRange", "internal/strconv.uint64pow10", "math/bits.deBruijn32tab", "math/bits.deBruijn64tab"], apart := false, laid := [("math/bits.deBruijn32tab", laid_math_bits_deBruijn32tab), ("math/bits.deBruijn64tab", laid_math_bits_deBruijn64tab), ("internal/strconv.uint64pow10", laid_internal_strconv_uint64pow10), ("strconv.ErrRange", laid_strconv_ErrRange), ("strconv.ErrSyntax", laid_strconv_ErrSyntax)], narrowed := true }
def FixedProductUptoSaid : Prop := fixedProductUptoRow.holds Tryd.pinned (OpenSpec.upto fixedProductSpec)

/-- 'configlanglaw01.FixedRemainder', WHERE WHAT IT READS IS OF BULK AT MOST 1048576: true; the input reads as it did. -/
def fixedRemainderUptoRow : OpenClaim := { program := "ytopacgchhlnnaaadoor", sum := "0886a8c77521b618d08b9e076b72cba92387b5d75811f048f5ee2aa5fc05902e", func := "configlang/configlanglaw01.FixedRemainder", spec := "fixedRemainder", named := ["math/bits.divideError", "math/bits.overflowError", "strconv.ErrSyntax", "strconv.ErrRange", "internal/strconv.uint64pow10", "math/bits.deBruijn32tab", "math/bits.deBruijn64tab"], apart := false, laid := [("math/bits.deBruijn32tab", laid_math_bits_deBruijn32tab), ("math/bits.deBruijn64tab", laid_math_bits_deBruijn64tab), ("internal/strconv.uint64pow10", laid_internal_strconv_uint64pow10), ("strconv.ErrRange", laid_strconv_ErrRange), ("strconv.ErrSyntax", laid_strconv_ErrSyntax)], narrowed := true }
def FixedRemainderUptoSaid : Prop := fixedRemainderUptoRow.holds Tryd.pinned (OpenSpec.upto fixedRemainderSpec)

/-- 'configlanglaw01.FixedKinds', WHERE WHAT IT READS IS OF BULK AT MOST 1048576: true; the input reads as it did. -/
def fixedKindsUptoRow : OpenClaim := { program := "ytopacgchhlnnaaadoor", sum := "0886a8c77521b618d08b9e076b72cba92387b5d75811f048f5ee2aa5fc05902e", func := "configlang/configlanglaw01.FixedKinds", spec := "fixedKinds", named := ["math/bits.divideError", "math/bits.overflowError", "strconv.ErrSyntax", "strconv.ErrRange", "internal/strconv.uint64pow10", "math/bits.deBruijn32tab", "math/bits.deBruijn64tab"], apart := false, laid := [("math/bits.deBruijn32tab", laid_math_bits_deBruijn32tab), ("math/bits.deBruijn64tab", laid_math_bits_deBruijn64tab), ("internal/strconv.uint64pow10", laid_internal_strconv_uint64pow10), ("strconv.ErrRange", laid_strconv_ErrRange), ("strconv.ErrSyntax", laid_strconv_ErrSyntax)], narrowed := true }
def FixedKindsUptoSaid : Prop := fixedKindsUptoRow.holds Tryd.pinned (OpenSpec.upto fixedKindsSpec)

/-- 'configlanglaw01.FixedCommutes', WHERE WHAT IT READS IS OF BULK AT MOST 1048576: true; the input reads as it did. -/
def fixedCommutesUptoRow : OpenClaim := { program := "ytopacgchhlnnaaadoor", sum := "0886a8c77521b618d08b9e076b72cba92387b5d75811f048f5ee2aa5fc05902e", func := "configlang/configlanglaw01.FixedCommutes", spec := "fixedCommutes", named := ["math/bits.divideError", "math/bits.overflowError", "strconv.ErrSyntax", "strconv.ErrRange", "internal/strconv.uint64pow10", "math/bits.deBruijn32tab", "math/bits.deBruijn64tab"], apart := false, laid := [("math/bits.deBruijn32tab", laid_math_bits_deBruijn32tab), ("math/bits.deBruijn64tab", laid_math_bits_deBruijn64tab), ("internal/strconv.uint64pow10", laid_internal_strconv_uint64pow10), ("strconv.ErrRange", laid_strconv_ErrRange), ("strconv.ErrSyntax", laid_strconv_ErrSyntax)], narrowed := true }
def FixedCommutesUptoSaid : Prop := fixedCommutesUptoRow.holds Tryd.pinned (OpenSpec.upto fixedCommutesSpec)

/-- 'configlanglaw01.FixedArithmetic', WHERE WHAT IT READS IS OF BULK AT MOST 1048576: true; the input reads as it did. -/
def fixedArithmeticUptoRow : OpenClaim := { program := "ytopacgchhlnnaaadoor", sum := "0886a8c77521b618d08b9e076b72cba92387b5d75811f048f5ee2aa5fc05902e", func := "configlang/configlanglaw01.FixedArithmetic", spec := "fixedArithmetic", named := ["math/bits.divideError", "math/bits.overflowError", "strconv.ErrSyntax", "strconv.ErrRange", "internal/strconv.uint64pow10", "math/bits.deBruijn32tab", "math/bits.deBruijn64tab"], apart := false, laid := [("math/bits.deBruijn32tab", laid_math_bits_deBruijn32tab), ("math/bits.deBruijn64tab", laid_math_bits_deBruijn64tab), ("internal/strconv.uint64pow10", laid_internal_strconv_uint64pow10), ("strconv.ErrRange", laid_strconv_ErrRange), ("strconv.ErrSyntax", laid_strconv_ErrSyntax)], narrowed := true }
def FixedArithmeticUptoSaid : Prop := fixedArithmeticUptoRow.holds Tryd.pinned (OpenSpec.upto fixedArithmeticSpec)

/-- 'configlanglaw01.FixedUndoes', WHERE WHAT IT READS IS OF BULK AT MOST 1048576: true; the input reads as it did. -/
def fixedUndoesUptoRow : OpenClaim := { program := "ytopacgchhlnnaaadoor", sum := "0886a8c77521b618d08b9e076b72cba92387b5d75811f048f5ee2aa5fc05902e", func := "configlang/configlanglaw01.FixedUndoes", spec := "fixedUndoes", named := ["math/bits.divideError", "math/bits.overflowError", "strconv.ErrSyntax", "strconv.ErrRange", "internal/strconv.uint64pow10", "math/bits.deBruijn32tab", "math/bits.deBruijn64tab"], apart := false, laid := [("math/bits.deBruijn32tab", laid_math_bits_deBruijn32tab), ("math/bits.deBruijn64tab", laid_math_bits_deBruijn64tab), ("internal/strconv.uint64pow10", laid_internal_strconv_uint64pow10), ("strconv.ErrRange", laid_strconv_ErrRange), ("strconv.ErrSyntax", laid_strconv_ErrSyntax)], narrowed := true }
def FixedUndoesUptoSaid : Prop := fixedUndoesUptoRow.holds Tryd.pinned (OpenSpec.upto fixedUndoesSpec)

end Rows
end Go.Proofs.YtopacgchhlnnaaaDoor
