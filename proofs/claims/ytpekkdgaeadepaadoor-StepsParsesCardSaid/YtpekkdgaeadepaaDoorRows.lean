/-
  NARROWER THAN 'FOR EVERY INPUT', by the rows' own cells (each row's printed sentence says how): StepsTexts: laid · StepsParses: laid · StepsSize: laid · StepsRoundTrip: laid · StepsOnly: laid · StepsOrder: laid · StepsCompares: laid · StepsPrefixes: laid.
  DERIVED. THE GIVEN ROWS OF THIS SEAT. 8 by the template 'for every input the law returns true; each argument reads behind the call as it read before'; 0 by the template 'total and deterministic' (their statements: YtpekkdgaeadepaaDoorTotals.lean).
  GIVEN WITH THE SEED: the statements are not yours to turn. If you find one false, say at which input.
  Laid BY PROGRAM, IN A SANDBOX (cutbox-rows.mjs): the forced cells as the released guide's own fill.sh prints them over the translation fe491a535aadba6d… (all of the seat's roots in one cut). By AI agents, Wed Nov 11 2026. No macro, syntax, notation, axiom, sorry.
-/
import Derived.Test.YtpekkdgaeadepaaDoorChecked
import GoSem.Claim
import GoSem.ClaimJoined
import GoSem.ClaimMapViews
import Derived.JoinedTies
import Derived.KernelRfl
namespace Go.Proofs.YtpekkdgaeadepaaDoor
/- THE CELL 'sum', in the pinned program and in every row, IS THE sha256 OF THE DUMP (.gsa) THAT YtpekkdgaeadepaaDoorProg.lean LOADS. Nothing in Lean hashes anything: it is a label: what it is worth is what the hold of that sum in a sandbox is worth. -/
noncomputable def Tryd.pinned : Pinned := { name := "ytpekkdgaeadepaadoor", sum := "fe491a535aadba6d286c5902a23670ba30e85db094a1c29ed1be18bfffa386bb", checked := Tryd.checked }
namespace Rows
def none {H : Type} : Left H := { results := [], args := [] }

/- WHAT THE LISTED PACKAGE-LEVEL VARIABLES READ AS WHEN THE CALL BEGINS. Each datum BY PROGRAM (the guide's laid-datum.mjs) off the statement by which the dump's own 'gosem.cut.vars' lays the variable. In a bare row this is a premise. The card (YtpekkdgaeadepaaDoorCards.lean) ties it to the program's text. -/
def laid_math_bits_deBruijn32tab {H : Type} : DataW H := .agg [.lit (.int .u8 0), .lit (.int .u8 1), .lit (.int .u8 28), .lit (.int .u8 2), .lit (.int .u8 29), .lit (.int .u8 14), .lit (.int .u8 24), .lit (.int .u8 3), .lit (.int .u8 30), .lit (.int .u8 22), .lit (.int .u8 20), .lit (.int .u8 15), .lit (.int .u8 25), .lit (.int .u8 17), .lit (.int .u8 4), .lit (.int .u8 8), .lit (.int .u8 31), .lit (.int .u8 27), .lit (.int .u8 13), .lit (.int .u8 23), .lit (.int .u8 21), .lit (.int .u8 19), .lit (.int .u8 16), .lit (.int .u8 7), .lit (.int .u8 26), .lit (.int .u8 12), .lit (.int .u8 18), .lit (.int .u8 6), .lit (.int .u8 11), .lit (.int .u8 5), .lit (.int .u8 10), .lit (.int .u8 9)]
def laid_math_bits_deBruijn64tab {H : Type} : DataW H := .agg [.lit (.int .u8 0), .lit (.int .u8 1), .lit (.int .u8 56), .lit (.int .u8 2), .lit (.int .u8 57), .lit (.int .u8 49), .lit (.int .u8 28), .lit (.int .u8 3), .lit (.int .u8 61), .lit (.int .u8 58), .lit (.int .u8 42), .lit (.int .u8 50), .lit (.int .u8 38), .lit (.int .u8 29), .lit (.int .u8 17), .lit (.int .u8 4), .lit (.int .u8 62), .lit (.int .u8 47), .lit (.int .u8 59), .lit (.int .u8 36), .lit (.int .u8 45), .lit (.int .u8 43), .lit (.int .u8 51), .lit (.int .u8 22), .lit (.int .u8 53), .lit (.int .u8 39), .lit (.int .u8 33), .lit (.int .u8 30), .lit (.int .u8 24), .lit (.int .u8 18), .lit (.int .u8 12), .lit (.int .u8 5), .lit (.int .u8 63), .lit (.int .u8 55), .lit (.int .u8 48), .lit (.int .u8 27), .lit (.int .u8 60), .lit (.int .u8 41), .lit (.int .u8 37), .lit (.int .u8 16), .lit (.int .u8 46), .lit (.int .u8 35), .lit (.int .u8 44), .lit (.int .u8 21), .lit (.int .u8 52), .lit (.int .u8 32), .lit (.int .u8 23), .lit (.int .u8 11), .lit (.int .u8 54), .lit (.int .u8 26), .lit (.int .u8 40), .lit (.int .u8 15), .lit (.int .u8 34), .lit (.int .u8 20), .lit (.int .u8 31), .lit (.int .u8 10), .lit (.int .u8 25), .lit (.int .u8 14), .lit (.int .u8 19), .lit (.int .u8 9), .lit (.int .u8 13), .lit (.int .u8 8), .lit (.int .u8 7), .lit (.int .u8 6)]
def laid_internal_strconv_uint64pow10 {H : Type} : DataW H := .agg [.lit (.int .u64 1), .lit (.int .u64 10), .lit (.int .u64 100), .lit (.int .u64 1000), .lit (.int .u64 10000), .lit (.int .u64 100000), .lit (.int .u64 1000000), .lit (.int .u64 10000000), .lit (.int .u64 100000000), .lit (.int .u64 1000000000), .lit (.int .u64 10000000000), .lit (.int .u64 100000000000), .lit (.int .u64 1000000000000), .lit (.int .u64 10000000000000), .lit (.int .u64 100000000000000), .lit (.int .u64 1000000000000000), .lit (.int .u64 10000000000000000), .lit (.int .u64 100000000000000000), .lit (.int .u64 1000000000000000000), .lit (.int .u64 10000000000000000000)]
def laid_strconv_ErrRange {H : Type} : DataW H := .iface "*errors.errorString" (.ptr (.agg [.lit (.string [118, 97, 108, 117, 101, 32, 111, 117, 116, 32, 111, 102, 32, 114, 97, 110, 103, 101])]))
def laid_strconv_ErrSyntax {H : Type} : DataW H := .iface "*errors.errorString" (.ptr (.agg [.lit (.string [105, 110, 118, 97, 108, 105, 100, 32, 115, 121, 110, 116, 97, 120])]))

/-- 'configlanglaw10.StepsTexts': WHATEVER THE INPUT: true; the input reads as it did. -/
def stepsTextsSpec : ChangeSpec := { name := "stepsTexts", fn := fun _ => fun
  | [d] => { results := [.lit (.bool true)], args := [d] }
  | _ => none }
def stepsTextsRow : OpenClaim := { program := "ytpekkdgaeadepaadoor", sum := "fe491a535aadba6d286c5902a23670ba30e85db094a1c29ed1be18bfffa386bb", func := "configlang/configlanglaw10.StepsTexts", spec := "stepsTexts", unfollowed := true, recurses := true, named := ["strconv.ErrSyntax", "strconv.ErrRange", "internal/strconv.uint64pow10", "math/bits.deBruijn32tab", "math/bits.deBruijn64tab"], apart := false, laid := [("math/bits.deBruijn32tab", laid_math_bits_deBruijn32tab), ("math/bits.deBruijn64tab", laid_math_bits_deBruijn64tab), ("internal/strconv.uint64pow10", laid_internal_strconv_uint64pow10), ("strconv.ErrRange", laid_strconv_ErrRange), ("strconv.ErrSyntax", laid_strconv_ErrSyntax)] }
def StepsTextsSaid : Prop := stepsTextsRow.holds Tryd.pinned (OpenSpec.ofChange stepsTextsSpec)

/-- ITS FALSE NEIGHBOUR: 'it returns false'. Refute it at one input. -/
def stepsTextsWrong : ChangeSpec := { name := "stepsTexts", fn := fun _ => fun
  | [d] => { results := [.lit (.bool false)], args := [d] }
  | _ => none }
def StepsTextsWrongFalsely : Prop := stepsTextsRow.holds Tryd.pinned (OpenSpec.ofChange stepsTextsWrong)

/-- 'configlanglaw10.StepsParses': WHATEVER THE INPUT: true; the input reads as it did. -/
def stepsParsesSpec : ChangeSpec := { name := "stepsParses", fn := fun _ => fun
  | [d] => { results := [.lit (.bool true)], args := [d] }
  | _ => none }
def stepsParsesRow : OpenClaim := { program := "ytpekkdgaeadepaadoor", sum := "fe491a535aadba6d286c5902a23670ba30e85db094a1c29ed1be18bfffa386bb", func := "configlang/configlanglaw10.StepsParses", spec := "stepsParses", unfollowed := true, recurses := true, named := ["strconv.ErrSyntax", "strconv.ErrRange", "internal/strconv.uint64pow10", "math/bits.deBruijn32tab", "math/bits.deBruijn64tab"], apart := false, laid := [("math/bits.deBruijn32tab", laid_math_bits_deBruijn32tab), ("math/bits.deBruijn64tab", laid_math_bits_deBruijn64tab), ("internal/strconv.uint64pow10", laid_internal_strconv_uint64pow10), ("strconv.ErrRange", laid_strconv_ErrRange), ("strconv.ErrSyntax", laid_strconv_ErrSyntax)] }
def StepsParsesSaid : Prop := stepsParsesRow.holds Tryd.pinned (OpenSpec.ofChange stepsParsesSpec)

/-- ITS FALSE NEIGHBOUR: 'it returns false'. Refute it at one input. -/
def stepsParsesWrong : ChangeSpec := { name := "stepsParses", fn := fun _ => fun
  | [d] => { results := [.lit (.bool false)], args := [d] }
  | _ => none }
def StepsParsesWrongFalsely : Prop := stepsParsesRow.holds Tryd.pinned (OpenSpec.ofChange stepsParsesWrong)

/-- 'configlanglaw10.StepsSize': WHATEVER THE INPUT: true; the input reads as it did. -/
def stepsSizeSpec : ChangeSpec := { name := "stepsSize", fn := fun _ => fun
  | [d] => { results := [.lit (.bool true)], args := [d] }
  | _ => none }
def stepsSizeRow : OpenClaim := { program := "ytpekkdgaeadepaadoor", sum := "fe491a535aadba6d286c5902a23670ba30e85db094a1c29ed1be18bfffa386bb", func := "configlang/configlanglaw10.StepsSize", spec := "stepsSize", unfollowed := true, recurses := true, named := ["strconv.ErrSyntax", "strconv.ErrRange", "internal/strconv.uint64pow10", "math/bits.deBruijn32tab", "math/bits.deBruijn64tab"], apart := false, laid := [("math/bits.deBruijn32tab", laid_math_bits_deBruijn32tab), ("math/bits.deBruijn64tab", laid_math_bits_deBruijn64tab), ("internal/strconv.uint64pow10", laid_internal_strconv_uint64pow10), ("strconv.ErrRange", laid_strconv_ErrRange), ("strconv.ErrSyntax", laid_strconv_ErrSyntax)] }
def StepsSizeSaid : Prop := stepsSizeRow.holds Tryd.pinned (OpenSpec.ofChange stepsSizeSpec)

/-- ITS FALSE NEIGHBOUR: 'it returns false'. Refute it at one input. -/
def stepsSizeWrong : ChangeSpec := { name := "stepsSize", fn := fun _ => fun
  | [d] => { results := [.lit (.bool false)], args := [d] }
  | _ => none }
def StepsSizeWrongFalsely : Prop := stepsSizeRow.holds Tryd.pinned (OpenSpec.ofChange stepsSizeWrong)

/-- 'configlanglaw10.StepsRoundTrip': WHATEVER THE INPUT: true; the input reads as it did. -/
def stepsRoundTripSpec : ChangeSpec := { name := "stepsRoundTrip", fn := fun _ => fun
  | [d1, d2] => { results := [.lit (.bool true)], args := [d1, d2] }
  | _ => none }
def stepsRoundTripRow : OpenClaim := { program := "ytpekkdgaeadepaadoor", sum := "fe491a535aadba6d286c5902a23670ba30e85db094a1c29ed1be18bfffa386bb", func := "configlang/configlanglaw10.StepsRoundTrip", spec := "stepsRoundTrip", unfollowed := true, recurses := true, named := ["strconv.ErrSyntax", "strconv.ErrRange", "internal/strconv.uint64pow10", "math/bits.deBruijn32tab", "math/bits.deBruijn64tab"], apart := false, laid := [("math/bits.deBruijn32tab", laid_math_bits_deBruijn32tab), ("math/bits.deBruijn64tab", laid_math_bits_deBruijn64tab), ("internal/strconv.uint64pow10", laid_internal_strconv_uint64pow10), ("strconv.ErrRange", laid_strconv_ErrRange), ("strconv.ErrSyntax", laid_strconv_ErrSyntax)] }
def StepsRoundTripSaid : Prop := stepsRoundTripRow.holds Tryd.pinned (OpenSpec.ofChange stepsRoundTripSpec)

/-- ITS FALSE NEIGHBOUR: 'it returns false'. Refute it at one input. -/
def stepsRoundTripWrong : ChangeSpec := { name := "stepsRoundTrip", fn := fun _ => fun
  | [d1, d2] => { results := [.lit (.bool false)], args := [d1, d2] }
  | _ => none }
def StepsRoundTripWrongFalsely : Prop := stepsRoundTripRow.holds Tryd.pinned (OpenSpec.ofChange stepsRoundTripWrong)

/-- 'configlanglaw10.StepsOnly': WHATEVER THE INPUT: true; the input reads as it did. -/
def stepsOnlySpec : ChangeSpec := { name := "stepsOnly", fn := fun _ => fun
  | [d] => { results := [.lit (.bool true)], args := [d] }
  | _ => none }
def stepsOnlyRow : OpenClaim := { program := "ytpekkdgaeadepaadoor", sum := "fe491a535aadba6d286c5902a23670ba30e85db094a1c29ed1be18bfffa386bb", func := "configlang/configlanglaw10.StepsOnly", spec := "stepsOnly", unfollowed := true, recurses := true, named := ["strconv.ErrSyntax", "strconv.ErrRange", "internal/strconv.uint64pow10", "math/bits.deBruijn32tab", "math/bits.deBruijn64tab"], apart := false, laid := [("math/bits.deBruijn32tab", laid_math_bits_deBruijn32tab), ("math/bits.deBruijn64tab", laid_math_bits_deBruijn64tab), ("internal/strconv.uint64pow10", laid_internal_strconv_uint64pow10), ("strconv.ErrRange", laid_strconv_ErrRange), ("strconv.ErrSyntax", laid_strconv_ErrSyntax)] }
def StepsOnlySaid : Prop := stepsOnlyRow.holds Tryd.pinned (OpenSpec.ofChange stepsOnlySpec)

/-- ITS FALSE NEIGHBOUR: 'it returns false'. Refute it at one input. -/
def stepsOnlyWrong : ChangeSpec := { name := "stepsOnly", fn := fun _ => fun
  | [d] => { results := [.lit (.bool false)], args := [d] }
  | _ => none }
def StepsOnlyWrongFalsely : Prop := stepsOnlyRow.holds Tryd.pinned (OpenSpec.ofChange stepsOnlyWrong)

/-- 'configlanglaw10.StepsOrder': WHATEVER THE INPUT: true; the input reads as it did. -/
def stepsOrderSpec : ChangeSpec := { name := "stepsOrder", fn := fun _ => fun
  | [d1, d2, d3] => { results := [.lit (.bool true)], args := [d1, d2, d3] }
  | _ => none }
def stepsOrderRow : OpenClaim := { program := "ytpekkdgaeadepaadoor", sum := "fe491a535aadba6d286c5902a23670ba30e85db094a1c29ed1be18bfffa386bb", func := "configlang/configlanglaw10.StepsOrder", spec := "stepsOrder", unfollowed := true, recurses := true, named := ["strconv.ErrSyntax", "strconv.ErrRange", "internal/strconv.uint64pow10", "math/bits.deBruijn32tab", "math/bits.deBruijn64tab"], apart := false, laid := [("math/bits.deBruijn32tab", laid_math_bits_deBruijn32tab), ("math/bits.deBruijn64tab", laid_math_bits_deBruijn64tab), ("internal/strconv.uint64pow10", laid_internal_strconv_uint64pow10), ("strconv.ErrRange", laid_strconv_ErrRange), ("strconv.ErrSyntax", laid_strconv_ErrSyntax)] }
def StepsOrderSaid : Prop := stepsOrderRow.holds Tryd.pinned (OpenSpec.ofChange stepsOrderSpec)

/-- ITS FALSE NEIGHBOUR: 'it returns false'. Refute it at one input. -/
def stepsOrderWrong : ChangeSpec := { name := "stepsOrder", fn := fun _ => fun
  | [d1, d2, d3] => { results := [.lit (.bool false)], args := [d1, d2, d3] }
  | _ => none }
def StepsOrderWrongFalsely : Prop := stepsOrderRow.holds Tryd.pinned (OpenSpec.ofChange stepsOrderWrong)

/-- 'configlanglaw10.StepsCompares': WHATEVER THE INPUT: true; the input reads as it did. -/
def stepsComparesSpec : ChangeSpec := { name := "stepsCompares", fn := fun _ => fun
  | [d1, d2] => { results := [.lit (.bool true)], args := [d1, d2] }
  | _ => none }
def stepsComparesRow : OpenClaim := { program := "ytpekkdgaeadepaadoor", sum := "fe491a535aadba6d286c5902a23670ba30e85db094a1c29ed1be18bfffa386bb", func := "configlang/configlanglaw10.StepsCompares", spec := "stepsCompares", unfollowed := true, recurses := true, named := ["strconv.ErrSyntax", "strconv.ErrRange", "internal/strconv.uint64pow10", "math/bits.deBruijn32tab", "math/bits.deBruijn64tab"], apart := false, laid := [("math/bits.deBruijn32tab", laid_math_bits_deBruijn32tab), ("math/bits.deBruijn64tab", laid_math_bits_deBruijn64tab), ("internal/strconv.uint64pow10", laid_internal_strconv_uint64pow10), ("strconv.ErrRange", laid_strconv_ErrRange), ("strconv.ErrSyntax", laid_strconv_ErrSyntax)] }
def StepsComparesSaid : Prop := stepsComparesRow.holds Tryd.pinned (OpenSpec.ofChange stepsComparesSpec)

/-- ITS FALSE NEIGHBOUR: 'it returns false'. Refute it at one input. -/
def stepsComparesWrong : ChangeSpec := { name := "stepsCompares", fn := fun _ => fun
  | [d1, d2] => { results := [.lit (.bool false)], args := [d1, d2] }
  | _ => none }
def StepsComparesWrongFalsely : Prop := stepsComparesRow.holds Tryd.pinned (OpenSpec.ofChange stepsComparesWrong)

/-- 'configlanglaw10.StepsPrefixes': WHATEVER THE INPUT: true; the input reads as it did. -/
def stepsPrefixesSpec : ChangeSpec := { name := "stepsPrefixes", fn := fun _ => fun
  | [d1, d2] => { results := [.lit (.bool true)], args := [d1, d2] }
  | _ => none }
def stepsPrefixesRow : OpenClaim := { program := "ytpekkdgaeadepaadoor", sum := "fe491a535aadba6d286c5902a23670ba30e85db094a1c29ed1be18bfffa386bb", func := "configlang/configlanglaw10.StepsPrefixes", spec := "stepsPrefixes", unfollowed := true, recurses := true, named := ["strconv.ErrSyntax", "strconv.ErrRange", "internal/strconv.uint64pow10", "math/bits.deBruijn32tab", "math/bits.deBruijn64tab"], apart := false, laid := [("math/bits.deBruijn32tab", laid_math_bits_deBruijn32tab), ("math/bits.deBruijn64tab", laid_math_bits_deBruijn64tab), ("internal/strconv.uint64pow10", laid_internal_strconv_uint64pow10), ("strconv.ErrRange", laid_strconv_ErrRange), ("strconv.ErrSyntax", laid_strconv_ErrSyntax)] }
def StepsPrefixesSaid : Prop := stepsPrefixesRow.holds Tryd.pinned (OpenSpec.ofChange stepsPrefixesSpec)

/-- ITS FALSE NEIGHBOUR: 'it returns false'. Refute it at one input. -/
def stepsPrefixesWrong : ChangeSpec := { name := "stepsPrefixes", fn := fun _ => fun
  | [d1, d2] => { results := [.lit (.bool false)], args := [d1, d2] }
  | _ => none }
def StepsPrefixesWrongFalsely : Prop := stepsPrefixesRow.holds Tryd.pinned (OpenSpec.ofChange stepsPrefixesWrong)

/- THE SECOND FORM. 'bulk': how many values and letters a reading holds, each counted each time it is reached (what is shared counts as often as it is met; a slice's spare places count too). A statement '..UptoSaid' is the law's where the arguments, and the package variables that the reading takes, are together of bulk at most 1048576: NARROWER than '..Said'. Prove '..Said' where nothing that the law and all that it calls make is longer than what came in: it says more and counts as full. Else prove '..UptoSaid'. A law counts once. -/
mutual
def uptoBulk {H : Type} : DataW H → Nat
  | .lit (.string bytes) => bytes.length + 1
  | .lit _ => 1
  | .nil => 1
  | .ptr d => uptoBulk d + 1
  | .slice elems spare => uptoBulkAll elems + uptoBulkAll spare + 1
  | .agg parts => uptoBulkAll parts + 1
  | .iface _ d => uptoBulk d + 1
  | .map entries => uptoBulkEntries entries + 1
  | .held _ => 1
def uptoBulkAll {H : Type} : List (DataW H) → Nat
  | [] => 0
  | d :: r => uptoBulk d + uptoBulkAll r
def uptoBulkEntries {H : Type} : List (Lit × DataW H) → Nat
  | [] => 0
  | x :: r => uptoBulkEntry x + uptoBulkEntries r
def uptoBulkEntry {H : Type} : Lit × DataW H → Nat
  | (.string bytes, d) => bytes.length + uptoBulk d + 1
  | (_, d) => uptoBulk d + 1
 end
def uptoSmall : (H : Type) → List (DataW H) → Bool := fun _ ds => decide (uptoBulkAll ds ≤ 1048576)
def OpenSpec.upto (s : _root_.Go.ChangeSpec) : _root_.Go.OpenSpec := { _root_.Go.OpenSpec.ofChange s with cond := some uptoSmall }

/-- 'configlanglaw10.StepsTexts', WHERE WHAT IT READS IS OF BULK AT MOST 1048576: true; the input reads as it did. -/
def stepsTextsUptoRow : OpenClaim := { program := "ytpekkdgaeadepaadoor", sum := "fe491a535aadba6d286c5902a23670ba30e85db094a1c29ed1be18bfffa386bb", func := "configlang/configlanglaw10.StepsTexts", spec := "stepsTexts", unfollowed := true, recurses := true, named := ["strconv.ErrSyntax", "strconv.ErrRange", "internal/strconv.uint64pow10", "math/bits.deBruijn32tab", "math/bits.deBruijn64tab"], apart := false, laid := [("math/bits.deBruijn32tab", laid_math_bits_deBruijn32tab), ("math/bits.deBruijn64tab", laid_math_bits_deBruijn64tab), ("internal/strconv.uint64pow10", laid_internal_strconv_uint64pow10), ("strconv.ErrRange", laid_strconv_ErrRange), ("strconv.ErrSyntax", laid_strconv_ErrSyntax)], narrowed := true }
def StepsTextsUptoSaid : Prop := stepsTextsUptoRow.holds Tryd.pinned (OpenSpec.upto stepsTextsSpec)

/-- 'configlanglaw10.StepsParses', WHERE WHAT IT READS IS OF BULK AT MOST 1048576: true; the input reads as it did. -/
def stepsParsesUptoRow : OpenClaim := { program := "ytpekkdgaeadepaadoor", sum := "fe491a535aadba6d286c5902a23670ba30e85db094a1c29ed1be18bfffa386bb", func := "configlang/configlanglaw10.StepsParses", spec := "stepsParses", unfollowed := true, recurses := true, named := ["strconv.ErrSyntax", "strconv.ErrRange", "internal/strconv.uint64pow10", "math/bits.deBruijn32tab", "math/bits.deBruijn64tab"], apart := false, laid := [("math/bits.deBruijn32tab", laid_math_bits_deBruijn32tab), ("math/bits.deBruijn64tab", laid_math_bits_deBruijn64tab), ("internal/strconv.uint64pow10", laid_internal_strconv_uint64pow10), ("strconv.ErrRange", laid_strconv_ErrRange), ("strconv.ErrSyntax", laid_strconv_ErrSyntax)], narrowed := true }
def StepsParsesUptoSaid : Prop := stepsParsesUptoRow.holds Tryd.pinned (OpenSpec.upto stepsParsesSpec)

/-- 'configlanglaw10.StepsSize', WHERE WHAT IT READS IS OF BULK AT MOST 1048576: true; the input reads as it did. -/
def stepsSizeUptoRow : OpenClaim := { program := "ytpekkdgaeadepaadoor", sum := "fe491a535aadba6d286c5902a23670ba30e85db094a1c29ed1be18bfffa386bb", func := "configlang/configlanglaw10.StepsSize", spec := "stepsSize", unfollowed := true, recurses := true, named := ["strconv.ErrSyntax", "strconv.ErrRange", "internal/strconv.uint64pow10", "math/bits.deBruijn32tab", "math/bits.deBruijn64tab"], apart := false, laid := [("math/bits.deBruijn32tab", laid_math_bits_deBruijn32tab), ("math/bits.deBruijn64tab", laid_math_bits_deBruijn64tab), ("internal/strconv.uint64pow10", laid_internal_strconv_uint64pow10), ("strconv.ErrRange", laid_strconv_ErrRange), ("strconv.ErrSyntax", laid_strconv_ErrSyntax)], narrowed := true }
def StepsSizeUptoSaid : Prop := stepsSizeUptoRow.holds Tryd.pinned (OpenSpec.upto stepsSizeSpec)

/-- 'configlanglaw10.StepsRoundTrip', WHERE WHAT IT READS IS OF BULK AT MOST 1048576: true; the input reads as it did. -/
def stepsRoundTripUptoRow : OpenClaim := { program := "ytpekkdgaeadepaadoor", sum := "fe491a535aadba6d286c5902a23670ba30e85db094a1c29ed1be18bfffa386bb", func := "configlang/configlanglaw10.StepsRoundTrip", spec := "stepsRoundTrip", unfollowed := true, recurses := true, named := ["strconv.ErrSyntax", "strconv.ErrRange", "internal/strconv.uint64pow10", "math/bits.deBruijn32tab", "math/bits.deBruijn64tab"], apart := false, laid := [("math/bits.deBruijn32tab", laid_math_bits_deBruijn32tab), ("math/bits.deBruijn64tab", laid_math_bits_deBruijn64tab), ("internal/strconv.uint64pow10", laid_internal_strconv_uint64pow10), ("strconv.ErrRange", laid_strconv_ErrRange), ("strconv.ErrSyntax", laid_strconv_ErrSyntax)], narrowed := true }
def StepsRoundTripUptoSaid : Prop := stepsRoundTripUptoRow.holds Tryd.pinned (OpenSpec.upto stepsRoundTripSpec)

/-- 'configlanglaw10.StepsOnly', WHERE WHAT IT READS IS OF BULK AT MOST 1048576: true; the input reads as it did. -/
def stepsOnlyUptoRow : OpenClaim := { program := "ytpekkdgaeadepaadoor", sum := "fe491a535aadba6d286c5902a23670ba30e85db094a1c29ed1be18bfffa386bb", func := "configlang/configlanglaw10.StepsOnly", spec := "stepsOnly", unfollowed := true, recurses := true, named := ["strconv.ErrSyntax", "strconv.ErrRange", "internal/strconv.uint64pow10", "math/bits.deBruijn32tab", "math/bits.deBruijn64tab"], apart := false, laid := [("math/bits.deBruijn32tab", laid_math_bits_deBruijn32tab), ("math/bits.deBruijn64tab", laid_math_bits_deBruijn64tab), ("internal/strconv.uint64pow10", laid_internal_strconv_uint64pow10), ("strconv.ErrRange", laid_strconv_ErrRange), ("strconv.ErrSyntax", laid_strconv_ErrSyntax)], narrowed := true }
def StepsOnlyUptoSaid : Prop := stepsOnlyUptoRow.holds Tryd.pinned (OpenSpec.upto stepsOnlySpec)

/-- 'configlanglaw10.StepsOrder', WHERE WHAT IT READS IS OF BULK AT MOST 1048576: true; the input reads as it did. -/
def stepsOrderUptoRow : OpenClaim := { program := "ytpekkdgaeadepaadoor", sum := "fe491a535aadba6d286c5902a23670ba30e85db094a1c29ed1be18bfffa386bb", func := "configlang/configlanglaw10.StepsOrder", spec := "stepsOrder", unfollowed := true, recurses := true, named := ["strconv.ErrSyntax", "strconv.ErrRange", "internal/strconv.uint64pow10", "math/bits.deBruijn32tab", "math/bits.deBruijn64tab"], apart := false, laid := [("math/bits.deBruijn32tab", laid_math_bits_deBruijn32tab), ("math/bits.deBruijn64tab", laid_math_bits_deBruijn64tab), ("internal/strconv.uint64pow10", laid_internal_strconv_uint64pow10), ("strconv.ErrRange", laid_strconv_ErrRange), ("strconv.ErrSyntax", laid_strconv_ErrSyntax)], narrowed := true }
def StepsOrderUptoSaid : Prop := stepsOrderUptoRow.holds Tryd.pinned (OpenSpec.upto stepsOrderSpec)

/-- 'configlanglaw10.StepsCompares', WHERE WHAT IT READS IS OF BULK AT MOST 1048576: true; the input reads as it did. -/
def stepsComparesUptoRow : OpenClaim := { program := "ytpekkdgaeadepaadoor", sum := "fe491a535aadba6d286c5902a23670ba30e85db094a1c29ed1be18bfffa386bb", func := "configlang/configlanglaw10.StepsCompares", spec := "stepsCompares", unfollowed := true, recurses := true, named := ["strconv.ErrSyntax", "strconv.ErrRange", "internal/strconv.uint64pow10", "math/bits.deBruijn32tab", "math/bits.deBruijn64tab"], apart := false, laid := [("math/bits.deBruijn32tab", laid_math_bits_deBruijn32tab), ("math/bits.deBruijn64tab", laid_math_bits_deBruijn64tab), ("internal/strconv.uint64pow10", laid_internal_strconv_uint64pow10), ("strconv.ErrRange", laid_strconv_ErrRange), ("strconv.ErrSyntax", laid_strconv_ErrSyntax)], narrowed := true }
def StepsComparesUptoSaid : Prop := stepsComparesUptoRow.holds Tryd.pinned (OpenSpec.upto stepsComparesSpec)

/-- 'configlanglaw10.StepsPrefixes', WHERE WHAT IT READS IS OF BULK AT MOST 1048576: true; the input reads as it did. -/
def stepsPrefixesUptoRow : OpenClaim := { program := "ytpekkdgaeadepaadoor", sum := "fe491a535aadba6d286c5902a23670ba30e85db094a1c29ed1be18bfffa386bb", func := "configlang/configlanglaw10.StepsPrefixes", spec := "stepsPrefixes", unfollowed := true, recurses := true, named := ["strconv.ErrSyntax", "strconv.ErrRange", "internal/strconv.uint64pow10", "math/bits.deBruijn32tab", "math/bits.deBruijn64tab"], apart := false, laid := [("math/bits.deBruijn32tab", laid_math_bits_deBruijn32tab), ("math/bits.deBruijn64tab", laid_math_bits_deBruijn64tab), ("internal/strconv.uint64pow10", laid_internal_strconv_uint64pow10), ("strconv.ErrRange", laid_strconv_ErrRange), ("strconv.ErrSyntax", laid_strconv_ErrSyntax)], narrowed := true }
def StepsPrefixesUptoSaid : Prop := stepsPrefixesUptoRow.holds Tryd.pinned (OpenSpec.upto stepsPrefixesSpec)

end Rows
end Go.Proofs.YtpekkdgaeadepaaDoor
