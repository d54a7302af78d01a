import Derived.OpenShut
import Derived.Test.YtdalfkklkeblaaaGreatDoorN34
import Derived.Test.YtdalfkklkeblaaaGreatDoorYhL
namespace Go.Proofs.YtdalfkklkeblaaaGreatDoor
set_option linter.unusedSimpArgs false
set_option linter.unusedVariables false
open Go.RowKit
theorem lawYamltextNested (a : Int) (st : Bool) (w : World) (ha : (Lit.int .u8 a).wf = true) (hO : StOk w ∧ MaxOk w) :
   Calls Tryz.prog 10 #[.int .u8 a, .bool st] w fun e w' => e = .returned (.bool true) ∧ Below w.heap.size w w' := by
 obtain ⟨h1, h2⟩ := Go.bounds_u8 ha
 obtain ⟨n, rfl⟩ := Int.eq_ofNat_of_zero_le h1
 exact lawYamltextNested_of n (by omega) st w hO.1 (parse_at hO)
end Go.Proofs.YtdalfkklkeblaaaGreatDoor
