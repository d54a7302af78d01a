import Derived.Test.YtdalfkklkeblaaaGreatDoorN34
import Derived.Test.YtdalfkklkeblaaaGreatDoorYhD
import Derived.Test.YtdalfkklkeblaaaGreatDoorYgI
namespace Go.Proofs.YtdalfkklkeblaaaGreatDoor
set_option linter.unusedSimpArgs false
set_option linter.unusedVariables false
open Go.RowKit
theorem lawYamltextReads (l : List UInt8) (w : World) (hO : StOk w ∧ MaxOk w) : Calls Tryz.prog 4 #[.string (S l)] w fun e w' => e = .returned (.bool true) ∧ Below w.heap.size w w' := lawYamltextReads_of l w hO.1 (parse_at hO) (fun l hl w' => rParse_any l hl w')
end Go.Proofs.YtdalfkklkeblaaaGreatDoor
