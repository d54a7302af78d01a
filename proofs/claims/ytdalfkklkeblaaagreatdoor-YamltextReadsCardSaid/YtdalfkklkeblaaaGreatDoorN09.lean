import Derived.Test.YtdalfkklkeblaaaGreatDoorN05
namespace Go.Proofs.YtdalfkklkeblaaaGreatDoor
set_option linter.unusedSimpArgs false
set_option linter.unusedVariables false
abbrev Ent := List Stp × Dat
def clashP (a b : Ent) : Prop := a.1 <+: b.1 ∨ b.1 <+: a.1
instance (a b : Ent) : Decidable (clashP a b) := by unfold clashP; exact inferInstance
def leafB (d : Dat) : Bool := decide (chk d 1 = 0) && d.its.isEmpty && d.mem.isEmpty
end Go.Proofs.YtdalfkklkeblaaaGreatDoor
