/- Hexadecimal digits and escapes: the reference's Hex and Escape. -/
import Derived.Test.YtpekkdgaeadepaaDoorByt
namespace Go.Proofs.YtpekkdgaeadepaaDoor
open Go.RowKit

/-- the value of a hexadecimal digit, or -1 -/
def hexI (c : UInt8) : Int := match hexVal c with | some v => v.toNat | none => -1
theorem hexI_nat (c : UInt8) : hexI c = if 48 ≤ c.toNat ∧ c.toNat ≤ 57 then (c.toNat : Int) - 48 else if 97 ≤ c.toNat ∧ c.toNat ≤ 102 then (c.toNat : Int) - 87 else if 65 ≤ c.toNat ∧ c.toNat ≤ 70 then (c.toNat : Int) - 55 else -1 :=
  forall_u8 (P := fun c => hexI c = if 48 ≤ c.toNat ∧ c.toNat ≤ 57 then (c.toNat : Int) - 48 else if 97 ≤ c.toNat ∧ c.toNat ≤ 102 then (c.toNat : Int) - 87 else if 65 ≤ c.toNat ∧ c.toNat ≤ 70 then (c.toNat : Int) - 55 else -1) (by decide +kernel) c

end Go.Proofs.YtpekkdgaeadepaaDoor