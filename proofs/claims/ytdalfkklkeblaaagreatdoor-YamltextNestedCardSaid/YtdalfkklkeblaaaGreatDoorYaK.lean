import Derived.Test.YtdalfkklkeblaaaGreatDoorN11
namespace Go.Proofs.YtdalfkklkeblaaaGreatDoor
set_option linter.unusedSimpArgs false
set_option linter.unusedVariables false
def indS : Nat → List UInt8 | 0 => [] | k + 1 => ct (indS k) [32, 32]
def opnS (st : Bool) : Nat → List UInt8 | 0 => [] | k + 1 => ct (ct (ct (opnS st k) (indS k)) (begY st)) [10]
def preS (st : Bool) (n : Nat) : List UInt8 := if n = 0 then [] else ct (ct (ct (opnS st (n - 1)) (indS (n - 1))) (begY st)) [32]
theorem nest_pre : ∀ st : Bool, ∀ n < 40, ct (preS st n) (empY st) = nestT st n ∧ joinLn (nestDoc st n) = ct (ct (preS st n) (empY st)) [10] := by decide +kernel
theorem nest_lens : ∀ st : Bool, ∀ n < 40, (preS st n).length ≤ 2000 ∧ (opnS st n).length ≤ 2000 ∧ (indS n).length ≤ 100 := by decide +kernel
theorem nest_lim (st : Bool) : ∀ n, limD (nestD st n) = true
 | 0 => by cases st <;> rfl
 | n + 1 => by
   have ih := nest_lim st n
   cases st
   · exact lim_iff.2 ⟨Nat.zero_le _, by show (1 : Nat) ≤ _; omega, Nat.zero_le _, fun x hx => by rw [List.mem_singleton.1 hx]; exact ih, (fun x hx => by cases hx)⟩
   · exact lim_iff.2 ⟨Nat.zero_le _, Nat.zero_le _, by show (1 : Nat) ≤ _; omega, (fun x hx => by cases hx), fun x hx => by rw [List.mem_singleton.1 hx]; exact ⟨by show (1 : Nat) ≤ _; omega, ih⟩⟩
end Go.Proofs.YtdalfkklkeblaaaGreatDoor
