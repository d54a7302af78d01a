import Derived.Test.YtdalfkklkeblaaaGreatDoorN01
namespace Go.Proofs.YtdalfkklkeblaaaGreatDoor
set_option linter.unusedSimpArgs false
set_option linter.unusedVariables false
open Go.RowKit
def hexI (c : UInt8) : Int := match hexVal c with | some v => v.toNat | none => -1
theorem hexI_nat (c : UInt8) : hexI c = if 48 ≤ c.toNat ∧ c.toNat ≤ 57 then (c.toNat : Int) - 48 else if 97 ≤ c.toNat ∧ c.toNat ≤ 102 then (c.toNat : Int) - 87 else if 65 ≤ c.toNat ∧ c.toNat ≤ 70 then (c.toNat : Int) - 55 else -1 :=
 forall_u8 (P := fun c => hexI c = if 48 ≤ c.toNat ∧ c.toNat ≤ 57 then (c.toNat : Int) - 48 else if 97 ≤ c.toNat ∧ c.toNat ≤ 102 then (c.toNat : Int) - 87 else if 65 ≤ c.toNat ∧ c.toNat ≤ 70 then (c.toNat : Int) - 55 else -1) (by decide +kernel) c
set_option maxHeartbeats 400000 in
theorem Hex_any (c : UInt8) (w : World) : Calls Tryz.prog 171 #[.int .u8 (c.toNat : Int)] w fun e w' => e = .returned (.int .i64 (hexI c)) ∧ w = w' := by
 have hlt := c.toNat_lt
 have hn := hexI_nat c
 generalize hexI c = b at hn ⊢
 have HN := Lib.hid hn
 clear hn
 have hd := digitB_nat c
 by_cases h0 : 48 ≤ c.toNat ∧ c.toNat ≤ 57
 · have hd' : digitB c = true := by rw [hd]; simpa using h0
   clear hd
   obtain ⟨h1, h2⟩ := h0
   go_enter Tryz.func171, Tryz.ntmps171
   go_wp2_with (go_at_call 47; refine (Digit_any _ _).mono ?_; rintro e w' ⟨rfl, rfl⟩)
   go_ret
   exact ⟨ret_i64 (by rw [HN.out, if_pos ⟨h1, h2⟩]), rfl⟩
 · have hd' : digitB c = false := by rw [hd]; simpa using h0
   clear hd
   go_enter Tryz.func171, Tryz.ntmps171
   go_wp2_with (go_at_call 47; refine (Digit_any _ _).mono ?_; rintro e w' ⟨rfl, rfl⟩)
   all_goals
     go_ret
     exact ⟨ret_i64 (by rw [HN.out, if_neg h0]; (repeat' split) <;> omega), rfl⟩
end Go.Proofs.YtdalfkklkeblaaaGreatDoor
