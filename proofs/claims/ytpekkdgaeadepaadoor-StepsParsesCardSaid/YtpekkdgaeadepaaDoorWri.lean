/- What the reference writes for one byte in a literal: the text 'escB' of the byte, for every byte. -/
import Derived.Test.YtpekkdgaeadepaaDoorEsc
namespace Go.Proofs.YtpekkdgaeadepaaDoor
open Go.RowKit

set_option maxHeartbeats 400000 in
set_option maxRecDepth 100000 in
theorem written_any (c : UInt8) (w : World) : Calls Tryd.prog 59 #[.int .u8 (c.toNat : Int)] w fun e w' => e = .returned (.string (S (escB c))) ∧ Below w.heap.size w w' := by
  have hlt := c.toNat_lt
  by_cases h34 : c = 34
  · subst h34
    go_enter Tryd.func59, Tryd.ntmps59
    go_wp2
    go_ret
    exact ⟨rfl, Below.refl _ _⟩
  by_cases h92 : c = 92
  · subst h92
    go_enter Tryd.func59, Tryd.ntmps59
    go_wp2
    go_ret
    exact ⟨rfl, Below.refl _ _⟩
  by_cases h10 : c = 10
  · subst h10
    go_enter Tryd.func59, Tryd.ntmps59
    go_wp2
    go_ret
    exact ⟨rfl, Below.refl _ _⟩
  by_cases h9 : c = 9
  · subst h9
    go_enter Tryd.func59, Tryd.ntmps59
    go_wp2
    go_ret
    exact ⟨rfl, Below.refl _ _⟩
  by_cases h13 : c = 13
  · subst h13
    go_enter Tryd.func59, Tryd.ntmps59
    go_wp2
    go_ret
    exact ⟨rfl, Below.refl _ _⟩
  have e34 : ((c.toNat : Int) == 34) = false := u8_ne h34
  have e92 : ((c.toNat : Int) == 92) = false := u8_ne h92
  have e10 : ((c.toNat : Int) == 10) = false := u8_ne h10
  have e9 : ((c.toNat : Int) == 9) = false := u8_ne h9
  have e13 : ((c.toNat : Int) == 13) = false := u8_ne h13
  by_cases hp : c < 32 ∨ 126 < c
  · have hb : ¬ (32 ≤ c.toNat ∧ c.toNat ≤ 126) := by
      rcases hp with h | h <;> rw [UInt8.lt_iff_toNat_lt] at h <;> simp at h <;> omega
    have hd : (decide ((c.toNat : Int) < 32) || decide (126 < (c.toNat : Int))) = true := by simp; omega
    have hx : escB c = [92, 120, hexDig (c >>> 4), hexDig (c &&& 15)] := by simp [escB, h34, h92, h10, h9, h13, hp]
    rw [hx]
    have HX := Lib.hid hx
    clear hx hp h34 h92 h10 h9 h13
    have q2 : (0 : Int) ≤ (c.toNat : Int) / 16 := by omega
    have q3 : (c.toNat : Int) / 16 + 1 ≤ 16 := by omega
    have q6 : (0 : Int) ≤ (c.toNat : Int) % 16 := by omega
    have q7 : (c.toNat : Int) % 16 + 1 ≤ 16 := by omega
    have l1 : (sl [48, 49, 50, 51, 52, 53, 54, 55, 56, 57, 97, 98, 99, 100, 101, 102] (c.toNat / 16) (c.toNat / 16 + 1)).length ≤ 1 := by have := sl_le [48, 49, 50, 51, 52, 53, 54, 55, 56, 57, 97, 98, 99, 100, 101, 102] (c.toNat / 16) (c.toNat / 16 + 1); omega
    have l2 : (sl [48, 49, 50, 51, 52, 53, 54, 55, 56, 57, 97, 98, 99, 100, 101, 102] (c.toNat % 16) (c.toNat % 16 + 1)).length ≤ 1 := by have := sl_le [48, 49, 50, 51, 52, 53, 54, 55, 56, 57, 97, 98, 99, 100, 101, 102] (c.toNat % 16) (c.toNat % 16 + 1); omega
    have hfin : ct (ct [92, 120] (sl [48, 49, 50, 51, 52, 53, 54, 55, 56, 57, 97, 98, 99, 100, 101, 102] (c.toNat / 16) (c.toNat / 16 + 1))) (sl [48, 49, 50, 51, 52, 53, 54, 55, 56, 57, 97, 98, 99, 100, 101, 102] (c.toNat % 16) (c.toNat % 16 + 1)) = [92, 120, hexDig (c >>> 4), hexDig (c &&& 15)] :=
      forall_u8 (P := fun c => ct (ct [92, 120] (sl [48, 49, 50, 51, 52, 53, 54, 55, 56, 57, 97, 98, 99, 100, 101, 102] (c.toNat / 16) (c.toNat / 16 + 1))) (sl [48, 49, 50, 51, 52, 53, 54, 55, 56, 57, 97, 98, 99, 100, 101, 102] (c.toNat % 16) (c.toNat % 16 + 1)) = [92, 120, hexDig (c >>> 4), hexDig (c &&& 15)]) (by decide +kernel) c
    have HF := Lib.hid hfin
    clear hfin
    rcases Nat.lt_or_ge c.toNat 32 with h32 | h32
    · go_enter Tryd.func59, Tryd.ntmps59
      go_wp2
      go_quiet (fail)
      go_wp2
      go_ret
      exact ⟨congrArg (fun x => Ending.returned (.string (S x))) HF.out, below_drewN (Below.refl _ _) _⟩
    · have h126 : 126 < c.toNat := by omega
      go_enter Tryd.func59, Tryd.ntmps59
      go_wp2
      go_quiet (fail)
      go_wp2
      go_ret
      exact ⟨congrArg (fun x => Ending.returned (.string (S x))) HF.out, below_drewN (Below.refl _ _) _⟩
  · have hp1 : 32 ≤ c.toNat := by
      have := fun h => hp (.inl h); rw [UInt8.lt_iff_toNat_lt] at this; simp at this; exact this
    have hp2 : c.toNat ≤ 126 := by
      have := fun h => hp (.inr h); rw [UInt8.lt_iff_toNat_lt] at this; simp at this; exact this
    have hx : escB c = [c] := by simp [escB, h34, h92, h10, h9, h13, hp]
    rw [hx]
    have HX := Lib.hid hx
    clear hx hp h34 h92 h10 h9 h13
    have hc := conv_one (P := Tryd.prog) w 33 9 5 5 c 1 Tryd.underlying33 Tryd.underlying5 Tryd.underlying9
    go_enter Tryd.func59, Tryd.ntmps59
    go_wp2
    go_ret
    exact ⟨rfl, (Below.refl _ _).alloc (Nat.le_refl _) _⟩
end Go.Proofs.YtpekkdgaeadepaaDoor
