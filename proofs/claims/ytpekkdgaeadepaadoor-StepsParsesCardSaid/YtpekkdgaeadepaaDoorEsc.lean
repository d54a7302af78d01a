/- What is written for one byte in a literal: the program's escape and the reference's written return the text 'escB' of the byte, for every byte. -/
import Derived.Test.YtpekkdgaeadepaaDoorChecked
import Derived.Test.YtpekkdgaeadepaaDoorStr
import Derived.Test.YtpekkdgaeadepaaDoorQuo
namespace Go.Proofs.YtpekkdgaeadepaaDoor
open Go.RowKit

theorem infoU8 : (Tryd.prog.info? 5).map (fun i => (i.zero, i.size, i.bytes)) = some (some (.int .u8 0), 1, 1) := by kernel_rfl

set_option maxHeartbeats 400000 in
theorem escape_any (c : UInt8) (w : World) : Calls Tryd.prog 75 #[.int .u8 (c.toNat : Int)] w fun e w' => e = .returned (.string (S (escB c))) ∧ ∃ n, w' = w.drewN n := by
  have hlt := c.toNat_lt
  by_cases h34 : c = 34
  · subst h34
    go_enter Tryd.func75, Tryd.ntmps75
    go_wp2
    go_ret
    exact ⟨rfl, 0, rfl⟩
  by_cases h92 : c = 92
  · subst h92
    go_enter Tryd.func75, Tryd.ntmps75
    go_wp2
    go_ret
    exact ⟨rfl, 0, rfl⟩
  by_cases h10 : c = 10
  · subst h10
    go_enter Tryd.func75, Tryd.ntmps75
    go_wp2
    go_ret
    exact ⟨rfl, 0, rfl⟩
  by_cases h9 : c = 9
  · subst h9
    go_enter Tryd.func75, Tryd.ntmps75
    go_wp2
    go_ret
    exact ⟨rfl, 0, rfl⟩
  by_cases h13 : c = 13
  · subst h13
    go_enter Tryd.func75, Tryd.ntmps75
    go_wp2
    go_ret
    exact ⟨rfl, 0, rfl⟩
  have e34 : ((c.toNat : Int) == 34) = false := u8_ne h34
  have e92 : ((c.toNat : Int) == 92) = false := u8_ne h92
  have e10 : ((c.toNat : Int) == 10) = false := u8_ne h10
  have e9 : ((c.toNat : Int) == 9) = false := u8_ne h9
  have e13 : ((c.toNat : Int) == 13) = false := u8_ne h13
  by_cases hp : c < 32 ∨ 126 < c
  · have hb : ¬ (32 ≤ c.toNat ∧ c.toNat ≤ 126) := by
      rcases hp with h | h <;> rw [UInt8.lt_iff_toNat_lt] at h <;> simp at h <;> omega
    have hd : (decide ((c.toNat : Int) < 32) || decide (126 < (c.toNat : Int))) = true := by simp; omega
    have hx : escB c = [92, 120, hexDig (c >>> 4), hexDig (c &&& 15)] := by simp [escB, h34, h92, h10, h9, h13, hp]
    rw [hx]
    have HX := Lib.hid hx
    clear hx hp h34 h92 h10 h9 h13
    have q2 : (0 : Int) ≤ (c.toNat : Int) / 16 := by omega
    have q3 : (c.toNat : Int) / 16 + 1 ≤ 16 := by omega
    have q6 : (0 : Int) ≤ (c.toNat : Int) % 16 := by omega
    have q7 : (c.toNat : Int) % 16 + 1 ≤ 16 := by omega
    have l1 : (sl [48, 49, 50, 51, 52, 53, 54, 55, 56, 57, 97, 98, 99, 100, 101, 102] (c.toNat / 16) (c.toNat / 16 + 1)).length ≤ 1 := by have := sl_le [48, 49, 50, 51, 52, 53, 54, 55, 56, 57, 97, 98, 99, 100, 101, 102] (c.toNat / 16) (c.toNat / 16 + 1); omega
    have l2 : (sl [48, 49, 50, 51, 52, 53, 54, 55, 56, 57, 97, 98, 99, 100, 101, 102] (c.toNat % 16) (c.toNat % 16 + 1)).length ≤ 1 := by have := sl_le [48, 49, 50, 51, 52, 53, 54, 55, 56, 57, 97, 98, 99, 100, 101, 102] (c.toNat % 16) (c.toNat % 16 + 1); omega
    have hfin : ct (ct [92, 120] (sl [48, 49, 50, 51, 52, 53, 54, 55, 56, 57, 97, 98, 99, 100, 101, 102] (c.toNat / 16) (c.toNat / 16 + 1))) (sl [48, 49, 50, 51, 52, 53, 54, 55, 56, 57, 97, 98, 99, 100, 101, 102] (c.toNat % 16) (c.toNat % 16 + 1)) = [92, 120, hexDig (c >>> 4), hexDig (c &&& 15)] :=
      forall_u8 (P := fun c => ct (ct [92, 120] (sl [48, 49, 50, 51, 52, 53, 54, 55, 56, 57, 97, 98, 99, 100, 101, 102] (c.toNat / 16) (c.toNat / 16 + 1))) (sl [48, 49, 50, 51, 52, 53, 54, 55, 56, 57, 97, 98, 99, 100, 101, 102] (c.toNat % 16) (c.toNat % 16 + 1)) = [92, 120, hexDig (c >>> 4), hexDig (c &&& 15)]) (by decide +kernel) c
    have HF := Lib.hid hfin
    clear hfin
    have q1 : IntKind.u8.wrap ((c.toNat : Int) / 16 + 1) = (c.toNat : Int) / 16 + 1 := IntWalk.u8_in _ (by omega)
    have q4 : bits .and .u8 (c.toNat : Int) 15 = (c.toNat : Int) % 16 := u8_and15 _ (by omega) (by omega)
    have q5 : IntKind.u8.wrap ((c.toNat : Int) % 16 + 1) = (c.toNat : Int) % 16 + 1 := IntWalk.u8_in _ (by omega)
    rcases Nat.lt_or_ge c.toNat 32 with h32 | h32
    · go_enter Tryd.func75, Tryd.ntmps75
      go_wp2
      go_quiet (fail)
      clear q1 q4 q5
      go_wp2
      go_ret
      exact ⟨congrArg (fun x => Ending.returned (.string (S x))) HF.out, _, rfl⟩
    · have h126 : 126 < c.toNat := by omega
      go_enter Tryd.func75, Tryd.ntmps75
      go_wp2
      go_quiet (fail)
      clear q1 q4 q5
      go_wp2
      go_ret
      exact ⟨congrArg (fun x => Ending.returned (.string (S x))) HF.out, _, rfl⟩
  · have hp1 : 32 ≤ c.toNat := by
      have := fun h => hp (.inl h); rw [UInt8.lt_iff_toNat_lt] at this; simp at this; exact this
    have hp2 : c.toNat ≤ 126 := by
      have := fun h => hp (.inr h); rw [UInt8.lt_iff_toNat_lt] at this; simp at this; exact this
    have hx : escB c = [c] := by simp [escB, h34, h92, h10, h9, h13, hp]
    rw [hx]
    have HX := Lib.hid hx
    clear hx hp h34 h92 h10 h9 h13
    go_enter Tryd.func75, Tryd.ntmps75
    go_wp2
    go_ret
    exact ⟨congrArg (fun x => Ending.returned (.string x)) (encode_S c (by omega)), 0, rfl⟩
end Go.Proofs.YtpekkdgaeadepaaDoor
