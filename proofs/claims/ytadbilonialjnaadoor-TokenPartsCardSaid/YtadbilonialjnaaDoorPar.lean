/- strconv.ParseUint of two bytes at base 16 and 8 bits: the value of two hexadecimal digits, or an error. -/
import Derived.Test.YtadbilonialjnaaDoorHex
import Derived.Lib.ConvBytes
import Derived.Lib.SmallJoins
namespace Go.Proofs.YtadbilonialjnaaDoor
open Go.RowKit

/-- the byte with the bit of the small letters -/
def low (c : UInt8) : UInt8 := c ||| 32
theorem hexI_lower (c : UInt8) : hexI c = if 48 ≤ c.toNat ∧ c.toNat ≤ 57 then (c.toNat : Int) - 48 else if 97 ≤ (low c).toNat ∧ (low c).toNat ≤ 102 then ((low c).toNat : Int) - 87 else -1 :=
  forall_u8 (P := fun c => hexI c = if 48 ≤ c.toNat ∧ c.toNat ≤ 57 then (c.toNat : Int) - 48 else if 97 ≤ (low c).toNat ∧ (low c).toNat ≤ 102 then ((low c).toNat : Int) - 87 else -1) (by decide +kernel) c
theorem or32 (c : UInt8) : bits .or .u8 (c.toNat : Int) 32 = ((low c).toNat : Int) :=
  forall_u8 (P := fun c => bits .or .u8 (c.toNat : Int) 32 = ((low c).toNat : Int)) (by decide +kernel) c

set_option maxHeartbeats 400000 in
theorem lower_any (c : UInt8) (w : World) : Calls Tryd.prog 70 #[.int .u8 (c.toNat : Int)] w fun e w' => e = .returned (.int .u8 ((low c).toNat : Int)) ∧ w = w' := by
  have ho := or32 c
  go_enter Tryd.func70, Tryd.ntmps70
  go_wp2
  go_ret
  exact ⟨rfl, rfl⟩

/-- what comes back: the number, or an error -/
def pu16 (a b : UInt8) : Value := if 0 ≤ hexI a ∧ 0 ≤ hexI b then .tuple #[.int .u64 (16 * hexI a + hexI b), .nilIface] else .tuple #[.int .u64 0, .iface 91 (.int .i64 2)]

theorem lo48 (c : UInt8) (h : c.toNat < 48) : (low c).toNat < 97 :=
  forall_u8 (P := fun c => c.toNat < 48 → (low c).toNat < 97) (by decide +kernel) c h

set_option maxHeartbeats 4000000 in
set_option maxRecDepth 100000 in
theorem ParseUint16_in (a b : UInt8) (w : World) : Calls Tryd.prog 58 #[.string (S [a, b]), .int .i64 16, .int .i64 8] w fun e w' => e = .returned (pu16 a b) ∧ Below w.heap.size w w' := by
  have hcv := Lib.run_convert_string_bytes (P := Tryd.prog) w 9 43 5 (S [a, b]) (u := .string) Tryd.underlying9 Tryd.underlying43 Tryd.underlying5
  have hsz : (S [a, b]).size = 2 := rfl
  rw [hsz] at hcv
  clear hsz
  have hB0 : (Lib.bytesWorld w 5 (S [a, b])).cell? ⟨w.heap.size, 0, none⟩ = some (.int .u8 (a.toNat : Int)) := Lib.bytesWorld_cell w 5 (S [a, b]) 0 (by show 0 < 2; omega)
  have hB1 : (Lib.bytesWorld w 5 (S [a, b])).cell? ⟨w.heap.size, 1, none⟩ = some (.int .u8 (b.toNat : Int)) := Lib.bytesWorld_cell w 5 (S [a, b]) 1 (by show 1 < 2; omega)
  have hbel : Below w.heap.size w (Lib.bytesWorld w 5 (S [a, b])) := Joins.below_bytesWorld _ w _ _ (Nat.le_refl _)
  obtain ⟨W1, hW1⟩ : ∃ W1, W1 = Lib.bytesWorld w 5 (S [a, b]) := ⟨_, rfl⟩
  rw [← hW1] at hcv hB0 hB1 hbel
  clear hW1
  generalize hp : pu16 a b = r
  unfold pu16 at hp
  have HP := Lib.hid hp
  clear hp
  have ha := hexI_lower a
  have hb := hexI_lower b
  have la := a.toNat_lt
  have lb := b.toNat_lt
  have la' := (low a).toNat_lt
  have lb' := (low b).toNat_lt
  generalize hexI a = va at ha HP
  generalize hexI b = vb at hb HP
  have HA := Lib.hid ha
  have HB := Lib.hid hb
  clear ha hb
  go_enter Tryd.func58, Tryd.ntmps58
  go_wp2_with fail
  clear hcv
  go_loop [12, 13, 101] (fun vu vn vi => ∃ (k : Nat) (n : Int), vu = .bool false ∧ vn = .int .u64 n ∧ vi = .int .i64 k ∧ 0 ≤ n ∧ n ≤ 255 ∧ Hid ((k = 0 ∧ n = 0) ∨ (k = 1 ∧ n = va ∧ 0 ≤ va ∧ va ≤ 15) ∨ (k = 2 ∧ n = 16 * va + vb ∧ 0 ≤ va ∧ 0 ≤ vb)))
    (fun _ _ vi => 2 - (intOf vi).toNat)
  case atStart => exact ⟨0, 0, rfl, rfl, rfl, by omega, by omega, .inl ⟨rfl, rfl⟩⟩
  case round =>
    obtain ⟨k, n, rfl, rfl, rfl, hn0, hn1, hh⟩ := hrel
    rcases hh.out with ⟨rfl, rfl⟩ | ⟨rfl, rfl, h1, h2⟩ | ⟨rfl, hn, h1, h2⟩
    · clear hh
      by_cases d0 : 48 ≤ a.toNat
      · by_cases d1 : a.toNat ≤ 57
        · have hv : va = (a.toNat : Int) - 48 := by rw [HA.out, if_pos ⟨d0, d1⟩]
          have HV := Lib.hid hv; clear hv
          go_wp2_with (go_at_call 70; refine (lower_any _ _).mono ?_; rintro e w' ⟨rfl, rfl⟩)
          go_round
          case rel => exact ⟨1, (a.toNat : Int) - 48, rfl, by go_num, rfl, by omega, by omega, .inr (.inl ⟨rfl, HV.out.symm, by rw [HV.out]; omega, by rw [HV.out]; omega⟩)⟩
          case measure => simp [intOf]
        · by_cases h95 : a = 95
          · subst h95
            have hl : (low 95).toNat = 127 := by decide
            have hv : va = -1 := by rw [HA.out, if_neg (by decide), if_neg (by decide)]
            have hr : r = .tuple #[.int .u64 0, .iface 91 (.int .i64 2)] := by rw [← HP.out, if_neg (by omega)]
            have HR := Lib.hid hr; clear hr hv
            go_wp2_with (go_at_call 70; refine (lower_any 95 _).mono ?_; rintro e w' ⟨rfl, rfl⟩)
            go_ret2
            exact ⟨by rw [HR.out]; rfl, hbel⟩
          have e95 : ((a.toNat : Int) == 95) = false := u8_ne h95
          by_cases x0 : 97 ≤ (low a).toNat
          · by_cases x1 : (low a).toNat ≤ 102
            · have hv : va = ((low a).toNat : Int) - 87 := by rw [HA.out, if_neg (by omega), if_pos ⟨x0, x1⟩]
              have HV := Lib.hid hv; clear hv
              go_wp2_with (go_at_call 70; refine (lower_any _ _).mono ?_; rintro e w' ⟨rfl, rfl⟩)
              go_round
              case rel => exact ⟨1, ((low a).toNat : Int) - 87, rfl, by go_num, rfl, by omega, by omega, .inr (.inl ⟨rfl, HV.out.symm, by rw [HV.out]; omega, by rw [HV.out]; omega⟩)⟩
              case measure => simp [intOf]
            · by_cases x2 : (low a).toNat ≤ 122
              · have hv : va = -1 := by rw [HA.out, if_neg (by omega), if_neg (by omega)]
                have hr : r = .tuple #[.int .u64 0, .iface 91 (.int .i64 2)] := by rw [← HP.out, if_neg (by omega)]
                have HR := Lib.hid hr; clear hr hv
                go_wp2_with (go_at_call 70; refine (lower_any _ _).mono ?_; rintro e w' ⟨rfl, rfl⟩)
                go_ret2
                exact ⟨by rw [HR.out]; rfl, hbel⟩
              · have hv : va = -1 := by rw [HA.out, if_neg (by omega), if_neg (by omega)]
                have hr : r = .tuple #[.int .u64 0, .iface 91 (.int .i64 2)] := by rw [← HP.out, if_neg (by omega)]
                have HR := Lib.hid hr; clear hr hv
                go_wp2_with (go_at_call 70; refine (lower_any _ _).mono ?_; rintro e w' ⟨rfl, rfl⟩)
                go_ret2
                exact ⟨by rw [HR.out]; rfl, hbel⟩
          · have hv : va = -1 := by rw [HA.out, if_neg (by omega), if_neg (by omega)]
            have hr : r = .tuple #[.int .u64 0, .iface 91 (.int .i64 2)] := by rw [← HP.out, if_neg (by omega)]
            have HR := Lib.hid hr; clear hr hv
            go_wp2_with (go_at_call 70; refine (lower_any _ _).mono ?_; rintro e w' ⟨rfl, rfl⟩)
            go_ret2
            exact ⟨by rw [HR.out]; rfl, hbel⟩
      · have x0 := lo48 a (by omega)
        have hv : va = -1 := by rw [HA.out, if_neg (by omega), if_neg (by omega)]
        have hr : r = .tuple #[.int .u64 0, .iface 91 (.int .i64 2)] := by rw [← HP.out, if_neg (by omega)]
        have HR := Lib.hid hr; clear hr hv
        go_wp2_with (go_at_call 70; refine (lower_any _ _).mono ?_; rintro e w' ⟨rfl, rfl⟩)
        go_ret2
        exact ⟨by rw [HR.out]; rfl, hbel⟩
    · clear hh
      by_cases d0 : 48 ≤ b.toNat
      · by_cases d1 : b.toNat ≤ 57
        · have hv : vb = (b.toNat : Int) - 48 := by rw [HB.out, if_pos ⟨d0, d1⟩]
          have HV := Lib.hid hv; clear hv
          go_wp2_with (go_at_call 70; refine (lower_any _ _).mono ?_; rintro e w' ⟨rfl, rfl⟩)
          go_round
          case rel => exact ⟨2, 16 * n + ((b.toNat : Int) - 48), rfl, by go_num, rfl, by omega, by omega, .inr (.inr ⟨rfl, by rw [HV.out], h1, by rw [HV.out]; omega⟩)⟩
          case measure => simp [intOf]
        · by_cases h95 : b = 95
          · subst h95
            have hl : (low 95).toNat = 127 := by decide
            have hv : vb = -1 := by rw [HB.out, if_neg (by decide), if_neg (by decide)]
            have hr : r = .tuple #[.int .u64 0, .iface 91 (.int .i64 2)] := by rw [← HP.out, if_neg (by omega)]
            have HR := Lib.hid hr; clear hr hv
            go_wp2_with (go_at_call 70; refine (lower_any 95 _).mono ?_; rintro e w' ⟨rfl, rfl⟩)
            go_ret2
            exact ⟨by rw [HR.out]; rfl, hbel⟩
          have e95 : ((b.toNat : Int) == 95) = false := u8_ne h95
          by_cases x0 : 97 ≤ (low b).toNat
          · by_cases x1 : (low b).toNat ≤ 102
            · have hv : vb = ((low b).toNat : Int) - 87 := by rw [HB.out, if_neg (by omega), if_pos ⟨x0, x1⟩]
              have HV := Lib.hid hv; clear hv
              go_wp2_with (go_at_call 70; refine (lower_any _ _).mono ?_; rintro e w' ⟨rfl, rfl⟩)
              go_round
              case rel => exact ⟨2, 16 * n + (((low b).toNat : Int) - 87), rfl, by go_num, rfl, by omega, by omega, .inr (.inr ⟨rfl, by rw [HV.out], h1, by rw [HV.out]; omega⟩)⟩
              case measure => simp [intOf]
            · by_cases x2 : (low b).toNat ≤ 122
              · have hv : vb = -1 := by rw [HB.out, if_neg (by omega), if_neg (by omega)]
                have hr : r = .tuple #[.int .u64 0, .iface 91 (.int .i64 2)] := by rw [← HP.out, if_neg (by omega)]
                have HR := Lib.hid hr; clear hr hv
                go_wp2_with (go_at_call 70; refine (lower_any _ _).mono ?_; rintro e w' ⟨rfl, rfl⟩)
                go_ret2
                exact ⟨by rw [HR.out]; rfl, hbel⟩
              · have hv : vb = -1 := by rw [HB.out, if_neg (by omega), if_neg (by omega)]
                have hr : r = .tuple #[.int .u64 0, .iface 91 (.int .i64 2)] := by rw [← HP.out, if_neg (by omega)]
                have HR := Lib.hid hr; clear hr hv
                go_wp2_with (go_at_call 70; refine (lower_any _ _).mono ?_; rintro e w' ⟨rfl, rfl⟩)
                go_ret2
                exact ⟨by rw [HR.out]; rfl, hbel⟩
          · have hv : vb = -1 := by rw [HB.out, if_neg (by omega), if_neg (by omega)]
            have hr : r = .tuple #[.int .u64 0, .iface 91 (.int .i64 2)] := by rw [← HP.out, if_neg (by omega)]
            have HR := Lib.hid hr; clear hr hv
            go_wp2_with (go_at_call 70; refine (lower_any _ _).mono ?_; rintro e w' ⟨rfl, rfl⟩)
            go_ret2
            exact ⟨by rw [HR.out]; rfl, hbel⟩
      · have x0 := lo48 b (by omega)
        have hv : vb = -1 := by rw [HB.out, if_neg (by omega), if_neg (by omega)]
        have hr : r = .tuple #[.int .u64 0, .iface 91 (.int .i64 2)] := by rw [← HP.out, if_neg (by omega)]
        have HR := Lib.hid hr; clear hr hv
        go_wp2_with (go_at_call 70; refine (lower_any _ _).mono ?_; rintro e w' ⟨rfl, rfl⟩)
        go_ret2
        exact ⟨by rw [HR.out]; rfl, hbel⟩
    · clear hh
      have hr : r = .tuple #[.int .u64 n, .nilIface] := by rw [← HP.out, if_pos ⟨h1, h2⟩, hn]
      have HR := Lib.hid hr; clear hr hn
      go_wp2
      go_ret2
      exact ⟨by rw [HR.out]; rfl, hbel⟩
end Go.Proofs.YtadbilonialjnaaDoor
