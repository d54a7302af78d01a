/- The reference's Escape: the byte that an escape stands for and its length, as the plain function 'unesc' says, at every offset of a backslash. -/
import Derived.Test.YtadbilonialjnaaGreatDoorHex
namespace Go.Proofs.YtadbilonialjnaaGreatDoor
open Go.RowKit

theorem unesc_end (l : List UInt8) (i : Nat) (h : l.length ≤ i + 1) : unesc (l.drop i) = (0, 0) := by
  have : (l.drop i).length ≤ 1 := by rw [List.length_drop]; omega
  match hd : l.drop i, this with
  | [], _ => rfl
  | [_], _ => rfl
theorem unesc_at (l : List UInt8) (i : Nat) (h : i + 1 < l.length) : unesc (l.drop i) =
    if byt l (i + 1) = 34 ∨ byt l (i + 1) = 92 then (byt l (i + 1), 2) else if byt l (i + 1) = 110 then (10, 2) else if byt l (i + 1) = 116 then (9, 2) else if byt l (i + 1) = 114 then (13, 2)
    else if byt l (i + 1) = 120 then (if i + 3 < l.length then (match hexTwo (byt l (i + 2)) (byt l (i + 3)) with | some x => (x, 4) | none => (0, 0)) else (0, 0)) else (0, 0) := by
  rw [drop_byt l i (by omega), drop_byt l (i + 1) h]
  simp only [unesc]
  by_cases h3 : i + 3 < l.length
  · rw [if_pos h3, drop_byt l (i + 1 + 1) (by omega), drop_byt l (i + 1 + 1 + 1) (by omega)]
    rfl
  · rw [if_neg h3]
    have : (l.drop (i + 1 + 1)).length ≤ 1 := by rw [List.length_drop]; omega
    match hd : l.drop (i + 1 + 1), this with
    | [], _ => rfl
    | [_], _ => rfl
theorem hexTwo_none {a b : UInt8} (h : hexI a < 0 ∨ hexI b < 0) : hexTwo a b = none := by
  unfold hexI at h; unfold hexTwo
  rcases h with h | h
  · cases ha : hexVal a with
    | none => rfl
    | some v => rw [ha] at h; simp at h; omega
  · cases hb : hexVal b with
    | none => cases hexVal a <;> rfl
    | some v => rw [hb] at h; simp at h; omega
theorem hexI_lt (c : UInt8) : -1 ≤ hexI c ∧ hexI c < 16 := by
  rw [hexI_nat]; (repeat' split) <;> omega
theorem hexTwo_some {a b : UInt8} (ha : 0 ≤ hexI a) (hb : 0 ≤ hexI b) : ∃ x, hexTwo a b = some x ∧ (x.toNat : Int) = 16 * hexI a + hexI b := by
  have h1 := hexI_lt a
  have h2 := hexI_lt b
  unfold hexI at *; unfold hexTwo
  cases hva : hexVal a with
  | none => rw [hva] at ha; simp at ha
  | some v =>
    cases hvb : hexVal b with
    | none => rw [hvb] at hb; simp at hb
    | some u =>
      rw [hva] at h1; rw [hvb] at h2
      simp at h1 h2
      refine ⟨_, rfl, ?_⟩
      simp
      omega

def uneVal (r : UInt8 × Nat) : Value := .tuple #[.int .u8 (r.1.toNat : Int), .int .i64 (r.2 : Int)]
theorem ret_une {r : UInt8 × Nat} {a : UInt8} {n : Nat} (h : r = (a, n)) : Ending.returned (.tuple #[.int .u8 (a.toNat : Int), .int .i64 (n : Int)]) = .returned (uneVal r) := by rw [h]; rfl

set_option maxHeartbeats 1000000 in
theorem Escape_any (l : List UInt8) (i : Nat) (hl : l.length ≤ 1000000) (hi : i < l.length) (h92 : byt l i = 92) (w : World) :
    Calls Tryz.prog 60 #[.string (S l), .int .i64 (i : Int)] w fun e w' => e = .returned (uneVal (unesc (l.drop i))) ∧ Below w.heap.size w w' := by
  by_cases h1 : l.length ≤ i + 1
  · have hf := Lib.hid (unesc_end l i h1)
    generalize unesc (l.drop i) = r at hf ⊢
    go_enter Tryz.func60, Tryz.ntmps60
    go_wp2
    go_ret2
    exact ⟨ret_une hf.out, Below.refl _ _⟩
  have h1' : i + 1 < l.length := by omega
  have hf := unesc_at l i h1'
  generalize unesc (l.drop i) = r at hf ⊢
  clear h1
  by_cases d34 : byt l (i + 1) = 34
  · rw [if_pos (.inl d34), d34] at hf
    have HF := Lib.hid hf; clear hf
    go_enter Tryz.func60, Tryz.ntmps60
    go_wp2
    go_ret2
    exact ⟨ret_une HF.out, Below.refl _ _⟩
  by_cases d92 : byt l (i + 1) = 92
  · rw [if_pos (.inr d92), d92] at hf
    have HF := Lib.hid hf; clear hf
    go_enter Tryz.func60, Tryz.ntmps60
    go_wp2
    go_ret2
    exact ⟨ret_une HF.out, Below.refl _ _⟩
  rw [if_neg (by simp [d34, d92])] at hf
  have e34 : (((byt l (i + 1)).toNat : Int) == 34) = false := u8_ne d34
  have e92 : (((byt l (i + 1)).toNat : Int) == 92) = false := u8_ne d92
  clear d34 d92
  by_cases d110 : byt l (i + 1) = 110
  · rw [if_pos d110] at hf
    have HF := Lib.hid hf; clear hf
    go_enter Tryz.func60, Tryz.ntmps60
    go_wp2
    go_ret2
    exact ⟨ret_une HF.out, Below.refl _ _⟩
  rw [if_neg d110] at hf
  have e110 : (((byt l (i + 1)).toNat : Int) == 110) = false := u8_ne d110
  clear d110
  by_cases d116 : byt l (i + 1) = 116
  · rw [if_pos d116] at hf
    have HF := Lib.hid hf; clear hf
    go_enter Tryz.func60, Tryz.ntmps60
    go_wp2
    go_ret2
    exact ⟨ret_une HF.out, Below.refl _ _⟩
  rw [if_neg d116] at hf
  have e116 : (((byt l (i + 1)).toNat : Int) == 116) = false := u8_ne d116
  clear d116
  by_cases d114 : byt l (i + 1) = 114
  · rw [if_pos d114] at hf
    have HF := Lib.hid hf; clear hf
    go_enter Tryz.func60, Tryz.ntmps60
    go_wp2
    go_ret2
    exact ⟨ret_une HF.out, Below.refl _ _⟩
  rw [if_neg d114] at hf
  have e114 : (((byt l (i + 1)).toNat : Int) == 114) = false := u8_ne d114
  clear d114
  by_cases d120 : byt l (i + 1) = 120
  · rw [if_pos d120] at hf
    by_cases h3 : i + 3 < l.length
    · rw [if_pos h3] at hf
      have a1 := hexI_lt (byt l (i + 2))
      have a2 := hexI_lt (byt l (i + 3))
      by_cases n1 : hexI (byt l (i + 2)) < 0
      · rw [hexTwo_none (.inl n1)] at hf
        have HF := Lib.hid hf; clear hf
        go_enter Tryz.func60, Tryz.ntmps60
        go_wp2_with (go_at_call 76; refine (Hex_any _ _).mono ?_; rintro e w' ⟨rfl, rfl⟩)
        go_ret2
        exact ⟨ret_une HF.out, Below.refl _ _⟩
      by_cases n2 : hexI (byt l (i + 3)) < 0
      · rw [hexTwo_none (.inr n2)] at hf
        have HF := Lib.hid hf; clear hf
        go_enter Tryz.func60, Tryz.ntmps60
        go_wp2_with (go_at_call 76; refine (Hex_any _ _).mono ?_; rintro e w' ⟨rfl, rfl⟩)
        go_ret2
        exact ⟨ret_une HF.out, Below.refl _ _⟩
      obtain ⟨x, hx, hxv⟩ := hexTwo_some (a := byt l (i + 2)) (b := byt l (i + 3)) (by omega) (by omega)
      rw [hx] at hf
      have HF := Lib.hid hf; clear hf
      have HX := Lib.hid hxv; clear hxv hx
      have n1' : 0 ≤ hexI (byt l (i + 2)) := by omega
      have n2' : 0 ≤ hexI (byt l (i + 3)) := by omega
      go_enter Tryz.func60, Tryz.ntmps60
      go_wp2_with (go_at_call 76; refine (Hex_any _ _).mono ?_; rintro e w' ⟨rfl, rfl⟩)
      have b1 : IntKind.i64.wrap ((i : Int) + 2) = (i : Int) + 2 := IntWalk.i64_in _ (by omega)
      have b2 : IntKind.i64.wrap ((i : Int) + 3) = (i : Int) + 3 := IntWalk.i64_in _ (by omega)
      have b3 : (0 : Int) ≤ (i : Int) + 2 := by omega
      have b4 : (0 : Int) ≤ (i : Int) + 3 := by omega
      have b5 : ((i : Int) + 2).toNat = i + 2 := by omega
      have b6 : ((i : Int) + 3).toNat = i + 3 := by omega
      have b7 : (i : Int) + 2 < (l.length : Int) := by omega
      have b8 : (i : Int) + 3 < (l.length : Int) := by omega
      have b9 : IntKind.i64.wrap (16 * hexI (byt l (i + 2))) = 16 * hexI (byt l (i + 2)) := IntWalk.i64_in _ (by omega)
      have b10 : IntKind.i64.wrap (16 * hexI (byt l (i + 2)) + hexI (byt l (i + 3))) = 16 * hexI (byt l (i + 2)) + hexI (byt l (i + 3)) := IntWalk.i64_in _ (by omega)
      have b11 : IntKind.u8.wrap (16 * hexI (byt l (i + 2)) + hexI (byt l (i + 3))) = 16 * hexI (byt l (i + 2)) + hexI (byt l (i + 3)) := IntWalk.u8_in _ (by omega)
      go_quiet ((go_at_call 76; exact quiet_left (Hex_any _ _)))
      clear b1 b2 b5 b6 b9 b10 b11
      go_wp2
      go_ret2
      exact ⟨by rw [HF.out]; show Ending.returned (.tuple #[.int .u8 _, .int .i64 4]) = .returned (.tuple #[.int .u8 (x.toNat : Int), .int .i64 4]); rw [HX.out], below_drewN (Below.refl _ _) _⟩
    · rw [if_neg h3] at hf
      have HF := Lib.hid hf; clear hf
      go_enter Tryz.func60, Tryz.ntmps60
      go_wp2
      go_ret2
      exact ⟨ret_une HF.out, Below.refl _ _⟩
  · rw [if_neg d120] at hf
    have e120 : (((byt l (i + 1)).toNat : Int) == 120) = false := u8_ne d120
    clear d120
    have HF := Lib.hid hf; clear hf
    go_enter Tryz.func60, Tryz.ntmps60
    go_wp2
    go_ret2
    exact ⟨ret_une HF.out, Below.refl _ _⟩
end Go.Proofs.YtadbilonialjnaaGreatDoor
