import Derived.Test.YtdalfkklkeblaaaGreatDoorN03
import Derived.Lib.ConvBytes
import Derived.Lib.SmallJoins
import Derived.Test.YtdalfkklkeblaaaGreatDoorShelf
import Derived.Handy
import Derived.Test.YtdalfkklkeblaaaGreatDoorN01
import Derived.Test.YtdalfkklkeblaaaGreatDoorN02
namespace Go.Proofs.YtdalfkklkeblaaaGreatDoor
set_option linter.unusedSimpArgs false
set_option linter.unusedVariables false
section
open Go.RowKit
def low (c : UInt8) : UInt8 := c ||| 32
theorem hexI_lower (c : UInt8) : hexI c = if 48 ≤ c.toNat ∧ c.toNat ≤ 57 then (c.toNat : Int) - 48 else if 97 ≤ (low c).toNat ∧ (low c).toNat ≤ 102 then ((low c).toNat : Int) - 87 else -1 :=
 forall_u8 (P := fun c => hexI c = if 48 ≤ c.toNat ∧ c.toNat ≤ 57 then (c.toNat : Int) - 48 else if 97 ≤ (low c).toNat ∧ (low c).toNat ≤ 102 then ((low c).toNat : Int) - 87 else -1) (by decide +kernel) c
theorem or32 (c : UInt8) : bits .or .u8 (c.toNat : Int) 32 = ((low c).toNat : Int) :=
 forall_u8 (P := fun c => bits .or .u8 (c.toNat : Int) 32 = ((low c).toNat : Int)) (by decide +kernel) c
set_option maxHeartbeats 400000 in
theorem lower_any (c : UInt8) (w : World) : Calls Tryz.prog 180 #[.int .u8 (c.toNat : Int)] w fun e w' => e = .returned (.int .u8 ((low c).toNat : Int)) ∧ w = w' := by
 have ho := or32 c
 go_enter Tryz.func180, Tryz.ntmps180
 go_wp2
 go_ret
 exact ⟨rfl, rfl⟩
def pu16 (a b : UInt8) : Value := if 0 ≤ hexI a ∧ 0 ≤ hexI b then .tuple #[.int .u64 (16 * hexI a + hexI b), .nilIface] else .tuple #[.int .u64 0, .iface 195 (.int .i64 2)]
theorem lo48 (c : UInt8) (h : c.toNat < 48) : (low c).toNat < 97 :=
 forall_u8 (P := fun c => c.toNat < 48 → (low c).toNat < 97) (by decide +kernel) c h
set_option maxHeartbeats 4000000 in
set_option maxRecDepth 100000 in
theorem ParseUint16_in (a b : UInt8) (w : World) : Calls Tryz.prog 164 #[.string (S [a, b]), .int .i64 16, .int .i64 8] w fun e w' => e = .returned (pu16 a b) ∧ Below w.heap.size w w' := by
 have hcv := Lib.run_convert_string_bytes (P := Tryz.prog) w 9 96 5 (S [a, b]) (u := .string) Tryz.underlying9 Tryz.underlying96 Tryz.underlying5
 have hsz : (S [a, b]).size = 2 := rfl
 rw [hsz] at hcv
 clear hsz
 have hB0 : (Lib.bytesWorld w 5 (S [a, b])).cell? ⟨w.heap.size, 0, none⟩ = some (.int .u8 (a.toNat : Int)) := Lib.bytesWorld_cell w 5 (S [a, b]) 0 (by show 0 < 2; omega)
 have hB1 : (Lib.bytesWorld w 5 (S [a, b])).cell? ⟨w.heap.size, 1, none⟩ = some (.int .u8 (b.toNat : Int)) := Lib.bytesWorld_cell w 5 (S [a, b]) 1 (by show 1 < 2; omega)
 have hbel : Below w.heap.size w (Lib.bytesWorld w 5 (S [a, b])) := Joins.below_bytesWorld _ w _ _ (Nat.le_refl _)
 obtain ⟨W1, hW1⟩ : ∃ W1, W1 = Lib.bytesWorld w 5 (S [a, b]) := ⟨_, rfl⟩
 rw [← hW1] at hcv hB0 hB1 hbel
 clear hW1
 generalize hp : pu16 a b = r
 unfold pu16 at hp
 have HP := Lib.hid hp
 clear hp
 have ha := hexI_lower a
 have hb := hexI_lower b
 have la := a.toNat_lt
 have lb := b.toNat_lt
 have la' := (low a).toNat_lt
 have lb' := (low b).toNat_lt
 generalize hexI a = va at ha HP
 generalize hexI b = vb at hb HP
 have HA := Lib.hid ha
 have HB := Lib.hid hb
 clear ha hb
 go_enter Tryz.func164, Tryz.ntmps164
 go_wp2_with fail
 clear hcv
 go_loop [12, 13, 101] (fun vu vn vi => ∃ (k : Nat) (n : Int), vu = .bool false ∧ vn = .int .u64 n ∧ vi = .int .i64 k ∧ 0 ≤ n ∧ n ≤ 255 ∧ Hid ((k = 0 ∧ n = 0) ∨ (k = 1 ∧ n = va ∧ 0 ≤ va ∧ va ≤ 15) ∨ (k = 2 ∧ n = 16 * va + vb ∧ 0 ≤ va ∧ 0 ≤ vb)))
   (fun _ _ vi => 2 - (intOf vi).toNat)
 case atStart => exact ⟨0, 0, rfl, rfl, rfl, by omega, by omega, .inl ⟨rfl, rfl⟩⟩
 case round =>
   obtain ⟨k, n, rfl, rfl, rfl, hn0, hn1, hh⟩ := hrel
   rcases hh.out with ⟨rfl, rfl⟩ | ⟨rfl, rfl, h1, h2⟩ | ⟨rfl, hn, h1, h2⟩
   · clear hh
     by_cases d0 : 48 ≤ a.toNat
     · by_cases d1 : a.toNat ≤ 57
       · have hv : va = (a.toNat : Int) - 48 := by rw [HA.out, if_pos ⟨d0, d1⟩]
         have HV := Lib.hid hv; clear hv
         go_wp2_with (go_at_call 180; refine (lower_any _ _).mono ?_; rintro e w' ⟨rfl, rfl⟩)
         go_round
         case rel => exact ⟨1, (a.toNat : Int) - 48, rfl, by go_num, rfl, by omega, by omega, .inr (.inl ⟨rfl, HV.out.symm, by rw [HV.out]; omega, by rw [HV.out]; omega⟩)⟩
         case measure => simp [intOf]
       · by_cases h95 : a = 95
         · subst h95
           have hl : (low 95).toNat = 127 := by decide
           have hv : va = -1 := by rw [HA.out, if_neg (by decide), if_neg (by decide)]
           have hr : r = .tuple #[.int .u64 0, .iface 195 (.int .i64 2)] := by rw [← HP.out, if_neg (by omega)]
           have HR := Lib.hid hr; clear hr hv
           go_wp2_with (go_at_call 180; refine (lower_any 95 _).mono ?_; rintro e w' ⟨rfl, rfl⟩)
           go_ret2
           exact ⟨by rw [HR.out]; rfl, hbel⟩
         have e95 : ((a.toNat : Int) == 95) = false := u8_ne h95
         by_cases x0 : 97 ≤ (low a).toNat
         · by_cases x1 : (low a).toNat ≤ 102
           · have hv : va = ((low a).toNat : Int) - 87 := by rw [HA.out, if_neg (by omega), if_pos ⟨x0, x1⟩]
             have HV := Lib.hid hv; clear hv
             go_wp2_with (go_at_call 180; refine (lower_any _ _).mono ?_; rintro e w' ⟨rfl, rfl⟩)
             go_round
             case rel => exact ⟨1, ((low a).toNat : Int) - 87, rfl, by go_num, rfl, by omega, by omega, .inr (.inl ⟨rfl, HV.out.symm, by rw [HV.out]; omega, by rw [HV.out]; omega⟩)⟩
             case measure => simp [intOf]
           · by_cases x2 : (low a).toNat ≤ 122
             · have hv : va = -1 := by rw [HA.out, if_neg (by omega), if_neg (by omega)]
               have hr : r = .tuple #[.int .u64 0, .iface 195 (.int .i64 2)] := by rw [← HP.out, if_neg (by omega)]
               have HR := Lib.hid hr; clear hr hv
               go_wp2_with (go_at_call 180; refine (lower_any _ _).mono ?_; rintro e w' ⟨rfl, rfl⟩)
               go_ret2
               exact ⟨by rw [HR.out]; rfl, hbel⟩
             · have hv : va = -1 := by rw [HA.out, if_neg (by omega), if_neg (by omega)]
               have hr : r = .tuple #[.int .u64 0, .iface 195 (.int .i64 2)] := by rw [← HP.out, if_neg (by omega)]
               have HR := Lib.hid hr; clear hr hv
               go_wp2_with (go_at_call 180; refine (lower_any _ _).mono ?_; rintro e w' ⟨rfl, rfl⟩)
               go_ret2
               exact ⟨by rw [HR.out]; rfl, hbel⟩
         · have hv : va = -1 := by rw [HA.out, if_neg (by omega), if_neg (by omega)]
           have hr : r = .tuple #[.int .u64 0, .iface 195 (.int .i64 2)] := by rw [← HP.out, if_neg (by omega)]
           have HR := Lib.hid hr; clear hr hv
           go_wp2_with (go_at_call 180; refine (lower_any _ _).mono ?_; rintro e w' ⟨rfl, rfl⟩)
           go_ret2
           exact ⟨by rw [HR.out]; rfl, hbel⟩
     · have x0 := lo48 a (by omega)
       have hv : va = -1 := by rw [HA.out, if_neg (by omega), if_neg (by omega)]
       have hr : r = .tuple #[.int .u64 0, .iface 195 (.int .i64 2)] := by rw [← HP.out, if_neg (by omega)]
       have HR := Lib.hid hr; clear hr hv
       go_wp2_with (go_at_call 180; refine (lower_any _ _).mono ?_; rintro e w' ⟨rfl, rfl⟩)
       go_ret2
       exact ⟨by rw [HR.out]; rfl, hbel⟩
   · clear hh
     by_cases d0 : 48 ≤ b.toNat
     · by_cases d1 : b.toNat ≤ 57
       · have hv : vb = (b.toNat : Int) - 48 := by rw [HB.out, if_pos ⟨d0, d1⟩]
         have HV := Lib.hid hv; clear hv
         go_wp2_with (go_at_call 180; refine (lower_any _ _).mono ?_; rintro e w' ⟨rfl, rfl⟩)
         go_round
         case rel => exact ⟨2, 16 * n + ((b.toNat : Int) - 48), rfl, by go_num, rfl, by omega, by omega, .inr (.inr ⟨rfl, by rw [HV.out], h1, by rw [HV.out]; omega⟩)⟩
         case measure => simp [intOf]
       · by_cases h95 : b = 95
         · subst h95
           have hl : (low 95).toNat = 127 := by decide
           have hv : vb = -1 := by rw [HB.out, if_neg (by decide), if_neg (by decide)]
           have hr : r = .tuple #[.int .u64 0, .iface 195 (.int .i64 2)] := by rw [← HP.out, if_neg (by omega)]
           have HR := Lib.hid hr; clear hr hv
           go_wp2_with (go_at_call 180; refine (lower_any 95 _).mono ?_; rintro e w' ⟨rfl, rfl⟩)
           go_ret2
           exact ⟨by rw [HR.out]; rfl, hbel⟩
         have e95 : ((b.toNat : Int) == 95) = false := u8_ne h95
         by_cases x0 : 97 ≤ (low b).toNat
         · by_cases x1 : (low b).toNat ≤ 102
           · have hv : vb = ((low b).toNat : Int) - 87 := by rw [HB.out, if_neg (by omega), if_pos ⟨x0, x1⟩]
             have HV := Lib.hid hv; clear hv
             go_wp2_with (go_at_call 180; refine (lower_any _ _).mono ?_; rintro e w' ⟨rfl, rfl⟩)
             go_round
             case rel => exact ⟨2, 16 * n + (((low b).toNat : Int) - 87), rfl, by go_num, rfl, by omega, by omega, .inr (.inr ⟨rfl, by rw [HV.out], h1, by rw [HV.out]; omega⟩)⟩
             case measure => simp [intOf]
           · by_cases x2 : (low b).toNat ≤ 122
             · have hv : vb = -1 := by rw [HB.out, if_neg (by omega), if_neg (by omega)]
               have hr : r = .tuple #[.int .u64 0, .iface 195 (.int .i64 2)] := by rw [← HP.out, if_neg (by omega)]
               have HR := Lib.hid hr; clear hr hv
               go_wp2_with (go_at_call 180; refine (lower_any _ _).mono ?_; rintro e w' ⟨rfl, rfl⟩)
               go_ret2
               exact ⟨by rw [HR.out]; rfl, hbel⟩
             · have hv : vb = -1 := by rw [HB.out, if_neg (by omega), if_neg (by omega)]
               have hr : r = .tuple #[.int .u64 0, .iface 195 (.int .i64 2)] := by rw [← HP.out, if_neg (by omega)]
               have HR := Lib.hid hr; clear hr hv
               go_wp2_with (go_at_call 180; refine (lower_any _ _).mono ?_; rintro e w' ⟨rfl, rfl⟩)
               go_ret2
               exact ⟨by rw [HR.out]; rfl, hbel⟩
         · have hv : vb = -1 := by rw [HB.out, if_neg (by omega), if_neg (by omega)]
           have hr : r = .tuple #[.int .u64 0, .iface 195 (.int .i64 2)] := by rw [← HP.out, if_neg (by omega)]
           have HR := Lib.hid hr; clear hr hv
           go_wp2_with (go_at_call 180; refine (lower_any _ _).mono ?_; rintro e w' ⟨rfl, rfl⟩)
           go_ret2
           exact ⟨by rw [HR.out]; rfl, hbel⟩
     · have x0 := lo48 b (by omega)
       have hv : vb = -1 := by rw [HB.out, if_neg (by omega), if_neg (by omega)]
       have hr : r = .tuple #[.int .u64 0, .iface 195 (.int .i64 2)] := by rw [← HP.out, if_neg (by omega)]
       have HR := Lib.hid hr; clear hr hv
       go_wp2_with (go_at_call 180; refine (lower_any _ _).mono ?_; rintro e w' ⟨rfl, rfl⟩)
       go_ret2
       exact ⟨by rw [HR.out]; rfl, hbel⟩
   · clear hh
     have hr : r = .tuple #[.int .u64 n, .nilIface] := by rw [← HP.out, if_pos ⟨h1, h2⟩, hn]
     have HR := Lib.hid hr; clear hr hn
     go_wp2
     go_ret2
     exact ⟨by rw [HR.out]; rfl, hbel⟩
end
section
open Go.RowKit
theorem unesc_end (l : List UInt8) (i : Nat) (h : l.length ≤ i + 1) : unesc (l.drop i) = (0, 0) := by
 have : (l.drop i).length ≤ 1 := by rw [List.length_drop]; omega
 match hd : l.drop i, this with
 | [], _ => rfl
 | [_], _ => rfl
theorem unesc_at (l : List UInt8) (i : Nat) (h : i + 1 < l.length) : unesc (l.drop i) =
   if byt l (i + 1) = 34 ∨ byt l (i + 1) = 92 then (byt l (i + 1), 2) else if byt l (i + 1) = 110 then (10, 2) else if byt l (i + 1) = 116 then (9, 2) else if byt l (i + 1) = 114 then (13, 2)
   else if byt l (i + 1) = 120 then (if i + 3 < l.length then (match hexTwo (byt l (i + 2)) (byt l (i + 3)) with | some x => (x, 4) | none => (0, 0)) else (0, 0)) else (0, 0) := by
 rw [drop_byt l i (by omega), drop_byt l (i + 1) h]
 simp only [unesc]
 by_cases h3 : i + 3 < l.length
 · rw [if_pos h3, drop_byt l (i + 1 + 1) (by omega), drop_byt l (i + 1 + 1 + 1) (by omega)]
   rfl
 · rw [if_neg h3]
   have : (l.drop (i + 1 + 1)).length ≤ 1 := by rw [List.length_drop]; omega
   match hd : l.drop (i + 1 + 1), this with
   | [], _ => rfl
   | [_], _ => rfl
theorem hexTwo_none {a b : UInt8} (h : hexI a < 0 ∨ hexI b < 0) : hexTwo a b = none := by
 unfold hexI at h; unfold hexTwo
 rcases h with h | h
 · cases ha : hexVal a with
   | none => rfl
   | some v => rw [ha] at h; simp at h; omega
 · cases hb : hexVal b with
   | none => cases hexVal a <;> rfl
   | some v => rw [hb] at h; simp at h; omega
theorem hexI_lt (c : UInt8) : -1 ≤ hexI c ∧ hexI c < 16 := by
 rw [hexI_nat]; (repeat' split) <;> omega
theorem hexTwo_some {a b : UInt8} (ha : 0 ≤ hexI a) (hb : 0 ≤ hexI b) : ∃ x, hexTwo a b = some x ∧ (x.toNat : Int) = 16 * hexI a + hexI b := by
 have h1 := hexI_lt a
 have h2 := hexI_lt b
 unfold hexI at *; unfold hexTwo
 cases hva : hexVal a with
 | none => rw [hva] at ha; simp at ha
 | some v =>
   cases hvb : hexVal b with
   | none => rw [hvb] at hb; simp at hb
   | some u =>
     rw [hva] at h1; rw [hvb] at h2
     simp at h1 h2
     refine ⟨_, rfl, ?_⟩
     simp
     omega
def uneVal (r : UInt8 × Nat) : Value := .tuple #[.int .u8 (r.1.toNat : Int), .int .i64 (r.2 : Int)]
theorem ret_une {r : UInt8 × Nat} {a : UInt8} {n : Nat} (h : r = (a, n)) : Ending.returned (.tuple #[.int .u8 (a.toNat : Int), .int .i64 (n : Int)]) = .returned (uneVal r) := by rw [h]; rfl
set_option maxHeartbeats 1000000 in
theorem Escape_any (l : List UInt8) (i : Nat) (hl : l.length ≤ 1000000) (hi : i < l.length) (h92 : byt l i = 92) (w : World) :
   Calls Tryz.prog 156 #[.string (S l), .int .i64 (i : Int)] w fun e w' => e = .returned (uneVal (unesc (l.drop i))) ∧ Below w.heap.size w w' := by
 by_cases h1 : l.length ≤ i + 1
 · have hf := Lib.hid (unesc_end l i h1)
   generalize unesc (l.drop i) = r at hf ⊢
   go_enter Tryz.func156, Tryz.ntmps156
   go_wp2
   go_ret2
   exact ⟨ret_une hf.out, Below.refl _ _⟩
 have h1' : i + 1 < l.length := by omega
 have hf := unesc_at l i h1'
 generalize unesc (l.drop i) = r at hf ⊢
 clear h1
 by_cases d34 : byt l (i + 1) = 34
 · rw [if_pos (.inl d34), d34] at hf
   have HF := Lib.hid hf; clear hf
   go_enter Tryz.func156, Tryz.ntmps156
   go_wp2
   go_ret2
   exact ⟨ret_une HF.out, Below.refl _ _⟩
 by_cases d92 : byt l (i + 1) = 92
 · rw [if_pos (.inr d92), d92] at hf
   have HF := Lib.hid hf; clear hf
   go_enter Tryz.func156, Tryz.ntmps156
   go_wp2
   go_ret2
   exact ⟨ret_une HF.out, Below.refl _ _⟩
 rw [if_neg (by simp [d34, d92])] at hf
 have e34 : (((byt l (i + 1)).toNat : Int) == 34) = false := u8_ne d34
 have e92 : (((byt l (i + 1)).toNat : Int) == 92) = false := u8_ne d92
 clear d34 d92
 by_cases d110 : byt l (i + 1) = 110
 · rw [if_pos d110] at hf
   have HF := Lib.hid hf; clear hf
   go_enter Tryz.func156, Tryz.ntmps156
   go_wp2
   go_ret2
   exact ⟨ret_une HF.out, Below.refl _ _⟩
 rw [if_neg d110] at hf
 have e110 : (((byt l (i + 1)).toNat : Int) == 110) = false := u8_ne d110
 clear d110
 by_cases d116 : byt l (i + 1) = 116
 · rw [if_pos d116] at hf
   have HF := Lib.hid hf; clear hf
   go_enter Tryz.func156, Tryz.ntmps156
   go_wp2
   go_ret2
   exact ⟨ret_une HF.out, Below.refl _ _⟩
 rw [if_neg d116] at hf
 have e116 : (((byt l (i + 1)).toNat : Int) == 116) = false := u8_ne d116
 clear d116
 by_cases d114 : byt l (i + 1) = 114
 · rw [if_pos d114] at hf
   have HF := Lib.hid hf; clear hf
   go_enter Tryz.func156, Tryz.ntmps156
   go_wp2
   go_ret2
   exact ⟨ret_une HF.out, Below.refl _ _⟩
 rw [if_neg d114] at hf
 have e114 : (((byt l (i + 1)).toNat : Int) == 114) = false := u8_ne d114
 clear d114
 by_cases d120 : byt l (i + 1) = 120
 · rw [if_pos d120] at hf
   by_cases h3 : i + 3 < l.length
   · rw [if_pos h3] at hf
     have a1 := hexI_lt (byt l (i + 2))
     have a2 := hexI_lt (byt l (i + 3))
     by_cases n1 : hexI (byt l (i + 2)) < 0
     · rw [hexTwo_none (.inl n1)] at hf
       have HF := Lib.hid hf; clear hf
       go_enter Tryz.func156, Tryz.ntmps156
       go_wp2_with (go_at_call 171; refine (Hex_any _ _).mono ?_; rintro e w' ⟨rfl, rfl⟩)
       go_ret2
       exact ⟨ret_une HF.out, Below.refl _ _⟩
     by_cases n2 : hexI (byt l (i + 3)) < 0
     · rw [hexTwo_none (.inr n2)] at hf
       have HF := Lib.hid hf; clear hf
       go_enter Tryz.func156, Tryz.ntmps156
       go_wp2_with (go_at_call 171; refine (Hex_any _ _).mono ?_; rintro e w' ⟨rfl, rfl⟩)
       go_ret2
       exact ⟨ret_une HF.out, Below.refl _ _⟩
     obtain ⟨x, hx, hxv⟩ := hexTwo_some (a := byt l (i + 2)) (b := byt l (i + 3)) (by omega) (by omega)
     rw [hx] at hf
     have HF := Lib.hid hf; clear hf
     have HX := Lib.hid hxv; clear hxv hx
     have n1' : 0 ≤ hexI (byt l (i + 2)) := by omega
     have n2' : 0 ≤ hexI (byt l (i + 3)) := by omega
     go_enter Tryz.func156, Tryz.ntmps156
     go_wp2_with (go_at_call 171; refine (Hex_any _ _).mono ?_; rintro e w' ⟨rfl, rfl⟩)
     have b1 : IntKind.i64.wrap ((i : Int) + 2) = (i : Int) + 2 := IntWalk.i64_in _ (by omega)
     have b2 : IntKind.i64.wrap ((i : Int) + 3) = (i : Int) + 3 := IntWalk.i64_in _ (by omega)
     have b3 : (0 : Int) ≤ (i : Int) + 2 := by omega
     have b4 : (0 : Int) ≤ (i : Int) + 3 := by omega
     have b5 : ((i : Int) + 2).toNat = i + 2 := by omega
     have b6 : ((i : Int) + 3).toNat = i + 3 := by omega
     have b7 : (i : Int) + 2 < (l.length : Int) := by omega
     have b8 : (i : Int) + 3 < (l.length : Int) := by omega
     have b9 : IntKind.i64.wrap (16 * hexI (byt l (i + 2))) = 16 * hexI (byt l (i + 2)) := IntWalk.i64_in _ (by omega)
     have b10 : IntKind.i64.wrap (16 * hexI (byt l (i + 2)) + hexI (byt l (i + 3))) = 16 * hexI (byt l (i + 2)) + hexI (byt l (i + 3)) := IntWalk.i64_in _ (by omega)
     have b11 : IntKind.u8.wrap (16 * hexI (byt l (i + 2)) + hexI (byt l (i + 3))) = 16 * hexI (byt l (i + 2)) + hexI (byt l (i + 3)) := IntWalk.u8_in _ (by omega)
     go_quiet ((go_at_call 171; exact quiet_left (Hex_any _ _)))
     clear b1 b2 b5 b6 b9 b10 b11
     go_wp2
     go_ret2
     exact ⟨by rw [HF.out]; show Ending.returned (.tuple #[.int .u8 _, .int .i64 4]) = .returned (.tuple #[.int .u8 (x.toNat : Int), .int .i64 4]); rw [HX.out], below_drewN (Below.refl _ _) _⟩
   · rw [if_neg h3] at hf
     have HF := Lib.hid hf; clear hf
     go_enter Tryz.func156, Tryz.ntmps156
     go_wp2
     go_ret2
     exact ⟨ret_une HF.out, Below.refl _ _⟩
 · rw [if_neg d120] at hf
   have e120 : (((byt l (i + 1)).toNat : Int) == 120) = false := u8_ne d120
   clear d120
   have HF := Lib.hid hf; clear hf
   go_enter Tryz.func156, Tryz.ntmps156
   go_wp2
   go_ret2
   exact ⟨ret_une HF.out, Below.refl _ _⟩
end
section
open Go.RowKit
def ErrOk (w : World) : Prop := ∃ te pe, w.cell? ⟨4, 0, none⟩ = some (.iface te pe)
theorem cell_lt {w : World} {b o : Nat} {v : Value} (h : w.cell? ⟨b, o, none⟩ = some v) : b < w.heap.size := by
 rcases Nat.lt_or_ge b w.heap.size with hl | hl
 · exact hl
 · exfalso; simp [World.cell?, Array.getElem?_eq_none hl] at h
theorem ErrOk.below {w w' : World} (h : ErrOk w) (hb : Below w.heap.size w w') : ErrOk w' := by
 obtain ⟨te, pe, hc⟩ := h
 exact ⟨te, pe, (hb.cell (p := ⟨4, 0, none⟩) (cell_lt hc)).trans hc⟩
set_option maxHeartbeats 1000000 in
theorem pu_ok (a b : UInt8) (ha : 0 ≤ hexI a) (hb : 0 ≤ hexI b) (w : World) :
   Calls Tryz.prog 151 #[.string (S [a, b]), .int .i64 16, .int .i64 8] w fun e w' => e = .returned (.tuple #[.int .u64 (16 * hexI a + hexI b), .nilIface]) ∧ Below w.heap.size w w' := by
 have h := ParseUint16_in a b w
 have hp : pu16 a b = .tuple #[.int .u64 (16 * hexI a + hexI b), .nilIface] := by unfold pu16; rw [if_pos ⟨ha, hb⟩]
 rw [hp] at h
 clear hp
 generalize 16 * hexI a + hexI b = n at h ⊢
 have H := Lib.hid h; clear h ha hb
 go_enter Tryz.func151, Tryz.ntmps151
 go_wp2_with fail
 refine H.out.mono ?_
 rintro e w1 ⟨rfl, hb1⟩
 clear H
 go_wp2
 go_ret2
 exact ⟨rfl, hb1⟩
set_option maxHeartbeats 1000000 in
theorem pu_err (a b : UInt8) (h : ¬ (0 ≤ hexI a ∧ 0 ≤ hexI b)) (w : World) (hE : ErrOk w) :
   Calls Tryz.prog 151 #[.string (S [a, b]), .int .i64 16, .int .i64 8] w fun e w' => (∃ N : Nat, e = .returned (.tuple #[.int .u64 0, .iface 196 (.pointer (some ⟨N, 0, none⟩))])) ∧ Below w.heap.size w w' := by
 have hp : pu16 a b = .tuple #[.int .u64 0, .iface 195 (.int .i64 2)] := by unfold pu16; rw [if_neg h]
 have h' := ParseUint16_in a b w
 rw [hp] at h'
 have H := Lib.hid h'; clear h' hp h
 go_enter Tryz.func151, Tryz.ntmps151
 go_wp2_with fail
 refine H.out.mono ?_
 rintro e w1 ⟨rfl, hb1⟩
 clear H
 obtain ⟨te, pe, hE1⟩ := hE.below hb1
 go_wp2_with fail
 refine (Tryz.strconv_toError_syntax _ (S [a, b]) _ _ _ _ (by show 2 ≤ _; omega) hE1 (.inr ⟨te, pe, rfl⟩)).mono ?_
 rintro e w2 ⟨N, rfl, _, _, hb2⟩
 go_wp2
 go_ret2
 exact ⟨⟨N, rfl⟩, hb1.trans (hb2.mono hb1.size)⟩
theorem sl24 (m : List UInt8) (h : 3 < m.length) : sl m 2 4 = [byt m 2, byt m 3] := by
 unfold sl
 rw [drop_byt m 2 (by omega), drop_byt m 3 h]; rfl
set_option maxHeartbeats 1000000 in
theorem unescape_any (m : List UInt8) (hl : m.length ≤ 1000000) (w : World) (hE : ErrOk w) :
   Calls Tryz.prog 126 #[.string (S m)] w fun e w' => e = .returned (uneVal (unesc m)) ∧ Below w.heap.size w w' := by
 by_cases h1 : m.length < 2
 · have hf := Lib.hid (unesc_end m 0 (by omega))
   rw [List.drop_zero] at hf
   generalize unesc m = r at hf ⊢
   clear hE
   go_enter Tryz.func126, Tryz.ntmps126
   go_wp2
   go_ret2
   exact ⟨ret_une hf.out, Below.refl _ _⟩
 have h1' : 1 < m.length := by omega
 have hf := unesc_at m 0 h1'
 rw [List.drop_zero, Nat.zero_add, Nat.zero_add, Nat.zero_add] at hf
 generalize unesc m = r at hf ⊢
 have HE := Lib.hid hE
 clear h1 hE
 by_cases d34 : byt m 1 = 34
 · rw [if_pos (.inl d34), d34] at hf
   have HF := Lib.hid hf; clear hf
   go_enter Tryz.func126, Tryz.ntmps126
   go_wp2
   go_ret2
   exact ⟨ret_une HF.out, Below.refl _ _⟩
 by_cases d92 : byt m 1 = 92
 · rw [if_pos (.inr d92), d92] at hf
   have HF := Lib.hid hf; clear hf
   go_enter Tryz.func126, Tryz.ntmps126
   go_wp2
   go_ret2
   exact ⟨ret_une HF.out, Below.refl _ _⟩
 rw [if_neg (by simp [d34, d92])] at hf
 have e34 : (((byt m 1).toNat : Int) == 34) = false := u8_ne d34
 have e92 : (((byt m 1).toNat : Int) == 92) = false := u8_ne d92
 clear d34 d92
 by_cases d110 : byt m 1 = 110
 · rw [if_pos d110] at hf
   have HF := Lib.hid hf; clear hf
   go_enter Tryz.func126, Tryz.ntmps126
   go_wp2
   go_ret2
   exact ⟨ret_une HF.out, Below.refl _ _⟩
 rw [if_neg d110] at hf
 have e110 : (((byt m 1).toNat : Int) == 110) = false := u8_ne d110
 clear d110
 by_cases d116 : byt m 1 = 116
 · rw [if_pos d116] at hf
   have HF := Lib.hid hf; clear hf
   go_enter Tryz.func126, Tryz.ntmps126
   go_wp2
   go_ret2
   exact ⟨ret_une HF.out, Below.refl _ _⟩
 rw [if_neg d116] at hf
 have e116 : (((byt m 1).toNat : Int) == 116) = false := u8_ne d116
 clear d116
 by_cases d114 : byt m 1 = 114
 · rw [if_pos d114] at hf
   have HF := Lib.hid hf; clear hf
   go_enter Tryz.func126, Tryz.ntmps126
   go_wp2
   go_ret2
   exact ⟨ret_une HF.out, Below.refl _ _⟩
 rw [if_neg d114] at hf
 have e114 : (((byt m 1).toNat : Int) == 114) = false := u8_ne d114
 clear d114
 by_cases d120 : byt m 1 = 120
 · rw [if_pos d120] at hf
   by_cases h3 : 3 < m.length
   · rw [if_pos h3] at hf
     have hsl := sl24 m h3
     have a1 := hexI_lt (byt m 2)
     have a2 := hexI_lt (byt m 3)
     by_cases n1 : 0 ≤ hexI (byt m 2) ∧ 0 ≤ hexI (byt m 3)
     · obtain ⟨x, hx, hxv⟩ := hexTwo_some n1.1 n1.2
       rw [hx] at hf
       have HF := Lib.hid hf; clear hf
       have HX := Lib.hid hxv; clear hxv hx
       have H := Lib.hid fun w => pu_ok (byt m 2) (byt m 3) n1.1 n1.2 w
       have b2 : 16 * hexI (byt m 2) + hexI (byt m 3) ≤ 255 := by omega
       have b3 : 0 ≤ 16 * hexI (byt m 2) + hexI (byt m 3) := by omega
       generalize 16 * hexI (byt m 2) + hexI (byt m 3) = v at H b2 b3 HX
       clear n1 a1 a2
       go_enter Tryz.func126, Tryz.ntmps126
       go_wp2_with fail
       refine (H.out _).mono ?_
       rintro e w1 ⟨rfl, hb1⟩
       clear H hsl
       go_wp2
       go_ret2
       exact ⟨by rw [HF.out, ← HX.out]; rfl, hb1⟩
     · have hn : hexTwo (byt m 2) (byt m 3) = none := hexTwo_none (by omega)
       rw [hn] at hf
       have HF := Lib.hid hf; clear hf hn
       have H := Lib.hid (pu_err (byt m 2) (byt m 3) n1 w HE.out)
       clear n1 a1 a2
       go_enter Tryz.func126, Tryz.ntmps126
       go_wp2_with fail
       refine H.out.mono ?_
       rintro e w1 ⟨⟨N, rfl⟩, hb1⟩
       clear H hsl
       go_wp2
       go_ret2
       exact ⟨ret_une HF.out, hb1⟩
   · rw [if_neg h3] at hf
     have HF := Lib.hid hf; clear hf
     go_enter Tryz.func126, Tryz.ntmps126
     go_wp2
     go_ret2
     exact ⟨ret_une HF.out, Below.refl _ _⟩
 · rw [if_neg d120] at hf
   have e120 : (((byt m 1).toNat : Int) == 120) = false := u8_ne d120
   clear d120
   have HF := Lib.hid hf; clear hf
   go_enter Tryz.func126, Tryz.ntmps126
   go_wp2
   go_ret2
   exact ⟨ret_une HF.out, Below.refl _ _⟩
end
section
open Go.RowKit
theorem unesc_len (m : List UInt8) : (unesc m).2 ≤ m.length ∧ (unesc m).2 ≤ 4 := by
 match m with
 | [] => simp [unesc]
 | [_] => simp [unesc]
 | _ :: b :: r =>
   simp only [unesc]
   (repeat' split) <;> simp
def uqVal (r : List UInt8 × Nat × Nat) : Value := .tuple #[.string (S r.1), .agg #[.int .i64 (r.2.1 : Int), .int .i64 (r.2.2 : Int)]]
theorem ret_uq {r : List UInt8 × Nat × Nat} {a : List UInt8} {e p : Nat} (h : r = (a, e, p)) : Ending.returned (.tuple #[.string (S a), .agg #[.int .i64 (e : Int), .int .i64 (p : Int)]]) = .returned (uqVal r) := by rw [h]; rfl
set_option maxRecDepth 100000 in
set_option maxHeartbeats 1000000 in
theorem Unquote_any (l : List UInt8) (hl : l.length ≤ 1000000) (w : World) (hE : ErrOk w) :
   Calls Tryz.prog 89 #[.string (S l)] w fun e w' => e = .returned (uqVal (unqL l)) ∧ Below w.heap.size w w' := by
 have HE := Lib.hid hE
 clear hE
 by_cases hbig : 65536 < l.length
 · have hf : unqL l = ([], 2, 0) := by unfold unqL; rw [if_pos hbig]
   generalize unqL l = r at hf ⊢
   have HF := Lib.hid hf; clear hf
   go_enter Tryz.func89, Tryz.ntmps89
   go_wp2_with fail
   go_step3
   go_wp2_with fail
   try rw [Exit.noGoto_ret]
   exact bodyPost_ret (v := .tuple #[.string ⟨#[]⟩, .agg #[.int .i64 2, .int .i64 0]]) (by simp [results, Tryz.results89, go_sem]) rfl ⟨ret_uq HF.out, by go_grown⟩
 cases l with
 | nil =>
   have HF := Lib.hid (show unqL [] = ([], 8, 0) by rfl)
   go_enter Tryz.func89, Tryz.ntmps89
   go_wp2_with fail
   go_step3
   go_wp2_with fail
   try rw [Exit.noGoto_ret]
   exact bodyPost_ret (v := .tuple #[.string ⟨#[]⟩, .agg #[.int .i64 8, .int .i64 0]]) (by simp [results, Tryz.results89, go_sem]) rfl ⟨ret_uq HF.out, by go_grown⟩
 | cons c t =>
 by_cases h34 : c = 34
 · subst h34
   have hf : unqL (34 :: t) = scan ((34 :: t).drop 1) 0 1 [] := by unfold unqL; rw [if_neg hbig]; rfl
   have e0 : byt (34 :: t) 0 = 34 := rfl
   have hl0 : 0 < ((34 : UInt8) :: t).length := by simp
   have hne : ((((34 : UInt8) :: t).length : Int) == 0) = false := by simp; omega
   generalize (34 : UInt8) :: t = l at *
   generalize unqL l = r at hf ⊢
   have HF := Lib.hid hf; clear hf
   obtain ⟨i0, hi, hz0, hz1, hz2⟩ := info_parts infoU8
   have hb' : l.length ≤ 65536 := by omega
   go_enter Tryz.func89, Tryz.ntmps89
   go_wp2_with fail
   go_step3
   go_wp2_with fail
   clear e0 hne
   go_step3
   go_wp2_with fail
   obtain ⟨w0, hw0⟩ : ∃ w0, w0 = w.alloc (.cells #[.int .i64 0, .int .i64 0] 33) := ⟨_, rfl⟩
   have hT0 : Two w0 w.heap.size 33 (.int .i64 0) (.int .i64 0) := by rw [hw0]; exact Two.new w _ _ _
   have hs0 : w.heap.size + 1 ≤ w0.heap.size := by rw [hw0]; simp
   have hB0 : Below w.heap.size w w0 := by rw [hw0]; exact (Below.refl _ _).alloc (Nat.le_refl _) _
   rw [← hw0]
   clear hw0
   go_loopw [4, 5] (fun v i wr => ∃ (k : Nat) (acc : List UInt8), k ≤ l.length ∧ 1 ≤ k ∧ i = .int .i64 k ∧ acc.length ≤ k ∧ wr.ownsRow (w.heap.size + 1) 5 1 v acc.length (bcells acc) ∧ Below (w.heap.size + 1) w0 wr ∧ Hid (r = scan (l.drop k) 0 k acc))
     (fun _ i _ => l.length - (intOf i).toNat)
   case atStart => exact ⟨1, [], by omega, by omega, rfl, by simp, World.ownsRow_nil _ _ _ _, Below.refl _ _, HF.out⟩
   case round =>
     clear HF
     obtain ⟨k, acc, hk, hk1, rfl, hacc, hown, hBr, hh⟩ := hrel
     have hT : Two wr w.heap.size 33 (.int .i64 0) (.int .i64 0) := (hBr.block _ (by omega)).trans hT0
     have hc0 := hT.cell0
     have hc1 := hT.cell1
     have hf0 := hT.frozen0
     have hf1 := hT.frozen1
     have hBw : Below w.heap.size w wr := hB0.trans (hBr.mono (by omega))
     by_cases hend : l.length ≤ k
     · have hr : r = ([], 8, l.length) := by
         rw [hh.out, List.drop_eq_nil_of_le hend, show k = l.length by omega]; rfl
       have HR := Lib.hid hr; clear hr
       go_wp2_with fail
       try rw [Exit.noGoto_ret]
       exact bodyPost_ret (v := .tuple #[.string ⟨#[]⟩, .agg #[.int .i64 8, .int .i64 l.length]]) (by simp [results, Tryz.results89, go_sem, hc0, hc1]) rfl ⟨ret_uq HR.out, by go_grown⟩
     · have hlt : k < l.length := by omega
       clear hend
       have hdrop := drop_byt l k hlt
       by_cases c34 : byt l k = 34
       · by_cases hmore : k + 1 < l.length
         · have hr : r = ([], 8, k + 1) := by
             rw [hh.out, hdrop, c34, drop_byt l (k + 1) hmore]; rfl
           have HR := Lib.hid hr; clear hr hdrop
           go_wp2_with fail
           try rw [Exit.noGoto_ret]
           exact bodyPost_ret (v := .tuple #[.string ⟨#[]⟩, .agg #[.int .i64 8, .int .i64 ((k + 1 : Nat) : Int)]]) (by simp [results, Tryz.results89, go_sem, hc0, hc1]) rfl ⟨ret_uq HR.out, by go_grown⟩
         · have hr : r = (acc, 0, 0) := by
             rw [hh.out, hdrop, c34, List.drop_eq_nil_of_le (show l.length ≤ k + 1 by omega)]; rfl
           have HR := Lib.hid hr; clear hr hdrop
           have hcv := conv_own (P := Tryz.prog) wr 96 9 5 (w.heap.size + 1) _ acc Tryz.underlying96 Tryz.underlying5 Tryz.underlying9 hown
           go_wp2_with fail
           try rw [Exit.noGoto_ret]
           exact bodyPost_ret (v := .tuple #[.string (S acc), .agg #[.int .i64 0, .int .i64 0]]) (by simp [results, Tryz.results89, go_sem, hc0, hc1]) rfl ⟨ret_uq HR.out, by go_grown⟩
       · have e34 : (((byt l k).toNat : Int) == 34) = false := u8_ne c34
         have hsz : w.heap.size + 1 ≤ wr.heap.size := Nat.le_trans hs0 hBr.size
         by_cases c92 : byt l k = 92
         · have hu := unesc_len (l.drop k)
           rw [List.length_drop] at hu
           have hr : r = if (unesc (l.drop k)).2 = 0 then ([], 8, k) else scan (l.drop (k + 1)) ((unesc (l.drop k)).2 - 1) (k + (unesc (l.drop k)).2) (acc ++ [(unesc (l.drop k)).1]) := by
             rw [hh.out, hdrop, c92]; simp [scan]
           have hcall := unescape_any (sl l k l.length) (by rw [sl_from, List.length_drop]; omega) wr (HE.out.below hBw)
           rw [sl_from] at hcall
           rw [← sl_from l k] at hcall
           obtain ⟨c, n, hcn⟩ : ∃ c n, unesc (l.drop k) = (c, n) := ⟨_, _, rfl⟩
           rw [sl_from l k] at hcall
           rw [hcn] at hr hu hcall
           simp only [] at hr hu
           have hsl := Lib.hid (sl_from l k)
           have HC := Lib.hid hcall; clear hcall hcn hdrop
           by_cases hn : n = 0
           · rw [if_pos hn] at hr
             subst hn
             have HR := Lib.hid hr; clear hr
             go_wp2_with fail
             rw [hsl.out]
             refine HC.out.mono ?_
             rintro e w1 ⟨rfl, hb1⟩
             clear HC hc0 hc1 hf0 hf1
             have hT1 := hT.below hb1
             have hc0 := hT1.cell0
             have hc1 := hT1.cell1
             have hf0 := hT1.frozen0
             have hf1 := hT1.frozen1
             have hBw1 : Below w.heap.size w w1 := hBw.trans (hb1.mono (by omega))
             dsimp only [uneVal]
             go_wp2_with fail
             try rw [Exit.noGoto_ret]
             exact bodyPost_ret (v := .tuple #[.string ⟨#[]⟩, .agg #[.int .i64 8, .int .i64 k]]) (by simp [results, Tryz.results89, go_sem, hc0, hc1]) rfl ⟨ret_uq HR.out, by go_grown⟩
           · rw [if_neg hn, scan_skip _ _ _ _ (by rw [List.length_drop]; omega), List.drop_drop, show k + 1 + (n - 1) = k + n by omega] at hr
             have HR := Lib.hid hr; clear hr
             have hn0 : ((n : Int) == 0) = false := by simp; exact hn
             have hn1 : n ≤ 4 := hu.2
             have hn2 : k + n ≤ l.length := by omega
             go_wp2_with fail
             rw [hsl.out]
             refine HC.out.mono ?_
             rintro e w1 ⟨rfl, hb1⟩
             clear HC hc0 hc1 hf0 hf1
             have hown1 := own_under hown hb1
             have hB1 : Below (w.heap.size + 1) w0 w1 := hBr.trans (hb1.mono (by omega))
             have hsz1 : w.heap.size + 1 ≤ w1.heap.size := Nat.le_trans hsz hb1.size
             dsimp only [uneVal]
             go_wp2_with (at_builtin; refine wpList_append_own _ rfl _ _ 96 rfl (w.heap.size + 1) 5 i0 (.int .u8 0) 1 1 Tryz.underlying96 hi hz0 hz1 hz2 rfl (by decide) _ _ _ rfl (hown1.alloc _) ⟨w1.heap.size, 0, none⟩ 1 1 [.int .u8 (c.toNat : Int)] rfl rfl (cell_one_new _ _ _) (by simp [Value.oneCell']) (by unfold maxLen; omega) (by omega) (by simp; omega) ?_; intro v' w2 hown' hgrow _)
             have hB2 : Below (w.heap.size + 1) w0 w2 := own_below1 hB1 hown1 hgrow (by omega)
             have hown2 : w2.ownsRow (w.heap.size + 1) 5 1 v' (acc ++ [c]).length (bcells (acc ++ [c])) := by rw [← bcells_append, List.length_append]; exact hown'
             clear hgrow hown'
             go_wp2_with fail
             go_roundw
             case rel => exact ⟨k + n, acc ++ [c], by omega, by omega, by go_num, by rw [List.length_append]; simp; omega, hown2, hB2, HR.out⟩
             case measure => simp [intOf]; omega
         · have e92 : (((byt l k).toNat : Int) == 92) = false := u8_ne c92
           by_cases hp : byt l k < 32 ∨ 126 < byt l k
           · have hr : r = ([], 8, k) := by
               rw [hh.out, hdrop]; simp [scan, c34, c92, hp]
             have HR := Lib.hid hr; clear hr hdrop
             have hq : ¬ (32 ≤ (byt l k).toNat ∧ (byt l k).toNat ≤ 126) := by
               rcases hp with h | h <;> rw [UInt8.lt_iff_toNat_lt] at h <;> simp at h <;> omega
             clear hp
             by_cases h32 : (byt l k).toNat < 32
             · go_wp2_with fail
               try rw [Exit.noGoto_ret]
               exact bodyPost_ret (v := .tuple #[.string ⟨#[]⟩, .agg #[.int .i64 8, .int .i64 k]]) (by simp [results, Tryz.results89, go_sem, hc0, hc1]) rfl ⟨ret_uq HR.out, by go_grown⟩
             · have h126 : 126 < (byt l k).toNat := by omega
               go_wp2_with fail
               try rw [Exit.noGoto_ret]
               exact bodyPost_ret (v := .tuple #[.string ⟨#[]⟩, .agg #[.int .i64 8, .int .i64 k]]) (by simp [results, Tryz.results89, go_sem, hc0, hc1]) rfl ⟨ret_uq HR.out, by go_grown⟩
           · have h32 : 32 ≤ (byt l k).toNat := by
               have := fun h => hp (.inl h); rw [UInt8.lt_iff_toNat_lt] at this; simp at this; exact this
             have h126 : (byt l k).toNat ≤ 126 := by
               have := fun h => hp (.inr h); rw [UInt8.lt_iff_toNat_lt] at this; simp at this; exact this
             have hr : r = scan (l.drop (k + 1)) 0 (k + 1) (acc ++ [byt l k]) := by
               rw [hh.out, hdrop]; simp [scan, c34, c92, hp]
             have HR := Lib.hid hr; clear hr hdrop hp
             go_wp2_with (at_builtin; refine wpList_append_own _ rfl _ _ 96 rfl (w.heap.size + 1) 5 i0 (.int .u8 0) 1 1 Tryz.underlying96 hi hz0 hz1 hz2 rfl (by decide) _ _ _ rfl (hown.alloc _) ⟨wr.heap.size, 0, none⟩ 1 1 [.int .u8 ((byt l k).toNat : Int)] rfl rfl (cell_one_new _ _ _) (by simp [Value.oneCell']) (by unfold maxLen; omega) (by omega) (by simp; omega) ?_; intro v' w1 hown' hgrow _)
             have hB1 : Below (w.heap.size + 1) w0 w1 := own_below1 hBr hown hgrow (by omega)
             have hown2 : w1.ownsRow (w.heap.size + 1) 5 1 v' (acc ++ [(byt l k)]).length (bcells (acc ++ [(byt l k)])) := by rw [← bcells_append, List.length_append]; exact hown'
             clear hgrow hown'
             go_wp2_with fail
             go_roundw
             case rel => exact ⟨k + 1, acc ++ [byt l k], by omega, by omega, by go_num, by rw [List.length_append]; simp; omega, hown2, hB1, HR.out⟩
             case measure => simp [intOf]; omega
 · have hf : unqL (c :: t) = ([], 8, 0) := by unfold unqL; rw [if_neg hbig]; simp [h34]
   have e0 : byt (c :: t) 0 = c := rfl
   have hl0 : 0 < (c :: t).length := by simp
   have hne : (((c :: t).length : Int) == 0) = false := by simp; omega
   generalize c :: t = l at *
   have HF := Lib.hid hf; clear hf
   have e34 : ((c.toNat : Int) == 34) = false := u8_ne h34
   clear h34
   go_enter Tryz.func89, Tryz.ntmps89
   go_wp2_with fail
   go_step3
   go_wp2_with fail
   try rw [Exit.noGoto_ret]
   exact bodyPost_ret (v := .tuple #[.string ⟨#[]⟩, .agg #[.int .i64 8, .int .i64 0]]) (by simp [results, Tryz.results89, go_sem]) rfl ⟨ret_uq HF.out, by go_grown⟩
end
section
open Go.RowKit
theorem fault_any (n : Int) (w : World) : Calls Tryz.prog 155 #[.int .i64 n] w fun e w' => e = .returned (.agg #[.int .i64 8, .int .i64 n]) ∧ Below w.heap.size w w' := by
 go_enter Tryz.func155, Tryz.ntmps155
 go_wp2
 exact bodyPost_ret (v := .agg #[.int .i64 8, .int .i64 n]) (by simp [results, Tryz.results155, go_sem]) rfl ⟨rfl, by go_grown⟩
set_option maxRecDepth 100000 in
set_option maxHeartbeats 1000000 in
theorem refUnquote_any (l : List UInt8) (hl : l.length ≤ 1000000) (w : World) :
   Calls Tryz.prog 132 #[.string (S l)] w fun e w' => e = .returned (uqVal (unqL l)) ∧ Below w.heap.size w w' := by
 have hT : Two (w.alloc (.cells #[.int .i64 0, .int .i64 0] 33)) w.heap.size 33 (.int .i64 0) (.int .i64 0) := Two.new w _ _ _
 have hBn : Below w.heap.size w (w.alloc (.cells #[.int .i64 0, .int .i64 0] 33)) := (Below.refl _ _).alloc (Nat.le_refl _) _
 by_cases hbig : 65536 < l.length
 · have hf : unqL l = ([], 2, 0) := by unfold unqL; rw [if_pos hbig]
   generalize unqL l = r at hf ⊢
   have HF := Lib.hid hf; clear hf
   go_enter Tryz.func132, Tryz.ntmps132
   go_wp2_with fail
   exact bodyPost_ret (v := .tuple #[.string ⟨#[]⟩, .agg #[.int .i64 2, .int .i64 0]]) (by simp [results, Tryz.results132, go_sem]) rfl ⟨ret_uq HF.out, by go_grown⟩
 cases l with
 | nil =>
   have HF := Lib.hid (show unqL [] = ([], 8, 0) by rfl)
   have hc0 := hT.cell0
   have hc1 := hT.cell1
   have hf0 := hT.frozen0
   have hf1 := hT.frozen1
   go_enter Tryz.func132, Tryz.ntmps132
   go_wp2_with fail
   refine (fault_any _ _).mono ?_
   rintro e w9 ⟨rfl, hb9⟩
   clear hc0 hc1 hf0 hf1
   have hT9 := hT.below hb9
   have hc0 := hT9.cell0
   have hc1 := hT9.cell1
   have hf0 := hT9.frozen0
   have hf1 := hT9.frozen1
   have hBw9 : Below w.heap.size w w9 := hBn.trans (hb9.mono hBn.size)
   go_wp2_with fail
   exact bodyPost_ret (v := .tuple #[.string ⟨#[]⟩, .agg #[.int .i64 8, .int .i64 0]]) (by simp [results, Tryz.results132, go_sem, hc0, hc1]) rfl ⟨ret_uq HF.out, by go_grown⟩
 | cons c t =>
 by_cases h34 : c = 34
 · subst h34
   have hf : unqL (34 :: t) = scan ((34 :: t).drop 1) 0 1 [] := by unfold unqL; rw [if_neg hbig]; rfl
   have e0 : byt (34 :: t) 0 = 34 := rfl
   have hl0 : 0 < ((34 : UInt8) :: t).length := by simp
   have hne : ((((34 : UInt8) :: t).length : Int) == 0) = false := by simp; omega
   generalize (34 : UInt8) :: t = l at *
   generalize unqL l = r at hf ⊢
   have HF := Lib.hid hf; clear hf
   obtain ⟨i0, hi, hz0, hz1, hz2⟩ := info_parts infoU8
   have hb' : l.length ≤ 65536 := by omega
   go_enter Tryz.func132, Tryz.ntmps132
   go_wp2_with fail
   clear e0 hne hT hBn
   obtain ⟨w0, hw0⟩ : ∃ w0, w0 = w.alloc (.cells #[.int .i64 0, .int .i64 0] 33) := ⟨_, rfl⟩
   have hT0 : Two w0 w.heap.size 33 (.int .i64 0) (.int .i64 0) := by rw [hw0]; exact Two.new w _ _ _
   have hs0 : w.heap.size + 1 ≤ w0.heap.size := by rw [hw0]; simp
   have hB0 : Below w.heap.size w w0 := by rw [hw0]; exact (Below.refl _ _).alloc (Nat.le_refl _) _
   rw [← hw0]
   clear hw0
   go_loopw [4, 5] (fun v i wr => ∃ (k : Nat) (acc : List UInt8), k ≤ l.length ∧ 1 ≤ k ∧ i = .int .i64 k ∧ acc.length ≤ k ∧ wr.ownsRow (w.heap.size + 1) 5 1 v acc.length (bcells acc) ∧ Below (w.heap.size + 1) w0 wr ∧ Hid (r = scan (l.drop k) 0 k acc))
     (fun _ i _ => l.length - (intOf i).toNat)
   case atStart => exact ⟨1, [], by omega, by omega, rfl, by simp, World.ownsRow_nil _ _ _ _, Below.refl _ _, HF.out⟩
   case round =>
     clear HF
     obtain ⟨k, acc, hk, hk1, rfl, hacc, hown, hBr, hh⟩ := hrel
     have hT : Two wr w.heap.size 33 (.int .i64 0) (.int .i64 0) := (hBr.block _ (by omega)).trans hT0
     have hc0 := hT.cell0
     have hc1 := hT.cell1
     have hf0 := hT.frozen0
     have hf1 := hT.frozen1
     have hBw : Below w.heap.size w wr := hB0.trans (hBr.mono (by omega))
     by_cases hend : l.length ≤ k
     · have hr : r = ([], 8, l.length) := by
         rw [hh.out, List.drop_eq_nil_of_le hend, show k = l.length by omega]; rfl
       have HR := Lib.hid hr; clear hr
       go_wp2_with fail
       refine (fault_any _ _).mono ?_
       rintro e w9 ⟨rfl, hb9⟩
       clear hc0 hc1 hf0 hf1
       have hT9 := hT.below hb9
       have hc0 := hT9.cell0
       have hc1 := hT9.cell1
       have hf0 := hT9.frozen0
       have hf1 := hT9.frozen1
       have hBw9 : Below w.heap.size w w9 := hBw.trans (hb9.mono hBw.size)
       go_wp2_with fail
       exact bodyPost_ret (v := .tuple #[.string ⟨#[]⟩, .agg #[.int .i64 8, .int .i64 l.length]]) (by simp [results, Tryz.results132, go_sem, hc0, hc1]) rfl ⟨ret_uq HR.out, by go_grown⟩
     · have hlt : k < l.length := by omega
       clear hend
       have hdrop := drop_byt l k hlt
       by_cases c34 : byt l k = 34
       · by_cases hmore : k + 1 < l.length
         · have hr : r = ([], 8, k + 1) := by
             rw [hh.out, hdrop, c34, drop_byt l (k + 1) hmore]; rfl
           have HR := Lib.hid hr; clear hr hdrop
           go_wp2_with fail
           refine (fault_any _ _).mono ?_
           rintro e w9 ⟨rfl, hb9⟩
           clear hc0 hc1 hf0 hf1
           have hT9 := hT.below hb9
           have hc0 := hT9.cell0
           have hc1 := hT9.cell1
           have hf0 := hT9.frozen0
           have hf1 := hT9.frozen1
           have hBw9 : Below w.heap.size w w9 := hBw.trans (hb9.mono hBw.size)
           go_wp2_with fail
           exact bodyPost_ret (v := .tuple #[.string ⟨#[]⟩, .agg #[.int .i64 8, .int .i64 ((k + 1 : Nat) : Int)]]) (by simp [results, Tryz.results132, go_sem, hc0, hc1]) rfl ⟨ret_uq HR.out, by go_grown⟩
         · have hr : r = (acc, 0, 0) := by
             rw [hh.out, hdrop, c34, List.drop_eq_nil_of_le (show l.length ≤ k + 1 by omega)]; rfl
           have HR := Lib.hid hr; clear hr hdrop
           have hcv := conv_own (P := Tryz.prog) wr 96 9 5 (w.heap.size + 1) _ acc Tryz.underlying96 Tryz.underlying5 Tryz.underlying9 hown
           go_wp2_with fail
           exact bodyPost_ret (v := .tuple #[.string (S acc), .agg #[.int .i64 0, .int .i64 0]]) (by simp [results, Tryz.results132, go_sem, hc0, hc1]) rfl ⟨ret_uq HR.out, by go_grown⟩
       · have e34 : (((byt l k).toNat : Int) == 34) = false := u8_ne c34
         have hsz : w.heap.size + 1 ≤ wr.heap.size := Nat.le_trans hs0 hBr.size
         by_cases c92 : byt l k = 92
         · have hu := unesc_len (l.drop k)
           rw [List.length_drop] at hu
           have hr : r = if (unesc (l.drop k)).2 = 0 then ([], 8, k) else scan (l.drop (k + 1)) ((unesc (l.drop k)).2 - 1) (k + (unesc (l.drop k)).2) (acc ++ [(unesc (l.drop k)).1]) := by
             rw [hh.out, hdrop, c92]; simp [scan]
           have hcall := Escape_any l k hl hlt c92 wr
           obtain ⟨c, n, hcn⟩ : ∃ c n, unesc (l.drop k) = (c, n) := ⟨_, _, rfl⟩
           rw [hcn] at hr hu hcall
           simp only [] at hr hu
           have HC := Lib.hid hcall; clear hcall hcn hdrop
           by_cases hn : n = 0
           · rw [if_pos hn] at hr
             subst hn
             have HR := Lib.hid hr; clear hr
             go_wp2_with fail
             refine HC.out.mono ?_
             rintro e w1 ⟨rfl, hb1⟩
             clear HC hc0 hc1 hf0 hf1
             have hT1 := hT.below hb1
             have hc0 := hT1.cell0
             have hc1 := hT1.cell1
             have hf0 := hT1.frozen0
             have hf1 := hT1.frozen1
             have hBw1 : Below w.heap.size w w1 := hBw.trans (hb1.mono (by omega))
             dsimp only [uneVal]
             go_wp2_with fail
             refine (fault_any _ _).mono ?_
             rintro e w9 ⟨rfl, hb9⟩
             clear hc0 hc1 hf0 hf1
             have hT9 := hT1.below hb9
             have hc0 := hT9.cell0
             have hc1 := hT9.cell1
             have hf0 := hT9.frozen0
             have hf1 := hT9.frozen1
             have hBw9 : Below w.heap.size w w9 := hBw1.trans (hb9.mono hBw1.size)
             go_wp2_with fail
             exact bodyPost_ret (v := .tuple #[.string ⟨#[]⟩, .agg #[.int .i64 8, .int .i64 k]]) (by simp [results, Tryz.results132, go_sem, hc0, hc1]) rfl ⟨ret_uq HR.out, by go_grown⟩
           · rw [if_neg hn, scan_skip _ _ _ _ (by rw [List.length_drop]; omega), List.drop_drop, show k + 1 + (n - 1) = k + n by omega] at hr
             have HR := Lib.hid hr; clear hr
             have hn0 : ((n : Int) == 0) = false := by simp; exact hn
             have hn1 : n ≤ 4 := hu.2
             have hn2 : k + n ≤ l.length := by omega
             go_wp2_with fail
             refine HC.out.mono ?_
             rintro e w1 ⟨rfl, hb1⟩
             clear HC hc0 hc1 hf0 hf1
             have hown1 := own_under hown hb1
             have hB1 : Below (w.heap.size + 1) w0 w1 := hBr.trans (hb1.mono (by omega))
             have hsz1 : w.heap.size + 1 ≤ w1.heap.size := Nat.le_trans hsz hb1.size
             dsimp only [uneVal]
             go_wp2_with (at_builtin; refine wpList_append_own _ rfl _ _ 96 rfl (w.heap.size + 1) 5 i0 (.int .u8 0) 1 1 Tryz.underlying96 hi hz0 hz1 hz2 rfl (by decide) _ _ _ rfl (hown1.alloc _) ⟨w1.heap.size, 0, none⟩ 1 1 [.int .u8 (c.toNat : Int)] rfl rfl (cell_one_new _ _ _) (by simp [Value.oneCell']) (by unfold maxLen; omega) (by omega) (by simp; omega) ?_; intro v' w2 hown' hgrow _)
             have hB2 : Below (w.heap.size + 1) w0 w2 := own_below1 hB1 hown1 hgrow (by omega)
             have hown2 : w2.ownsRow (w.heap.size + 1) 5 1 v' (acc ++ [c]).length (bcells (acc ++ [c])) := by rw [← bcells_append, List.length_append]; exact hown'
             clear hgrow hown'
             go_wp2_with fail
             go_roundw
             case rel => exact ⟨k + n, acc ++ [c], by omega, by omega, by go_num, by rw [List.length_append]; simp; omega, hown2, hB2, HR.out⟩
             case measure => simp [intOf]; omega
         · have e92 : (((byt l k).toNat : Int) == 92) = false := u8_ne c92
           by_cases hp : byt l k < 32 ∨ 126 < byt l k
           · have hr : r = ([], 8, k) := by
               rw [hh.out, hdrop]; simp [scan, c34, c92, hp]
             have HR := Lib.hid hr; clear hr hdrop
             have hq : ¬ (32 ≤ (byt l k).toNat ∧ (byt l k).toNat ≤ 126) := by
               rcases hp with h | h <;> rw [UInt8.lt_iff_toNat_lt] at h <;> simp at h <;> omega
             clear hp
             by_cases h32 : (byt l k).toNat < 32
             · go_wp2_with fail
               refine (fault_any _ _).mono ?_
               rintro e w9 ⟨rfl, hb9⟩
               clear hc0 hc1 hf0 hf1
               have hT9 := hT.below hb9
               have hc0 := hT9.cell0
               have hc1 := hT9.cell1
               have hf0 := hT9.frozen0
               have hf1 := hT9.frozen1
               have hBw9 : Below w.heap.size w w9 := hBw.trans (hb9.mono hBw.size)
               go_wp2_with fail
               exact bodyPost_ret (v := .tuple #[.string ⟨#[]⟩, .agg #[.int .i64 8, .int .i64 k]]) (by simp [results, Tryz.results132, go_sem, hc0, hc1]) rfl ⟨ret_uq HR.out, by go_grown⟩
             · have h126 : 126 < (byt l k).toNat := by omega
               go_wp2_with fail
               refine (fault_any _ _).mono ?_
               rintro e w9 ⟨rfl, hb9⟩
               clear hc0 hc1 hf0 hf1
               have hT9 := hT.below hb9
               have hc0 := hT9.cell0
               have hc1 := hT9.cell1
               have hf0 := hT9.frozen0
               have hf1 := hT9.frozen1
               have hBw9 : Below w.heap.size w w9 := hBw.trans (hb9.mono hBw.size)
               go_wp2_with fail
               exact bodyPost_ret (v := .tuple #[.string ⟨#[]⟩, .agg #[.int .i64 8, .int .i64 k]]) (by simp [results, Tryz.results132, go_sem, hc0, hc1]) rfl ⟨ret_uq HR.out, by go_grown⟩
           · have h32 : 32 ≤ (byt l k).toNat := by
               have := fun h => hp (.inl h); rw [UInt8.lt_iff_toNat_lt] at this; simp at this; exact this
             have h126 : (byt l k).toNat ≤ 126 := by
               have := fun h => hp (.inr h); rw [UInt8.lt_iff_toNat_lt] at this; simp at this; exact this
             have hr : r = scan (l.drop (k + 1)) 0 (k + 1) (acc ++ [byt l k]) := by
               rw [hh.out, hdrop]; simp [scan, c34, c92, hp]
             have HR := Lib.hid hr; clear hr hdrop hp
             go_wp2_with (at_builtin; refine wpList_append_own _ rfl _ _ 96 rfl (w.heap.size + 1) 5 i0 (.int .u8 0) 1 1 Tryz.underlying96 hi hz0 hz1 hz2 rfl (by decide) _ _ _ rfl (hown.alloc _) ⟨wr.heap.size, 0, none⟩ 1 1 [.int .u8 ((byt l k).toNat : Int)] rfl rfl (cell_one_new _ _ _) (by simp [Value.oneCell']) (by unfold maxLen; omega) (by omega) (by simp; omega) ?_; intro v' w2 hown' hgrow _)
             have hB2 : Below (w.heap.size + 1) w0 w2 := own_below1 hBr hown hgrow (by omega)
             have hown2 : w2.ownsRow (w.heap.size + 1) 5 1 v' (acc ++ [(byt l k)]).length (bcells (acc ++ [(byt l k)])) := by rw [← bcells_append, List.length_append]; exact hown'
             clear hgrow hown'
             go_wp2_with fail
             go_roundw
             case rel => exact ⟨k + 1, acc ++ [byt l k], by omega, by omega, by go_num, by rw [List.length_append]; simp; omega, hown2, hB2, HR.out⟩
             case measure => simp [intOf]; omega
 · have hf : unqL (c :: t) = ([], 8, 0) := by unfold unqL; rw [if_neg hbig]; simp [h34]
   have e0 : byt (c :: t) 0 = c := rfl
   have hl0 : 0 < (c :: t).length := by simp
   have hne : (((c :: t).length : Int) == 0) = false := by simp; omega
   generalize c :: t = l at *
   have HF := Lib.hid hf; clear hf
   have e34 : ((c.toNat : Int) == 34) = false := u8_ne h34
   clear h34
   have hc0 := hT.cell0
   have hc1 := hT.cell1
   have hf0 := hT.frozen0
   have hf1 := hT.frozen1
   go_enter Tryz.func132, Tryz.ntmps132
   go_wp2_with fail
   refine (fault_any _ _).mono ?_
   rintro e w9 ⟨rfl, hb9⟩
   clear hc0 hc1 hf0 hf1
   have hT9 := hT.below hb9
   have hc0 := hT9.cell0
   have hc1 := hT9.cell1
   have hf0 := hT9.frozen0
   have hf1 := hT9.frozen1
   have hBw9 : Below w.heap.size w w9 := hBn.trans (hb9.mono hBn.size)
   go_wp2_with fail
   exact bodyPost_ret (v := .tuple #[.string ⟨#[]⟩, .agg #[.int .i64 8, .int .i64 0]]) (by simp [results, Tryz.results132, go_sem, hc0, hc1]) rfl ⟨ret_uq HF.out, by go_grown⟩
end
section
open Go.RowKit
end
end Go.Proofs.YtdalfkklkeblaaaGreatDoor
