import Derived.Deep.LoopGhost
import Derived.Test.YtdalfkklkeblaaaGreatDoorN18
namespace Go.Proofs.YtdalfkklkeblaaaGreatDoor
set_option linter.unusedSimpArgs false
set_option linter.unusedVariables false
open Go.RowKit
theorem drop_bytY {l : List UInt8} {i : Nat} (h : i < l.length) : l.drop i = byt l i :: l.drop (i + 1) := by
 rw [List.drop_eq_getElem_cons h]
 congr 1
 simp [byt, List.getD, h]
theorem qscan_hit {l : List UInt8} {i : Nat} (h : i < l.length) (hb : byt l i = 34) : qscan (l.drop i) i = i + 1 := by
 rw [drop_bytY h, hb]
 cases hr : l.drop (i + 1) with
 | nil => simp [qscan]
 | cons d r => simp [qscan]
theorem qscan_esc2 {l : List UInt8} {i : Nat} (h : i < l.length) (hb : byt l i = 92) : qscan (l.drop i) i = qscan (l.drop (i + 2)) (i + 2) := by
 rw [drop_bytY h, hb]
 rcases Nat.lt_or_ge (i + 1) l.length with h1 | h1
 · rw [drop_bytY h1, qscan_two]
 · rw [List.drop_of_length_le h1, List.drop_of_length_le (by omega)]; simp [qscan]
theorem qscan_next {l : List UInt8} {i : Nat} (h : i < l.length) (h1 : byt l i ≠ 34) (h2 : byt l i ≠ 92) : qscan (l.drop i) i = qscan (l.drop (i + 1)) (i + 1) := by
 rw [drop_bytY h, qscan_one h1 h2]
theorem qscan_end {l : List UInt8} {i : Nat} (h : l.length ≤ i) : qscan (l.drop i) i = 0 := by
 rw [List.drop_of_length_le h]; rfl
set_option maxRecDepth 100000 in
set_option maxHeartbeats 4000000 in
theorem quoted_any (l : List UInt8) (hl : l.length ≤ 1000000) (w : World) : Calls Tryz.prog 128 #[.string (S l)] w fun e w' => e = .returned (.int .i64 (quotedY l : Int)) ∧ w' = w := by
 have HQ := Lib.hid (show quotedY l = qscan (l.drop 1) 1 from rfl)
 generalize quotedY l = r at HQ ⊢
 go_enter Tryz.func128, Tryz.ntmps128
 go_wp2_with fail
 go_step3
 go_wp2_with fail
 go_step3
 go_wp2_with fail
 go_loopg [3] l.length (fun f v wr => ∃ i : Nat, v = .int .i64 (i : Int) ∧ 1 ≤ i ∧ i ≤ l.length + 1 ∧ l.length + 1 - i ≤ f ∧ wr = w ∧ Hid (r = qscan (l.drop i) i))
 case atStart => exact ⟨1, rfl, Nat.le_refl _, by omega, by omega, rfl, HQ⟩
 case round =>
   clear HQ
   obtain ⟨i, rfl, hi1, hi2, hif, rfl, HQ⟩ := hrel
   by_cases hlt : i < l.length
   · have i0 : (0 : Int) ≤ (i : Int) := by omega
     have i1 : (i : Int) < (l.length : Int) := by omega
     by_cases h34 : byt l i = 34
     · have HR := Lib.hid (show r = i + 1 by rw [HQ.out, qscan_hit hlt h34])
       have T1 : (((byt l i).toNat : Int) == 34) = true := by rw [h34]; rfl
       clear h34
       go_wp2_with fail
       try rw [Exit.noGoto_ret]
       go_ret
       exact ⟨by rw [HR.out]; go_num, rfl⟩
     · have T1 : (((byt l i).toNat : Int) == 34) = false := u8_ne h34
       by_cases h92 : byt l i = 92
       · have HR := Lib.hid (show r = qscan (l.drop (i + 2)) (i + 2) by rw [HQ.out, qscan_esc2 hlt h92])
         have T2 : (((byt l i).toNat : Int) == 92) = true := by rw [h92]; rfl
         rcases Nat.lt_or_ge (i + 1) l.length with hl2 | hl2
         · clear h34 h92
           go_wp2_with fail
           go_roundg (l.length + 1 - (i + 2))
           case measure => omega
           case rel => exact ⟨i + 2, by go_num, by omega, by omega, Nat.le_refl _, rfl, HR⟩
         · have HE := Lib.hid (show r = qscan (l.drop (i + 1 + 1)) (i + 1 + 1) from HR.out)
           clear h34 h92
           go_wp2_with fail
           go_roundg (l.length + 1 - (i + 2))
           case measure => omega
           case rel => exact ⟨i + 2, by go_num, by omega, by omega, Nat.le_refl _, rfl, HR⟩
       · have HR := Lib.hid (show r = qscan (l.drop (i + 1)) (i + 1) by rw [HQ.out, qscan_next hlt h34 h92])
         have T2 : (((byt l i).toNat : Int) == 92) = false := u8_ne h92
         clear h34 h92
         go_wp2_with fail
         go_roundg (l.length + 1 - (i + 1))
         case measure => omega
         case rel => exact ⟨i + 1, by go_num, by omega, by omega, Nat.le_refl _, rfl, HR⟩
   · have HR := Lib.hid (show r = 0 by rw [HQ.out, qscan_end (by omega)])
     go_wp2_with fail
     try rw [Exit.noGoto_ret]
     go_ret
     exact ⟨by rw [HR.out]; rfl, rfl⟩
end Go.Proofs.YtdalfkklkeblaaaGreatDoor
