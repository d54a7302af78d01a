/- The reference's Position: line and column of an offset. -/
import Derived.Test.YtadbilonialjnaaDoorTkK
namespace Go.Proofs.YtadbilonialjnaaDoor
open Go.RowKit

set_option maxRecDepth 100000 in
set_option maxHeartbeats 2000000 in
theorem refPosition_any (l : List UInt8) (hl : l.length ≤ 1000000) (a : Int) (w : World) : Calls Tryd.prog 17 #[.string (S l), .int .i64 a] w fun e w' => e = .returned (posVal (l.take (clampN l a))) ∧ Below w.heap.size w w' := by
  have hc := clampN_le l a
  obtain ⟨p, hp⟩ : ∃ p, clampN l a = p := ⟨_, rfl⟩
  have HP := Lib.hid hp
  rw [hp] at hc ⊢
  obtain ⟨m, hm⟩ : ∃ m : Int, (if (l.length : Int) < a then (l.length : Int) else a) = m := ⟨_, rfl⟩
  have hm2 : (if 0 < m then m else 0) = (p : Int) := by
    unfold clampN at hp
    split at hp <;> split at hm <;> split <;> omega
  have hql : (l.take p).length = p := by rw [List.length_take]; omega
  clear hp
  have HM := Lib.hid hm
  have HM2 := Lib.hid hm2
  clear hm hm2
  go_enter Tryd.func17, Tryd.ntmps17
  go_upto_region 2 with fail
  rw [HM.out, HM2.out]
  go_wp2_with fail
  go_loopw [6, 7, 8] (fun x y z wr => ∃ pos : Nat, wr = w ∧ z = .int .i64 (pos : Int) ∧ pos ≤ p ∧ x = .int .i64 (rowN (l.take pos) : Int) ∧ y = .int .i64 (fromN (l.take pos) : Int)) (fun _ _ z _ => p - (intOf z).toNat)
  case atStart => exact ⟨0, rfl, rfl, by omega, rfl, rfl⟩
  case round =>
    obtain ⟨pos, rfl, rfl, hpos, rfl, rfl⟩ := hrel
    have hr := rowN_le (l.take pos)
    have hf := fromN_le (l.take pos)
    rw [List.length_take] at hr hf
    by_cases hlt : pos < p
    · have hlt2 : pos < l.length := by omega
      by_cases h10 : byt l pos = 10
      · have T : (((byt l pos).toNat : Int) == 10) = true := byte_test (d := 10) h10
        have HN := Lib.hid (show rowN (l.take (pos + 1)) = rowN (l.take pos) + 1 ∧ fromN (l.take (pos + 1)) = pos + 1 by
          rw [take_byt l pos hlt2, h10, rowN_nl, fromN_nl, List.length_take]; exact ⟨rfl, by omega⟩)
        clear h10
        go_wp2_with fail
        go_roundw
        case rel => exact ⟨pos + 1, trivial, rfl, hlt, by rw [HN.out.1]; go_num, by rw [HN.out.2]; go_num⟩
        case measure => simp [intOf]; omega
      · have T : (((byt l pos).toNat : Int) == 10) = false := u8_ne h10
        have HN := Lib.hid (show rowN (l.take (pos + 1)) = rowN (l.take pos) ∧ fromN (l.take (pos + 1)) = fromN (l.take pos) by
          rw [take_byt l pos hlt2, rowN_no _ _ h10, fromN_no _ _ h10]; exact ⟨rfl, rfl⟩)
        clear h10
        go_wp2_with fail
        go_roundw
        case rel => exact ⟨pos + 1, trivial, rfl, hlt, by rw [HN.out.1], by rw [HN.out.2]⟩
        case measure => simp [intOf]; omega
    · have he : pos = p := by omega
      subst he
      go_wp2_with fail
      go_ret2
      exact ⟨ret_pos rfl (by rw [hql]; omega), Below.refl _ _⟩
end Go.Proofs.YtadbilonialjnaaDoor
