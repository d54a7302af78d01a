/- The small predicates of bytes: letters, digits, hexadecimal digits. -/
import Derived.Test.YtadbilonialjnaaDoorEsc
namespace Go.Proofs.YtadbilonialjnaaDoor
open Go.RowKit

theorem letterB_nat (c : UInt8) : letterB c = (decide (97 ≤ c.toNat ∧ c.toNat ≤ 122) || decide (65 ≤ c.toNat ∧ c.toNat ≤ 90)) := by
  unfold letterB
  rw [Bool.eq_iff_iff]; simp [UInt8.le_iff_toNat_le]
theorem digitB_nat (c : UInt8) : digitB c = decide (48 ≤ c.toNat ∧ c.toNat ≤ 57) := by
  unfold digitB
  rw [Bool.eq_iff_iff]; simp [UInt8.le_iff_toNat_le]
theorem ret_bool {a b : Bool} (h : a = b) : Ending.returned (.bool a) = .returned (.bool b) := by rw [h]
theorem ret_i64 {a b : Int} (h : a = b) : Ending.returned (.int .i64 a) = .returned (.int .i64 b) := by rw [h]


set_option maxHeartbeats 400000 in
theorem Digit_any (c : UInt8) (w : World) : Calls Tryd.prog 51 #[.int .u8 (c.toNat : Int)] w fun e w' => e = .returned (.bool (digitB c)) ∧ w = w' := by
  have hlt := c.toNat_lt
  have hn := digitB_nat c
  generalize digitB c = b at hn ⊢
  have HN := Lib.hid hn
  clear hn
  go_enter Tryd.func51, Tryd.ntmps51
  go_wp2
  all_goals
    go_ret
    exact ⟨ret_bool (by rw [HN.out, Bool.eq_iff_iff]; first | (simp; omega) | (simp [*]; done)), rfl⟩

end Go.Proofs.YtadbilonialjnaaDoor
