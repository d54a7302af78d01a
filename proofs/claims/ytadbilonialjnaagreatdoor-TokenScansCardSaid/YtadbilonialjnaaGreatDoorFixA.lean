/- Walks of the numbers: the small functions. -/
import Derived.Handy
import Derived.Lib.Hide
import Derived.Test.YtadbilonialjnaaGreatDoorByt
import Derived.Test.YtadbilonialjnaaGreatDoorNum
import Derived.Test.YtadbilonialjnaaGreatDoorProg
namespace Go.Proofs.YtadbilonialjnaaGreatDoor
open Go.RowKit

/-- two results -/
def pr (x : Int × Int) : Value := .tuple #[.int .i64 x.1, .int .i64 x.2]
def OkB (x : Int × Int) (w : World) (e : Ending) (w' : World) : Prop := e = .returned (pr x) ∧ Below w.heap.size w w'
theorem ret_u64 {a b : Int} (h : a = b) : Ending.returned (.int .u64 a) = .returned (.int .u64 b) := by rw [h]
theorem ret_pr {a b : Int} {x : Int × Int} (h : x = (a, b)) : Ending.returned (.tuple #[.int .i64 a, .int .i64 b]) = .returned (pr x) := by rw [h]; rfl

theorem Valid_any (u : Int) (w : World) : Calls Tryz.prog 38 #[.int .i64 u] w fun e w' => e = .returned (.bool (vld u)) ∧ w = w' := by
  have HN := Lib.hid (show vld u = (decide (-1000000000000000 ≤ u) && decide (u ≤ 1000000000000000)) from rfl)
  generalize vld u = b at HN
  by_cases h1 : -1000000000000000 ≤ u
  all_goals
    go_enter Tryz.func38, Tryz.ntmps38
    go_wp2_with fail
    go_ret
    exact ⟨ret_bool (by rw [HN.out, Bool.eq_iff_iff]; simp; omega), rfl⟩
theorem refValid_any (u : Int) (w : World) : Calls Tryz.prog 45 #[.int .i64 u] w fun e w' => e = .returned (.bool (vld u)) ∧ w = w' := by
  have HN := Lib.hid (show vld u = (decide (-1000000000000000 ≤ u) && decide (u ≤ 1000000000000000)) from rfl)
  generalize vld u = b at HN
  by_cases h1 : -1000000000000000 ≤ u
  all_goals
    go_enter Tryz.func45, Tryz.ntmps45
    go_wp2_with fail
    go_ret
    exact ⟨ret_bool (by rw [HN.out, Bool.eq_iff_iff]; simp; omega), rfl⟩
theorem size_any (u : Int) (h : vld u = true) (w : World) : Calls Tryz.prog 54 #[.int .i64 u] w fun e w' => e = .returned (.int .u64 (u.natAbs : Int)) ∧ w = w' := by
  rw [vld_iff] at h
  by_cases h1 : u < 0
  all_goals
    go_enter Tryz.func54, Tryz.ntmps54
    go_wp2_with fail
    go_ret
    exact ⟨ret_u64 (by omega), rfl⟩
theorem size_at (u : Int) (a : Nat) (h : vld u = true) (ha : Hid (u.natAbs = a)) (w : World) : Calls Tryz.prog 54 #[.int .i64 u] w fun e w' => e = .returned (.int .u64 (a : Int)) ∧ w = w' :=
  (size_any u h w).mono fun e w' ⟨he, hw⟩ => ⟨by rw [he, ha.out], hw⟩
theorem abs_any (u : Int) (h : vld u = true) (w : World) : Calls Tryz.prog 62 #[.int .i64 u] w fun e w' => e = .returned (.int .i64 (u.natAbs : Int)) ∧ w = w' := by
  rw [vld_iff] at h
  by_cases h1 : u < 0
  all_goals
    go_enter Tryz.func62, Tryz.ntmps62
    go_wp2_with fail
    go_ret
    exact ⟨ret_i64 (by omega), rfl⟩
end Go.Proofs.YtadbilonialjnaaGreatDoor