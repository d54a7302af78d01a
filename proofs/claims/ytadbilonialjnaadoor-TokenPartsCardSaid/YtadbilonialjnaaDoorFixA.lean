/- Walks of the numbers: the small functions. -/
import Derived.Handy
import Derived.Lib.Hide
import Derived.Test.YtadbilonialjnaaDoorByt
import Derived.Test.YtadbilonialjnaaDoorNum
import Derived.Test.YtadbilonialjnaaDoorProg
namespace Go.Proofs.YtadbilonialjnaaDoor
open Go.RowKit

/-- two results -/
def pr (x : Int × Int) : Value := .tuple #[.int .i64 x.1, .int .i64 x.2]
def OkB (x : Int × Int) (w : World) (e : Ending) (w' : World) : Prop := e = .returned (pr x) ∧ Below w.heap.size w w'
theorem ret_u64 {a b : Int} (h : a = b) : Ending.returned (.int .u64 a) = .returned (.int .u64 b) := by rw [h]
theorem ret_pr {a b : Int} {x : Int × Int} (h : x = (a, b)) : Ending.returned (.tuple #[.int .i64 a, .int .i64 b]) = .returned (pr x) := by rw [h]; rfl

theorem Valid_any (u : Int) (w : World) : Calls Tryd.prog 46 #[.int .i64 u] w fun e w' => e = .returned (.bool (vld u)) ∧ w = w' := by
  have HN := Lib.hid (show vld u = (decide (-1000000000000000 ≤ u) && decide (u ≤ 1000000000000000)) from rfl)
  generalize vld u = b at HN
  by_cases h1 : -1000000000000000 ≤ u
  all_goals
    go_enter Tryd.func46, Tryd.ntmps46
    go_wp2_with fail
    go_ret
    exact ⟨ret_bool (by rw [HN.out, Bool.eq_iff_iff]; simp; omega), rfl⟩
theorem size_any (u : Int) (h : vld u = true) (w : World) : Calls Tryd.prog 55 #[.int .i64 u] w fun e w' => e = .returned (.int .u64 (u.natAbs : Int)) ∧ w = w' := by
  rw [vld_iff] at h
  by_cases h1 : u < 0
  all_goals
    go_enter Tryd.func55, Tryd.ntmps55
    go_wp2_with fail
    go_ret
    exact ⟨ret_u64 (by omega), rfl⟩
theorem size_at (u : Int) (a : Nat) (h : vld u = true) (ha : Hid (u.natAbs = a)) (w : World) : Calls Tryd.prog 55 #[.int .i64 u] w fun e w' => e = .returned (.int .u64 (a : Int)) ∧ w = w' :=
  (size_any u h w).mono fun e w' ⟨he, hw⟩ => ⟨by rw [he, ha.out], hw⟩
end Go.Proofs.YtadbilonialjnaaDoor