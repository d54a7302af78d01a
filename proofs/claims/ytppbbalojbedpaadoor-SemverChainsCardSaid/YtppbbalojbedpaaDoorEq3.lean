/- Two arrays of three integers: equal or not. -/
import Derived.ChangeKeysEq
import Derived.Test.YtppbbalojbedpaaDoorSemB
namespace Go.Proofs.YtppbbalojbedpaaDoor
open Go.RowKit

theorem infoInt : (Tryd.prog.info? 3).isSome = true := by kernel_rfl
theorem cellsInt : Tryd.prog.cellsOf 3 = 1 := by kernel_rfl
theorem eql3 (w : World) (a b c x y z : Int) : (Op.equalIn 10000 36 (.agg #[.int .i64 a, .int .i64 b, .int .i64 c]) (.agg #[.int .i64 x, .int .i64 y, .int .i64 z])).run Tryd.prog w = .ok ((a == x) && ((b == y) && (c == z))) w := by
  obtain ⟨i, hi⟩ := Option.isSome_iff_exists.1 infoInt
  rw [run_equalIn_array w 9999 _ _ Tryd.underlying36 hi, cellsInt]
  rw [show List.range 3 = [0, 1, 2] from rfl]
  have p0 : ∀ (u v t : Int) (w : World), (part 3 #[.int .i64 u, .int .i64 v, .int .i64 t] 0).run Tryd.prog w = .ok (.int .i64 u) w := by intro u v t w; simp [part, isAgg, run_underlying Tryd.underlying3]
  have p1 : ∀ (u v t : Int) (w : World), (part 3 #[.int .i64 u, .int .i64 v, .int .i64 t] 1).run Tryd.prog w = .ok (.int .i64 v) w := by intro u v t w; simp [part, isAgg, run_underlying Tryd.underlying3]
  have p2 : ∀ (u v t : Int) (w : World), (part 3 #[.int .i64 u, .int .i64 v, .int .i64 t] 2).run Tryd.prog w = .ok (.int .i64 t) w := by intro u v t w; simp [part, isAgg, run_underlying Tryd.underlying3]
  have q : ∀ (u v : Int) (w : World), (Op.equalIn 9999 3 (.int .i64 u) (.int .i64 v)).run Tryd.prog w = .ok (u == v) w := fun u v w => run_equalIn_int w 9998 3 .i64 .i64 _ _ Tryd.underlying3
  cases h1 : (a == x) <;> cases h2 : (b == y) <;> cases h3 : (c == z) <;> simp [Op.eqItems, p0, p1, p2, q, h1, h2, h3]
end Go.Proofs.YtppbbalojbedpaaDoor
