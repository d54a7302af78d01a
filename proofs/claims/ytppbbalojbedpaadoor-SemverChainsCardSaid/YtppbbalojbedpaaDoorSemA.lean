/- Walks of the versions: Valid. -/
import Derived.Handy
import Derived.LoopTactic
import Derived.Outline
import Derived.Test.YtppbbalojbedpaaDoorBlk
import Derived.Test.YtppbbalojbedpaaDoorVer
import Derived.Test.YtppbbalojbedpaaDoorProg
namespace Go.Proofs.YtppbbalojbedpaaDoor
open Go.RowKit

theorem ret_bool {a b : Bool} (h : a = b) : Ending.returned (.bool a) = .returned (.bool b) := by rw [h]
theorem ret_i64 {a b : Int} (h : a = b) : Ending.returned (.int .i64 a) = .returned (.int .i64 b) := by rw [h]
theorem numbers_any (a b c : Int) (w : World) : Calls Tryd.prog 24 #[.agg #[.int .i64 a, .int .i64 b, .int .i64 c]] w fun e w' => e = .returned (.agg #[.int .i64 a, .int .i64 b, .int .i64 c]) ∧ Below w.heap.size w w' := by
  go_enter Tryd.func24, Tryd.ntmps24
  go_wp2_with fail
  exact bodyPost_ret (v := .agg #[.int .i64 a, .int .i64 b, .int .i64 c]) (by simp [results, Tryd.results24, go_sem]) rfl ⟨rfl, by go_grown⟩
theorem numbers_at (a b c : Int) (w : World) : Calls Tryd.prog 24 #[.agg #[.int .i64 a, .int .i64 b, .int .i64 c]] w fun e w' => e = .returned (.agg #[.int .i64 a, .int .i64 b, .int .i64 c]) ∧ w' = (w.alloc (.cells #[.int .i64 a, .int .i64 b, .int .i64 c] 23)).alloc (.cells #[.int .i64 a, .int .i64 b, .int .i64 c] 36) := by
  go_enter Tryd.func24, Tryd.ntmps24
  go_wp2_with fail
  exact bodyPost_ret (v := .agg #[.int .i64 a, .int .i64 b, .int .i64 c]) (by simp [results, Tryd.results24, go_sem]) rfl ⟨rfl, rfl⟩
theorem version_any (a b c : Int) (w : World) : Calls Tryd.prog 32 #[.agg #[.int .i64 a, .int .i64 b, .int .i64 c]] w fun e w' => e = .returned (.agg #[.int .i64 a, .int .i64 b, .int .i64 c]) ∧ Below w.heap.size w w' := by
  go_enter Tryd.func32, Tryd.ntmps32
  go_wp2_with fail
  exact bodyPost_ret (v := .agg #[.int .i64 a, .int .i64 b, .int .i64 c]) (by simp [results, Tryd.results32, go_sem]) rfl ⟨rfl, by go_grown⟩
theorem bool_two (b : Bool) : b = false ∨ b = true := by cases b <;> simp
theorem numV_cases (n : Int) (h : numV n = false) : n < 0 ∨ (0 ≤ n ∧ 9999 < n) := by
  have := numV_iff n; rw [h] at this; simp at this; omega
theorem vld_split (a b c : Int) (h1 : numV a = true) (h2 : numV b = true) (h3 : numV c = true) : vldV ⟨a, b, c⟩ = true := by simp [vldV, h1, h2, h3]
set_option maxHeartbeats 1000000 in
theorem Valid_any (a b c : Int) (w : World) : Calls Tryd.prog 11 #[.agg #[.int .i64 a, .int .i64 b, .int .i64 c]] w fun e w' => e = .returned (.bool (vldV ⟨a, b, c⟩)) ∧ Below w.heap.size w w' := by
  have HV : Hid (vldV ⟨a, b, c⟩ = (numV a && numV b && numV c)) := Lib.hid rfl
  generalize vldV ⟨a, b, c⟩ = r at HV
  have i0 : ∀ w, (Instr.index 36 (.agg #[.int .i64 a, .int .i64 b, .int .i64 c]) (.int .i64 0)).run Tryd.prog w = .ok (.int .i64 a) w := fun _ => by kernel_rfl
  have i1 : ∀ w, (Instr.index 36 (.agg #[.int .i64 a, .int .i64 b, .int .i64 c]) (.int .i64 1)).run Tryd.prog w = .ok (.int .i64 b) w := fun _ => by kernel_rfl
  have i2 : ∀ w, (Instr.index 36 (.agg #[.int .i64 a, .int .i64 b, .int .i64 c]) (.int .i64 2)).run Tryd.prog w = .ok (.int .i64 c) w := fun _ => by kernel_rfl
  go_enter Tryd.func11, Tryd.ntmps11
  go_wp2_with fail
  refine (numbers_any a b c _).mono ?_
  rintro e w1 ⟨rfl, hb1⟩
  obtain ⟨-, hb1⟩ := below_new hb1
  go_wp2_with fail
  go_loop [7] (fun v => v = .int .i64 0 ∨ (v = .int .i64 1 ∧ Hid (numV a = true)) ∨ (v = .int .i64 2 ∧ Hid (numV a = true ∧ numV b = true)) ∨ (v = .int .i64 3 ∧ Hid (numV a = true ∧ numV b = true ∧ numV c = true))) (fun v => 3 - (intOf v).toNat)
  case atStart => exact .inl rfl
  case round =>
    rcases hrel with rfl | ⟨rfl, HR⟩ | ⟨rfl, HR⟩ | ⟨rfl, HR⟩
    · rcases bool_two (numV a) with hn | hn
      · have HN := Lib.hid hn
        rcases numV_cases a hn with h | ⟨h, h'⟩
        all_goals
          clear hn
          go_wp2_with fail
          go_ret
          exact ⟨ret_bool (by rw [HV.out, HN.out]; rfl), hb1⟩
      · obtain ⟨h1, h2⟩ := (numV_iff a).1 hn
        have HN := Lib.hid hn
        clear hn
        go_wp2_with fail
        go_round
        case rel => exact .inr (.inl ⟨rfl, HN⟩)
        case measure => simp [intOf]
    · rcases bool_two (numV b) with hn | hn
      · have HN := Lib.hid hn
        rcases numV_cases b hn with h | ⟨h, h'⟩
        all_goals
          clear hn
          go_wp2_with fail
          go_ret
          exact ⟨ret_bool (by rw [HV.out, HN.out, HR.out]; rfl), hb1⟩
      · obtain ⟨h1, h2⟩ := (numV_iff b).1 hn
        have HN := Lib.hid hn
        clear hn
        go_wp2_with fail
        go_round
        case rel => exact .inr (.inr (.inl ⟨rfl, Lib.hid ⟨HR.out, HN.out⟩⟩))
        case measure => simp [intOf]
    · rcases bool_two (numV c) with hn | hn
      · have HN := Lib.hid hn
        rcases numV_cases c hn with h | ⟨h, h'⟩
        all_goals
          clear hn
          go_wp2_with fail
          go_ret
          exact ⟨ret_bool (by rw [HV.out, HN.out, HR.out.1, HR.out.2]; rfl), hb1⟩
      · obtain ⟨h1, h2⟩ := (numV_iff c).1 hn
        have HN := Lib.hid hn
        clear hn
        go_wp2_with fail
        go_round
        case rel => exact .inr (.inr (.inr ⟨rfl, Lib.hid ⟨HR.out.1, HR.out.2, HN.out⟩⟩))
        case measure => simp [intOf]
    · go_wp2_with fail
      go_ret
      exact ⟨ret_bool (by rw [HV.out, HR.out.1, HR.out.2.1, HR.out.2.2]; rfl), hb1⟩
end Go.Proofs.YtppbbalojbedpaaDoor
