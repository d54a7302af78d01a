/- Walks of the numbers: sums, remainders, whole parts. -/
import Derived.Test.YtopacgchhlnnaaaDoorFixA
namespace Go.Proofs.YtopacgchhlnnaaaDoor
open Go.RowKit

theorem remI_tmod (u v : Int) (hv : v ≠ 0) : remI u v = if u.tmod v ≠ 0 ∧ ¬(u < 0 ↔ v < 0) then v + u.tmod v else u.tmod v := by
  unfold remI
  by_cases h0 : 0 ≤ u
  · have e1 : u.tmod v = u % v := Int.tmod_eq_emod_of_nonneg h0
    rw [e1]
    by_cases hp : 0 < v
    · rw [if_pos hp, if_neg (by omega)]
    · rw [if_neg hp]
      have e2 : u % (-v) = u % v := Int.emod_neg u v
      have e3 : (-u) % (-v) = if u % v = 0 then 0 else -v - u % v := by
        have h1 := Int.emod_nonneg u hv
        have h2 := Int.emod_lt_of_pos u (show 0 < -v by omega)
        have h3 := Int.mul_ediv_add_emod u (-v)
        rw [e2] at h2 h3
        split
        · exact Int.emod_eq_zero_of_dvd ⟨-(u / -v), by rw [Int.mul_neg]; omega⟩
        · have h4 : -u = (-v - u % v) + (-v) * (-(u / -v) - 1) := by rw [Int.mul_sub, Int.mul_neg]; omega
          rw [h4, Int.add_mul_emod_self_left]
          exact Int.emod_eq_of_lt (by omega) (by omega)
      rw [e3]
      by_cases hz : u % v = 0
      · simp [hz]
      · rw [if_neg hz]
        split <;> omega
  · have e1 : u.tmod v = -((-u) % v) := by
      rw [show u = -(-u) by omega, Int.neg_tmod, Int.tmod_eq_emod_of_nonneg (by omega)]; simp
    rw [e1]
    by_cases hp : 0 < v
    · rw [if_pos hp]
      have h1 := Int.emod_nonneg (-u) hv
      have h2 := Int.emod_lt_of_pos (-u) hp
      have h3 := Int.mul_ediv_add_emod (-u) v
      by_cases hz : (-u) % v = 0
      · rw [if_neg (by omega), hz]
        exact Int.emod_eq_zero_of_dvd ⟨-((-u) / v), by rw [Int.mul_neg]; omega⟩
      · rw [if_pos (by omega)]
        have h4 : u = (v + -((-u) % v)) + v * (-((-u) / v) - 1) := by rw [Int.mul_sub, Int.mul_neg]; omega
        conv => lhs; rw [h4, Int.add_mul_emod_self_left]
        exact Int.emod_eq_of_lt (by omega) (by omega)
    · rw [if_neg hp, Int.emod_neg, if_neg (by omega)]
theorem floor_tmod (u : Int) : u - u % 10000 = if u.tmod 10000 < 0 then u - (u.tmod 10000 + 10000) else u - u.tmod 10000 := by
  by_cases h0 : 0 ≤ u
  · rw [Int.tmod_eq_emod_of_nonneg h0]; split <;> omega
  · have e1 : u.tmod 10000 = -((-u) % 10000) := by
      rw [show u = -(-u) by omega, Int.neg_tmod, Int.tmod_eq_emod_of_nonneg (by omega)]; simp
    rw [e1]; split <;> omega

theorem Add_any (u v : Int) (w : World) : Calls Tryd.prog 26 #[.int .i64 u, .int .i64 v] w fun e w' => e = .returned (pr (addI u v)) ∧ w = w' := by
  have hu' := vld_iff u
  have hv' := vld_iff v
  cases hu : vld u <;> cases hv : vld v
  all_goals
    rw [hu] at hu'
    rw [hv] at hv'
    simp only [true_iff, false_iff, reduceCtorEq] at hu' hv'
    go_enter Tryd.func26, Tryd.ntmps26
    go_wp2_with (first | (go_at_call 17; refine (Valid_any _ _).mono ?_; rintro e w' ⟨rfl, rfl⟩; first | rw [hu] | rw [hv]) | (go_at_call 39; refine (result_any _ _).mono ?_; rintro e w' ⟨rfl, rfl⟩; simp only [pr]))
    go_ret2
    exact ⟨ret_pr (by simp [addI, hu, hv]), rfl⟩
theorem Sub_any (u v : Int) (w : World) : Calls Tryd.prog 28 #[.int .i64 u, .int .i64 v] w fun e w' => e = .returned (pr (subI u v)) ∧ w = w' := by
  have hu' := vld_iff u
  have hv' := vld_iff v
  cases hu : vld u <;> cases hv : vld v
  all_goals
    rw [hu] at hu'
    rw [hv] at hv'
    simp only [true_iff, false_iff, reduceCtorEq] at hu' hv'
    go_enter Tryd.func28, Tryd.ntmps28
    go_wp2_with (first | (go_at_call 17; refine (Valid_any _ _).mono ?_; rintro e w' ⟨rfl, rfl⟩; first | rw [hu] | rw [hv]) | (go_at_call 39; refine (result_any _ _).mono ?_; rintro e w' ⟨rfl, rfl⟩; simp only [pr]))
    go_ret2
    exact ⟨ret_pr (by simp [subI, hu, hv]), rfl⟩
theorem refAdd_any (u v : Int) (w : World) : Calls Tryd.prog 27 #[.int .i64 u, .int .i64 v] w fun e w' => e = .returned (pr (addI u v)) ∧ w = w' := by
  have hu' := vld_iff u
  have hv' := vld_iff v
  cases hu : vld u <;> cases hv : vld v
  all_goals
    rw [hu] at hu'
    rw [hv] at hv'
    simp only [true_iff, false_iff, reduceCtorEq] at hu' hv'
    go_enter Tryd.func27, Tryd.ntmps27
    go_wp2_with (first | (go_at_call 22; refine (refValid_any _ _).mono ?_; rintro e w' ⟨rfl, rfl⟩; first | rw [hu] | rw [hv]) | (go_at_call 40; refine (refresult_any _ _).mono ?_; rintro e w' ⟨rfl, rfl⟩; simp only [pr]))
    go_ret2
    exact ⟨ret_pr (by simp [addI, hu, hv]), rfl⟩
theorem refSub_any (u v : Int) (w : World) : Calls Tryd.prog 29 #[.int .i64 u, .int .i64 v] w fun e w' => e = .returned (pr (subI u v)) ∧ w = w' := by
  have hu' := vld_iff u
  have hv' := vld_iff v
  cases hu : vld u <;> cases hv : vld v
  all_goals
    rw [hu] at hu'
    rw [hv] at hv'
    simp only [true_iff, false_iff, reduceCtorEq] at hu' hv'
    go_enter Tryd.func29, Tryd.ntmps29
    go_wp2_with (first | (go_at_call 22; refine (refValid_any _ _).mono ?_; rintro e w' ⟨rfl, rfl⟩; first | rw [hu] | rw [hv]) | (go_at_call 40; refine (refresult_any _ _).mono ?_; rintro e w' ⟨rfl, rfl⟩; simp only [pr]))
    go_ret2
    exact ⟨ret_pr (by simp [subI, hu, hv]), rfl⟩
end Go.Proofs.YtopacgchhlnnaaaDoor
