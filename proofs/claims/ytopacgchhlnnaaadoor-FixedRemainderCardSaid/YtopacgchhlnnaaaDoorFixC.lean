/- Walks of the numbers: remainders and whole parts. -/
import Derived.Test.YtopacgchhlnnaaaDoorFixB
namespace Go.Proofs.YtopacgchhlnnaaaDoor
open Go.RowKit

theorem tmod_bound (u v : Int) (hu : vld u = true) : -1000000000000000 ≤ u.tmod v ∧ u.tmod v ≤ 1000000000000000 := by
  rw [vld_iff] at hu
  have h := Int.natAbs_tmod u v
  have h2 := Nat.mod_le u.natAbs v.natAbs
  omega

set_option maxHeartbeats 400000 in
theorem Mod_any (u v : Int) (w : World) : Calls Tryd.prog 20 #[.int .i64 u, .int .i64 v] w fun e w' => e = .returned (pr (modI u v)) ∧ w = w' := by
  have hu' := vld_iff u
  have hv' := vld_iff v
  by_cases hval : vld u = true ∧ vld v = true
  · obtain ⟨hu, hv⟩ := hval
    have ht := tmod_bound u v hu
    rw [hu] at hu'
    rw [hv] at hv'
    simp only [true_iff] at hu' hv'
    by_cases hv0 : v = 0
    · subst hv0
      clear ht
      go_enter Tryd.func20, Tryd.ntmps20
      go_wp2_with (go_at_call 17; refine (Valid_any _ _).mono ?_; rintro e w' ⟨rfl, rfl⟩; first | rw [hu] | rw [hv])
      go_ret2
      exact ⟨ret_pr (by simp [modI, hu, hv]), rfl⟩
    · have HN := Lib.hid (remI_tmod u v hv0)
      by_cases a1 : 0 ≤ u
      · have e1 : u.tmod v = u % v := Int.tmod_eq_emod_of_nonneg a1
        rw [e1] at HN ht
        have hnn := Int.emod_nonneg u hv0
        have d1 : decide (u < 0) = false := by simpa using a1
        by_cases a3 : u % v = 0
        · have n3 : (u % v != 0) = false := by simpa using a3
          have n4 : (u % v == 0) = true := by simpa using a3
          have d3 : decide (u % v < 0) = false := by simp [a3]
          cases d2 : decide (v < 0)
          all_goals
            have a2 := d2
            simp only [decide_eq_true_eq, decide_eq_false_iff_not] at a2
            go_enter Tryd.func20, Tryd.ntmps20
            go_wp2_with (go_at_call 17; refine (Valid_any _ _).mono ?_; rintro e w' ⟨rfl, rfl⟩; first | rw [hu] | rw [hv])
            go_ret2
            exact ⟨ret_pr (by simp only [modI, hu, hv, HN.out]; simp [*]; try omega), rfl⟩
        · have n3 : (u % v != 0) = true := by simpa using a3
          have n4 : (u % v == 0) = false := by simpa using a3
          have d3 : decide (u % v < 0) = false := by simp; omega
          cases d2 : decide (v < 0)
          all_goals
            have a2 := d2
            simp only [decide_eq_true_eq, decide_eq_false_iff_not] at a2
            go_enter Tryd.func20, Tryd.ntmps20
            go_wp2_with (go_at_call 17; refine (Valid_any _ _).mono ?_; rintro e w' ⟨rfl, rfl⟩; first | rw [hu] | rw [hv])
            go_ret2
            exact ⟨ret_pr (by simp only [modI, hu, hv, HN.out]; simp [*]; try omega), rfl⟩
      · have d1 : decide (u < 0) = true := by simpa using a1
        have hnn : u.tmod v ≤ 0 := by
          have ht2 := Int.tmod_nonneg (a := -u) v (by omega)
          rw [Int.neg_tmod] at ht2; omega
        by_cases a3 : u.tmod v = 0
        · have n3 : (u.tmod v != 0) = false := by simpa using a3
          have n4 : (u.tmod v == 0) = true := by simpa using a3
          have d3 : decide (u.tmod v < 0) = false := by simp [a3]
          cases d2 : decide (v < 0)
          all_goals
            have a2 := d2
            simp only [decide_eq_true_eq, decide_eq_false_iff_not] at a2
            go_enter Tryd.func20, Tryd.ntmps20
            go_wp2_with (go_at_call 17; refine (Valid_any _ _).mono ?_; rintro e w' ⟨rfl, rfl⟩; first | rw [hu] | rw [hv])
            go_ret2
            exact ⟨ret_pr (by simp only [modI, hu, hv, HN.out]; simp [*]; try omega), rfl⟩
        · have n3 : (u.tmod v != 0) = true := by simpa using a3
          have n4 : (u.tmod v == 0) = false := by simpa using a3
          have d3 : decide (u.tmod v < 0) = true := by simp; omega
          cases d2 : decide (v < 0)
          all_goals
            have a2 := d2
            simp only [decide_eq_true_eq, decide_eq_false_iff_not] at a2
            go_enter Tryd.func20, Tryd.ntmps20
            go_wp2_with (go_at_call 17; refine (Valid_any _ _).mono ?_; rintro e w' ⟨rfl, rfl⟩; first | rw [hu] | rw [hv])
            go_ret2
            exact ⟨ret_pr (by simp only [modI, hu, hv, HN.out]; simp [*]; try omega), rfl⟩
  · cases hu : vld u <;> cases hv : vld v
    case true.true => exact (hval ⟨hu, hv⟩).elim
    all_goals
      go_enter Tryd.func20, Tryd.ntmps20
      go_wp2_with (go_at_call 17; refine (Valid_any _ _).mono ?_; rintro e w' ⟨rfl, rfl⟩; first | rw [hu] | rw [hv])
      go_ret2
      exact ⟨ret_pr (by simp [modI, hu, hv]), rfl⟩
theorem Floor_any (u : Int) (w : World) : Calls Tryd.prog 21 #[.int .i64 u] w fun e w' => e = .returned (.int .i64 (floorI u)) ∧ w = w' := by
  have hu' := vld_iff u
  have hv := hu'
  cases hu : vld u
  · go_enter Tryd.func21, Tryd.ntmps21
    go_wp2_with (go_at_call 17; refine (Valid_any _ _).mono ?_; rintro e w' ⟨rfl, rfl⟩; first | rw [hu] | rw [hv])
    go_ret
    exact ⟨ret_i64 (by simp [floorI, hu]), rfl⟩
  · rw [hu] at hu'
    simp only [true_iff] at hu'
    have HN := Lib.hid (floor_tmod u)
    have ht := tmod_bound u 10000 hu
    have hf : floorI u = u - u % 10000 := by simp [floorI, hu]
    by_cases a1 : u.tmod 10000 < 0
    all_goals
      go_enter Tryd.func21, Tryd.ntmps21
      go_wp2_with (go_at_call 17; refine (Valid_any _ _).mono ?_; rintro e w' ⟨rfl, rfl⟩; first | rw [hu] | rw [hv])
      go_ret
      exact ⟨ret_i64 (by rw [hf, HN.out]; simp [a1]; try omega), rfl⟩
theorem Whole_any (u : Int) (w : World) : Calls Tryd.prog 23 #[.int .i64 u] w fun e w' => e = .returned (.bool (vld u && decide (u.tmod 10000 = 0))) ∧ w = w' := by
  cases hu : vld u
  all_goals
    have hv := hu
    go_enter Tryd.func23, Tryd.ntmps23
    go_wp2_with (go_at_call 17; refine (Valid_any _ _).mono ?_; rintro e w' ⟨rfl, rfl⟩; first | rw [hu] | rw [hv])
    go_ret
    exact ⟨ret_bool (by first | rfl | simp [Bool.eq_iff_iff]), rfl⟩
set_option maxHeartbeats 400000 in
theorem refMod_any (u v : Int) (w : World) : Calls Tryd.prog 32 #[.int .i64 u, .int .i64 v] w fun e w' => e = .returned (pr (modI u v)) ∧ w = w' := by
  have hu' := vld_iff u
  have hv' := vld_iff v
  by_cases hval : vld u = true ∧ vld v = true
  · obtain ⟨hu, hv⟩ := hval
    have ht := tmod_bound u v hu
    rw [hu] at hu'
    rw [hv] at hv'
    simp only [true_iff] at hu' hv'
    by_cases hv0 : v = 0
    · subst hv0
      clear ht
      go_enter Tryd.func32, Tryd.ntmps32
      go_wp2_with (go_at_call 22; refine (refValid_any _ _).mono ?_; rintro e w' ⟨rfl, rfl⟩; first | rw [hu] | rw [hv])
      go_ret2
      exact ⟨ret_pr (by simp [modI, hu, hv]), rfl⟩
    · have HN := Lib.hid (remI_tmod u v hv0)
      by_cases a1 : 0 ≤ u
      · have e1 : u.tmod v = u % v := Int.tmod_eq_emod_of_nonneg a1
        rw [e1] at HN ht
        have hnn := Int.emod_nonneg u hv0
        have d1 : decide (u < 0) = false := by simpa using a1
        by_cases a3 : u % v = 0
        · have n3 : (u % v != 0) = false := by simpa using a3
          have n4 : (u % v == 0) = true := by simpa using a3
          have d3 : decide (u % v < 0) = false := by simp [a3]
          cases d2 : decide (v < 0)
          all_goals
            have a2 := d2
            simp only [decide_eq_true_eq, decide_eq_false_iff_not] at a2
            go_enter Tryd.func32, Tryd.ntmps32
            go_wp2_with (go_at_call 22; refine (refValid_any _ _).mono ?_; rintro e w' ⟨rfl, rfl⟩; first | rw [hu] | rw [hv])
            go_ret2
            exact ⟨ret_pr (by simp only [modI, hu, hv, HN.out]; simp [*]; try omega), rfl⟩
        · have n3 : (u % v != 0) = true := by simpa using a3
          have n4 : (u % v == 0) = false := by simpa using a3
          have d3 : decide (u % v < 0) = false := by simp; omega
          cases d2 : decide (v < 0)
          all_goals
            have a2 := d2
            simp only [decide_eq_true_eq, decide_eq_false_iff_not] at a2
            go_enter Tryd.func32, Tryd.ntmps32
            go_wp2_with (go_at_call 22; refine (refValid_any _ _).mono ?_; rintro e w' ⟨rfl, rfl⟩; first | rw [hu] | rw [hv])
            go_ret2
            exact ⟨ret_pr (by simp only [modI, hu, hv, HN.out]; simp [*]; try omega), rfl⟩
      · have d1 : decide (u < 0) = true := by simpa using a1
        have hnn : u.tmod v ≤ 0 := by
          have ht2 := Int.tmod_nonneg (a := -u) v (by omega)
          rw [Int.neg_tmod] at ht2; omega
        by_cases a3 : u.tmod v = 0
        · have n3 : (u.tmod v != 0) = false := by simpa using a3
          have n4 : (u.tmod v == 0) = true := by simpa using a3
          have d3 : decide (u.tmod v < 0) = false := by simp [a3]
          cases d2 : decide (v < 0)
          all_goals
            have a2 := d2
            simp only [decide_eq_true_eq, decide_eq_false_iff_not] at a2
            go_enter Tryd.func32, Tryd.ntmps32
            go_wp2_with (go_at_call 22; refine (refValid_any _ _).mono ?_; rintro e w' ⟨rfl, rfl⟩; first | rw [hu] | rw [hv])
            go_ret2
            exact ⟨ret_pr (by simp only [modI, hu, hv, HN.out]; simp [*]; try omega), rfl⟩
        · have n3 : (u.tmod v != 0) = true := by simpa using a3
          have n4 : (u.tmod v == 0) = false := by simpa using a3
          have d3 : decide (u.tmod v < 0) = true := by simp; omega
          cases d2 : decide (v < 0)
          all_goals
            have a2 := d2
            simp only [decide_eq_true_eq, decide_eq_false_iff_not] at a2
            go_enter Tryd.func32, Tryd.ntmps32
            go_wp2_with (go_at_call 22; refine (refValid_any _ _).mono ?_; rintro e w' ⟨rfl, rfl⟩; first | rw [hu] | rw [hv])
            go_ret2
            exact ⟨ret_pr (by simp only [modI, hu, hv, HN.out]; simp [*]; try omega), rfl⟩
  · cases hu : vld u <;> cases hv : vld v
    case true.true => exact (hval ⟨hu, hv⟩).elim
    all_goals
      go_enter Tryd.func32, Tryd.ntmps32
      go_wp2_with (go_at_call 22; refine (refValid_any _ _).mono ?_; rintro e w' ⟨rfl, rfl⟩; first | rw [hu] | rw [hv])
      go_ret2
      exact ⟨ret_pr (by simp [modI, hu, hv]), rfl⟩
theorem refFloor_any (u : Int) (w : World) : Calls Tryd.prog 25 #[.int .i64 u] w fun e w' => e = .returned (.int .i64 (floorI u)) ∧ w = w' := by
  have hu' := vld_iff u
  have hv := hu'
  cases hu : vld u
  · go_enter Tryd.func25, Tryd.ntmps25
    go_wp2_with (go_at_call 22; refine (refValid_any _ _).mono ?_; rintro e w' ⟨rfl, rfl⟩; first | rw [hu] | rw [hv])
    go_ret
    exact ⟨ret_i64 (by simp [floorI, hu]), rfl⟩
  · rw [hu] at hu'
    simp only [true_iff] at hu'
    have HN := Lib.hid (floor_tmod u)
    have ht := tmod_bound u 10000 hu
    have hf : floorI u = u - u % 10000 := by simp [floorI, hu]
    by_cases a1 : u.tmod 10000 < 0
    all_goals
      go_enter Tryd.func25, Tryd.ntmps25
      go_wp2_with (go_at_call 22; refine (refValid_any _ _).mono ?_; rintro e w' ⟨rfl, rfl⟩; first | rw [hu] | rw [hv])
      go_ret
      exact ⟨ret_i64 (by rw [hf, HN.out]; simp [a1]; try omega), rfl⟩
theorem refWhole_any (u : Int) (w : World) : Calls Tryd.prog 24 #[.int .i64 u] w fun e w' => e = .returned (.bool (vld u && decide (u.tmod 10000 = 0))) ∧ w = w' := by
  cases hu : vld u
  all_goals
    have hv := hu
    go_enter Tryd.func24, Tryd.ntmps24
    go_wp2_with (go_at_call 22; refine (refValid_any _ _).mono ?_; rintro e w' ⟨rfl, rfl⟩; first | rw [hu] | rw [hv])
    go_ret
    exact ⟨ret_bool (by first | rfl | simp [Bool.eq_iff_iff]), rfl⟩
end Go.Proofs.YtopacgchhlnnaaaDoor
