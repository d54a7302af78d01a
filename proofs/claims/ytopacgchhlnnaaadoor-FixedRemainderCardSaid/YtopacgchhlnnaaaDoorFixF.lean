/- Walks of the numbers: Mul and Div. -/
import Derived.Test.YtopacgchhlnnaaaDoorRat
namespace Go.Proofs.YtopacgchhlnnaaaDoor
open Go.RowKit

theorem ratio_mul (u v : Int) (a b : Nat) (x : Int × Int) (ha : a ≤ 1000000000000000) (hb : b ≤ 1000000000000000) (hx : Hid (x = rat (neg2 u v) (a * b) 10000)) (w : World) :
    Calls Tryd.prog 38 #[.int .i64 u, .int .i64 v, .agg #[.int .u64 (a : Int), .int .u64 (b : Int)], .int .u64 10000] w fun e w' => e = .returned (.tuple #[.int .i64 x.1, .int .i64 x.2]) ∧ Below w.heap.size w w' := by
  have h := ratio_any u v a b 10000 ha hb (by decide) (by decide) w
  rw [← hx.out] at h; exact h
theorem ratio_div (u v : Int) (a c : Nat) (x : Int × Int) (ha : a ≤ 1000000000000000) (hc : c ≤ 1000000000000000) (hc0 : 0 < c) (hx : Hid (x = rat (neg2 u v) (a * 10000) c)) (w : World) :
    Calls Tryd.prog 38 #[.int .i64 u, .int .i64 v, .agg #[.int .u64 (a : Int), .int .u64 10000], .int .u64 (c : Int)] w fun e w' => e = .returned (.tuple #[.int .i64 x.1, .int .i64 x.2]) ∧ Below w.heap.size w w' := by
  have h := ratio_any u v a 10000 c ha (by decide) hc hc0 w
  rw [← hx.out] at h; exact h
set_option maxHeartbeats 400000 in
theorem Mul_any (u v : Int) (w : World) : Calls Tryd.prog 18 #[.int .i64 u, .int .i64 v] w (OkB (mulI u v) w) := by
  by_cases hval : vld u = true ∧ vld v = true
  · obtain ⟨hu, hv⟩ := hval
    have HM := Lib.hid (show mulI u v = rat (neg2 u v) (u.natAbs * v.natAbs) 10000 by simp [mulI, hu, hv])
    have hA' := abs_lt hu
    have hB' := abs_lt hv
    obtain ⟨a, hA⟩ : ∃ a, u.natAbs = a := ⟨_, rfl⟩
    obtain ⟨b, hB⟩ : ∃ b, v.natAbs = b := ⟨_, rfl⟩
    rw [hA] at HM hA'
    rw [hB] at HM hB'
    have HA := Lib.hid hA; clear hA
    have HB := Lib.hid hB; clear hB
    go_enter Tryd.func18, Tryd.ntmps18
    go_wp2_with (first
      | (go_at_call 17; refine (Valid_any _ _).mono ?_; rintro e w' ⟨rfl, rfl⟩; first | rw [hu] | rw [hv])
      | (go_at_call 33; first | (with_reducible refine (size_at u a hu HA _).mono ?_) | (with_reducible refine (size_at v b hv HB _).mono ?_)
         rintro e w' ⟨rfl, rfl⟩)
      | (go_at_call 38; refine (ratio_mul u v a b (mulI u v) hA' hB' HM _).mono ?_; rintro e w1 ⟨rfl, hb⟩))
    go_ret2
    exact ⟨rfl, hb⟩
  · cases hu : vld u <;> cases hv : vld v
    case true.true => exact (hval ⟨hu, hv⟩).elim
    all_goals
      go_enter Tryd.func18, Tryd.ntmps18
      go_wp2_with (go_at_call 17; refine (Valid_any _ _).mono ?_; rintro e w' ⟨rfl, rfl⟩; first | rw [hu] | rw [hv])
      go_ret2
      exact ⟨ret_pr (by simp [mulI, hu, hv]), Below.refl _ _⟩
set_option maxHeartbeats 400000 in
theorem Div_any (u v : Int) (w : World) : Calls Tryd.prog 19 #[.int .i64 u, .int .i64 v] w (OkB (divI u v) w) := by
  by_cases hval : vld u = true ∧ vld v = true
  · obtain ⟨hu, hv⟩ := hval
    by_cases hv0 : v = 0
    · subst hv0
      go_enter Tryd.func19, Tryd.ntmps19
      go_wp2_with (go_at_call 17; refine (Valid_any _ _).mono ?_; rintro e w' ⟨rfl, rfl⟩; first | rw [hu] | rw [hv])
      go_ret2
      exact ⟨ret_pr (by simp [divI, hu, hv]), Below.refl _ _⟩
    have HM := Lib.hid (show divI u v = rat (neg2 u v) (u.natAbs * 10000) v.natAbs by simp [divI, hu, hv, hv0])
    have n1 : (v == 0) = false := by simpa using hv0
    have hB0 : 0 < v.natAbs := by omega
    have hA' := abs_lt hu
    have hB' := abs_lt hv
    obtain ⟨a, hA⟩ : ∃ a, u.natAbs = a := ⟨_, rfl⟩
    obtain ⟨b, hB⟩ : ∃ b, v.natAbs = b := ⟨_, rfl⟩
    rw [hA] at HM hA'
    rw [hB] at HM hB' hB0
    have HA := Lib.hid hA; clear hA
    have HB := Lib.hid hB; clear hB
    go_enter Tryd.func19, Tryd.ntmps19
    go_wp2_with (first
      | (go_at_call 17; refine (Valid_any _ _).mono ?_; rintro e w' ⟨rfl, rfl⟩; first | rw [hu] | rw [hv])
      | (go_at_call 33; first | (with_reducible refine (size_at u a hu HA _).mono ?_) | (with_reducible refine (size_at v b hv HB _).mono ?_)
         rintro e w' ⟨rfl, rfl⟩)
      | (go_at_call 38; refine (ratio_div u v a b (divI u v) hA' hB' hB0 HM _).mono ?_; rintro e w1 ⟨rfl, hb⟩))
    go_ret2
    exact ⟨rfl, hb⟩
  · cases hu : vld u <;> cases hv : vld v
    case true.true => exact (hval ⟨hu, hv⟩).elim
    all_goals
      go_enter Tryd.func19, Tryd.ntmps19
      go_wp2_with (go_at_call 17; refine (Valid_any _ _).mono ?_; rintro e w' ⟨rfl, rfl⟩; first | rw [hu] | rw [hv])
      go_ret2
      exact ⟨ret_pr (by simp [divI, hu, hv]), Below.refl _ _⟩
end Go.Proofs.YtopacgchhlnnaaaDoor
