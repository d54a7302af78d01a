/- Walks of the numbers: the specification's product. -/
import Derived.Test.YtopacgchhlnnaaaDoorFixC
namespace Go.Proofs.YtopacgchhlnnaaaDoor
open Go.RowKit

def sgn (b : Bool) (n : Nat) : Int := if b then -(n : Int) else n
theorem signed_any (u v : Int) (n : Nat) (h : n ≤ 4000000000000000000) (w : World) : Calls Tryd.prog 41 #[.int .i64 u, .int .i64 v, .int .i64 (n : Int)] w fun e w' => e = .returned (.int .i64 (sgn (neg2 u v) n)) ∧ w = w' := by
  cases d1 : decide (u < 0) <;> cases d2 : decide (v < 0)
  all_goals
    have HN := Lib.hid (show sgn (neg2 u v) n = if (decide (u < 0) != decide (v < 0)) = true then -(n : Int) else n from rfl)
    rw [d1, d2] at HN
    generalize sgn (neg2 u v) n = x at HN
    go_enter Tryd.func41, Tryd.ntmps41
    go_wp2_with fail
    go_ret
    exact ⟨ret_i64 (by rw [HN.out]; simp), rfl⟩
theorem rat_res (b : Bool) (p d n : Nat) (h0 : p % d = 0) (hn : p / d = n) : rat b p d = resI (sgn b n) := by
  unfold rat resI
  rw [if_pos h0, hn]
  cases b
  · by_cases h : n ≤ 1000000000000000
    · rw [if_pos h, if_pos ((vld_iff _).2 (by simp [sgn]; omega))]; rfl
    · rw [if_neg h, if_neg (by rw [vld_iff]; simp [sgn]; omega)]
  · by_cases h : n ≤ 1000000000000000
    · rw [if_pos h, if_pos ((vld_iff _).2 (by simp [sgn]; omega))]; rfl
    · rw [if_neg h, if_neg (by rw [vld_iff]; simp [sgn]; omega)]
theorem rat_range (b : Bool) (p d : Nat) (h0 : p % d = 0) (hn : 1000000000000000 < p / d) : rat b p d = (0, 1) := by
  unfold rat
  rw [if_pos h0, if_neg (by omega)]
theorem rat_exact (b : Bool) (p d : Nat) (h0 : p % d ≠ 0) : rat b p d = (0, 3) := by
  unfold rat
  rw [if_neg h0]

theorem parts_div {p p1 p2 p3 p4 q4 : Nat} (hl : p = 10000000000000000 * p1 + 100000000 * (p2 + p3) + p4) (h4 : p4 = 10000 * q4) : p % 10000 = 0 ∧ p / 10000 = p1 * 1000000000000 + (p2 + p3) * 10000 + q4 := by
  have e : p = 10000 * (p1 * 1000000000000 + (p2 + p3) * 10000 + q4) := by omega
  rw [e]
  exact ⟨Nat.mul_mod_right _ _, Nat.mul_div_cancel_left _ (by decide)⟩
theorem parts_mod {p p1 p2 p3 p4 : Nat} (hl : p = 10000000000000000 * p1 + 100000000 * (p2 + p3) + p4) : p % 10000 = p4 % 10000 := by
  have e : p = p4 + 10000 * (p1 * 1000000000000 + (p2 + p3) * 10000) := by omega
  rw [e, Nat.add_mul_mod_self_left]

theorem big1 {p1 m q4 : Nat} (h : 1000 < p1) : 1000000000000000 < p1 * 1000000000000 + m * 10000 + q4 := by omega
theorem big2 {p1 m q4 : Nat} (h : 100000000000 < m) : 1000000000000000 < p1 * 1000000000000 + m * 10000 + q4 := by omega
theorem sum_int {p1 p2 p3 q4 n : Nat} (h : n = p1 * 1000000000000 + (p2 + p3) * 10000 + q4) : (p1 : Int) * 1000000000000 + ((p2 : Int) + (p3 : Int)) * 10000 + (q4 : Int) = (n : Int) := by omega
theorem sum_le {p1 p2 p3 q4 n : Nat} (h : n = p1 * 1000000000000 + (p2 + p3) * 10000 + q4) (h1 : ¬ 1000 < p1) (h2 : ¬ 100000000000 < p2 + p3) (h3 : q4 ≤ 1000000000000) : n ≤ 4000000000000000000 := by omega

set_option maxHeartbeats 400000 in
theorem refMul_any (u v : Int) (w : World) : Calls Tryd.prog 30 #[.int .i64 u, .int .i64 v] w fun e w' => e = .returned (pr (mulI u v)) ∧ w = w' := by
  by_cases hval : vld u = true ∧ vld v = true
  · obtain ⟨hu, hv⟩ := hval
    have HM := Lib.hid (show mulI u v = rat (neg2 u v) (u.natAbs * v.natAbs) 10000 by simp [mulI, hu, hv])
    have hA' := abs_lt hu
    have hB' := abs_lt hv
    obtain ⟨a, hA⟩ : ∃ a, u.natAbs = a := ⟨_, rfl⟩
    obtain ⟨b, hB⟩ : ∃ b, v.natAbs = b := ⟨_, rfl⟩
    rw [hA] at HM hA'
    rw [hB] at HM hB'
    have HA := Lib.hid hA; clear hA
    have HB := Lib.hid hB; clear hB
    have hl := long_mul a b
    obtain ⟨x, hx⟩ : ∃ x, a / 100000000 = x := ⟨_, rfl⟩
    obtain ⟨s, hs⟩ : ∃ s, a % 100000000 = s := ⟨_, rfl⟩
    obtain ⟨y, hy⟩ : ∃ y, b / 100000000 = y := ⟨_, rfl⟩
    obtain ⟨t, ht⟩ : ∃ t, b % 100000000 = t := ⟨_, rfl⟩
    have hx1 : x ≤ 10000000 := by omega
    have hy1 : y ≤ 10000000 := by omega
    have hs1 : s ≤ 99999999 := by omega
    have ht1 : t ≤ 99999999 := by omega
    rw [hx, hy, hs, ht] at hl
    have ex : (a : Int) / 100000000 = (x : Int) := by omega
    have es : (a : Int) % 100000000 = (s : Int) := by omega
    have ey : (b : Int) / 100000000 = (y : Int) := by omega
    have et : (b : Int) % 100000000 = (t : Int) := by omega
    have l1 := Nat.mul_le_mul hx1 hy1
    have l2 := Nat.mul_le_mul hx1 ht1
    have l3 := Nat.mul_le_mul hs1 hy1
    have l4 := Nat.mul_le_mul hs1 ht1
    have e1 : (x : Int) * (y : Int) = ((x * y : Nat) : Int) := (Int.natCast_mul x y).symm
    have e2 : (x : Int) * (t : Int) = ((x * t : Nat) : Int) := (Int.natCast_mul x t).symm
    have e3 : (s : Int) * (y : Int) = ((s * y : Nat) : Int) := (Int.natCast_mul s y).symm
    have e4 : (s : Int) * (t : Int) = ((s * t : Nat) : Int) := (Int.natCast_mul s t).symm
    generalize x * y = p1 at hl l1 e1
    generalize x * t = p2 at hl l2 e2
    generalize s * y = p3 at hl l3 e3
    generalize s * t = p4 at hl l4 e4
    generalize hp : a * b = p at HM hl
    have hL := Lib.hid hl
    clear hl hx hs hy ht hp
    have hpm := parts_mod hL.out
    by_cases c1 : p4 % 10000 = 0
    · have n1 : ((p4 : Int) % 10000 != 0) = false := by rw [bne_eq_false_iff_eq]; omega
      obtain ⟨q4, hq4⟩ : ∃ q4, p4 = 10000 * q4 := ⟨p4 / 10000, by omega⟩
      have q1 : (p4 : Int) / 10000 = (q4 : Int) := by omega
      have hq4b : q4 ≤ 1000000000000 := by omega
      obtain ⟨hp0, hpd⟩ := parts_div hL.out hq4
      have HP := Lib.hid hpd
      clear hq4 hpd hpm
      by_cases c2 : 1000 < p1
      · have H := Lib.hid (rat_range (neg2 u v) p 10000 hp0 (by rw [HP.out]; exact big1 c2))
        go_enter Tryd.func30, Tryd.ntmps30
        go_wp2_with (first
          | (go_at_call 22; refine (refValid_any _ _).mono ?_; rintro e w' ⟨rfl, rfl⟩; first | rw [hu] | rw [hv])
          | (go_at_call 36; refine (abs_any _ (by assumption) _).mono ?_; rintro e w' ⟨rfl, rfl⟩; first | rw [HA.out] | rw [HB.out]))
        go_ret2
        exact ⟨ret_pr (by rw [HM.out, H.out]), rfl⟩
      · by_cases c3 : 100000000000 < p2 + p3
        · have H := Lib.hid (rat_range (neg2 u v) p 10000 hp0 (by rw [HP.out]; exact big2 c3))
          go_enter Tryd.func30, Tryd.ntmps30
          go_wp2_with (first
            | (go_at_call 22; refine (refValid_any _ _).mono ?_; rintro e w' ⟨rfl, rfl⟩; first | rw [hu] | rw [hv])
            | (go_at_call 36; refine (abs_any _ (by assumption) _).mono ?_; rintro e w' ⟨rfl, rfl⟩; first | rw [HA.out] | rw [HB.out]))
          go_ret2
          exact ⟨ret_pr (by rw [HM.out, H.out]), rfl⟩
        · obtain ⟨n, hn⟩ : ∃ n, n = p1 * 1000000000000 + (p2 + p3) * 10000 + q4 := ⟨_, rfl⟩
          have H := Lib.hid (rat_res (neg2 u v) p 10000 n hp0 (by rw [HP.out, hn]))
          have en : (p1 : Int) * 1000000000000 + ((p2 : Int) + (p3 : Int)) * 10000 + (q4 : Int) = (n : Int) := sum_int hn
          have hn2 : n ≤ 4000000000000000000 := sum_le hn c2 c3 hq4b
          clear hn
          go_enter Tryd.func30, Tryd.ntmps30
          go_wp2_with (first
            | (go_at_call 22; refine (refValid_any _ _).mono ?_; rintro e w' ⟨rfl, rfl⟩; first | rw [hu] | rw [hv])
            | (go_at_call 36; refine (abs_any _ (by assumption) _).mono ?_; rintro e w' ⟨rfl, rfl⟩; first | rw [HA.out] | rw [HB.out])
            | (go_at_call 41; refine (signed_any _ _ n hn2 _).mono ?_; rintro e w' ⟨rfl, rfl⟩)
            | (go_at_call 40; refine (refresult_any _ _).mono ?_; rintro e w' ⟨rfl, rfl⟩; simp only [pr]))
          go_ret2
          exact ⟨ret_pr (by rw [HM.out, H.out]), rfl⟩
    · have n1 : ((p4 : Int) % 10000 != 0) = true := by rw [bne_iff_ne]; omega
      have H := Lib.hid (rat_exact (neg2 u v) p 10000 (by omega))
      go_enter Tryd.func30, Tryd.ntmps30
      go_wp2_with (first
        | (go_at_call 22; refine (refValid_any _ _).mono ?_; rintro e w' ⟨rfl, rfl⟩; first | rw [hu] | rw [hv])
        | (go_at_call 36; refine (abs_any _ (by assumption) _).mono ?_; rintro e w' ⟨rfl, rfl⟩; first | rw [HA.out] | rw [HB.out]))
      go_ret2
      exact ⟨ret_pr (by rw [HM.out, H.out]), rfl⟩
  · cases hu : vld u <;> cases hv : vld v
    case true.true => exact (hval ⟨hu, hv⟩).elim
    all_goals
      go_enter Tryd.func30, Tryd.ntmps30
      go_wp2_with (go_at_call 22; refine (refValid_any _ _).mono ?_; rintro e w' ⟨rfl, rfl⟩; first | rw [hu] | rw [hv])
      go_ret2
      exact ⟨ret_pr (by simp [mulI, hu, hv]), rfl⟩
end Go.Proofs.YtopacgchhlnnaaaDoor
