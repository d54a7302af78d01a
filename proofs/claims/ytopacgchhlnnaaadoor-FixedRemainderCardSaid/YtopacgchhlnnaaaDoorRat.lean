/- Walks of the numbers: products and quotients. -/
import Derived.Test.YtopacgchhlnnaaaDoorFixD
import Derived.Test.YtopacgchhlnnaaaDoorDiv
namespace Go.Proofs.YtopacgchhlnnaaaDoor
open Go.RowKit

theorem mod_join (p c : Nat) : (p / 18446744073709551616 % c * 18446744073709551616 + p % 18446744073709551616) % c = p % c := by
  conv => rhs; rw [← Nat.div_add_mod p 18446744073709551616]
  rw [Nat.add_mod, Nat.mul_mod, Nat.mod_mod, ← Nat.mul_mod, ← Nat.add_mod, Nat.mul_comm]
theorem div_join (p : Nat) : p / 18446744073709551616 * 18446744073709551616 + p % 18446744073709551616 = p := by
  rw [Nat.mul_comm]; exact Nat.div_add_mod p _
theorem high_big {p c : Nat} (hc : 0 < c) (h : c ≤ p / 18446744073709551616) : 1000000000000000 < p / c := by
  have h1 : c * 18446744073709551616 ≤ p := by rw [Nat.mul_comm]; have := Nat.div_mul_le_self p 18446744073709551616; omega
  have := (Nat.le_div_iff_mul_le hc).2 (show 18446744073709551616 * c ≤ p by omega)
  omega
theorem below_box (w : World) (o : Obj) (n : Nat) : Below w.heap.size w ((w.alloc o).drewN n) := below_drewN ((Below.refl _ _).alloc (Nat.le_refl _) _) n

set_option maxHeartbeats 400000 in
set_option maxRecDepth 100000 in
theorem ratio_any (u v : Int) (a b c : Nat) (ha : a ≤ 1000000000000000) (hb : b ≤ 1000000000000000) (hc : c ≤ 1000000000000000) (hc0 : 0 < c) (w : World) :
    Calls Tryd.prog 38 #[.int .i64 u, .int .i64 v, .agg #[.int .u64 (a : Int), .int .u64 (b : Int)], .int .u64 (c : Int)] w (OkB (rat (neg2 u v) (a * b) c) w) := by
  have hp := Nat.mul_le_mul ha hb
  obtain ⟨p, hpe⟩ : ∃ p, a * b = p := ⟨_, rfl⟩
  rw [hpe] at hp
  have HP := Lib.hid hpe
  rw [hpe]
  obtain ⟨hi, hhi⟩ : ∃ hi, p / 18446744073709551616 = hi := ⟨_, rfl⟩
  obtain ⟨lo, hlo⟩ : ∃ lo, p % 18446744073709551616 = lo := ⟨_, rfl⟩
  have blo : lo ≤ 18446744073709551615 := by omega
  have bhi : hi ≤ 1000000000000000 := by omega
  have HM := Lib.hid (show Calls Tryd.prog 45 #[.int .u64 (a : Int), .int .u64 (b : Int)] = Calls Tryd.prog 45 #[.int .u64 (a : Int), .int .u64 (b : Int)] from rfl)
  clear HM
  have jm := mod_join p c
  have jd := div_join p
  rw [hhi, hlo] at jm jd
  have JM := Lib.hid jm
  have JD := Lib.hid jd
  have HH := Lib.hid (show c ≤ hi → 1000000000000000 < p / c from fun h => high_big hc0 (by rw [hhi]; exact h))
  have e1 : (hi : Int) % (c : Int) = ((hi % c : Nat) : Int) := rfl
  obtain ⟨x, hx⟩ : ∃ x, hi % c = x := ⟨_, rfl⟩
  have hxc : x < c := by rw [← hx]; exact Nat.mod_lt _ hc0
  rw [hx] at e1 JM
  have HI := Lib.hid hhi
  have HL := Lib.hid hlo
  clear hp hpe hhi hlo jm jd hx
  obtain ⟨r, hr⟩ : ∃ r, p % c = r := ⟨_, rfl⟩
  have HR := Lib.hid hr
  have hrc : r < c := by rw [← hr]; exact Nat.mod_lt _ hc0
  clear hr
  by_cases hr0 : r = 0
  · subst hr0
    obtain ⟨q, hq⟩ : ∃ q, p / c = q := ⟨_, rfl⟩
    have HQ := Lib.hid hq
    have HS := Lib.hid (show 1000000000000000 < q → rat (neg2 u v) p c = (0, 1) from fun h => rat_range _ _ _ HR.out (by rw [HQ.out]; exact h))
    have HT := Lib.hid (show ¬ 1000000000000000 < q → rat (neg2 u v) p c = (sgn (neg2 u v) q, 0) from fun h => by unfold rat sgn; rw [if_pos HR.out, HQ.out, if_pos (by omega)])
    have hbq : c ≤ hi → 1000000000000000 < q := fun h => by have := HH.out h; rw [HQ.out] at this; exact this
    clear hq
    by_cases hbig : c ≤ hi
    · have hbq1 := Lib.hid (hbq hbig)
      clear hbq
      go_enter Tryd.func38, Tryd.ntmps38
      go_wp2_with (first
        | (go_at_call 45; refine (Tryd.bits_Mul64 a b (by omega) (by omega) _).mono ?_; rintro e w' ⟨rfl, rfl⟩; rw [HP.out, HI.out, HL.out])
        | (go_at_call 46; refine (Div64_any x lo c (by omega) (by omega) (by omega) _).mono ?_; rintro e w' ⟨rfl, n, rfl⟩; rw [JM.out, HR.out]))
      go_ret2
      exact ⟨ret_pr (HS.out hbq1.out), below_box _ _ _⟩
    · clear hbq
      have hqb : q ≤ 18446744073709551615 := by
        rw [← HQ.out, ← JD.out]
        have := (Nat.div_lt_iff_lt_mul hc0 (x := hi * 18446744073709551616 + lo) (y := 18446744073709551616)).2 (by have := Nat.mul_le_mul_right 18446744073709551616 (show hi + 1 ≤ c by omega); omega)
        omega
      by_cases hq1 : 1000000000000000 < q
      · have D1 : decide ((1000000000000000 : Int) < (q : Int)) = true := by rw [decide_eq_true_eq]; omega
        have HX := Lib.hid hq1
        clear hq1
        go_enter Tryd.func38, Tryd.ntmps38
        go_wp2_with (first
          | (go_at_call 45; refine (Tryd.bits_Mul64 a b (by omega) (by omega) _).mono ?_; rintro e w' ⟨rfl, rfl⟩; rw [HP.out, HI.out, HL.out])
          | (go_at_call 46; refine (Div64_any _ lo c (by omega) (by omega) (by omega) _).mono ?_; rintro e w' ⟨rfl, n, rfl⟩; first | rw [JM.out, HR.out] | rw [JD.out, HR.out, HQ.out]))
        go_ret2
        exact ⟨ret_pr (HS.out HX.out), below_box _ _ _⟩
      · have D1 : decide ((1000000000000000 : Int) < (q : Int)) = false := by rw [decide_eq_false_iff_not]; omega
        have hqs : q ≤ 1000000000000000 := by omega
        have HX := Lib.hid hq1
        clear hq1 hqb
        have HV := Lib.hid (show neg2 u v = (decide (u < 0) != decide (v < 0)) from rfl)
        cases d1 : decide (u < 0) <;> cases d2 : decide (v < 0)
        all_goals
          go_enter Tryd.func38, Tryd.ntmps38
          go_wp2_with (first
            | (go_at_call 45; refine (Tryd.bits_Mul64 a b (by omega) (by omega) _).mono ?_; rintro e w' ⟨rfl, rfl⟩; rw [HP.out, HI.out, HL.out])
            | (go_at_call 46; refine (Div64_any _ lo c (by omega) (by omega) (by omega) _).mono ?_; rintro e w' ⟨rfl, n, rfl⟩; first | rw [JM.out, HR.out] | rw [JD.out, HR.out, HQ.out]))
          go_ret2
          exact ⟨ret_pr (by rw [HT.out HX.out, HV.out, d1, d2]; simp [sgn]), below_box _ _ _⟩
  · have n1 : ((r : Int) != 0) = true := by rw [bne_iff_ne]; omega
    go_enter Tryd.func38, Tryd.ntmps38
    go_wp2_with (first
      | (go_at_call 45; refine (Tryd.bits_Mul64 a b (by omega) (by omega) _).mono ?_; rintro e w' ⟨rfl, rfl⟩; rw [HP.out, HI.out, HL.out])
      | (go_at_call 46; refine (Div64_any x lo c (by omega) (by omega) (by omega) _).mono ?_; rintro e w' ⟨rfl, n, rfl⟩; rw [JM.out, HR.out]))
    go_ret2
    exact ⟨ret_pr (rat_exact _ _ _ (by rw [HR.out]; exact hr0)), below_box _ _ _⟩
end Go.Proofs.YtopacgchhlnnaaaDoor
