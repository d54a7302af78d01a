/- Walks of the numbers: the specification's quotient. -/
import Derived.LoopTactic
import Derived.Outline
import Derived.Test.YtopacgchhlnnaaaDoorStr
import Derived.Test.YtopacgchhlnnaaaDoorFixD
namespace Go.Proofs.YtopacgchhlnnaaaDoor
open Go.RowKit

theorem abs_at (u : Int) (a : Nat) (h : vld u = true) (ha : Hid (u.natAbs = a)) (w : World) : Calls Tryd.prog 36 #[.int .i64 u] w fun e w' => e = .returned (.int .i64 (a : Int)) ∧ w = w' :=
  (abs_any u h w).mono fun e w' ⟨he, hw⟩ => ⟨by rw [he, ha.out], hw⟩
theorem long_low (r b d k : Nat) (hb : 0 < b) (hr : r < b) (hd : d < 10 ^ k) : d * 10 + r * 10 / b < 10 ^ (k + 1) := by
  have h1 : r * 10 / b < 10 := (Nat.div_lt_iff_lt_mul hb).2 (by rw [Nat.mul_comm 10 b]; omega)
  rw [Nat.pow_succ]
  omega
/-- what the division reads after k digits -/
structure Longs (a b : Nat) (k d r : Nat) : Prop where
  le : k ≤ 4
  eq : d * b + r = a % b * 10 ^ k
  lt : r < b
  low : d < 10 ^ k
theorem Longs.next {a b k d r : Nat} (hb : 0 < b) (h : Longs a b k d r) (hk : k < 4) : Longs a b (k + 1) (d * 10 + r * 10 / b) (r * 10 % b) :=
  ⟨by omega, by rw [long_step r b d _ h.eq, Nat.pow_succ, Nat.mul_assoc], Nat.mod_lt _ hb, long_low r b d k hb h.lt h.low⟩
theorem Longs.last {a b d r : Nat} (hb : 0 < b) (h : Longs a b 4 d r) : (a * 10000) / b = a / b * 10000 + d ∧ (a * 10000) % b = r := by
  have hl := long_div a b hb
  have he : a % b * 10000 = r + b * d := by have := h.eq; simp only [Nat.reducePow] at this; rw [← this, Nat.mul_comm d b]; omega
  have h1 : a % b * 10000 / b = d := by rw [he, Nat.add_mul_div_left _ _ hb, Nat.div_eq_of_lt h.lt, Nat.zero_add]
  have h2 : a % b * 10000 % b = r := by rw [he, Nat.add_mul_mod_self_left, Nat.mod_eq_of_lt h.lt]
  rw [hl.1, hl.2, h1, h2]; exact ⟨rfl, rfl⟩
theorem low4 {k d : Nat} (h : d < 10 ^ k) (hk : k ≤ 4) : d < 10000 := Nat.lt_of_lt_of_le h (Nat.pow_le_pow_right (by decide) hk : 10 ^ k ≤ 10 ^ 4)

def OkPr (x : Int × Int) (w : World) (e : Ending) (w' : World) : Prop := e = .returned (pr x) ∧ ∃ n, w' = w.drewN n
set_option maxHeartbeats 400000 in
theorem refDiv_any (u v : Int) (w : World) : Calls Tryd.prog 31 #[.int .i64 u, .int .i64 v] w (OkPr (divI u v) w) := by
  by_cases hval : vld u = true ∧ vld v = true
  · obtain ⟨hu, hv⟩ := hval
    by_cases hv0 : v = 0
    · subst hv0
      go_enter Tryd.func31, Tryd.ntmps31
      go_wp2_with (go_at_call 22; refine (refValid_any _ _).mono ?_; rintro e w' ⟨rfl, rfl⟩; first | rw [hu] | rw [hv])
      go_ret2
      exact ⟨ret_pr (by simp [divI, hu, hv]), 0, rfl⟩
    · have HM := Lib.hid (show divI u v = rat (neg2 u v) (u.natAbs * 10000) v.natAbs by simp [divI, hu, hv, hv0])
      have hA' := abs_lt hu
      have hB' := abs_lt hv
      have hB0 : 0 < v.natAbs := by omega
      obtain ⟨a, hA⟩ : ∃ a, u.natAbs = a := ⟨_, rfl⟩
      obtain ⟨b, hB⟩ : ∃ b, v.natAbs = b := ⟨_, rfl⟩
      rw [hA] at HM hA'
      rw [hB] at HM hB' hB0
      have HA := Lib.hid hA; clear hA
      have HB := Lib.hid hB; clear hB
      have hv1 : (v == 0) = false := by simpa using hv0
      obtain ⟨q, hq⟩ : ∃ q, a / b = q := ⟨_, rfl⟩
      obtain ⟨r, hr⟩ : ∃ r, a % b = r := ⟨_, rfl⟩
      have hrb : r < b := by rw [← hr]; exact Nat.mod_lt _ hB0
      have hqa : q ≤ a := by rw [← hq]; exact Nat.div_le_self a b
      have eq1 : (a : Int) / (b : Int) = (q : Int) := by rw [← hq]; rfl
      have er1 : (a : Int) % (b : Int) = (r : Int) := by rw [← hr]; rfl
      have HL := Lib.hid (show Longs a b 0 0 r from ⟨by omega, by rw [hr]; simp, hrb, by decide⟩)
      have HQ := Lib.hid hq
      clear hq hr
      go_enter Tryd.func31, Tryd.ntmps31
      go_wp2_with (go_at_call 22; refine (refValid_any _ _).mono ?_; rintro e w' ⟨rfl, rfl⟩; first | rw [hu] | rw [hv])
      go_quiet ((go_at_call 36; first | (with_reducible exact quiet_left (abs_at u a hu HA _)) | (with_reducible exact quiet_left (abs_at v b hv HB _))))
      simp only [er1]
      clear hrb eq1 er1
      go_wp2_with fail
      go_loop [7, 8, 9] (fun x y z => ∃ k d r : Nat, x = .int .i64 (r : Int) ∧ y = .int .i64 (d : Int) ∧ z = .int .i64 (k : Int) ∧ Hid (Longs a b k d r)) (fun _ _ z => 4 - (intOf z).toNat)
      case atStart => exact ⟨0, 0, r, rfl, rfl, rfl, HL⟩
      case round =>
        obtain ⟨k, d, r, rfl, rfl, rfl, HR⟩ := hrel
        have hk := HR.out.le
        have hrb := HR.out.lt
        have hd := low4 HR.out.low hk
        by_cases hlt : k < 4
        · obtain ⟨x, hx⟩ : ∃ x, r * 10 / b = x := ⟨_, rfl⟩
          obtain ⟨y, hy⟩ : ∃ y, r * 10 % b = y := ⟨_, rfl⟩
          have hx9 : x < 10 := by rw [← hx]; exact (Nat.div_lt_iff_lt_mul hB0).2 (by rw [Nat.mul_comm 10 b]; omega)
          have hyb : y < b := by rw [← hy]; exact Nat.mod_lt _ hB0
          have ex : (r : Int) * 10 / (b : Int) = (x : Int) := by rw [← hx]; simp
          have ey : (r : Int) * 10 % (b : Int) = (y : Int) := by rw [← hy]; simp
          have HN := Lib.hid (HR.out.next hB0 hlt)
          rw [hx, hy] at HN
          clear hx hy
          go_wp2_with (go_at_call 36; refine (abs_at v b hv HB _).mono ?_; rintro e w' ⟨rfl, rfl⟩)
          go_round
          case rel => exact ⟨k + 1, d * 10 + x, y, by first | rfl | rw [ey], by first | go_num | (rw [ex]; go_num), by go_num, HN⟩
          case measure => simp [intOf]; omega
        · obtain rfl : k = 4 := by omega
          have HF := Lib.hid (HR.out.last hB0)
          by_cases hr0 : r = 0
          · subst hr0
            have n1 : (((0 : Nat) : Int) != 0) = false := rfl
            by_cases hq1 : 100000000000 < q
            · have H := Lib.hid (rat_range (neg2 u v) (a * 10000) b HF.out.2 (by rw [HF.out.1, HQ.out]; omega))
              go_wp2_with fail
              go_ret2
              exact ⟨ret_pr (by rw [HM.out, H.out]), _, rfl⟩
            · obtain ⟨n, hn⟩ : ∃ n, n = q * 10000 + d := ⟨_, rfl⟩
              have H := Lib.hid (rat_res (neg2 u v) (a * 10000) b n HF.out.2 (by rw [HF.out.1, HQ.out, hn]))
              have en : (q : Int) * 10000 + (d : Int) = (n : Int) := by omega
              have hn2 : n ≤ 4000000000000000000 := by omega
              clear hn
              go_wp2_with (first
                | (go_at_call 41; refine (signed_any _ _ n hn2 _).mono ?_; rintro e w' ⟨rfl, rfl⟩)
                | (go_at_call 40; refine (refresult_any _ _).mono ?_; rintro e w' ⟨rfl, rfl⟩; simp only [pr]))
              go_ret2
              exact ⟨ret_pr (by rw [HM.out, H.out]), _, rfl⟩
          · have n1 : ((r : Int) != 0) = true := by rw [bne_iff_ne]; omega
            have H := Lib.hid (rat_exact (neg2 u v) (a * 10000) b (by rw [HF.out.2]; exact hr0))
            go_wp2_with fail
            go_ret2
            exact ⟨ret_pr (by rw [HM.out, H.out]), _, rfl⟩
  · cases hu : vld u <;> cases hv : vld v
    case true.true => exact (hval ⟨hu, hv⟩).elim
    all_goals
      go_enter Tryd.func31, Tryd.ntmps31
      go_wp2_with (go_at_call 22; refine (refValid_any _ _).mono ?_; rintro e w' ⟨rfl, rfl⟩; first | rw [hu] | rw [hv])
      go_ret2
      exact ⟨ret_pr (by simp [divI, hu, hv]), 0, rfl⟩
end Go.Proofs.YtopacgchhlnnaaaDoor
