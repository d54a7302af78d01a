/- The walk of math/bits.Div64: every high, low and divisor above high. -/
import Derived.Handy
import Derived.LoopTactic
import Derived.Outline
import Derived.Deep.DeepCutAuto
import Derived.Deep.CutBlock
import Derived.Test.YtopacgchhlnnaaaDoorStr
import Derived.Test.YtopacgchhlnnaaaDoorFixA
import Derived.Test.YtopacgchhlnnaaaDoorKnuthC
import Derived.Test.YtopacgchhlnnaaaDoorShelf
namespace Go.Proofs.YtopacgchhlnnaaaDoor
open Go.RowKit

theorem u64_eq {a b : Int} (h : a = b) : Value.int .u64 a = .int .u64 b := by rw [h]
def Quo (hi lo y : Nat) (w : World) (e : Ending) (w' : World) : Prop :=
  e = .returned (.tuple #[.int .u64 (((hi * 18446744073709551616 + lo) / y : Nat) : Int), .int .u64 (((hi * 18446744073709551616 + lo) % y : Nat) : Int)]) ∧ ∃ n, w' = w.drewN n

theorem ret_quo {a b c d : Int} (h : a = c) (h2 : b = d) : Ending.returned (.tuple #[.int .u64 a, .int .u64 b]) = .returned (.tuple #[.int .u64 c, .int .u64 d]) := by rw [h, h2]
theorem Div64_low (lo y : Nat) (h1 : 0 < y) (hy : y ≤ 18446744073709551615) (hlo : lo ≤ 18446744073709551615) (w : World) :
    Calls Tryd.prog 46 #[.int .u64 0, .int .u64 (lo : Int), .int .u64 (y : Int)] w (Quo 0 lo y w) := by
  have hy0 : ((y : Int) == 0) = false := by simp; omega
  have d1 : ¬ y = 0 := by omega
  obtain ⟨q, hq⟩ : ∃ q, lo / y = q := ⟨_, rfl⟩
  have hql : q ≤ lo := by rw [← hq]; exact Nat.div_le_self _ _
  have r1 : (lo : Int) / (y : Int) = (q : Int) := by rw [← hq]; rfl
  have HQ := Lib.hid hq
  clear hq
  go_enter Tryd.func46, Tryd.ntmps46
  go_wp2_with fail
  go_quiet (fail)
  go_wp2_with fail
  go_ret2
  exact ⟨by rw [Nat.zero_mul, Nat.zero_add, HQ.out]; rfl, nq, rfl⟩

set_option maxHeartbeats 1000000 in
set_option maxRecDepth 100000 in
theorem Div64_big (hi lo y : Nat) (h0 : 0 < hi) (h1 : hi < y) (hy : y ≤ 18446744073709551615) (hlo : lo ≤ 18446744073709551615) (w : World) :
    Calls Tryd.prog 46 #[.int .u64 (hi : Int), .int .u64 (lo : Int), .int .u64 (y : Int)] w (Quo hi lo y w) := by
  have hy0 : ((y : Int) == 0) = false := by simp; omega
  have hi0 : ((hi : Int) == 0) = false := by simp; omega
  obtain ⟨s, u, d1, d0, y1, y0, Y, H, l1, t, K⟩ := Kr.mk' hi lo y h1 (by omega) (by omega)
  obtain ⟨ks, hs, len, eY, bH, bl, bu, bt, r1, r2, r3, r4, r5, r6, r7, r8, r9⟩ := K
  have HL := Lib.hid len
  have HK := Lib.hid ks
  have HY := Lib.hid eY
  have gy1 : y1 ≤ 4294967295 := by have := ks.kc.h1; omega
  have gy1' : 2147483648 ≤ y1 := ks.kc.big
  have gy0 : y0 ≤ 4294967295 := by have := ks.kc.h0; omega
  have gd1 : d1 ≤ 4294967295 := by have := ks.kc.hd; omega
  have gd0 : d0 ≤ 4294967295 := by have := ks.hd0; omega
  have gY : Y ≤ 18446744073709551615 := by omega
  have gY0 : 0 < Y := by omega
  obtain ⟨q, hq⟩ : ∃ q, u / y1 = q := ⟨_, rfl⟩
  obtain ⟨r, hr⟩ : ∃ r, u % y1 = r := ⟨_, rfl⟩
  have hst := Kn.start ks.kc
  rw [hq, hr] at hst
  have HST := Lib.hid hst
  have gq := hst.top
  have gr := hst.lt
  obtain ⟨m, hm⟩ : ∃ m, q * y1 = m := ⟨_, rfl⟩
  have gm : m + r = u := by rw [← hm]; exact hst.eq
  have r10 : (u : Int) / (y1 : Int) = (q : Int) := by rw [← hq]; rfl
  have r11 : (q : Int) * (y1 : Int) = (m : Int) := by rw [← hm]; exact (Int.natCast_mul q y1).symm
  have r12 : (u : Int) - (m : Int) = (r : Int) := by omega
  have gmu : m ≤ u := by omega
  clear hst len ks eY hq hr hm gm
  have HC := Lib.hid HK.out.kc
  go_enter Tryd.func46, Tryd.ntmps46
  go_upto_block 0 with (go_at_call 56; refine (Tryd.bits_LeadingZeros64 _ _ (by omega) (by omega)).mono ?_; rintro e w' ⟨rfl, rfl⟩; rw [Int.toNat_natCast, HL.out])
  rename World => w
  clear r1 r2 r3 r4 r5 r6 r7 r8 r9 r10 r11 r12 gmu
  go_cut [15, 16] (fun a b wx => ∃ (q : Nat) (r : Int), a = .int .u64 (q : Int) ∧ b = .int .u64 r ∧ Hid (q = (u * 4294967296 + d1) / (y1 * 4294967296 + y0)) ∧ w = wx)
  case first =>
    clear gq gr
    go_wp2_with fail
    go_loop [15, 16] (fun a b => ∃ q r : Nat, a = .int .u64 (q : Int) ∧ b = .int .u64 (r : Int) ∧ Hid (Kn u d1 y1 y0 q r)) (fun a _ => (intOf a).toNat)
    case atStart => exact ⟨q, r, rfl, rfl, HST⟩
    case round =>
      obtain ⟨q, r, rfl, rfl, HR⟩ := hrel
      have gq := HR.out.top
      have gr := HR.out.lt
      by_cases hov : 4294967296 ≤ q
      · obtain ⟨k1, k2, k3⟩ := HR.out.down HC.out (Kn.over HC.out hov)
        have D1 : decide ((4294967296 : Int) ≤ (q : Int)) = true := by rw [decide_eq_true_eq]; omega
        clear hov
        by_cases hbr : 4294967296 ≤ r + y1
        · have HQ := Lib.hid (k3 hbr)
          have D3 : decide ((4294967296 : Int) ≤ (r : Int) + (y1 : Int)) = true := by rw [decide_eq_true_eq]; omega
          clear k2 k3 hbr
          go_wp2_with fail
          go_meet
          exact ⟨_, _, u64_eq (by omega), rfl, HQ, rfl⟩
        · have HN := Lib.hid (k2 (by omega))
          have D3 : decide ((4294967296 : Int) ≤ (r : Int) + (y1 : Int)) = false := by rw [decide_eq_false_iff_not]; omega
          clear k2 k3 hbr
          go_wp2_with fail
          go_round
          case rel => exact ⟨q - 1, r + y1, u64_eq (by omega), u64_eq (by omega), HN⟩
          case measure => simp [intOf]; omega
      · have hov' : q ≤ 4294967295 := by omega
        have D1 : decide ((4294967296 : Int) ≤ (q : Int)) = false := by rw [decide_eq_false_iff_not]; omega
        clear hov
        obtain ⟨m, hm⟩ : ∃ m, q * y0 = m := ⟨_, rfl⟩
        have gm : m ≤ 18446744069414584320 := by rw [← hm]; exact Kn.mul_lt (by omega) (by omega)
        have r13 : (q : Int) * (y0 : Int) = (m : Int) := by rw [← hm]; exact (Int.natCast_mul q y0).symm
        have htest := HR.out.test
        rw [hm] at htest
        by_cases ht : 4294967296 * r + d1 < m
        · obtain ⟨k1, k2, k3⟩ := HR.out.down HC.out (htest.1 ht)
          have D2 : decide (4294967296 * (r : Int) + (d1 : Int) < (m : Int)) = true := by rw [decide_eq_true_eq]; omega
          clear hm htest ht
          by_cases hbr : 4294967296 ≤ r + y1
          · have HQ := Lib.hid (k3 hbr)
            have D3 : decide ((4294967296 : Int) ≤ (r : Int) + (y1 : Int)) = true := by rw [decide_eq_true_eq]; omega
            clear k2 k3 hbr
            go_wp2_with fail
            go_meet
            exact ⟨_, _, u64_eq (by omega), rfl, HQ, rfl⟩
          · have HN := Lib.hid (k2 (by omega))
            have D3 : decide ((4294967296 : Int) ≤ (r : Int) + (y1 : Int)) = false := by rw [decide_eq_false_iff_not]; omega
            clear k2 k3 hbr
            go_wp2_with fail
            go_round
            case rel => exact ⟨q - 1, r + y1, u64_eq (by omega), u64_eq (by omega), HN⟩
            case measure => simp [intOf]; omega
        · have HQ := Lib.hid (HR.out.out HC.out (fun h => ht (htest.2 h)))
          have D2 : decide (4294967296 * (r : Int) + (d1 : Int) < (m : Int)) = false := by rw [decide_eq_false_iff_not]; omega
          clear hm htest ht
          go_wp2_with fail
          go_meet
          exact ⟨_, _, rfl, rfl, HQ, rfl⟩
  case rest =>
    obtain ⟨q, r, rfl, rfl, HQ, rfl⟩ := hcut
    have gq1 : q ≤ 4294967295 := by have := HC.out.quo_lt; rw [← HQ.out] at this; omega
    obtain ⟨n1, hn1⟩ : ∃ n1, (u * 4294967296 + d1) % (y1 * 4294967296 + y0) = n1 := ⟨_, rfl⟩
    have HN1 := Lib.hid hn1
    have hkd := HC.out.next HK.out.hd0
    rw [hn1] at hkd
    have HD := Lib.hid hkd
    have r20 := wrap_rest u d1 Y q gY0 gY (by rw [HY.out]; exact HQ.out)
    rw [HY.out, hn1, ← HY.out] at r20
    have gn1 : n1 ≤ 18446744073709551615 := by have := hkd.hu; have := HY.out; omega
    obtain ⟨q2, hq2⟩ : ∃ q, n1 / y1 = q := ⟨_, rfl⟩
    obtain ⟨r2, hr2⟩ : ∃ r, n1 % y1 = r := ⟨_, rfl⟩
    have hst := Kn.start hkd
    rw [hq2, hr2] at hst
    have HST2 := Lib.hid hst
    have gq := hst.top
    have gr := hst.lt
    obtain ⟨m, hm⟩ : ∃ m, q2 * y1 = m := ⟨_, rfl⟩
    have gm : m + r2 = n1 := by rw [← hm]; exact hst.eq
    have r10 : (n1 : Int) / (y1 : Int) = (q2 : Int) := by rw [← hq2]; rfl
    have r11 : (q2 : Int) * (y1 : Int) = (m : Int) := by rw [← hm]; exact (Int.natCast_mul q2 y1).symm
    have r12 : (n1 : Int) - (m : Int) = (r2 : Int) := by omega
    have gmu : m ≤ n1 := by omega
    clear hst hkd hn1 hq2 hr2 hm gm HST
    go_upto_block 2 with fail
    clear r10 r11 r12 gmu r20
    go_cut [18, 16] (fun a b wx => ∃ (q : Nat) (r : Int), a = .int .u64 (q : Int) ∧ b = .int .u64 r ∧ Hid (q = (n1 * 4294967296 + d0) / (y1 * 4294967296 + y0)) ∧ w = wx)
    case first =>
      clear gq gr
      go_wp2_with fail
      go_loop [18, 16] (fun a b => ∃ q r : Nat, a = .int .u64 (q : Int) ∧ b = .int .u64 (r : Int) ∧ Hid (Kn n1 d0 y1 y0 q r)) (fun a _ => (intOf a).toNat)
      case atStart => exact ⟨q2, r2, rfl, rfl, HST2⟩
      case round =>
        obtain ⟨q, r, rfl, rfl, HR⟩ := hrel
        have gq := HR.out.top
        have gr := HR.out.lt
        by_cases hov : 4294967296 ≤ q
        · obtain ⟨k1, k2, k3⟩ := HR.out.down HD.out (Kn.over HD.out hov)
          have D1 : decide ((4294967296 : Int) ≤ (q : Int)) = true := by rw [decide_eq_true_eq]; omega
          clear hov
          by_cases hbr : 4294967296 ≤ r + y1
          · have HQ := Lib.hid (k3 hbr)
            have D3 : decide ((4294967296 : Int) ≤ (r : Int) + (y1 : Int)) = true := by rw [decide_eq_true_eq]; omega
            clear k2 k3 hbr
            go_wp2_with fail
            go_meet
            exact ⟨_, _, u64_eq (by omega), rfl, HQ, rfl⟩
          · have HN := Lib.hid (k2 (by omega))
            have D3 : decide ((4294967296 : Int) ≤ (r : Int) + (y1 : Int)) = false := by rw [decide_eq_false_iff_not]; omega
            clear k2 k3 hbr
            go_wp2_with fail
            go_round
            case rel => exact ⟨q - 1, r + y1, u64_eq (by omega), u64_eq (by omega), HN⟩
            case measure => simp [intOf]; omega
        · have hov' : q ≤ 4294967295 := by omega
          have D1 : decide ((4294967296 : Int) ≤ (q : Int)) = false := by rw [decide_eq_false_iff_not]; omega
          clear hov
          obtain ⟨m, hm⟩ : ∃ m, q * y0 = m := ⟨_, rfl⟩
          have gm : m ≤ 18446744069414584320 := by rw [← hm]; exact Kn.mul_lt (by omega) (by omega)
          have r13 : (q : Int) * (y0 : Int) = (m : Int) := by rw [← hm]; exact (Int.natCast_mul q y0).symm
          have htest := HR.out.test
          rw [hm] at htest
          by_cases ht : 4294967296 * r + d0 < m
          · obtain ⟨k1, k2, k3⟩ := HR.out.down HD.out (htest.1 ht)
            have D2 : decide (4294967296 * (r : Int) + (d0 : Int) < (m : Int)) = true := by rw [decide_eq_true_eq]; omega
            clear hm htest ht
            by_cases hbr : 4294967296 ≤ r + y1
            · have HQ := Lib.hid (k3 hbr)
              have D3 : decide ((4294967296 : Int) ≤ (r : Int) + (y1 : Int)) = true := by rw [decide_eq_true_eq]; omega
              clear k2 k3 hbr
              go_wp2_with fail
              go_meet
              exact ⟨_, _, u64_eq (by omega), rfl, HQ, rfl⟩
            · have HN := Lib.hid (k2 (by omega))
              have D3 : decide ((4294967296 : Int) ≤ (r : Int) + (y1 : Int)) = false := by rw [decide_eq_false_iff_not]; omega
              clear k2 k3 hbr
              go_wp2_with fail
              go_round
              case rel => exact ⟨q - 1, r + y1, u64_eq (by omega), u64_eq (by omega), HN⟩
              case measure => simp [intOf]; omega
          · have HQ := Lib.hid (HR.out.out HD.out (fun h => ht (htest.2 h)))
            have D2 : decide (4294967296 * (r : Int) + (d0 : Int) < (m : Int)) = false := by rw [decide_eq_false_iff_not]; omega
            clear hm htest ht
            go_wp2_with fail
            go_meet
            exact ⟨_, _, rfl, rfl, HQ, rfl⟩
    case rest =>
      obtain ⟨q0, r0, rfl, rfl, HQ0, rfl⟩ := hcut
      have gq0 : q0 ≤ 4294967295 := by have := HD.out.quo_lt; rw [← HQ0.out] at this; omega
      obtain ⟨n0, hn0⟩ : ∃ n0, (n1 * 4294967296 + d0) % (y1 * 4294967296 + y0) = n0 := ⟨_, rfl⟩
      have r20 := wrap_rest n1 d0 Y q0 gY0 gY (by rw [HY.out]; exact HQ0.out)
      rw [HY.out, hn0, ← HY.out] at r20
      have gn0 : n0 ≤ 18446744073709551615 := by rw [← hn0, ← HY.out]; have := Nat.mod_lt (n1 * 4294967296 + d0) gY0; omega
      have HN0 := Lib.hid hn0
      clear hn0
      go_wp2_with fail
      go_ret2
      have hj := HK.out.join
      rw [HN1.out, ← HQ.out, ← HQ0.out, HN0.out] at hj
      obtain ⟨j1, j2⟩ := hj
      refine ⟨?_, 0, rfl⟩
      rw [← j1, ← j2]
      exact ret_quo (by rw [Int.natCast_add, Int.natCast_mul]; omega) (by rw [Int.natCast_ediv, Int.natCast_pow]; rfl)
/-- Div64 for every divisor above the high half -/
theorem Div64_any (hi lo y : Nat) (h1 : hi < y) (hy : y ≤ 18446744073709551615) (hlo : lo ≤ 18446744073709551615) (w : World) :
    Calls Tryd.prog 46 #[.int .u64 (hi : Int), .int .u64 (lo : Int), .int .u64 (y : Int)] w (Quo hi lo y w) := by
  by_cases h0 : hi = 0
  · subst h0; exact Div64_low lo y h1 hy hlo w
  · exact Div64_big hi lo y (by omega) h1 hy hlo w
end Go.Proofs.YtopacgchhlnnaaaDoor
