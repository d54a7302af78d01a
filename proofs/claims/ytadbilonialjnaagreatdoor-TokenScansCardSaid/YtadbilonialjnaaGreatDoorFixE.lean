/- Walks of the numbers: sums, remainders, whole parts. -/
import Derived.Test.YtadbilonialjnaaGreatDoorFixA
import Derived.LoopTactic
import Derived.Outline
import Derived.Test.YtadbilonialjnaaGreatDoorStr
namespace Go.Proofs.YtadbilonialjnaaGreatDoor
section
open Go.RowKit

theorem remI_tmod (u v : Int) (hv : v ≠ 0) : remI u v = if u.tmod v ≠ 0 ∧ ¬(u < 0 ↔ v < 0) then v + u.tmod v else u.tmod v := by
  unfold remI
  by_cases h0 : 0 ≤ u
  · have e1 : u.tmod v = u % v := Int.tmod_eq_emod_of_nonneg h0
    rw [e1]
    by_cases hp : 0 < v
    · rw [if_pos hp, if_neg (by omega)]
    · rw [if_neg hp]
      have e2 : u % (-v) = u % v := Int.emod_neg u v
      have e3 : (-u) % (-v) = if u % v = 0 then 0 else -v - u % v := by
        have h1 := Int.emod_nonneg u hv
        have h2 := Int.emod_lt_of_pos u (show 0 < -v by omega)
        have h3 := Int.mul_ediv_add_emod u (-v)
        rw [e2] at h2 h3
        split
        · exact Int.emod_eq_zero_of_dvd ⟨-(u / -v), by rw [Int.mul_neg]; omega⟩
        · have h4 : -u = (-v - u % v) + (-v) * (-(u / -v) - 1) := by rw [Int.mul_sub, Int.mul_neg]; omega
          rw [h4, Int.add_mul_emod_self_left]
          exact Int.emod_eq_of_lt (by omega) (by omega)
      rw [e3]
      by_cases hz : u % v = 0
      · simp [hz]
      · rw [if_neg hz]
        split <;> omega
  · have e1 : u.tmod v = -((-u) % v) := by
      rw [show u = -(-u) by omega, Int.neg_tmod, Int.tmod_eq_emod_of_nonneg (by omega)]; simp
    rw [e1]
    by_cases hp : 0 < v
    · rw [if_pos hp]
      have h1 := Int.emod_nonneg (-u) hv
      have h2 := Int.emod_lt_of_pos (-u) hp
      have h3 := Int.mul_ediv_add_emod (-u) v
      by_cases hz : (-u) % v = 0
      · rw [if_neg (by omega), hz]
        exact Int.emod_eq_zero_of_dvd ⟨-((-u) / v), by rw [Int.mul_neg]; omega⟩
      · rw [if_pos (by omega)]
        have h4 : u = (v + -((-u) % v)) + v * (-((-u) / v) - 1) := by rw [Int.mul_sub, Int.mul_neg]; omega
        conv => lhs; rw [h4, Int.add_mul_emod_self_left]
        exact Int.emod_eq_of_lt (by omega) (by omega)
    · rw [if_neg hp, Int.emod_neg, if_neg (by omega)]
theorem floor_tmod (u : Int) : u - u % 10000 = if u.tmod 10000 < 0 then u - (u.tmod 10000 + 10000) else u - u.tmod 10000 := by
  by_cases h0 : 0 ≤ u
  · rw [Int.tmod_eq_emod_of_nonneg h0]; split <;> omega
  · have e1 : u.tmod 10000 = -((-u) % 10000) := by
      rw [show u = -(-u) by omega, Int.neg_tmod, Int.tmod_eq_emod_of_nonneg (by omega)]; simp
    rw [e1]; split <;> omega
end
section
open Go.RowKit

theorem tmod_bound (u v : Int) (hu : vld u = true) : -1000000000000000 ≤ u.tmod v ∧ u.tmod v ≤ 1000000000000000 := by
  rw [vld_iff] at hu
  have h := Int.natAbs_tmod u v
  have h2 := Nat.mod_le u.natAbs v.natAbs
  omega
end
section
open Go.RowKit

def sgn (b : Bool) (n : Nat) : Int := if b then -(n : Int) else n
theorem rat_res (b : Bool) (p d n : Nat) (h0 : p % d = 0) (hn : p / d = n) : rat b p d = resI (sgn b n) := by
  unfold rat resI
  rw [if_pos h0, hn]
  cases b
  · by_cases h : n ≤ 1000000000000000
    · rw [if_pos h, if_pos ((vld_iff _).2 (by simp [sgn]; omega))]; rfl
    · rw [if_neg h, if_neg (by rw [vld_iff]; simp [sgn]; omega)]
  · by_cases h : n ≤ 1000000000000000
    · rw [if_pos h, if_pos ((vld_iff _).2 (by simp [sgn]; omega))]; rfl
    · rw [if_neg h, if_neg (by rw [vld_iff]; simp [sgn]; omega)]
theorem rat_range (b : Bool) (p d : Nat) (h0 : p % d = 0) (hn : 1000000000000000 < p / d) : rat b p d = (0, 1) := by
  unfold rat
  rw [if_pos h0, if_neg (by omega)]
theorem rat_exact (b : Bool) (p d : Nat) (h0 : p % d ≠ 0) : rat b p d = (0, 3) := by
  unfold rat
  rw [if_neg h0]

theorem parts_div {p p1 p2 p3 p4 q4 : Nat} (hl : p = 10000000000000000 * p1 + 100000000 * (p2 + p3) + p4) (h4 : p4 = 10000 * q4) : p % 10000 = 0 ∧ p / 10000 = p1 * 1000000000000 + (p2 + p3) * 10000 + q4 := by
  have e : p = 10000 * (p1 * 1000000000000 + (p2 + p3) * 10000 + q4) := by omega
  rw [e]
  exact ⟨Nat.mul_mod_right _ _, Nat.mul_div_cancel_left _ (by decide)⟩
theorem parts_mod {p p1 p2 p3 p4 : Nat} (hl : p = 10000000000000000 * p1 + 100000000 * (p2 + p3) + p4) : p % 10000 = p4 % 10000 := by
  have e : p = p4 + 10000 * (p1 * 1000000000000 + (p2 + p3) * 10000) := by omega
  rw [e, Nat.add_mul_mod_self_left]

theorem big1 {p1 m q4 : Nat} (h : 1000 < p1) : 1000000000000000 < p1 * 1000000000000 + m * 10000 + q4 := by omega
theorem big2 {p1 m q4 : Nat} (h : 100000000000 < m) : 1000000000000000 < p1 * 1000000000000 + m * 10000 + q4 := by omega
theorem sum_int {p1 p2 p3 q4 n : Nat} (h : n = p1 * 1000000000000 + (p2 + p3) * 10000 + q4) : (p1 : Int) * 1000000000000 + ((p2 : Int) + (p3 : Int)) * 10000 + (q4 : Int) = (n : Int) := by omega
theorem sum_le {p1 p2 p3 q4 n : Nat} (h : n = p1 * 1000000000000 + (p2 + p3) * 10000 + q4) (h1 : ¬ 1000 < p1) (h2 : ¬ 100000000000 < p2 + p3) (h3 : q4 ≤ 1000000000000) : n ≤ 4000000000000000000 := by omega
end
section
open Go.RowKit

theorem abs_at (u : Int) (a : Nat) (h : vld u = true) (ha : Hid (u.natAbs = a)) (w : World) : Calls Tryz.prog 62 #[.int .i64 u] w fun e w' => e = .returned (.int .i64 (a : Int)) ∧ w = w' :=
  (abs_any u h w).mono fun e w' ⟨he, hw⟩ => ⟨by rw [he, ha.out], hw⟩
theorem long_low (r b d k : Nat) (hb : 0 < b) (hr : r < b) (hd : d < 10 ^ k) : d * 10 + r * 10 / b < 10 ^ (k + 1) := by
  have h1 : r * 10 / b < 10 := (Nat.div_lt_iff_lt_mul hb).2 (by rw [Nat.mul_comm 10 b]; omega)
  rw [Nat.pow_succ]
  omega
/-- what the division reads after k digits -/
structure Longs (a b : Nat) (k d r : Nat) : Prop where
  le : k ≤ 4
  eq : d * b + r = a % b * 10 ^ k
  lt : r < b
  low : d < 10 ^ k
theorem Longs.next {a b k d r : Nat} (hb : 0 < b) (h : Longs a b k d r) (hk : k < 4) : Longs a b (k + 1) (d * 10 + r * 10 / b) (r * 10 % b) :=
  ⟨by omega, by rw [long_step r b d _ h.eq, Nat.pow_succ, Nat.mul_assoc], Nat.mod_lt _ hb, long_low r b d k hb h.lt h.low⟩
theorem Longs.last {a b d r : Nat} (hb : 0 < b) (h : Longs a b 4 d r) : (a * 10000) / b = a / b * 10000 + d ∧ (a * 10000) % b = r := by
  have hl := long_div a b hb
  have he : a % b * 10000 = r + b * d := by have := h.eq; simp only [Nat.reducePow] at this; rw [← this, Nat.mul_comm d b]; omega
  have h1 : a % b * 10000 / b = d := by rw [he, Nat.add_mul_div_left _ _ hb, Nat.div_eq_of_lt h.lt, Nat.zero_add]
  have h2 : a % b * 10000 % b = r := by rw [he, Nat.add_mul_mod_self_left, Nat.mod_eq_of_lt h.lt]
  rw [hl.1, hl.2, h1, h2]; exact ⟨rfl, rfl⟩
theorem low4 {k d : Nat} (h : d < 10 ^ k) (hk : k ≤ 4) : d < 10000 := Nat.lt_of_lt_of_le h (Nat.pow_le_pow_right (by decide) hk : 10 ^ k ≤ 10 ^ 4)

def OkPr (x : Int × Int) (w : World) (e : Ending) (w' : World) : Prop := e = .returned (pr x) ∧ ∃ n, w' = w.drewN n
end
end Go.Proofs.YtadbilonialjnaaGreatDoor
