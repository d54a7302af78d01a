/- Numbers with four decimal places: what the functions return. -/
import Derived.Test.YtadbilonialjnaaDoorKnuth
namespace Go.Proofs.YtadbilonialjnaaDoor

/-- a valid number -/
def vld (u : Int) : Bool := decide (-1000000000000000 ≤ u) && decide (u ≤ 1000000000000000)
/-- p / b with a sign, or the error -/
def rat (n : Bool) (p b : Nat) : Int × Int :=
  if p % b = 0 then (if p / b ≤ 1000000000000000 then (if n then -((p / b : Nat) : Int) else ((p / b : Nat) : Int), 0) else (0, 1)) else (0, 3)
def neg2 (u v : Int) : Bool := decide (u < 0) != decide (v < 0)
def mulI (u v : Int) : Int × Int := if vld u && vld v then rat (neg2 u v) (u.natAbs * v.natAbs) 10000 else (0, 1)
def divI (u v : Int) : Int × Int := if vld u && vld v then (if v = 0 then (0, 4) else rat (neg2 u v) (u.natAbs * 10000) v.natAbs) else (0, 1)
def resI (u : Int) : Int × Int := if vld u then (u, 0) else (0, 1)
def addI (u v : Int) : Int × Int := if vld u && vld v then resI (u + v) else (0, 1)
def subI (u v : Int) : Int × Int := if vld u && vld v then resI (u - v) else (0, 1)
/-- the remainder with the sign of v -/
def remI (u v : Int) : Int := if 0 < v then u % v else -((-u) % (-v))
def modI (u v : Int) : Int × Int := if vld u && vld v then (if v = 0 then (0, 4) else (remI u v, 0)) else (0, 1)
def floorI (u : Int) : Int := if vld u then u - u % 10000 else 0

theorem vld_iff (u : Int) : vld u = true ↔ -1000000000000000 ≤ u ∧ u ≤ 1000000000000000 := by simp [vld]
theorem vld_not (u : Int) : vld u = false ↔ u < -1000000000000000 ∨ 1000000000000000 < u := by
  rw [← Bool.not_eq_true, vld_iff]; omega
theorem abs_lt {u : Int} (h : vld u = true) : u.natAbs ≤ 1000000000000000 := by rw [vld_iff] at h; omega

/-- the specification's long product -/
theorem long_mod (a b : Nat) : (a % 100000000 * (b % 100000000)) % 10000 = (a * b) % 10000 := by
  conv => rhs; rw [← Nat.div_add_mod a 100000000, ← Nat.div_add_mod b 100000000]
  rw [Nat.add_mul, Nat.mul_add, Nat.mul_add]
  generalize a % 100000000 * (b % 100000000) = z
  generalize a / 100000000 = x
  generalize b / 100000000 = y
  generalize a % 100000000 = s
  generalize b % 100000000 = t
  rw [Nat.mul_assoc 100000000 x, Nat.mul_assoc 100000000 x, Nat.mul_left_comm s 100000000]
  generalize x * (100000000 * y) = e1
  generalize x * t = e2
  generalize s * y = e3
  omega
/-- the product of the magnitudes by its parts of 8 digits -/
theorem long_mul (a b : Nat) : a * b = 10000000000000000 * (a / 100000000 * (b / 100000000)) + 100000000 * (a / 100000000 * (b % 100000000) + a % 100000000 * (b / 100000000)) + a % 100000000 * (b % 100000000) := by
  conv => lhs; rw [← Nat.div_add_mod a 100000000, ← Nat.div_add_mod b 100000000]
  rw [Nat.add_mul, Nat.mul_add, Nat.mul_add]
  generalize a % 100000000 = s
  generalize b % 100000000 = t
  generalize a / 100000000 = x
  generalize b / 100000000 = y
  rw [Nat.mul_assoc 100000000 x, Nat.mul_assoc 100000000 x, Nat.mul_left_comm s 100000000, Nat.mul_left_comm x 100000000]
  generalize x * y = e1
  generalize x * t = e2
  generalize s * y = e3
  generalize s * t = e4
  omega
/-- the quotient by its whole part and long division -/
theorem long_div (a b : Nat) (hb : 0 < b) : (a * 10000) / b = a / b * 10000 + (a % b * 10000) / b ∧ (a * 10000) % b = (a % b * 10000) % b := by
  have e : a * 10000 = a % b * 10000 + b * (a / b * 10000) := by
    conv => lhs; rw [← Nat.div_add_mod a b]
    rw [Nat.add_mul, Nat.mul_assoc]; omega
  rw [e, Nat.add_mul_div_left _ _ hb, Nat.add_mul_mod_self_left]
  exact ⟨Nat.add_comm _ _, rfl⟩
/-- one digit more -/
theorem long_step (r b d x : Nat) (h : d * b + r = x) : (d * 10 + r * 10 / b) * b + r * 10 % b = x * 10 := by
  have h1 := Nat.div_add_mod (r * 10) b
  rw [Nat.add_mul, Nat.mul_comm (r * 10 / b) b, Nat.mul_right_comm]
  omega
end Go.Proofs.YtadbilonialjnaaDoor
