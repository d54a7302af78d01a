/- Plain: the long division of 128 bits by 64 in halves. -/
namespace Go.Proofs.YtadbilonialjnaaDoor

/-- one half of a quotient: y = y1 * B + y0 divides u * B + d -/
theorem kn_gt {B u d y1 y0 q r : Nat} (h : q * y1 + r = u) : (r * B + d < q * y0) ↔ (u * B + d < q * (y1 * B + y0)) := by
  subst h
  rw [Nat.add_mul, Nat.mul_add, ← Nat.mul_assoc]; omega
theorem kn_dec {U y q : Nat} (hy : 0 < y) (h : U < q * y) : U / y ≤ q - 1 ∧ 1 ≤ q := by
  have := (Nat.div_lt_iff_lt_mul hy).2 h
  exact ⟨Nat.le_sub_one_of_lt this, Nat.lt_of_le_of_lt (Nat.zero_le _) this⟩
theorem kn_exit {U y q : Nat} (hy : 0 < y) (hq : U / y ≤ q) (h : ¬ U < q * y) : q = U / y :=
  Nat.le_antisymm ((Nat.le_div_iff_mul_le hy).2 (by omega)) hq
theorem kn_big {B u d y q : Nat} (hu : u < y) (hd : d < B) (hq : B ≤ q) : u * B + d < q * y := by
  have h1 : (u + 1) * B ≤ y * B := Nat.mul_le_mul_right B hu
  have h2 : B * y ≤ q * y := Nat.mul_le_mul_right y hq
  rw [Nat.add_mul, Nat.one_mul] at h1
  rw [Nat.mul_comm B y] at h2
  omega
theorem kn_far {B u d y1 y0 q r : Nat} (h : q * y1 + r = u) (hu : u < y1 * B + y0) (h0 : y0 < B) (hr : B ≤ r) : ¬ u * B + d < q * (y1 * B + y0) := by
  rw [← kn_gt h]
  have hq : q < B := by
    apply Nat.lt_of_not_le; intro hq
    have : B * y1 ≤ q * y1 := Nat.mul_le_mul_right y1 hq
    rw [Nat.mul_comm B y1] at this
    omega
  have h1 : q * y0 ≤ B * B := Nat.mul_le_mul (by omega) (by omega)
  have h2 : B * B ≤ r * B := Nat.mul_le_mul_right B hr
  omega
theorem kn_rest {U y : Nat} : ((U : Int) - ((U / y : Nat) : Int) * (y : Int)) = ((U % y : Nat) : Int) := by
  have := Nat.div_add_mod U y
  rw [← Int.natCast_mul, Nat.mul_comm (U / y) y]; omega
theorem kn_join {B u d1 d0 y : Nat} (hy : 0 < y) :
    (((u * B + d1) % y) * B + d0) / y + (u * B + d1) / y * B = (u * (B * B) + (d1 * B + d0)) / y ∧ (((u * B + d1) % y) * B + d0) % y = (u * (B * B) + (d1 * B + d0)) % y := by
  have e : u * (B * B) + (d1 * B + d0) = (((u * B + d1) % y) * B + d0) + y * ((u * B + d1) / y * B) := by
    have h := Nat.div_add_mod (u * B + d1) y
    have h2 : (u * B + d1) * B = (y * ((u * B + d1) / y) + (u * B + d1) % y) * B := by rw [h]
    rw [Nat.add_mul, Nat.add_mul, Nat.mul_assoc, Nat.mul_assoc] at h2
    omega
  rw [e, Nat.add_mul_div_left _ _ hy, Nat.add_mul_mod_self_left]
  exact ⟨rfl, rfl⟩
theorem kn_scale {a y p : Nat} (hp : 0 < p) : (a * p) / (y * p) = a / y ∧ (a * p) % (y * p) / p = a % y := by
  refine ⟨Nat.mul_div_mul_right a y hp, ?_⟩
  rw [Nat.mul_mod_mul_right, Nat.mul_div_cancel _ hp]
end Go.Proofs.YtadbilonialjnaaDoor
