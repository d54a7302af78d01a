/- Plain: the long division of 128 bits by 64 in halves, as Go's Div64 takes it. -/
import Derived.IntWalk
import Derived.Test.YtopacgchhlnnaaaDoorKnuth
namespace Go.Proofs.YtopacgchhlnnaaaDoor
open Go

/-- the estimate of one half of a quotient -/
structure Kn (u d y1 y0 q r : Nat) : Prop where
  eq : q * y1 + r = u
  lt : r < 4294967296
  hi : (u * 4294967296 + d) / (y1 * 4294967296 + y0) ≤ q
  top : q ≤ 8589934592
/-- what is divided and by what -/
structure Kc (u d y1 y0 : Nat) : Prop where
  hu : u < y1 * 4294967296 + y0
  hd : d < 4294967296
  h0 : y0 < 4294967296
  h1 : y1 < 4294967296
  big : 2147483648 ≤ y1
theorem Kn.start {u d y1 y0 : Nat} (c : Kc u d y1 y0) : Kn u d y1 y0 (u / y1) (u % y1) := by
  have hb := c.big
  have h1 := c.h1
  have h2 := c.h0
  have h3 := c.hu
  have h4 := c.hd
  have hm : u % y1 < y1 := Nat.mod_lt _ (by omega)
  have hd := Nat.div_add_mod u y1
  refine ⟨by rw [Nat.mul_comm]; exact hd, by omega, ?_, ?_⟩
  · apply Nat.le_of_lt_succ
    rw [Nat.div_lt_iff_lt_mul (by omega)]
    rw [Nat.succ_mul, Nat.mul_add, ← Nat.mul_assoc, Nat.mul_comm (u / y1) y1]
    generalize y1 * (u / y1) = z at *
    omega
  · have := Nat.div_le_div_left hb (show 0 < 2147483648 by decide) (a := u)
    omega
theorem Kn.down {u d y1 y0 q r : Nat} (c : Kc u d y1 y0) (h : Kn u d y1 y0 q r) (ht : u * 4294967296 + d < q * (y1 * 4294967296 + y0)) :
    1 ≤ q ∧ (r + y1 < 4294967296 → Kn u d y1 y0 (q - 1) (r + y1)) ∧ (4294967296 ≤ r + y1 → q - 1 = (u * 4294967296 + d) / (y1 * 4294967296 + y0)) := by
  have hb := c.big
  have hy : 0 < y1 * 4294967296 + y0 := by omega
  obtain ⟨k1, k2⟩ := kn_dec hy ht
  have e : (q - 1) * y1 + (r + y1) = u := by
    have := h.eq
    obtain ⟨q', rfl⟩ : ∃ q', q = q' + 1 := ⟨q - 1, by omega⟩
    rw [Nat.add_sub_cancel, Nat.add_mul] at *
    omega
  exact ⟨k2, fun hr => ⟨e, hr, k1, by have := h.top; omega⟩, fun hr => kn_exit hy k1 (kn_far e c.hu c.h0 hr)⟩
theorem Kn.out {u d y1 y0 q r : Nat} (c : Kc u d y1 y0) (h : Kn u d y1 y0 q r) (ht : ¬ u * 4294967296 + d < q * (y1 * 4294967296 + y0)) : q = (u * 4294967296 + d) / (y1 * 4294967296 + y0) :=
  kn_exit (by have := c.big; omega) h.hi ht
/-- the test of a round -/
theorem Kn.test {u d y1 y0 q r : Nat} (h : Kn u d y1 y0 q r) : (4294967296 * r + d < q * y0) ↔ (u * 4294967296 + d < q * (y1 * 4294967296 + y0)) := by
  rw [Nat.mul_comm 4294967296 r]; exact kn_gt h.eq
theorem Kn.over {u d y1 y0 q : Nat} (c : Kc u d y1 y0) (hq : 4294967296 ≤ q) : u * 4294967296 + d < q * (y1 * 4294967296 + y0) := kn_big c.hu c.hd hq
theorem Kn.mul_lt {q y0 : Nat} (hq : q < 4294967296) (h0 : y0 < 4294967296) : q * y0 ≤ 18446744069414584320 := by
  have := Nat.mul_le_mul (show q ≤ 4294967295 by omega) (show y0 ≤ 4294967295 by omega)
  omega
/-- the quotient of the half: below 2^32 -/
theorem Kc.quo_lt {u d y1 y0 : Nat} (c : Kc u d y1 y0) : (u * 4294967296 + d) / (y1 * 4294967296 + y0) < 4294967296 := by
  rw [Nat.div_lt_iff_lt_mul (by have := c.big; omega)]
  have h1 := c.hu; have h2 := c.hd
  omega
theorem wrapu (n : Int) : IntKind.u64.wrap n = n % 18446744073709551616 := by simp [IntKind.wrap, IntKind.bits, IntKind.signed]
theorem wrap_u64_of {z x : Int} (h : ∃ k : Int, z = x + 18446744073709551616 * k) (h0 : 0 ≤ x) (h1 : x ≤ 18446744073709551615) : IntKind.u64.wrap z = x := by
  obtain ⟨k, rfl⟩ := h
  rw [wrapu]; omega
/-- the rest of a half: the products wrap, the difference does not -/
theorem wrap_rest (u d y q : Nat) (hy : 0 < y) (hy2 : y ≤ 18446744073709551615) (hq : q = (u * 4294967296 + d) / y) :
    IntKind.u64.wrap (IntKind.u64.wrap (IntKind.u64.wrap ((u : Int) * 4294967296) + (d : Int)) - IntKind.u64.wrap ((q : Int) * (y : Int))) = (((u * 4294967296 + d) % y : Nat) : Int) := by
  have hr : (u * 4294967296 + d) % y < y := Nat.mod_lt _ hy
  have he := Nat.div_add_mod (u * 4294967296 + d) y
  rw [← hq] at he
  have he2 : (u : Int) * 4294967296 + (d : Int) = (q : Int) * (y : Int) + (((u * 4294967296 + d) % y : Nat) : Int) := by
    have h := Int.natCast_mul y q
    rw [Int.mul_comm (q : Int), ← h]; omega
  generalize (u * 4294967296 + d) % y = r at *
  generalize (q : Int) * (y : Int) = z at *
  clear he hq
  rw [wrapu, wrapu, wrapu, wrapu]
  omega
/-- the joined quotient -/
theorem Kc.next {u d1 d0 y1 y0 : Nat} (c : Kc u d1 y1 y0) (h0 : d0 < 4294967296) : Kc ((u * 4294967296 + d1) % (y1 * 4294967296 + y0)) d0 y1 y0 :=
  ⟨Nat.mod_lt _ (by have := c.big; omega), h0, c.h0, c.h1, c.big⟩
/-- the numbers that the shift makes -/
structure Ks (hi lo y s u d1 d0 y1 y0 : Nat) : Prop where
  kc : Kc u d1 y1 y0
  eq : (hi * 18446744073709551616 + lo) * 2 ^ s = u * 18446744073709551616 + (d1 * 4294967296 + d0)
  hy : y * 2 ^ s = y1 * 4294967296 + y0
  hd0 : d0 < 4294967296
theorem Ks.join {hi lo y s u d1 d0 y1 y0 : Nat} (k : Ks hi lo y s u d1 d0 y1 y0) :
    ((u * 4294967296 + d1) % (y1 * 4294967296 + y0) * 4294967296 + d0) / (y1 * 4294967296 + y0) + (u * 4294967296 + d1) / (y1 * 4294967296 + y0) * 4294967296 = (hi * 18446744073709551616 + lo) / y ∧
    ((u * 4294967296 + d1) % (y1 * 4294967296 + y0) * 4294967296 + d0) % (y1 * 4294967296 + y0) / 2 ^ s = (hi * 18446744073709551616 + lo) % y := by
  have hy : 0 < y1 * 4294967296 + y0 := by have := k.kc.big; omega
  have h1 := kn_join (B := 4294967296) (u := u) (d1 := d1) (d0 := d0) hy
  rw [h1.1, h1.2, show 4294967296 * 4294967296 = 18446744073709551616 from rfl, ← k.eq, ← k.hy]
  exact kn_scale (Nat.pow_pos (by decide))
end Go.Proofs.YtopacgchhlnnaaaDoor
