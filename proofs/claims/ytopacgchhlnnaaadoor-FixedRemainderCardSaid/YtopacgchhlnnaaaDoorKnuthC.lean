/- Plain: what Div64's shifts make, in the walk's spelling. -/
import Derived.Handy
import Derived.Laws.Bits64b
import Derived.Lib.BitFns
import Derived.Test.YtopacgchhlnnaaaDoorKnuthB
namespace Go.Proofs.YtopacgchhlnnaaaDoor
open Go Go.RowKit

theorem bitLenAux_in : ∀ (f x : Nat), 0 < x → x < 2 ^ f → ∃ n, n < f ∧ Lib.bitLenAux f x = n + 1 ∧ 2 ^ n ≤ x ∧ x < 2 ^ (n + 1) := by
  intro f
  induction f with
  | zero => intro x h0 h1; simp at h1; omega
  | succ f ih =>
    intro x h0 h1
    by_cases hx : x = 1
    · subst hx
      refine ⟨0, by omega, ?_, by decide, by decide⟩
      cases f <;> simp [Lib.bitLenAux]
    · obtain ⟨n, hn, he, h2, h3⟩ := ih (x / 2) (by omega) (by rw [Nat.pow_succ] at h1; omega)
      refine ⟨n + 1, by omega, ?_, ?_, ?_⟩
      · simp only [Lib.bitLenAux, if_neg (show ¬ x = 0 by omega), he]; omega
      · rw [Nat.pow_succ]; omega
      · rw [Nat.pow_succ] at h3 ⊢; omega
theorem bitLen_in (x : Nat) (h0 : 0 < x) (h1 : x < 18446744073709551616) : ∃ n, n < 64 ∧ Lib.bitLen x = n + 1 ∧ 2 ^ n ≤ x ∧ x < 2 ^ (n + 1) := bitLenAux_in 64 x h0 h1

/-- the slots' values -/
structure Kr (hi lo y s u d1 d0 y1 y0 Y H l1 t : Nat) : Prop where
  ks : Ks hi lo y s u d1 d0 y1 y0
  hs : s ≤ 63
  len : (64 - (Lib.bitLen y : Int)) = (s : Int)
  eY : Y = y1 * 4294967296 + y0
  bH : H ≤ 18446744073709551615
  bl : l1 ≤ 18446744073709551615
  bu : u ≤ 18446744073709551615
  bt : t ≤ 18446744073709551615
  r1 : IntKind.u64.wrap ((y : Int) * 2 ^ s) = (Y : Int)
  r2 : (Y : Int) / 4294967296 = (y1 : Int)
  r3 : bits BinOp.and IntKind.u64 (Y : Int) 4294967295 = (y0 : Int)
  r4 : IntKind.u64.wrap ((hi : Int) * 2 ^ s) = (H : Int)
  r5 : (lo : Int) / 2 ^ (64 - s) = (l1 : Int)
  r6 : bits BinOp.or IntKind.u64 (H : Int) (l1 : Int) = (u : Int)
  r7 : IntKind.u64.wrap ((lo : Int) * 2 ^ s) = (t : Int)
  r8 : (t : Int) / 4294967296 = (d1 : Int)
  r9 : bits BinOp.and IntKind.u64 (t : Int) 4294967295 = (d0 : Int)
theorem wrap_nat (a : Nat) (h : a < 18446744073709551616) : IntKind.u64.wrap (a : Int) = (a : Int) := by rw [wrapu]; omega
theorem mask32 (a : Nat) (h : a < 18446744073709551616) : bits BinOp.and IntKind.u64 (a : Int) 4294967295 = ((a % 4294967296 : Nat) : Int) := by
  have h2 := bits_and_u64_nat a 4294967295 h (by decide)
  rw [show ((4294967295 : Nat) : Int) = 4294967295 from rfl] at h2
  rw [h2, show 4294967295 = 2 ^ 32 - 1 by decide, Nat.and_two_pow_sub_one_eq_mod]
theorem Kr.mk' (hi lo y : Nat) (h1 : hi < y) (hy : y < 18446744073709551616) (hlo : lo < 18446744073709551616) :
    ∃ s u d1 d0 y1 y0 Y H l1 t, Kr hi lo y s u d1 d0 y1 y0 Y H l1 t := by
  obtain ⟨n, hn, hb, h2, h3⟩ := bitLen_in y (by omega) hy
  obtain ⟨s, hs⟩ : ∃ s, s = 63 - n := ⟨_, rfl⟩
  have hp : 2 ^ n * 2 ^ s = 9223372036854775808 := by rw [← Nat.pow_add, show n + s = 63 by omega]
  have hq : 2 ^ (64 - s) * 2 ^ s = 18446744073709551616 := by rw [← Nat.pow_add, show 64 - s + s = 64 by omega]
  have hp0 : 0 < 2 ^ s := Nat.pow_pos (by decide)
  have b1 : 9223372036854775808 ≤ y * 2 ^ s := by rw [← hp]; exact Nat.mul_le_mul_right _ h2
  have b2 : y * 2 ^ s < 18446744073709551616 := by
    have := (Nat.mul_lt_mul_right hp0).2 h3
    rw [Nat.pow_succ, Nat.mul_right_comm, hp] at this; omega
  have b3 : (hi + 1) * 2 ^ s ≤ y * 2 ^ s := Nat.mul_le_mul_right _ h1
  have ci : ∀ a : Nat, (a : Int) * 2 ^ s = ((a * 2 ^ s : Nat) : Int) := fun a => by rw [Int.natCast_mul, Int.natCast_pow]; rfl
  have l1b : lo / 2 ^ (64 - s) < 2 ^ s := by
    rw [Nat.div_lt_iff_lt_mul (Nat.pow_pos (by decide)), Nat.mul_comm, hq]; exact hlo
  have hdm := Nat.div_add_mod lo (2 ^ (64 - s))
  have hl : lo * 2 ^ s = (lo / 2 ^ (64 - s)) * 18446744073709551616 + lo % 2 ^ (64 - s) * 2 ^ s := by
    conv => lhs; rw [← hdm]
    rw [Nat.add_mul, Nat.mul_right_comm, hq, Nat.mul_comm 18446744073709551616]
  have l0b : lo % 2 ^ (64 - s) * 2 ^ s < 18446744073709551616 := by
    rw [← hq]; exact (Nat.mul_lt_mul_right hp0).2 (Nat.mod_lt _ (Nat.pow_pos (by decide)))
  have e6 : hi * 2 ^ s ||| lo / 2 ^ (64 - s) = hi * 2 ^ s + lo / 2 ^ (64 - s) := by
    rw [Nat.mul_comm hi, Nat.two_pow_add_eq_or_of_lt l1b]
  have e5 : (lo : Int) / 2 ^ (64 - s) = ((lo / 2 ^ (64 - s) : Nat) : Int) := by
    rw [Int.natCast_ediv, Int.natCast_pow]; rfl
  rw [Nat.add_mul, Nat.one_mul] at b3
  have hd0 := Nat.mod_lt (lo * 2 ^ s % 18446744073709551616) (show 4294967296 > 0 by decide)
  refine ⟨s, hi * 2 ^ s + lo / 2 ^ (64 - s), (lo * 2 ^ s % 18446744073709551616) / 4294967296, (lo * 2 ^ s % 18446744073709551616) % 4294967296, y * 2 ^ s / 4294967296, y * 2 ^ s % 4294967296, y * 2 ^ s, hi * 2 ^ s, lo / 2 ^ (64 - s), lo * 2 ^ s % 18446744073709551616, ?_⟩
  have c1 := ci y
  have c2 := ci hi
  have c3 := ci lo
  have hmul : (hi * 18446744073709551616 + lo) * 2 ^ s = hi * 2 ^ s * 18446744073709551616 + lo * 2 ^ s := by rw [Nat.add_mul, Nat.mul_right_comm]
  generalize hYe : y * 2 ^ s = Y at *
  generalize hi * 2 ^ s = H at *
  generalize lo * 2 ^ s = L at *
  generalize lo / 2 ^ (64 - s) = l1 at *
  generalize lo % 2 ^ (64 - s) * 2 ^ s = l0 at *
  generalize hpe : 2 ^ s = p at *
  clear hdm hq hp ci hp0
  refine ⟨⟨⟨by omega, by omega, by omega, by omega, by omega⟩, by rw [hpe, hmul]; omega, by rw [hpe, hYe]; omega, by omega⟩, by omega, by rw [hb]; omega, by omega, by omega, by omega, by omega, by omega, ?_, by omega, ?_, ?_, e5, ?_, ?_, by omega, ?_⟩
  · rw [c1]; exact wrap_nat Y (by omega)
  · exact mask32 Y (by omega)
  · rw [c2]; exact wrap_nat H (by omega)
  · rw [bits_or_u64_nat _ _ (by omega) (by omega), e6]
  · rw [c3, wrapu]; omega
  · exact mask32 _ (by omega)
end Go.Proofs.YtopacgchhlnnaaaDoor
