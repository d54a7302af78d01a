/- The specification's reader of versions: plain. -/
import Derived.Test.YtppbbalojbedpaaDoorVerP
namespace Go.Proofs.YtppbbalojbedpaaDoor
open Go

structure Tri where
  a : Nat
  b : Nat
  c : Nat
def Tri.put (t : Tri) (at' d : Nat) : Tri := if at' = 0 then ⟨t.a * 10 + d, t.b, t.c⟩ else if at' = 1 then ⟨t.a, t.b * 10 + d, t.c⟩ else ⟨t.a, t.b, t.c * 10 + d⟩
def Tri.ver (t : Tri) : Ver := ⟨t.a, t.b, t.c⟩
def rv (k : Nat) (t : Tri) : List UInt8 → Option Tri
  | [] => some t
  | x :: r => if x = 46 ∧ k < 2 then rv (k + 1) t r else if dgt x then rv k (t.put k (x.toNat - 48)) r else none
theorem dgt_46 {c : UInt8} (h : dgt c) : c ≠ 46 := by intro e; subst e; exact absurd h.1 (by decide)
theorem rv_0 (d r : List UInt8) : ∀ a b c, (∀ x ∈ d, dgt x) → rv 0 ⟨a, b, c⟩ (d ++ r) = rv 0 ⟨valA a d, b, c⟩ r := by
  induction d with
  | nil => intro a b c _; rfl
  | cons x d ih =>
    intro a b c hd
    have hx := hd x (List.mem_cons_self ..)
    rw [List.cons_append, rv, if_neg (fun h => dgt_46 hx h.1), if_pos hx, valA_cons]
    exact ih _ _ _ (fun y hy => hd y (List.mem_cons_of_mem _ hy))
theorem rv_1 (d r : List UInt8) : ∀ a b c, (∀ x ∈ d, dgt x) → rv 1 ⟨a, b, c⟩ (d ++ r) = rv 1 ⟨a, valA b d, c⟩ r := by
  induction d with
  | nil => intro a b c _; rfl
  | cons x d ih =>
    intro a b c hd
    have hx := hd x (List.mem_cons_self ..)
    rw [List.cons_append, rv, if_neg (fun h => dgt_46 hx h.1), if_pos hx, valA_cons]
    exact ih _ _ _ (fun y hy => hd y (List.mem_cons_of_mem _ hy))
theorem rv_2 (d : List UInt8) : ∀ a b c, (∀ x ∈ d, dgt x) → rv 2 ⟨a, b, c⟩ d = some ⟨a, b, valA c d⟩ := by
  induction d with
  | nil => intro a b c _; rfl
  | cons x d ih =>
    intro a b c hd
    have hx := hd x (List.mem_cons_self ..)
    rw [rv, if_neg (fun h => dgt_46 hx h.1), if_pos hx, valA_cons]
    exact ih _ _ _ (fun y hy => hd y (List.mem_cons_of_mem _ hy))
theorem rv_text (v : Ver) (h : vldV v = true) : ∃ t, rv 0 ⟨0, 0, 0⟩ ((textV v).drop 1) = some t ∧ t.ver = v := by
  have hb := (vldV_iff v).1 h
  refine ⟨⟨v.a.toNat, v.b.toNat, v.c.toNat⟩, ?_, ver_ext (by simp only [Tri.ver]; omega) (by simp only [Tri.ver]; omega) (by simp only [Tri.ver]; omega)⟩
  rw [textV_val v h, List.drop_succ_cons, List.drop_zero, rv_0 _ _ _ _ _ (dec_dgt _), rv, if_pos ⟨rfl, by decide⟩, rv_1 _ _ _ _ _ (dec_dgt _), rv, if_pos ⟨rfl, by decide⟩, rv_2 _ _ _ _ (dec_dgt _)]
  rw [show valA 0 _ = valD _ from rfl, show valA 0 _ = valD _ from rfl, show valA 0 _ = valD _ from rfl, dec_val, dec_val, dec_val]
theorem rv_none (l : List UInt8) (h : rv 0 ⟨0, 0, 0⟩ (l.drop 1) = none) : parseV l = (zeroV, 8) :=
  parseV_no l fun v hv e => by
    obtain ⟨t, h1, -⟩ := rv_text v hv
    rw [e, h] at h1; cases h1
theorem rv_some (l : List UInt8) (t : Tri) (h : rv 0 ⟨0, 0, 0⟩ (l.drop 1) = some t) : parseV l = if vldV t.ver = true ∧ textV t.ver = l then (t.ver, 0) else (zeroV, 8) :=
  parseV_of l _ fun v hv e => by
    obtain ⟨t', h1, h2⟩ := rv_text v hv
    rw [e, h] at h1; injection h1 with h1; rw [h1]; exact h2
/-- a round -/
theorem rv_dot (k : Nat) (t : Tri) (l : List UInt8) (i : Nat) (h : i < l.length) (hc : byt l i = 46) (hk : k < 2) : rv k t (l.drop i) = rv (k + 1) t (l.drop (i + 1)) := by
  rw [drop_byt l i h, rv, if_pos ⟨hc, hk⟩]
theorem rv_dig (k : Nat) (t : Tri) (l : List UInt8) (i : Nat) (h : i < l.length) (hc : dgt (byt l i)) : rv k t (l.drop i) = rv k (t.put k ((byt l i).toNat - 48)) (l.drop (i + 1)) := by
  rw [drop_byt l i h, rv, if_neg (fun h => dgt_46 hc h.1), if_pos hc]
theorem rv_bad (k : Nat) (t : Tri) (l : List UInt8) (i : Nat) (h : i < l.length) (h1 : ¬ (byt l i = 46 ∧ k < 2)) (h2 : ¬ dgt (byt l i)) : rv k t (l.drop i) = none := by
  rw [drop_byt l i h, rv, if_neg h1, if_neg h2]
/-- the numbers are small -/
def Tri.low (t : Tri) (i : Nat) : Prop := t.a < 10 ^ i ∧ t.b < 10 ^ i ∧ t.c < 10 ^ i
theorem Tri.low_up {t : Tri} {i : Nat} (h : t.low i) : t.low (i + 1) := by
  obtain ⟨h1, h2, h3⟩ := h
  unfold Tri.low; rw [Nat.pow_succ]; omega
theorem Tri.low_put {t : Tri} {i k d : Nat} (h : t.low i) (hd : d ≤ 9) : (t.put k d).low (i + 1) := by
  obtain ⟨h1, h2, h3⟩ := h
  unfold Tri.put
  split
  · unfold Tri.low; rw [Nat.pow_succ]; simp only; omega
  · split
    · unfold Tri.low; rw [Nat.pow_succ]; simp only; omega
    · unfold Tri.low; rw [Nat.pow_succ]; simp only; omega
theorem Tri.low_max {t : Tri} {i : Nat} (h : t.low i) (hi : i ≤ 15) : t.a ≤ 1000000000000000 ∧ t.b ≤ 1000000000000000 ∧ t.c ≤ 1000000000000000 := by
  obtain ⟨h1, h2, h3⟩ := h
  have := Nat.pow_le_pow_right (show 10 > 0 by decide) hi
  omega
end Go.Proofs.YtppbbalojbedpaaDoor
