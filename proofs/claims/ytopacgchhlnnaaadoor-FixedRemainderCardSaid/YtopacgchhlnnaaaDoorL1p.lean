/- The laws of the numbers, plain. -/
import Derived.Test.YtopacgchhlnnaaaDoorTxt
namespace Go.Proofs.YtopacgchhlnnaaaDoor
open Go

theorem textI_ne63 (u : Int) (h : vld u = true) : textI u ≠ [63] := by
  rw [textI_val u h]
  obtain ⟨c, m, e, hc⟩ := head_dec (u.natAbs / 10000) (fracL (u.natAbs % 10000))
  rw [e]
  split
  · simp
  · intro hx
    rw [List.nil_append] at hx
    injection hx with hx
    subst hx; exact absurd hc.2 (by decide)
theorem textI_bad (u : Int) (h : vld u = false) : textI u = [63] := by unfold textI; rw [h]; rfl
theorem parse_63 : parseI [63] = (0, 8) := parseI_no _ fun v hv e => textI_ne63 v hv e
theorem textI_eq (u v : Int) (hu : vld u = true) : (textI u == textI v) = (u == v) := by
  by_cases h : u = v
  · subst h; simp
  · have : textI u ≠ textI v := by
      intro e
      cases hv : vld v
      · rw [textI_bad v hv] at e; exact textI_ne63 u hu e
      · exact h (textI_inj hu hv e)
    rw [beq_eq_false_iff_ne.2 this, beq_eq_false_iff_ne.2 h]

/-- an operation's result and error: what is said of a quotient p / b with a sign -/
theorem rat_cases (s : Bool) (p b : Nat) : ((rat s p b).2 = 0 ∧ (rat s p b).1.natAbs * b = p ∧ (rat s p b).1.natAbs ≤ 1000000000000000 ∧ (0 < p → ((rat s p b).1 < 0 ↔ s = true)) ∧ (s = false → 0 ≤ (rat s p b).1) ∧ (s = true → (rat s p b).1 ≤ 0)) ∨ ((rat s p b).1 = 0 ∧ ((rat s p b).2 = 1 ∨ (rat s p b).2 = 3)) := by
  unfold rat
  split
  · rename_i h0
    split
    · rename_i hq
      have hd : p / b * b = p := Nat.div_mul_cancel (Nat.dvd_of_mod_eq_zero h0)
      refine .inl ⟨rfl, ?_, ?_, ?_, ?_, ?_⟩
      · cases s <;> simp <;> exact hd
      · cases s <;> simp <;> exact hq
      · intro hp
        have : 0 < p / b := by
          rcases Nat.eq_zero_or_pos (p / b) with h | h
          · rw [h] at hd; omega
          · exact h
        cases s <;> simp <;> omega
      · intro hs; subst hs; simp only [Bool.false_eq_true, if_false]; exact Int.natCast_nonneg _
      · intro hs; subst hs; simp only [if_true]; exact Int.neg_nonpos_of_nonneg (Int.natCast_nonneg _)
    · exact .inr ⟨rfl, .inl rfl⟩
  · exact .inr ⟨rfl, .inr rfl⟩
theorem abs_mul_sign (u v n : Int) (k : Nat) (h : n.natAbs * k = u.natAbs * v.natAbs) (hs : neg2 u v = false → 0 ≤ n) (ht : neg2 u v = true → n ≤ 0) : n * (k : Int) = u * v := by
  have h2 : ((n.natAbs : Nat) : Int) * (k : Int) = (u.natAbs : Int) * (v.natAbs : Int) := by rw [← Int.natCast_mul, ← Int.natCast_mul, h]
  unfold neg2 at hs ht
  by_cases hu : u < 0 <;> by_cases hv : v < 0
  · have hn := hs (by simp [hu, hv])
    rw [show ((n.natAbs : Nat) : Int) = n by omega, show (u.natAbs : Int) = -u by omega, show (v.natAbs : Int) = -v by omega, Int.neg_mul_neg] at h2
    exact h2
  · have hn := ht (by simp [hu, hv])
    rw [show ((n.natAbs : Nat) : Int) = -n by omega, show (u.natAbs : Int) = -u by omega, show (v.natAbs : Int) = v by omega, Int.neg_mul, Int.neg_mul] at h2
    omega
  · have hn := ht (by simp [hu, hv])
    rw [show ((n.natAbs : Nat) : Int) = -n by omega, show (u.natAbs : Int) = u by omega, show (v.natAbs : Int) = -v by omega, Int.neg_mul, Int.mul_neg] at h2
    omega
  · have hn := hs (by simp [hu, hv])
    rw [show ((n.natAbs : Nat) : Int) = n by omega, show (u.natAbs : Int) = u by omega, show (v.natAbs : Int) = v by omega] at h2
    exact h2
theorem mul_cases (u v : Int) : ((mulI u v).2 = 0 ∧ (mulI u v).1 * 10000 = u * v ∧ vld u = true ∧ vld v = true ∧ vld (mulI u v).1 = true ∧ ((mulI u v).1 = 0 ↔ u = 0 ∨ v = 0) ∧ ((mulI u v).1 ≠ 0 → decide ((mulI u v).1 < 0) = neg2 u v)) ∨ ((mulI u v).1 = 0 ∧ (mulI u v).2 ≠ 0) := by
  by_cases hv : vld u = true ∧ vld v = true
  · have e : mulI u v = rat (neg2 u v) (u.natAbs * v.natAbs) 10000 := by simp [mulI, hv.1, hv.2]
    rw [e]
    rcases rat_cases (neg2 u v) (u.natAbs * v.natAbs) 10000 with ⟨h1, h2, h3, h4, h5, h6⟩ | ⟨h1, h2⟩
    · have hm := abs_mul_sign u v _ 10000 h2 h5 h6
      generalize (rat (neg2 u v) (u.natAbs * v.natAbs) 10000).1 = n at *
      have hz : n = 0 ↔ u = 0 ∨ v = 0 := by
        constructor
        · intro hn; subst hn
          rw [Int.zero_mul] at hm; exact Int.mul_eq_zero.1 hm.symm
        · rintro (rfl | rfl)
          · rw [Int.zero_mul] at hm; omega
          · rw [Int.mul_zero] at hm; omega
      refine .inl ⟨h1, hm, hv.1, hv.2, (vld_iff _).2 (by omega), hz, ?_⟩
      intro hn
      have hp : 0 < u.natAbs * v.natAbs := by
        apply Nat.mul_pos
        · have := fun h => hn (hz.2 (.inl h)); omega
        · have := fun h => hn (hz.2 (.inr h)); omega
      have := h4 hp
      cases hs : neg2 u v <;> rw [hs] at this <;> simp at this <;> simp <;> omega
    · exact .inr ⟨h1, by omega⟩
  · have e : mulI u v = (0, 1) := by unfold mulI; rw [if_neg (by simpa using hv)]
    rw [e]; exact .inr ⟨rfl, by decide⟩
theorem div_cases (u v : Int) : ((divI u v).2 = 0 ∧ (divI u v).1 * v = u * 10000 ∧ ((divI u v).1 = 0 ↔ u = 0) ∧ ((divI u v).1 ≠ 0 → decide ((divI u v).1 < 0) = neg2 u v)) ∨ ((divI u v).1 = 0 ∧ (divI u v).2 ≠ 0) := by
  by_cases hv : vld u = true ∧ vld v = true
  · by_cases h0 : v = 0
    · have e : divI u v = (0, 4) := by simp [divI, hv.1, h0]; exact h0 ▸ hv.2
      rw [e]; exact .inr ⟨rfl, by decide⟩
    · have e : divI u v = rat (neg2 u v) (u.natAbs * 10000) v.natAbs := by simp [divI, hv.1, hv.2, h0]
      rw [e]
      rcases rat_cases (neg2 u v) (u.natAbs * 10000) v.natAbs with ⟨h1, h2, h3, h4, h5, h6⟩ | ⟨h1, h2⟩
      · generalize (rat (neg2 u v) (u.natAbs * 10000) v.natAbs).1 = n at *
        have hz : n = 0 ↔ u = 0 := by
          constructor
          · intro hn; subst hn; simp at h2; omega
          · intro hu; subst hu
            simp only [Int.natAbs_zero, Nat.zero_mul] at h2
            rcases Nat.mul_eq_zero.1 h2 with h | h <;> omega
        have h7 : n ≠ 0 → decide (n < 0) = neg2 u v := by
          intro hn
          have := h4 (by have := fun h => hn (hz.2 h); omega)
          cases hs : neg2 u v <;> rw [hs] at this <;> simp at this <;> simp <;> omega
        refine .inl ⟨h1, ?_, hz, h7⟩
        have hn : n.natAbs * v.natAbs = u.natAbs * 10000 := h2
        have h8 : ((n.natAbs : Nat) : Int) * (v.natAbs : Int) = (u.natAbs : Int) * 10000 := by
          have := congrArg (fun x : Nat => (x : Int)) hn; simpa [Int.natCast_mul] using this
        by_cases hn0 : n = 0
        · rw [hn0, hz.1 hn0]; simp
        · have h9 := h7 hn0
          unfold neg2 at h9
          by_cases hu : u < 0 <;> by_cases hvn : v < 0
          · have : ¬ n < 0 := by simpa [hu, hvn] using h9
            rw [show ((n.natAbs : Nat) : Int) = n by omega, show (u.natAbs : Int) = -u by omega, show (v.natAbs : Int) = -v by omega, Int.mul_neg, Int.neg_mul] at h8
            omega
          · have : n < 0 := by simpa [hu, hvn] using h9
            rw [show ((n.natAbs : Nat) : Int) = -n by omega, show (u.natAbs : Int) = -u by omega, show (v.natAbs : Int) = v by omega, Int.neg_mul, Int.neg_mul] at h8
            omega
          · have : n < 0 := by simpa [hu, hvn] using h9
            rw [show ((n.natAbs : Nat) : Int) = -n by omega, show (u.natAbs : Int) = u by omega, show (v.natAbs : Int) = -v by omega, Int.neg_mul_neg] at h8
            omega
          · have : ¬ n < 0 := by simpa [hu, hvn] using h9
            rw [show ((n.natAbs : Nat) : Int) = n by omega, show (u.natAbs : Int) = u by omega, show (v.natAbs : Int) = v by omega] at h8
            omega
      · exact .inr ⟨h1, by omega⟩
  · have e : divI u v = (0, 1) := by unfold divI; rw [if_neg (by simpa using hv)]
    rw [e]; exact .inr ⟨rfl, by decide⟩
theorem add_cases (u v : Int) : ((addI u v).2 = 0 ∧ (addI u v).1 = u + v ∧ vld u = true ∧ vld v = true ∧ vld (u + v) = true) ∨ ((addI u v).1 = 0 ∧ (addI u v).2 ≠ 0) := by
  unfold addI resI
  cases hu : vld u <;> cases hv : vld v <;> cases h : vld (u + v) <;> simp
theorem addI_ok (u v : Int) (hu : vld u = true) (hv : vld v = true) (h : vld (u + v) = true) : addI u v = (u + v, 0) := by simp [addI, resI, hu, hv, h]
theorem subI_ok (u v : Int) (hu : vld u = true) (hv : vld v = true) (h : vld (u - v) = true) : subI u v = (u - v, 0) := by simp [subI, resI, hu, hv, h]
theorem add_comm' (u v : Int) : addI u v = addI v u := by unfold addI; rw [Bool.and_comm, Int.add_comm]
theorem mul_comm' (u v : Int) : mulI u v = mulI v u := by
  unfold mulI
  rw [Bool.and_comm, Nat.mul_comm, show neg2 u v = neg2 v u by unfold neg2; exact Bool.xor_comm ..]
/-- a product without an error is undone -/
theorem div_back (u v : Int) (h : (mulI u v).2 = 0) (hv : v ≠ 0) : divI (mulI u v).1 v = (u, 0) := by
  rcases mul_cases u v with ⟨-, h2, h3, h4, h5, h6, h7⟩ | ⟨-, h8⟩
  · generalize (mulI u v).1 = c at *
    have hb := abs_lt h3
    have ha : c.natAbs * 10000 = u.natAbs * v.natAbs := by
      have := congrArg Int.natAbs h2
      rw [Int.natAbs_mul, Int.natAbs_mul] at this; exact this
    have hvp : 0 < v.natAbs := by omega
    have e : divI c v = rat (neg2 c v) (c.natAbs * 10000) v.natAbs := by simp [divI, h5, h4, hv]
    rw [e]
    unfold rat
    rw [if_pos (by rw [ha]; exact Nat.mul_mod_left _ _), ha, Nat.mul_div_cancel _ hvp, if_pos hb]
    congr 1
    by_cases hc : c = 0
    · have hu : u = 0 := by rcases h6.1 hc with h | h; exact h; exact absurd h hv
      subst hu; cases neg2 c v <;> rfl
    · have hn := h7 hc
      have hu : u ≠ 0 := fun h => hc (h6.2 (.inl h))
      unfold neg2 at hn ⊢
      by_cases d1 : u < 0 <;> by_cases d2 : v < 0 <;> by_cases d3 : c < 0 <;> simp [d1, d2, d3] at hn ⊢ <;> omega
  · exact absurd h h8
theorem rem_range (u v : Int) (hv : v ≠ 0) : (0 < v → 0 ≤ remI u v ∧ remI u v < v) ∧ (v < 0 → remI u v ≤ 0 ∧ v < remI u v) ∧ (u - remI u v).tmod v = 0 := by
  unfold remI
  refine ⟨fun h => ?_, fun h => ?_, ?_⟩
  · rw [if_pos h]; exact ⟨Int.emod_nonneg _ hv, Int.emod_lt_of_pos _ h⟩
  · rw [if_neg (by omega)]
    have h1 := Int.emod_nonneg (-u) (show -v ≠ 0 by omega)
    have h2 := Int.emod_lt_of_pos (-u) (show 0 < -v by omega)
    omega
  · apply Int.tmod_eq_zero_of_dvd
    split
    · exact ⟨u / v, by have := Int.mul_ediv_add_emod u v; omega⟩
    · have h1 := Int.mul_ediv_add_emod (-u) (-v)
      refine ⟨(-u) / (-v), ?_⟩
      rw [Int.neg_mul] at h1; omega
end Go.Proofs.YtopacgchhlnnaaaDoor
