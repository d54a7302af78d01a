/- Reading numbers: plain. -/
import Derived.Test.YtadbilonialjnaaGreatDoorTxt
namespace Go.Proofs.YtadbilonialjnaaGreatDoor
open Go

theorem valA_mono (a : Nat) (l : List UInt8) : a ≤ valA a l := by
  rw [valA_eq]
  exact Nat.le_trans (Nat.le_mul_of_pos_right a (Nat.pow_pos (by decide))) (Nat.le_add_right _ _)
theorem uintM_digits (l : List UInt8) : ∀ a, (∀ c ∈ l, dgt c) → valA a l ≤ 100000000000000000 → Lib.parseUintM (2 ^ 64 - 1) a l = .ok (valA a l) := by
  induction l with
  | nil => intro a _ _; rfl
  | cons c l ih =>
    intro a hd hv
    have hc := hd c (List.mem_cons_self ..)
    rw [valA_cons] at hv ⊢
    have hm := valA_mono (a * 10 + (c.toNat - 48)) l
    rw [Lib.parseUintM, if_pos (show 48 ≤ c.toNat ∧ c.toNat ≤ 57 from hc), if_neg (by omega), if_neg (by omega)]
    exact ih _ (fun x hx => hd x (List.mem_cons_of_mem _ hx)) hv
def padP (p : List UInt8) : List UInt8 := p ++ List.replicate (4 - p.length) 48
theorem padP_trim (f : Nat) (h : f < 10000) : padP (trimZ (pad4 f)) = pad4 f := by
  obtain ⟨k, -, hk, hl, -, -⟩ := frac_parts f h
  unfold padP
  rw [show 4 - (trimZ (pad4 f)).length = k by omega]; exact hk.symm
theorem padP_more (p : List UInt8) (h : p.length < 4) : padP p = padP (p ++ [48]) := by
  unfold padP
  have e : 4 - p.length = 4 - (p ++ [(48 : UInt8)]).length + 1 := by simp; omega
  rw [List.append_assoc, e, List.replicate_succ]; rfl
theorem padP_all (p : List UInt8) (h : ¬ p.length < 4) : padP p = p := by
  unfold padP; rw [show 4 - p.length = 0 by omega]; simp
theorem cut_text (u : Int) (h : vld u = true) : cutW (textI u) = (if u < 0 then [45] else []) ++ Lib.decDigits (u.natAbs / 10000) ∧ cutP (textI u) = trimZ (pad4 (u.natAbs % 10000)) := by
  have hb := body_cut (u.natAbs / 10000) (u.natAbs % 10000)
  rw [textI_val u h]
  have hs := cut_app (if u < 0 then [45] else []) (Lib.decDigits (u.natAbs / 10000) ++ fracL (u.natAbs % 10000)) (by split <;> simp)
  rw [hs.1, hs.2, hb.1, hb.2]; exact ⟨rfl, rfl⟩
theorem parseInt_text (u : Int) (h : vld u = true) : Lib.parseIntB 64 (cutW (textI u) ++ padP (cutP (textI u))) = .ok u := by
  have hf : u.natAbs % 10000 < 10000 := by omega
  have ha := abs_lt h
  obtain ⟨h1, h2⟩ := cut_text u h
  rw [h1, h2, padP_trim _ hf, List.append_assoc]
  have hv : valD (Lib.decDigits (u.natAbs / 10000) ++ pad4 (u.natAbs % 10000)) = u.natAbs := by
    rw [valD_app, dec_val, pad4_val _ hf, show (pad4 (u.natAbs % 10000)).length = 4 from rfl]; omega
  have hd : ∀ c ∈ Lib.decDigits (u.natAbs / 10000) ++ pad4 (u.natAbs % 10000), dgt c := by
    intro c hc
    rcases List.mem_append.1 hc with hc | hc
    · exact dec_dgt _ c hc
    · exact pad4_dgt _ c hc
  have hm := uintM_digits _ 0 hd (by rw [show valA 0 _ = valD _ from rfl, hv]; omega)
  rw [show valA 0 _ = valD _ from rfl, hv] at hm
  obtain ⟨c, m, e, hc⟩ := head_dec (u.natAbs / 10000) (pad4 (u.natAbs % 10000))
  rw [e] at hm ⊢
  have hU : Lib.parseUintB 64 (c :: m) = .ok u.natAbs := by
    unfold Lib.parseUintB; rw [if_neg (by simp)]; exact hm
  by_cases hu : u < 0
  · rw [if_pos hu]
    show Lib.parseIntB 64 (45 :: c :: m) = _
    unfold Lib.parseIntB
    simp only [show (45 : UInt8).toNat = 45 from rfl, or_true, if_true]
    rw [hU]
    simp only [not_true_eq_false, false_and, if_false, true_and]
    rw [if_neg (by omega)]; congr 1; omega
  · rw [if_neg hu, List.nil_append]
    have n1 : ¬ (c.toNat = 43 ∨ c.toNat = 45) := by have := hc.1; omega
    have n2 : ¬ c.toNat = 45 := by have := hc.1; omega
    unfold Lib.parseIntB
    have n3 : ¬ c.toNat = 43 := by have := hc.1; omega
    simp only [n3, n2, or_self, if_false]
    rw [hU]
    simp only [not_false_eq_true, true_and, false_and, if_false]
    rw [if_neg (by omega)]; congr 1; omega
theorem prog_long (l : List UInt8) (h : 4 < (cutP l).length) : parseI l = (0, 8) :=
  parseI_no l fun v hv e => by
    have hf : v.natAbs % 10000 < 10000 := by omega
    obtain ⟨k, -, -, hl, -, -⟩ := frac_parts _ hf
    rw [← e, (cut_text v hv).2] at h; omega
theorem prog_ok (l : List UInt8) (u : Int) (h : Lib.parseIntB 64 (cutW l ++ padP (cutP l)) = .ok u) : parseI l = if vld u = true ∧ textI u = l then (u, 0) else (0, 8) :=
  parseI_of l u fun v hv e => by
    rw [← e, parseInt_text v hv] at h
    injection h with h; exact h.symm
theorem prog_no (l : List UInt8) (h : ∀ u, Lib.parseIntB 64 (cutW l ++ padP (cutP l)) ≠ .ok u) : parseI l = (0, 8) :=
  parseI_no l fun v hv e => by rw [← e] at h; exact h v (parseInt_text v hv)
/-- the search of the point -/
theorem cut_step (l : List UInt8) (i : Nat) (h : i < l.length) (hc : byt l i ≠ 46) : cutW (l.drop i) = byt l i :: cutW (l.drop (i + 1)) ∧ cutP (l.drop i) = cutP (l.drop (i + 1)) := by
  unfold cutW cutP
  rw [drop_byt l i h, List.takeWhile_cons, List.dropWhile_cons, if_pos (by simpa using hc), if_pos (by simpa using hc)]
  exact ⟨rfl, rfl⟩
theorem cut_at (l : List UInt8) (i : Nat) (h : i < l.length) (hc : byt l i = 46) : cutW (l.drop i) = [] ∧ cutP (l.drop i) = l.drop (i + 1) := by
  unfold cutW cutP
  rw [drop_byt l i h, List.takeWhile_cons, List.dropWhile_cons, hc]; exact ⟨rfl, rfl⟩

/-! the specification's reader -/
def rscan (fst : Bool) (n : Nat) (p : Option Nat) : List UInt8 → Option (Nat × Option Nat)
  | [] => some (n, p)
  | c :: r =>
    if c = 46 ∧ p = none then rscan false n (some 0) r
    else if dgt c then rscan false (n * 10 + (c.toNat - 48)) (p.map (· + 1)) r
    else if fst = true ∧ c = 45 then rscan false n p r else none
def rscale (n k : Nat) : Option Nat := if 4 ≤ k then some n else if 1000000000000000 < n then none else rscale (n * 10) (k + 1)
termination_by 4 - k
theorem rscan_digits (d r : List UInt8) : ∀ f n p, (∀ c ∈ d, dgt c) → (d ≠ [] ∨ f = false) → rscan f n p (d ++ r) = rscan false (valA n d) (p.map (· + d.length)) r := by
  induction d with
  | nil =>
    intro f n p _ h
    rcases h with h | h
    · exact absurd rfl h
    · rw [h]; cases p <;> rfl
  | cons c d ih =>
    intro f n p hd _
    have hc := hd c (List.mem_cons_self ..)
    have h46 : c ≠ 46 := by intro e; subst e; exact absurd hc.1 (by decide)
    rw [List.cons_append, rscan, if_neg (by simp [h46]), if_pos hc, ih false _ _ (fun x hx => hd x (List.mem_cons_of_mem _ hx)) (.inr rfl), valA_cons]
    congr 1
    cases p <;> simp <;> omega
theorem rscale_ok (k j n : Nat) (hk : k + j = 4) (h : n * 10 ^ j ≤ 1000000000000000) : rscale n k = some (n * 10 ^ j) := by
  induction j generalizing k n with
  | zero => rw [rscale, if_pos (by omega)]; simp
  | succ j ih =>
    rw [Nat.pow_succ, Nat.mul_comm (10 ^ j), ← Nat.mul_assoc] at h ⊢
    have h1 : n * 10 ≤ n * 10 * 10 ^ j := Nat.le_mul_of_pos_right _ (Nat.pow_pos (by decide))
    rw [rscale, if_neg (by omega), if_neg (by omega)]
    exact ih (k + 1) (n * 10) (by omega) h
theorem rscan_text (u : Int) (h : vld u = true) : ∃ n p, rscan true 0 none (textI u) = some (n, p) ∧ rscale n (p.getD 0) = some u.natAbs := by
  have hf : u.natAbs % 10000 < 10000 := by omega
  have ha := abs_lt h
  obtain ⟨k, hk4, hk, hl, hv, hd⟩ := frac_parts _ hf
  rw [textI_val u h]
  have hdl := (dec_len (u.natAbs / 10000) 20 (by omega) (by omega)).1
  have hne : Lib.decDigits (u.natAbs / 10000) ≠ [] := List.length_pos_iff.1 hdl
  have hbody : ∀ f, rscan f 0 none (Lib.decDigits (u.natAbs / 10000) ++ fracL (u.natAbs % 10000)) = rscan false (u.natAbs / 10000) none (fracL (u.natAbs % 10000)) := by
    intro f
    rw [rscan_digits _ _ f 0 none (dec_dgt _) (.inl hne), show valA 0 _ = valD _ from rfl, dec_val]; rfl
  have hs : rscan true 0 none ((if u < 0 then [45] else []) ++ (Lib.decDigits (u.natAbs / 10000) ++ fracL (u.natAbs % 10000))) = rscan false (u.natAbs / 10000) none (fracL (u.natAbs % 10000)) := by
    split
    · rw [show [45] ++ (Lib.decDigits (u.natAbs / 10000) ++ fracL (u.natAbs % 10000)) = 45 :: (Lib.decDigits (u.natAbs / 10000) ++ fracL (u.natAbs % 10000)) from rfl]
      rw [rscan, if_neg (by decide), if_neg (by decide), if_pos (by decide)]; exact hbody false
    · exact hbody true
  rw [hs]
  by_cases hz : trimZ (pad4 (u.natAbs % 10000)) = []
  · have h0 := (trim_nil _ hf).1 hz
    refine ⟨u.natAbs / 10000, none, by unfold fracL; rw [if_pos hz]; rfl, ?_⟩
    show rscale _ 0 = _
    rw [rscale_ok 0 4 _ (by omega) (by omega)]; congr 1; omega
  · refine ⟨u.natAbs / 10000 * 10 ^ (trimZ (pad4 (u.natAbs % 10000))).length + valD (trimZ (pad4 (u.natAbs % 10000))), some (0 + (trimZ (pad4 (u.natAbs % 10000))).length), ?_, ?_⟩
    · unfold fracL
      rw [if_neg hz, rscan, if_pos (by decide)]
      rw [← List.append_nil (trimZ (pad4 (u.natAbs % 10000))), rscan_digits _ _ false _ _ hd (.inr rfl), valA_eq, List.append_nil]; rfl
    · have hsum : (u.natAbs / 10000 * 10 ^ (trimZ (pad4 (u.natAbs % 10000))).length + valD (trimZ (pad4 (u.natAbs % 10000)))) * 10 ^ k = u.natAbs := by
        rw [Nat.add_mul, hv, Nat.mul_assoc, ← Nat.pow_add, hl]; omega
      show rscale _ (0 + _) = _
      rw [rscale_ok _ k _ (by omega) (by rw [hsum]; exact ha), hsum]
def signI (l : List UInt8) (m : Nat) : Int := if l.head? = some 45 then -(m : Int) else m
theorem signI_text (u : Int) (h : vld u = true) : signI (textI u) u.natAbs = u := by
  unfold signI
  rw [textI_val u h]
  by_cases hu : u < 0
  · rw [if_pos hu, if_pos (by rfl)]; omega
  · rw [if_neg hu, List.nil_append]
    obtain ⟨c, m, e, hc⟩ := head_dec (u.natAbs / 10000) (fracL (u.natAbs % 10000))
    rw [e, if_neg]
    · omega
    · intro hx
      have : c = 45 := by simpa using hx
      subst this; exact absurd hc.1 (by decide)
theorem ref_none (l : List UInt8) (h : rscan true 0 none l = none) : parseI l = (0, 8) :=
  parseI_no l fun v hv e => by
    obtain ⟨n, p, h1, -⟩ := rscan_text v hv
    rw [← e, h1] at h; cases h
theorem ref_over (l : List UInt8) (n : Nat) (p : Option Nat) (h : rscan true 0 none l = some (n, p)) (h2 : rscale n (p.getD 0) = none) : parseI l = (0, 8) :=
  parseI_no l fun v hv e => by
    obtain ⟨n', p', h1, h3⟩ := rscan_text v hv
    rw [← e, h1] at h
    injection h with h; injection h with ha hb
    rw [ha, hb, h2] at h3; cases h3
theorem ref_some (l : List UInt8) (n : Nat) (p : Option Nat) (m : Nat) (h : rscan true 0 none l = some (n, p)) (h2 : rscale n (p.getD 0) = some m) : parseI l = if vld (signI l m) = true ∧ textI (signI l m) = l then (signI l m, 0) else (0, 8) :=
  parseI_of l _ fun v hv e => by
    obtain ⟨n', p', h1, h3⟩ := rscan_text v hv
    rw [← e, h1] at h
    injection h with h; injection h with ha hb
    rw [ha, hb, h2] at h3
    injection h3 with h3
    rw [← e, h3]; exact signI_text v hv
end Go.Proofs.YtadbilonialjnaaGreatDoor
