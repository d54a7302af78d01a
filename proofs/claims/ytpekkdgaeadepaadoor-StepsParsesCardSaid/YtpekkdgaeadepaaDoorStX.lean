/- Steps: plain: what Parse takes is the text of what it hands back: an index, the path. -/
import Derived.Test.YtpekkdgaeadepaaDoorStV
namespace Go.Proofs.YtpekkdgaeadepaaDoor
open Go.RowKit

theorem valD_pos (c : UInt8) (r : List UInt8) (hc : dgt c) (h : c ≠ 48) : 1 ≤ valD (c :: r) := by
  have h1 : c.toNat ≠ 48 := fun e => h (UInt8.toNat_inj.1 e)
  have h2 := hc.1
  have := valA_le (0 * 10 + (c.toNat - 48)) r
  unfold valD; rw [valA_cons]; omega
theorem dec_canon : ∀ (n : Nat) (d : List UInt8), d.length = n → (∀ c ∈ d, dgt c) → 0 < n → (n = 1 ∨ byt d 0 ≠ 48) → Lib.decDigits (valD d) = d
  | 0, _, _, _, h, _ => absurd h (by decide)
  | n + 1, d, hn, hd, _, hc => by
    have hl := take_last d (by omega)
    have hlast : dgt (byt d (d.length - 1)) := hd _ (by rw [byt_get d _ (by omega)]; exact List.getElem_mem _)
    generalize byt d (d.length - 1) = c at hl hlast
    generalize he : d.take (d.length - 1) = e at hl
    have hel : e.length = n := by rw [← he, List.length_take]; omega
    have hc48 := hlast.1
    have hc57 := hlast.2
    have hch : UInt8.ofNat (48 + (c.toNat - 48)) = c := by rw [show 48 + (c.toNat - 48) = c.toNat by omega]; simp
    rcases Nat.eq_zero_or_pos n with h0 | h0
    · have he0 : e = [] := List.eq_nil_of_length_eq_zero (by omega)
      rw [hl, he0, List.nil_append, valD_one, Lib.decDigits, dif_pos (by omega), hch]
    · have hde : ∀ x ∈ e, dgt x := fun x hx => hd x (by rw [← he] at hx; exact List.mem_of_mem_take hx)
      have hb : byt e 0 = byt d 0 := by
        rw [byt_get e 0 (by omega), byt_get d 0 (by omega)]
        subst he
        exact List.getElem_take
      have hne : byt e 0 ≠ 48 := by rw [hb]; rcases hc with hc | hc; (omega); exact hc
      have ih := dec_canon n e hel hde h0 (.inr hne)
      have hp : 1 ≤ valD e := by
        cases e with
        | nil => simp at hel; omega
        | cons a r => exact valD_pos a r (hde a (List.mem_cons_self ..)) hne
      have hv : valD (e ++ [c]) = valD e * 10 + (c.toNat - 48) := valD_snoc e c
      rw [hl, hv, Lib.decDigits, dif_neg (by omega), show (valD e * 10 + (c.toNat - 48)) / 10 = valD e by omega, show (valD e * 10 + (c.toNat - 48)) % 10 = c.toNat - 48 by omega, hch, ih]
/-- the digits read so far -/
def IdxIn (t : List UInt8) (i : Nat) : Prop := (∀ c ∈ sl t 1 i, dgt c) ∧ valD (sl t 1 i) ≤ 1000000 ∧ (i ≤ 2 ∨ byt t 1 ≠ 48)
theorem iscan_some (t : List UInt8) : ∀ f i j, 1 ≤ i → i ≤ t.length → IdxIn t i → iscan t f i = (j, true) → j ≤ t.length ∧ i ≤ j ∧ IdxIn t j
  | 0, i, j, h1, h2, hp, h => by rw [iscan] at h; injection h with h3 _; subst h3; exact ⟨h2, Nat.le_refl _, hp⟩
  | f + 1, i, j, h1, h2, hp, h => by
    rw [iscan] at h
    split at h
    · injection h with h3 _; subst h3; exact ⟨h2, Nat.le_refl _, hp⟩
    rename_i hi
    split at h
    · injection h with h3 _; subst h3; exact ⟨h2, Nat.le_refl _, hp⟩
    rename_i hd
    split at h
    · cases h
    rename_i h48
    split at h
    · cases h
    rename_i hv
    have hdg : dgt (byt t i) := (digB_iff _).1 (by simpa using hd)
    obtain ⟨k1, k2, k3⟩ := iscan_some t f (i + 1) j (by omega) (by omega) ⟨fun c hc => by
      rw [sl_snoc t i h1 (by omega), List.mem_append, List.mem_singleton] at hc
      rcases hc with hc | rfl
      · exact hp.1 c hc
      · exact hdg, by omega, by
      rcases Nat.lt_or_ge 1 i with h | h
      · refine .inr fun e => h48 ?_
        rw [decide_eq_true h, Bool.true_and]; exact (isB_iff _ 48 (by decide)).2 e
      · exact .inl (by omega)⟩ h
    exact ⟨k1, by omega, k3⟩
theorem idx_some {t : List UInt8} {x : Stp} {n : Nat} (h0 : 0 < t.length) (hb : byt t 0 = 91) (h : idxP t = (x, n, true)) : x.lab = [] ∧ RdOk t (91 :: (Lib.decDigits x.idx.toNat ++ [93])) x n := by
  have hle := (idxP_le t h0).2 (by rw [h])
  rw [h] at hle
  unfold idxP at h
  generalize hq : iscan t t.length 1 = q at h
  obtain ⟨j, b⟩ := q
  unfold idxQ at h
  split at h
  · injection h with _ h2; injection h2 with _ h2; cases h2
  rename_i hb1
  have hb' : b = true := by simpa using hb1
  subst hb'
  split at h
  · injection h with _ h2; injection h2 with _ h2; cases h2
  rename_i hc
  simp only [Bool.not_eq_true, Bool.or_eq_false_iff, decide_eq_false_iff_not, Bool.not_eq_false', beq_eq_false_iff_ne] at hc
  obtain ⟨⟨hj1, hjl⟩, h93⟩ := hc
  have h93 := (isB_iff _ 93 (by decide)).1 h93
  obtain ⟨k1, k2, k3, k4, k5⟩ := iscan_some t _ 1 j (Nat.le_refl _) h0 ⟨fun c hc => (by rw [sl_nil] at hc; cases hc), by rw [sl_nil]; decide, .inl (by decide)⟩ hq
  injection h with h1 h2
  injection h2 with h2 _
  subst h1 h2
  have hlen := sl_len t 1 j k2 k1
  have hdec : Lib.decDigits (valD (sl t 1 j)) = sl t 1 j := by
    refine dec_canon _ _ hlen k3 (by omega) ?_
    rcases k5 with k5 | k5
    · exact .inl (by omega)
    · refine .inr ?_
      have : byt (sl t 1 j) 0 = byt t 1 := by
        rw [byt_get _ 0 (by omega), byt_get t 1 (by omega)]
        simp [sl]
      rw [this]; exact k5
  refine ⟨rfl, ?_, hle.2, hle.1, ?_⟩
  · unfold okS; rw [if_pos rfl]; simp; omega
  · show t.take (j + 1) = 91 :: (Lib.decDigits (Int.toNat (valD (sl t 1 j) : Int)) ++ [93])
    rw [Int.toNat_natCast, hdec, ← sl_to, sl_cat t 0 1 (j + 1) (by omega) (by omega), sl_cat t 1 j (j + 1) k2 (by omega), sl_one t j (by omega), h93, sl_one t 0 h0, hb]; rfl
theorem idx_no {t : List UInt8} {x : Stp} {n : Nat} (h0 : 0 < t.length) (h : idxP t = (x, n, false)) : n ≤ t.length := by
  have hi := iscan_le t t.length 1 h0
  unfold idxP at h
  generalize iscan t t.length 1 = q at h hi
  unfold idxQ at h
  split at h
  · injection h with _ h2; injection h2 with h2 _; omega
  · split at h
    · injection h with _ h2; injection h2 with h2 _; omega
    · injection h with _ h2; injection h2 with _ h2; cases h2
theorem bodyS_snoc (L : List Stp) (x : Stp) : bodyS (L ++ [x]) = bodyS L ++ bitS x L.isEmpty := by
  cases L with
  | nil => show bitS x true ++ restS [] = [] ++ bitS x true; simp [restS]
  | cons y r =>
    show bitS y true ++ restS (r ++ [x]) = bitS y true ++ restS r ++ bitS x false
    unfold restS
    rw [List.flatMap_append, List.append_assoc]; simp
/-- the reader took a step -/
theorem rd_some {s : List UInt8} {a : Nat} {L : List Stp} {x : Stp} {n b : Nat} (hs : s.length ≤ 65536) (ha : a ≤ s.length)
    (hsep : (!(decide (a < s.length) && isB (byt s a) 91) && (!L.isEmpty && !isB (byt s a) 46)) = false) (hmore : (!decide (a < s.length) && !L.isEmpty) = false)
    (h : rdAt s a L = ((x, n, true), b)) : okS x = true ∧ b + n ≤ s.length ∧ a < b + n ∧ s.take (b + n) = s.take a ++ bitS x L.isEmpty := by
  unfold rdAt at h
  split at h
  · rename_i hb
    rw [Bool.and_eq_true, decide_eq_true_eq] at hb
    injection h with h1 h2
    subst h2
    have hl := sl_len s a s.length ha (Nat.le_refl _)
    obtain ⟨hx, k1, k2, k3, k4⟩ := idx_some (by omega) (by rw [byt_sl]; exact (isB_iff _ 91 (by decide)).1 hb.2) h1
    refine ⟨k1, by omega, by omega, ?_⟩
    rw [take_cat s a (a + n) (by omega)]
    rw [← sl_to, sl_sl, Nat.add_zero] at k4
    rw [k4]; unfold bitS; rw [if_pos hx]
  · rename_i hb
    split at h
    · rename_i hL
      injection h with h1 h2
      subst h2
      have hl := sl_len s a s.length ha (Nat.le_refl _)
      obtain ⟨hx, k1, k2, k3, k4⟩ := lab_some (by omega) h1
      refine ⟨k1, by omega, by omega, ?_⟩
      rw [take_cat s a (a + n) (by omega)]
      rw [← sl_to, sl_sl, Nat.add_zero] at k4
      rw [k4]; unfold bitS; rw [if_neg hx, if_pos hL]
    · rename_i hL
      injection h with h1 h2
      subst h2
      have hL' : L.isEmpty = false := by simpa using hL
      rw [hL'] at hsep hmore ⊢
      simp only [Bool.not_false, Bool.and_true, Bool.true_and, Bool.not_eq_false', decide_eq_true_eq] at hmore
      have hb' : (decide (a < s.length) && isB (byt s a) 91) = false := by simpa using hb
      rw [hb'] at hsep
      simp only [Bool.not_false, Bool.true_and, Bool.not_eq_false'] at hsep
      have h46 := (isB_iff _ 46 (by decide)).1 hsep
      have hl := sl_len s (a + 1) s.length hmore (Nat.le_refl _)
      obtain ⟨hx, k1, k2, k3, k4⟩ := lab_some (by omega) h1
      refine ⟨k1, by omega, by omega, ?_⟩
      rw [take_cat s a (a + 1 + n) (by omega), sl_cat s a (a + 1) _ (by omega) (by omega), sl_one s a hmore, h46]
      rw [← sl_to, sl_sl, Nat.add_zero] at k4
      rw [k4]; unfold bitS; rw [if_neg hx]; rfl
theorem rd_no {s : List UInt8} {a : Nat} {L : List Stp} {x : Stp} {n b : Nat} (ha : a ≤ s.length)
    (hmore : (!decide (a < s.length) && !L.isEmpty) = false) (h : rdAt s a L = ((x, n, false), b)) : b + n ≤ s.length := by
  unfold rdAt at h
  split at h
  · rename_i hb
    rw [Bool.and_eq_true, decide_eq_true_eq] at hb
    injection h with h1 h2
    have hl := sl_len s a s.length ha (Nat.le_refl _)
    have := idx_no (by omega) h1
    omega
  · split at h
    · injection h with h1 h2
      have hl := sl_len s a s.length ha (Nat.le_refl _)
      have := lab_no h1
      omega
    · rename_i hL
      injection h with h1 h2
      have hL' : L.isEmpty = false := by simpa using hL
      rw [hL'] at hmore
      simp only [Bool.not_false, Bool.and_true, Bool.not_eq_false', decide_eq_true_eq] at hmore
      have hl := sl_len s (a + 1) s.length hmore (Nat.le_refl _)
      have := lab_no h1
      omega
def OnlyR (s : List UInt8) (r : List Stp × Nat × Nat) : Prop := (r.2.1 = 0 ∧ r.2.2 = 0 ∧ okL r.1 = true ∧ r.1 ≠ [] ∧ bodyS r.1 = s) ∨ (r.1 = [] ∧ r.2.1 = 8 ∧ r.2.2 ≤ s.length)
theorem pgo_only (s : List UInt8) (hs : s.length ≤ 65536) : ∀ f a L, s.length + 1 ≤ f + a → a ≤ s.length → okL L = true → s.take a = bodyS L → OnlyR s (pgo s f a L)
  | 0, a, L, h1, h2, _, _ => by omega
  | f + 1, a, L, h1, h2, hk, hb => by
    rw [pgo]
    split
    · rename_i hm
      rw [Bool.and_eq_true, Bool.not_eq_true', decide_eq_false_iff_not, Bool.not_eq_true'] at hm
      refine .inl ⟨rfl, rfl, hk, fun e => ?_, ?_⟩
      · simp only at e; rw [e] at hm; exact absurd hm.2 (by decide)
      · show bodyS L = s; rw [← hb, List.take_of_length_le (by omega)]
    · rename_i hm
      have hm' : (!decide (a < s.length) && !L.isEmpty) = false := by simpa using hm
      split
      · exact .inr ⟨rfl, rfl, h2⟩
      · rename_i hp
        have hp' : (!(decide (a < s.length) && isB (byt s a) 91) && (!L.isEmpty && !isB (byt s a) 46)) = false := by
          rcases bool_two (!(decide (a < s.length) && isB (byt s a) 91) && (!L.isEmpty && !isB (byt s a) 46)) with h | h
          · exact h
          · exact absurd h hp
        clear hp hm
        generalize hr : rdAt s a L = r
        obtain ⟨⟨x, n, ok⟩, b⟩ := r
        split
        · rename_i hok
          have hok' : ok = true := hok
          subst hok'
          obtain ⟨k1, k2, k3, k4⟩ := rd_some hs h2 hp' hm' hr
          exact pgo_only s hs f (b + n) (L ++ [x]) (by omega) k2 (by unfold okL at *; rw [List.all_append, hk]; simpa using k1) (by rw [k4, hb, bodyS_snoc])
        · rename_i hok
          have hok' : ok = false := by simpa using hok
          subst hok'
          exact .inr ⟨rfl, rfl, rd_no h2 hm' hr⟩
/-- what Parse hands back for a string that is not too long -/
theorem parse_only (s : List UInt8) (hs : s.length ≤ 65536) : ((parseP s).2.1 = 0 ∧ (parseP s).2.2 = 0 ∧ okL (parseP s).1 = true ∧ textS (parseP s).1 = s) ∨ ((parseP s).1 = [] ∧ (parseP s).2.1 = 8 ∧ (parseP s).2.2 ≤ s.length) := by
  unfold parseP
  rw [if_neg (by omega)]
  split
  · rename_i h
    rw [beq_iff_eq] at h
    subst h
    exact .inl ⟨rfl, rfl, rfl, rfl⟩
  · split
    · rename_i h
      refine .inr ⟨rfl, rfl, ?_⟩
      cases s with
      | nil => cases h
      | cons => simp
    · rcases pgo_only s hs (s.length + 1) 0 [] (by omega) (Nat.zero_le _) rfl rfl with ⟨h1, h2, h3, h4, h5⟩ | h
      · exact .inl ⟨h1, h2, h3, by rw [textS_body _ h3 h4]; exact h5⟩
      · exact .inr h
end Go.Proofs.YtpekkdgaeadepaaDoor
