/- The reference's Reader, plain: what it hands back, and that this is what the program's Parse hands back. -/
import Derived.Test.YtpekkdgaeadepaaDoorRdE
import Derived.Test.YtpekkdgaeadepaaDoorStY
namespace Go.Proofs.YtpekkdgaeadepaaDoor
open Go.RowKit

/-! the model: the state is an offset and 'failed' -/
def rquo (s : List UInt8) : Nat → Nat → List UInt8 → List UInt8 × Nat × Bool
  | 0, a, _ => ([], a, true)
  | f + 1, a, acc =>
    if s.length ≤ a then ([], a, true)
    else if byt s a = 34 then (if acc.isEmpty || identB acc then ([], a, true) else (acc, a + 1, false))
    else if okB (byt s a) = false then ([], a, true)
    else if byt s a = 92 then (if (rescP s (a + 1)).2.2 then ([], (rescP s (a + 1)).2.1, true) else rquo s f (rescP s (a + 1)).2.1 (acc ++ (rescP s (a + 1)).1))
    else rquo s f (a + 1) (acc ++ [byt s a])
def rrun (s : List UInt8) (from_ : Nat) : Nat → Nat → Nat × Bool
  | 0, a => (a, false)
  | f + 1, a => if s.length ≤ a then (a, false) else if idByte (byt s a) = false then (a, false) else if a - from_ = 32 then (a, true) else rrun s from_ f (a + 1)
def rhd (s : List UInt8) (a : Nat) : Nat := if a < s.length ∧ (byt s a = 95 ∨ byt s a = 35) then a + 1 else a
def ridn (s : List UInt8) (a : Nat) (q : Nat × Bool) : List UInt8 × Nat × Bool :=
  if q.2 then ([], q.1, true) else if wordsL.contains (sl s a q.1) then ([], q.1, true) else (sl s a q.1, q.1, false)
def rlab (s : List UInt8) (a : Nat) : List UInt8 × Nat × Bool :=
  if a < s.length ∧ byt s a = 34 then rquo s (s.length + 1) (a + 1) []
  else if s.length ≤ rhd s a then ([], rhd s a, true) else if letterB (byt s (rhd s a)) = false then ([], rhd s a, true)
  else ridn s a (rrun s a (s.length + 1) (rhd s a))
/-- number, offset, failed -/
def ridx (s : List UInt8) : Nat → Nat → Nat → Nat → Nat × Nat × Bool
  | 0, a, n, _ => (n, a, true)
  | f + 1, a, n, d =>
    if a < s.length ∧ digB (byt s a) = true then
      (if 1000000 < n * 10 + ((byt s a).toNat - 48) ∨ (0 < d ∧ n = 0) then (0, a, true) else ridx s f (a + 1) (n * 10 + ((byt s a).toNat - 48)) (d + 1))
    else if d = 0 then (n, a, true) else if a < s.length ∧ byt s a = 93 then (n, a + 1, false) else (n, a, true)
def rgo (s : List UInt8) : Nat → Nat → List Stp → List Stp × Nat × Nat
  | 0, _, L => (L, 0, 0)
  | f + 1, a, L =>
    if s.length ≤ a ∧ L.isEmpty = false then (L, 0, 0)
    else if a < s.length ∧ byt s a = 91 then
      (if (ridx s (s.length + 1) (a + 1) 0 0).2.2 then ([], 8, (ridx s (s.length + 1) (a + 1) 0 0).2.1) else rgo s f (ridx s (s.length + 1) (a + 1) 0 0).2.1 (L ++ [⟨[], ((ridx s (s.length + 1) (a + 1) 0 0).1 : Int)⟩]))
    else if L.isEmpty then
      (if a < s.length ∧ byt s a = 46 then ([], 8, a + 1)
      else if (rlab s a).2.2 then ([], 8, (rlab s a).2.1) else rgo s f (rlab s a).2.1 (L ++ [⟨(rlab s a).1, 0⟩]))
    else if a < s.length ∧ byt s a = 46 then (if (rlab s (a + 1)).2.2 then ([], 8, (rlab s (a + 1)).2.1) else rgo s f (rlab s (a + 1)).2.1 (L ++ [⟨(rlab s (a + 1)).1, 0⟩]))
    else ([], 8, a)
def rparse (s : List UInt8) : List Stp × Nat × Nat :=
  if 65536 < s.length then ([], 2, 0) else if s == [46] then ([], 0, 0) else rgo s (s.length + 2) 0 []

theorem b34y {c : UInt8} (h : c = 34) : isB c 34 = true := (isB_iff c 34 (by decide)).2 h
theorem b34n {c : UInt8} (h : c ≠ 34) : isB c 34 = false := isB_no c 34 (by decide) h
theorem b92y {c : UInt8} (h : c = 92) : isB c 92 = true := (isB_iff c 92 (by decide)).2 h
theorem b92n {c : UInt8} (h : c ≠ 92) : isB c 92 = false := isB_no c 92 (by decide) h
theorem b110y {c : UInt8} (h : c = 110) : isB c 110 = true := (isB_iff c 110 (by decide)).2 h
theorem b110n {c : UInt8} (h : c ≠ 110) : isB c 110 = false := isB_no c 110 (by decide) h
theorem b116y {c : UInt8} (h : c = 116) : isB c 116 = true := (isB_iff c 116 (by decide)).2 h
theorem b116n {c : UInt8} (h : c ≠ 116) : isB c 116 = false := isB_no c 116 (by decide) h
theorem b114y {c : UInt8} (h : c = 114) : isB c 114 = true := (isB_iff c 114 (by decide)).2 h
theorem b114n {c : UInt8} (h : c ≠ 114) : isB c 114 = false := isB_no c 114 (by decide) h
theorem b120y {c : UInt8} (h : c = 120) : isB c 120 = true := (isB_iff c 120 (by decide)).2 h
theorem b120n {c : UInt8} (h : c ≠ 120) : isB c 120 = false := isB_no c 120 (by decide) h
theorem b91y {c : UInt8} (h : c = 91) : isB c 91 = true := (isB_iff c 91 (by decide)).2 h
theorem b91n {c : UInt8} (h : c ≠ 91) : isB c 91 = false := isB_no c 91 (by decide) h
theorem b46y {c : UInt8} (h : c = 46) : isB c 46 = true := (isB_iff c 46 (by decide)).2 h
theorem b46n {c : UInt8} (h : c ≠ 46) : isB c 46 = false := isB_no c 46 (by decide) h
theorem b48y {c : UInt8} (h : c = 48) : isB c 48 = true := (isB_iff c 48 (by decide)).2 h
theorem b48n {c : UInt8} (h : c ≠ 48) : isB c 48 = false := isB_no c 48 (by decide) h
theorem b93y {c : UInt8} (h : c = 93) : isB c 93 = true := (isB_iff c 93 (by decide)).2 h
theorem b93n {c : UInt8} (h : c ≠ 93) : isB c 93 = false := isB_no c 93 (by decide) h
/-! escapes -/
theorem pairH_eq : ∀ n : Fin 256, pairH n.val = [byt hexS (n.val / 16), byt hexS (n.val % 16)] := by decide +kernel
theorem dg_hx : ∀ k : Fin 16, dgI (byt hexS k.val) = (k.val : Int) := by decide +kernel
theorem hx_dg : ∀ c : UInt8, 0 ≤ dgI c → byt hexS (dgI c).toNat = c := forall_u8 (P := fun c => 0 ≤ dgI c → byt hexS (dgI c).toNat = c) (by decide +kernel)
theorem wr_one (n : Nat) (hn : n < 256) (h : wrN n = true) : ¬ (1 < n / 16 ∧ n / 16 < 7) := by
  intro hh
  unfold wrN at h
  simp only [Bool.not_eq_true', Bool.or_eq_false_iff, Bool.and_eq_false_iff, decide_eq_false_iff_not, beq_eq_false_iff_ne] at h
  omega
theorem wr_of (p : Nat) (hp : p < 16) (h : ¬ (1 < p ∧ p < 7)) : wrN (16 * p + 15) = true := by
  unfold wrN
  simp only [Bool.not_eq_true', Bool.or_eq_false_iff, Bool.and_eq_false_iff, decide_eq_false_iff_not, beq_eq_false_iff_ne]
  omega
theorem hex_one (c : UInt8) : hexP [c] = !decide (dgI c < 0 ∨ (1 < dgI c ∧ dgI c < 7)) := by
  have hr := dgI_range c
  rw [Bool.eq_iff_iff, Bool.not_eq_true', decide_eq_false_iff_not]
  constructor
  · intro h
    unfold hexP at h
    obtain ⟨n, hn, ha⟩ := List.any_eq_true.1 h
    rw [List.mem_range] at hn
    unfold hexAt at ha
    rw [Bool.and_eq_true, beq_iff_eq, pairH_eq ⟨n, hn⟩] at ha
    have hc : byt hexS (n / 16) = c := by have := ha.2; simpa using this
    have hd := dg_hx ⟨n / 16, by omega⟩
    simp only at hd
    rw [hc] at hd
    have := wr_one n hn ha.1
    omega
  · intro h
    have hx := hx_dg c (by omega)
    have hw := wr_of (dgI c).toNat (by omega) (by omega)
    refine hexP_yes _ (16 * (dgI c).toNat + 15) (by omega) ?_
    unfold hexAt
    rw [hw, pairH_eq ⟨16 * (dgI c).toNat + 15, by omega⟩]
    simp only
    rw [show (16 * (dgI c).toNat + 15) / 16 = (dgI c).toNat by omega, hx]
    simp
theorem hex_two (c d : UInt8) (hc : 0 ≤ dgI c) : hexP [c, d] = !decide (dgI d < 0 ∨ wrN (16 * dgI c + dgI d).toNat = false) := by
  have hr := dgI_range c
  have hr2 := dgI_range d
  rw [Bool.eq_iff_iff, Bool.not_eq_true', decide_eq_false_iff_not]
  constructor
  · intro h
    obtain ⟨n, hn, hw, hp⟩ := hexP_some rfl h
    rw [pairH_eq ⟨n, hn⟩] at hp
    simp only [List.cons.injEq, and_true] at hp
    have h1 := dg_hx ⟨n / 16, by omega⟩
    have h2 := dg_hx ⟨n % 16, by omega⟩
    simp only at h1 h2
    rw [hp.1] at h1
    rw [hp.2] at h2
    have e : (16 * dgI c + dgI d).toNat = n := by omega
    rw [e, hw]
    simp; omega
  · intro h
    have hd : 0 ≤ dgI d := by omega
    have hw : wrN (16 * dgI c + dgI d).toNat = true := by
      rcases bool_two (wrN (16 * dgI c + dgI d).toNat) with hb | hb
      · exact absurd (.inr hb) h
      · exact hb
    have hn : (16 * dgI c + dgI d).toNat < 256 := by omega
    refine hexP_yes _ _ hn ?_
    unfold hexAt
    rw [hw, pairH_eq ⟨_, hn⟩]
    simp only
    rw [show (16 * dgI c + dgI d).toNat / 16 = (dgI c).toNat by omega, show (16 * dgI c + dgI d).toNat % 16 = (dgI d).toNat by omega, hx_dg c hc, hx_dg d hd]
    simp
theorem esc_dg (c d : UInt8) (hc : 0 ≤ dgI c) (hd : 0 ≤ dgI d) (hw : wrN (16 * dgI c + dgI d).toNat = true) : escB (UInt8.ofNat (16 * dgI c + dgI d).toNat) = [92, 120, c, d] := by
  have hr := dgI_range c
  have hr2 := dgI_range d
  have hn : (16 * dgI c + dgI d).toNat < 256 := by omega
  have hu := u8_ofNat_toNat _ hn
  have := esc_wr (UInt8.ofNat (16 * dgI c + dgI d).toNat) (by rw [hu]; exact hw)
  rw [hu, pairH_eq ⟨_, hn⟩] at this
  simp only at this
  rw [show (16 * dgI c + dgI d).toNat / 16 = (dgI c).toNat by omega, show (16 * dgI c + dgI d).toNat % 16 = (dgI d).toNat by omega, hx_dg c hc, hx_dg d hd] at this
  exact this
/-- the program's escape and the reference's -/
theorem esc_both (s : List UInt8) (a : Nat) (ha : a < s.length) (h0 : byt s a = 92) :
    ((escP (sl s a s.length)).2 = false ∧ ∃ l, rescP s (a + 1) = (l, a + (escP (sl s a s.length)).1, true)) ∨
    ((escP (sl s a s.length)).2 = true ∧ ∃ c, rescP s (a + 1) = ([c], a + (escP (sl s a s.length)).1, false) ∧ sl s a (a + (escP (sl s a s.length)).1) = escB c) := by
  have htl : (sl s a s.length).length = s.length - a := sl_len s a s.length (by omega) (Nat.le_refl _)
  have hb : byt (sl s a s.length) 1 = byt s (a + 1) := byt_sl s a 1
  unfold escP rescP
  by_cases h2 : a + 1 < s.length
  · rw [if_neg (by omega), if_pos h2, hb]
    have hs2 : ∀ b, sl s a (a + 2) = [92, byt s (a + 1)] ∧ (byt s (a + 1) = b → sl s a (a + 2) = [92, b]) := by
      intro b
      have : sl s a (a + 2) = [92, byt s (a + 1)] := by
        rw [sl_cat s a (a + 1) (a + 2) (by omega) (by omega), sl_one s a ha, h0, sl_one s (a + 1) h2]; rfl
      exact ⟨this, fun e => by rw [this, e]⟩
    by_cases e1 : byt s (a + 1) = 34
    · rw [e1]; exact .inr ⟨rfl, 34, rfl, by rw [show escB 34 = [92, 34] by decide]; exact (hs2 34).2 e1⟩
    by_cases e2 : byt s (a + 1) = 92
    · rw [e2]; exact .inr ⟨rfl, 92, rfl, by rw [show escB 92 = [92, 92] by decide]; exact (hs2 92).2 e2⟩
    by_cases e3 : byt s (a + 1) = 110
    · rw [e3]; exact .inr ⟨rfl, 10, rfl, by rw [show escB 10 = [92, 110] by decide]; exact (hs2 110).2 e3⟩
    by_cases e4 : byt s (a + 1) = 116
    · rw [e4]; exact .inr ⟨rfl, 9, rfl, by rw [show escB 9 = [92, 116] by decide]; exact (hs2 116).2 e4⟩
    by_cases e5 : byt s (a + 1) = 114
    · rw [e5]; exact .inr ⟨rfl, 13, rfl, by rw [show escB 13 = [92, 114] by decide]; exact (hs2 114).2 e5⟩
    rw [if_neg e1, if_neg e2, if_neg e3, if_neg e4, if_neg e5]
    have f1 := b34n e1
    have f2 := b92n e2
    have f3 := b110n e3
    have f4 := b116n e4
    have f5 := b114n e5
    have ff : (isB (byt s (a + 1)) 34 || isB (byt s (a + 1)) 92 || isB (byt s (a + 1)) 110 || isB (byt s (a + 1)) 116 || isB (byt s (a + 1)) 114) = false := by
      rw [show isB (byt s (a + 1)) 34 = false from f1, show isB (byt s (a + 1)) 92 = false from f2, show isB (byt s (a + 1)) 110 = false from f3, show isB (byt s (a + 1)) 116 = false from f4, show isB (byt s (a + 1)) 114 = false from f5]; rfl
    rw [if_neg (by rw [ff]; decide)]
    by_cases e6 : byt s (a + 1) = 120
    · rw [if_pos e6, if_pos (b120y e6)]
      by_cases h3 : a + 2 < s.length
      · rw [if_neg (by omega)]
        have hd1 : dgAt s (a + 1 + 1) = dgI (byt s (a + 2)) := by unfold dgAt; rw [if_pos (by omega)]
        have hs3 : sl (sl s a s.length) 2 3 = [byt s (a + 2)] := by rw [sl_sl, sl_one s (a + 2) h3]
        rw [hd1, hs3, hex_one]
        by_cases g1 : dgI (byt s (a + 2)) < 0 ∨ (1 < dgI (byt s (a + 2)) ∧ dgI (byt s (a + 2)) < 7)
        · rw [if_pos g1, if_pos (by simp [g1])]
          exact .inl ⟨rfl, _, rfl⟩
        · rw [if_neg g1, if_neg (by simp only [Bool.not_eq_false', decide_eq_true_eq]; exact g1)]
          by_cases h4 : a + 3 < s.length
          · rw [if_neg (by omega)]
            have hd2 : dgAt s (a + 1 + 2) = dgI (byt s (a + 3)) := by unfold dgAt; rw [if_pos (by omega)]
            have hs4 : sl (sl s a s.length) 2 4 = [byt s (a + 2), byt s (a + 3)] := by
              rw [sl_sl, sl_cat s (a + 2) (a + 3) (a + 4) (by omega) (by omega), sl_one s (a + 2) h3, sl_one s (a + 3) h4]; rfl
            rw [hd2, hs4, hex_two _ _ (by omega)]
            by_cases g2 : dgI (byt s (a + 3)) < 0 ∨ wrN (16 * dgI (byt s (a + 2)) + dgI (byt s (a + 3))).toNat = false
            · rw [if_pos g2, if_pos (by simp only [Bool.not_eq_false', decide_eq_true_eq]; exact g2)]
              exact .inl ⟨rfl, _, rfl⟩
            · rw [if_neg g2, if_neg (by simp only [Bool.not_eq_false', decide_eq_true_eq]; exact g2)]
              refine .inr ⟨rfl, _, rfl, ?_⟩
              have hw : wrN (16 * dgI (byt s (a + 2)) + dgI (byt s (a + 3))).toNat = true := by
                rcases bool_two (wrN (16 * dgI (byt s (a + 2)) + dgI (byt s (a + 3))).toNat) with hb | hb
                · exact absurd (.inr hb) g2
                · exact hb
              rw [esc_dg _ _ (by omega) (by omega) hw]
              show sl s a (a + 4) = _
              rw [sl_cat s a (a + 2) (a + 4) (by omega) (by omega), (hs2 120).2 e6, sl_cat s (a + 2) (a + 3) (a + 4) (by omega) (by omega), sl_one s (a + 2) h3, sl_one s (a + 3) h4]; rfl
          · have hd2 : dgAt s (a + 1 + 2) = -1 := by unfold dgAt; rw [if_neg (by omega)]
            rw [if_pos (by omega), if_pos (by rw [hd2]; exact .inl (by decide))]
            exact .inl ⟨rfl, [], by simp only; congr 2; omega⟩
      · have hd1 : dgAt s (a + 1 + 1) = -1 := by unfold dgAt; rw [if_neg (by omega)]
        rw [if_pos (by omega), if_pos (by rw [hd1]; exact .inl (by decide))]
        exact .inl ⟨rfl, [], by simp only; congr 2; omega⟩
    · rw [if_neg e6, if_neg (by rw [b120n e6]; decide)]
      exact .inl ⟨rfl, _, rfl⟩
  · rw [if_pos (by omega), if_neg h2]
    exact .inl ⟨rfl, _, rfl⟩
/-- the scan of a label in quotes and the reference's -/
theorem quo_both (s : List UInt8) (b : Nat) (t : List UInt8) (ht : t = sl s b s.length) (hb : b ≤ s.length) : ∀ f i f' acc, t.length ≤ f + i → i ≤ t.length → s.length + 1 ≤ f' + (b + i) →
    ((qscan t f i).2 = false ∧ rquo s f' (b + i) acc = ([], b + (qscan t f i).1, true)) ∨
    ((qscan t f i).2 = true ∧ t.length ≤ (qscan t f i).1 ∧ rquo s f' (b + i) acc = ([], b + t.length, true)) ∨
    ((qscan t f i).2 = true ∧ (qscan t f i).1 < t.length ∧ byt t (qscan t f i).1 = 34 ∧ i ≤ (qscan t f i).1 ∧ ∃ l : List UInt8, sl t i (qscan t f i).1 = l.flatMap escB ∧ rquo s f' (b + i) acc = (if (acc ++ l).isEmpty || identB (acc ++ l) then ([], b + (qscan t f i).1, true) else (acc ++ l, b + (qscan t f i).1 + 1, false))) := by
  have htl : t.length = s.length - b := by rw [ht]; exact sl_len s b s.length hb (Nat.le_refl _)
  intro f
  induction f with
  | zero =>
    intro i f' acc h1 h2 h3
    obtain ⟨g, rfl⟩ : ∃ g, f' = g + 1 := ⟨f' - 1, by omega⟩
    rw [qscan, rquo, if_pos (by omega)]
    exact .inr (.inl ⟨rfl, by simp only; omega, by rw [show b + i = b + t.length by omega]⟩)
  | succ f ih =>
    intro i f' acc h1 h2 h3
    obtain ⟨g, rfl⟩ : ∃ g, f' = g + 1 := ⟨f' - 1, by omega⟩
    have hbt : byt t i = byt s (b + i) := by rw [ht]; exact byt_sl s b i
    rw [qscan, rquo]
    by_cases hi : t.length ≤ i
    · rw [if_pos hi, if_pos (show s.length ≤ b + i by omega)]
      exact .inr (.inl ⟨rfl, hi, by rw [show b + i = b + t.length by omega]⟩)
    rw [if_neg hi, if_neg (show ¬ s.length ≤ b + i by omega), ← hbt]
    by_cases e34 : byt t i = 34
    · rw [if_pos (b34y e34), if_pos e34]
      refine .inr (.inr ⟨rfl, by simp only; omega, e34, Nat.le_refl _, [], sl_nil t i, ?_⟩)
      rw [List.append_nil]
    rw [if_neg (by rw [b34n e34]; decide), if_neg e34]
    by_cases e92 : byt t i = 92
    · rw [if_pos (b92y e92), if_neg (show ¬ okB (byt t i) = false by rw [e92]; decide), if_pos e92]
      have hts : sl t i t.length = sl s (b + i) s.length := by
        rw [htl]
        rw [ht, sl_sl]; congr 1; omega
      rw [hts]
      have hle := escP_le (sl s (b + i) s.length)
      rw [sl_len s (b + i) s.length (by omega) (Nat.le_refl _)] at hle
      rcases esc_both s (b + i) (by omega) (hbt ▸ e92) with ⟨h4, l, h5⟩ | ⟨h4, c, h5, h6⟩
      · rw [if_neg (show ¬ (escP (sl s (b + i) s.length)).2 = true by rw [h4]; decide), h5]
        exact .inl ⟨rfl, by simp only [if_true]; rw [Nat.add_assoc]⟩
      · rw [if_pos h4, h5]
        simp only [Bool.false_eq_true, if_false]
        have hl2 := hle.2 h4
        have h7 := ih (i + (escP (sl s (b + i) s.length)).1) g (acc ++ [c]) (by omega) (by omega) (by omega)
        rw [Nat.add_assoc] at h7 ⊢
        rcases h7 with h7 | h7 | ⟨k1, k2, k3, k4, l, k5, k6⟩
        · exact .inl h7
        · exact .inr (.inl h7)
        · refine .inr (.inr ⟨k1, k2, k3, by omega, c :: l, ?_, ?_⟩)
          · have hce : sl t i (i + (escP (sl s (b + i) s.length)).1) = escB c := by
              rw [ht, sl_sl]; rw [← h6]; congr 1; omega
            rw [sl_cat t i _ _ (Nat.le_add_right _ _) k4, k5, hce]; rfl
          · rw [k6, List.append_assoc]; rfl
    · rw [if_neg (by rw [b92n e92]; decide)]
      rcases bool_two (okB (byt t i)) with ho | ho
      · rw [if_neg (by rw [ho]; decide), if_pos ho]
        exact .inl ⟨rfl, rfl⟩
      · rw [if_pos ho, if_neg (by rw [ho]; decide), if_neg e92]
        have h7 := ih (i + 1) g (acc ++ [byt t i]) (by omega) (by omega) (by omega)
        rw [← Nat.add_assoc] at h7
        rcases h7 with h7 | h7 | ⟨k1, k2, k3, k4, l, k5, k6⟩
        · exact .inl h7
        · exact .inr (.inl h7)
        · refine .inr (.inr ⟨k1, k2, k3, by omega, byt t i :: l, ?_, ?_⟩)
          · rw [sl_cat t i (i + 1) _ (Nat.le_succ _) k4, k5, List.flatMap_cons, esc_plain _ ho e34 e92, sl_one t i (by omega)]
          · rw [k6, List.append_assoc]; rfl
end Go.Proofs.YtpekkdgaeadepaaDoor
