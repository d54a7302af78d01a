/- Steps: plain: what Parse takes is the text of what it hands back. -/
import Derived.Test.YtpekkdgaeadepaaDoorStQ
namespace Go.Proofs.YtpekkdgaeadepaaDoor
open Go.RowKit

theorem isB_eq (c : UInt8) (n : Nat) (hn : n < 256) : isB c (n : Int) = decide (c = UInt8.ofNat n) := u8_eq hn
theorem isB_iff (c : UInt8) (n : Nat) (hn : n < 256) : isB c (n : Int) = true ↔ c = UInt8.ofNat n := by rw [isB_eq c n hn, decide_eq_true_eq]
theorem sl_sl (t : List UInt8) (i j k : Nat) : sl (sl t i t.length) j k = sl t (i + j) (i + k) := by
  rw [sl_from]; unfold sl; rw [List.drop_drop]; congr 1; omega
theorem byt_sl (t : List UInt8) (i k : Nat) : byt (sl t i t.length) k = byt t (i + k) := by
  rw [sl_from]; simp [byt, List.getD]
theorem sl_cat (t : List UInt8) (i j k : Nat) (h1 : i ≤ j) (h2 : j ≤ k) : sl t i k = sl t i j ++ sl t j k := by
  unfold sl
  rw [show k - i = (j - i) + (k - j) by omega, List.take_add, List.drop_drop, show i + (j - i) = j by omega]
theorem sl_nil (t : List UInt8) (i : Nat) : sl t i i = [] := by unfold sl; rw [Nat.sub_self, List.take_zero]
theorem sl_one (t : List UInt8) (i : Nat) (h : i < t.length) : sl t i (i + 1) = [byt t i] := by
  unfold sl; rw [show i + 1 - i = 1 by omega, drop_byt t i h]; rfl
theorem take_cat (t : List UInt8) (i j : Nat) (h : i ≤ j) : t.take j = t.take i ++ sl t i j := by
  have := sl_cat t 0 i j (by omega) h
  rwa [sl_to, sl_to] at this

/-! escapes -/
theorem esc_wr : ∀ c : UInt8, wrN c.toNat = true → escB c = 92 :: 120 :: pairH c.toNat :=
  forall_u8 (P := fun c => wrN c.toNat = true → escB c = 92 :: 120 :: pairH c.toNat) (by decide +kernel)
theorem esc_plain : ∀ c : UInt8, okB c = true → c ≠ 34 → c ≠ 92 → escB c = [c] :=
  forall_u8 (P := fun c => okB c = true → c ≠ 34 → c ≠ 92 → escB c = [c]) (by decide +kernel)
theorem hexP_some {s : List UInt8} (hs : s.length = 2) (h : hexP s = true) : ∃ n, n < 256 ∧ wrN n = true ∧ pairH n = s := by
  unfold hexP at h
  obtain ⟨n, hn, ha⟩ := List.any_eq_true.1 h
  rw [List.mem_range] at hn
  unfold hexAt at ha
  rw [Bool.and_eq_true, beq_iff_eq, hs, List.take_of_length_le (by rw [pairH_len n hn]; exact Nat.le_refl _)] at ha
  exact ⟨n, hn, ha.1, ha.2⟩
theorem esc_some (t : List UInt8) (h : (escP t).2 = true) (h0 : byt t 0 = 92) : ∃ c, t.take (escP t).1 = escB c ∧ (escB c).length = (escP t).1 := by
  match t, h, h0 with
  | [], h, _ => cases h
  | [_], h, _ => cases h
  | a :: b :: r, h, h0 =>
    have ha : a = 92 := h0
    subst ha
    have hb : byt (92 :: b :: r) 1 = b := rfl
    unfold escP at h ⊢
    rw [hb] at h ⊢
    rw [if_neg (by simp)] at h ⊢
    rcases bool_two (isB b 34 || isB b 92 || isB b 110 || isB b 116 || isB b 114) with hq | hq
    · rw [hq] at h ⊢
      simp only [Bool.false_eq_true, if_false] at h ⊢
      rcases bool_two (isB b 120) with hx | hx
      · rw [hx] at h; cases h
      · rw [hx] at h ⊢
        simp only [if_true] at h ⊢
        have hb2 : b = 120 := (isB_iff b 120 (by decide)).1 hx
        subst hb2
        match r, h with
        | [], h => cases h
        | [_], h => simp at h; split at h <;> cases h
        | c :: d :: r, h =>
          rw [if_neg (by simp)] at h ⊢
          have hs : sl (92 :: 120 :: c :: d :: r) 2 4 = [c, d] := rfl
          rw [hs] at h ⊢
          rcases bool_two (hexP (sl (92 :: 120 :: c :: d :: r) 2 3)) with h3 | h3
          · rw [if_pos h3] at h; cases h
          · rw [if_neg (by rw [h3]; decide), if_neg (by simp)] at h ⊢
            rcases bool_two (hexP [c, d]) with h4 | h4
            · rw [if_pos h4] at h; cases h
            · rw [if_neg (by rw [h4]; decide)]
              obtain ⟨n, hn, hw, hp⟩ := hexP_some rfl h4
              have hu : (UInt8.ofNat n).toNat = n := u8_ofNat_toNat n hn
              have he := esc_wr (UInt8.ofNat n) (by rw [hu]; exact hw)
              rw [hu, hp] at he
              exact ⟨UInt8.ofNat n, he.symm, by rw [he]; rfl⟩
    · rw [hq]
      simp only [if_true]
      simp only [Bool.or_eq_true] at hq
      rcases hq with (((hq | hq) | hq) | hq) | hq
      · have := (isB_iff b 34 (by decide)).1 hq; subst this; exact ⟨34, by rw [show escB 34 = [92, 34] by decide]; rfl, by decide⟩
      · have := (isB_iff b 92 (by decide)).1 hq; subst this; exact ⟨92, by rw [show escB 92 = [92, 92] by decide]; rfl, by decide⟩
      · have := (isB_iff b 110 (by decide)).1 hq; subst this; exact ⟨10, by rw [show escB 10 = [92, 110] by decide]; rfl, by decide⟩
      · have := (isB_iff b 116 (by decide)).1 hq; subst this; exact ⟨9, by rw [show escB 9 = [92, 116] by decide]; rfl, by decide⟩
      · have := (isB_iff b 114 (by decide)).1 hq; subst this; exact ⟨13, by rw [show escB 13 = [92, 114] by decide]; rfl, by decide⟩
theorem qscan_some (t : List UInt8) : ∀ f i j, t.length ≤ f + i → i ≤ t.length → qscan t f i = (j, true) → j < t.length → byt t j = 34 ∧ i ≤ j ∧ ∃ l : List UInt8, sl t i j = l.flatMap escB
  | 0, i, j, h1, h2, h, hj => by
    rw [qscan] at h; injection h with h3 _; omega
  | f + 1, i, j, h1, h2, h, hj => by
    rw [qscan] at h
    split at h
    · injection h with h3 _; omega
    rename_i hi
    split at h
    · rename_i h34
      injection h with h3 _
      subst h3
      exact ⟨(isB_iff _ 34 (by decide)).1 h34, Nat.le_refl _, [], sl_nil t i⟩
    rename_i h34
    split at h
    · rename_i h92
      split at h
      · rename_i he
        have hb : byt (sl t i t.length) 0 = 92 := by rw [byt_sl]; exact (isB_iff _ 92 (by decide)).1 h92
        have hl := sl_len t i t.length h2 (Nat.le_refl _)
        have hle := (escP_le (sl t i t.length)).2 he
        rw [hl] at hle
        obtain ⟨c, hc, hcl⟩ := esc_some _ he hb
        obtain ⟨k1, k2, l, hk⟩ := qscan_some t f _ j (by omega) (by omega) h hj
        refine ⟨k1, by omega, c :: l, ?_⟩
        rw [sl_cat t i _ j (Nat.le_add_right _ _) k2, hk, List.flatMap_cons, ← hc, ← sl_to, sl_sl, Nat.add_zero]
      · cases h
    · rename_i h92
      split at h
      · rename_i hok
        obtain ⟨k1, k2, l, hk⟩ := qscan_some t f _ j (by omega) (by omega) h hj
        refine ⟨k1, by omega, byt t i :: l, ?_⟩
        have n34 : byt t i ≠ 34 := fun e => h34 ((isB_iff _ 34 (by decide)).2 e)
        have n92 : byt t i ≠ 92 := fun e => h92 ((isB_iff _ 92 (by decide)).2 e)
        rw [sl_cat t i (i + 1) j (Nat.le_succ _) k2, hk, List.flatMap_cons, esc_plain _ hok n34 n92, sl_one t i (by omega)]
      · cases h
theorem qscan_no (t : List UInt8) : ∀ f i, i ≤ t.length → (qscan t f i).2 = false → (qscan t f i).1 ≤ t.length
  | 0, i, h, hf => by cases hf
  | f + 1, i, h, hf => by
    rw [qscan] at hf ⊢
    split at hf
    · cases hf
    rename_i hi
    rw [if_neg hi]
    split at hf
    · cases hf
    rename_i h34
    rw [if_neg h34]
    split at hf
    · rename_i h92
      rw [if_pos h92]
      have he := escP_le (sl t i t.length)
      have hl := sl_len t i t.length h (Nat.le_refl _)
      rw [hl] at he
      split at hf
      · rename_i h1; rw [if_pos h1]; exact qscan_no t f _ (by have := he.2 h1; omega) hf
      · rename_i h1
        rw [if_neg h1]
        have hx : (escP (sl t i t.length)).1 ≤ t.length - i := by
          have hp : 1 ≤ (sl t i t.length).length := by rw [hl]; omega
          have h2 : (escP (sl t i t.length)).1 ≤ (sl t i t.length).length := by
            unfold escP
            repeat' split
            all_goals simp
            all_goals omega
          rw [hl] at h2; exact h2
        simp only; omega
    · rename_i h92
      rw [if_neg h92]
      split at hf
      · rename_i h1; rw [if_pos h1]; exact qscan_no t f _ (by omega) hf
      · rename_i h1; rw [if_neg h1]; exact h
/-! labels -/
def RdOk (t : List UInt8) (b : List UInt8) (x : Stp) (n : Nat) : Prop := okS x = true ∧ n ≤ t.length ∧ 1 ≤ n ∧ t.take n = b
theorem okS_lab {l : List UInt8} (h : l ≠ []) : okS ⟨l, 0⟩ = true := by unfold okS; rw [if_neg h]; exact decide_eq_true rfl
theorem name_some {t : List UInt8} {x : Stp} {n : Nat} (h : nameP t = (x, n, true)) : x.lab ≠ [] ∧ RdOk t (labelL x.lab) x n := by
  have hle := (nameP_le t).2 (by rw [h])
  rw [h] at hle
  unfold nameP at h
  split at h
  · rename_i hi
    injection h with h1 h2
    injection h2 with h2 _
    subst h1 h2
    have hn : t.take (runW t) ≠ [] := fun e => by rw [e, identB_nil] at hi; cases hi
    exact ⟨hn, okS_lab hn, hle.2, hle.1, by unfold labelL; rw [if_pos hi]⟩
  · injection h with _ h2; injection h2 with _ h2; cases h2
theorem lab_some {t : List UInt8} {x : Stp} {n : Nat} (ht : t.length ≤ 65536) (h : labP t = (x, n, true)) : x.lab ≠ [] ∧ RdOk t (labelL x.lab) x n := by
  have hle := (labP_le t).2 (by rw [h])
  rw [h] at hle
  unfold labP at h
  split at h
  · exact name_some h
  · rename_i h0
    rw [Bool.not_eq_true, Bool.or_eq_false_iff, Bool.not_eq_false'] at h0
    have h34 : byt t 0 = 34 := (isB_iff _ 34 (by decide)).1 h0.2
    have hl : 1 ≤ t.length := by cases t with
      | nil => exact absurd h0.1 (by decide)
      | cons => simp
    generalize hq : qscan t t.length 1 = q at h
    obtain ⟨j, b⟩ := q
    unfold labQ at h
    split at h
    · injection h with _ h2; injection h2 with _ h2; cases h2
    · rename_i hb
      have hb' : b = true := by simpa using hb
      subst hb'
      split at h
      · injection h with _ h2; injection h2 with _ h2; cases h2
      · rename_i hj
        simp only [Nat.not_le] at hj
        obtain ⟨k1, k2, l, hk⟩ := qscan_some t _ 1 j (by omega) hl hq hj
        have hu : sl t 0 (j + 1) = quoteL l := by
          rw [sl_cat t 0 1 (j + 1) (by omega) (by omega), sl_cat t 1 j (j + 1) k2 (by omega), hk, sl_one t j hj, k1, sl_one t 0 (by omega), h34]; rfl
        have hun := unq_quote l (by rw [← hu, sl_to, List.length_take]; omega)
        simp only at h
        rw [hu, hun] at h
        split at h
        · injection h with _ h2; injection h2 with _ h2; cases h2
        · rename_i hc
          rw [Bool.not_eq_true, Bool.or_eq_false_iff] at hc
          injection h with h1 h2
          injection h2 with h2 _
          subst h1 h2
          have hn : l ≠ [] := fun e => by rw [e] at hc; exact absurd hc.1 (by decide)
          refine ⟨hn, okS_lab hn, hle.2, hle.1, ?_⟩
          rw [← sl_to, hu]
          unfold labelL
          rw [if_neg (by simp [hc.2])]
theorem lab_no {t : List UInt8} {x : Stp} {n : Nat} (h : labP t = (x, n, false)) : n ≤ t.length := by
  unfold labP at h
  split at h
  · unfold nameP at h
    split at h
    · injection h with _ h2; injection h2 with _ h2; cases h2
    · injection h with _ h2
      injection h2 with h2 _
      subst h2
      have := wrongN_le (t.take (runW t))
      have h1 := runW_le t
      rw [List.length_take] at this; omega
  · rename_i h0
    rw [Bool.not_eq_true, Bool.or_eq_false_iff] at h0
    have hl : 1 ≤ t.length := by cases t with
      | nil => exact absurd h0.1 (by decide)
      | cons => simp
    have hno := qscan_no t t.length 1 hl
    generalize qscan t t.length 1 = q at h hno
    unfold labQ at h
    split at h
    · rename_i hb
      injection h with _ h2; injection h2 with h2 _; subst h2
      exact hno hb
    · split at h
      · injection h with _ h2; injection h2 with h2 _; omega
      · split at h
        · injection h with _ h2; injection h2 with h2 _; omega
        · injection h with _ h2; injection h2 with _ h2; cases h2
end Go.Proofs.YtpekkdgaeadepaaDoor
