/- Steps: plain: Parse of what Text writes. -/
import Derived.Test.YtpekkdgaeadepaaDoorStY
import Derived.Test.YtpekkdgaeadepaaDoorLe10
namespace Go.Proofs.YtpekkdgaeadepaaDoor
open Go.RowKit

theorem body_split (L : List Stp) (x : Stp) (R : List Stp) : bodyS (L ++ x :: R) = bodyS L ++ (bitS x L.isEmpty ++ restS R) := by
  cases L with
  | nil => rfl
  | cons y r =>
    show bitS y true ++ restS (r ++ x :: R) = bitS y true ++ restS r ++ (bitS x false ++ restS R)
    unfold restS
    rw [List.flatMap_append, List.flatMap_cons, List.append_assoc]
theorem rest_head (R : List Stp) : restS R = [] ∨ wordB (byt (restS R) 0) = false := by
  cases R with
  | nil => exact .inl rfl
  | cons x r =>
    refine .inr ?_
    have e : restS (x :: r) = bitS x false ++ restS r := by unfold restS; rw [List.flatMap_cons]
    rw [e]
    unfold bitS
    split
    · exact (by decide : wordB 91 = false)
    · exact (by decide : wordB 46 = false)
theorem lab_head {l : List UInt8} (hl : l ≠ []) (r : List UInt8) : byt (labelL l ++ r) 0 = 34 ∨ wordB (byt (labelL l ++ r) 0) = true := by
  unfold labelL
  split
  · rename_i hi
    have hlp := List.length_pos_iff.2 hl
    have e : byt (l ++ r) 0 = byt l 0 := by rw [byt_get _ 0 (by rw [List.length_append]; omega), byt_get _ 0 hlp]; exact List.getElem_append_left hlp
    rw [e, byt_get l 0 hlp]
    exact .inr ((ident_word hi).2 _ (List.getElem_mem _))
  · exact .inl rfl
theorem lab_first {l : List UInt8} (hl : l ≠ []) (r : List UInt8) (n : Nat) (hn : n < 256) (h1 : UInt8.ofNat n ≠ 34) (h2 : wordB (UInt8.ofNat n) = false) : isB (byt (labelL l ++ r) 0) (n : Int) = false := by
  refine isB_no _ n hn fun e => ?_
  rcases lab_head hl r with h | h
  · exact h1 (e.symm.trans h)
  · rw [e, h2] at h; cases h
theorem pgo_text (s : List UInt8) : ∀ (R L : List Stp) (f : Nat), okL (L ++ R) = true → (L ≠ [] ∨ R ≠ []) → (∀ x ∈ R, (quoteL x.lab).length ≤ 65536) → s = bodyS (L ++ R) → R.length + 1 ≤ f → pgo s f (bodyS L).length L = (L ++ R, 0, 0)
  | _, _, 0, _, _, _, _, hf => by omega
  | [], L, f + 1, hk, hne, _, hs, hf => by
    rw [List.append_nil] at hs ⊢
    have hL : L.isEmpty = false := by cases L with
      | nil => rcases hne with h | h <;> exact absurd rfl h
      | cons => rfl
    rw [pgo, hs, hL, decide_eq_false (Nat.lt_irrefl _), if_pos (by decide)]
  | x :: R, L, f + 1, hk, _, hq, hs, hf => by
    have hb := body_split L x R
    rw [← hs] at hb
    have hpos := (lab_le x L.isEmpty).2
    have hd : s.drop (bodyS L).length = bitS x L.isEmpty ++ restS R := by rw [hb, List.drop_left]
    have hlen : s.length = (bodyS L).length + ((bitS x L.isEmpty).length + (restS R).length) := by rw [hb, List.length_append, List.length_append]
    have hlt : (bodyS L).length < s.length := by omega
    have hxk : okS x = true := List.all_eq_true.1 hk x (List.mem_append_right _ (List.mem_cons_self ..))
    have b0 : byt s (bodyS L).length = byt (bitS x L.isEmpty ++ restS R) 0 := by rw [← hd, byt_dropk]; rfl
    have ih := pgo_text s R (L ++ [x]) f (by rw [List.append_assoc]; exact hk) (.inl (by simp)) (fun y hy => hq y (List.mem_cons_of_mem _ hy)) (by rw [List.append_assoc]; exact hs) (by simp at hf; omega)
    rw [List.append_assoc] at ih
    have hsn : (bodyS (L ++ [x])).length = (bodyS L).length + (bitS x L.isEmpty).length := by rw [bodyS_snoc, List.length_append]
    have key : ∃ b n, rdAt s (bodyS L).length L = ((x, n, true), b) ∧ b + n = (bodyS (L ++ [x])).length ∧ (!(decide ((bodyS L).length < s.length) && isB (byt s (bodyS L).length) 91) && (!L.isEmpty && !isB (byt s (bodyS L).length) 46)) = false := by
      rw [hsn]
      rcases Decidable.em (x.lab = []) with hx | hx
      · obtain ⟨lab, idx⟩ := x
        simp only at hx
        subst hx
        obtain ⟨n, rfl, hn⟩ := okS_idx hxk
        rw [bit_idx] at hd b0 ⊢
        have h91 : byt s (bodyS L).length = 91 := by rw [b0]; rfl
        refine ⟨(bodyS L).length, _, ?_, rfl, ?_⟩
        · unfold rdAt
          rw [decide_eq_true hlt, h91, if_pos (by decide), sl_from, hd, idx_text n hn]
        · rw [decide_eq_true hlt, h91, show isB 91 91 = true by decide]; rfl
      · obtain ⟨lab, idx⟩ := x
        have hi : idx = 0 := by unfold okS at hxk; rw [if_neg hx] at hxk; exact of_decide_eq_true hxk
        simp only at hx
        subst hi
        have hql : (quoteL lab).length ≤ 65536 := hq ⟨lab, 0⟩ (List.mem_cons_self ..)
        rcases bool_two L.isEmpty with hL | hL
        · rw [hL] at hd b0 ⊢
          rw [bit_lab lab 0 false hx, if_neg (by decide)] at hd b0 ⊢
          have h46 : byt s (bodyS L).length = 46 := by rw [b0]; rfl
          have hd1 : s.drop ((bodyS L).length + 1) = labelL lab ++ restS R := by rw [← List.drop_drop, hd]; rfl
          refine ⟨(bodyS L).length + 1, (labelL lab).length, ?_, by rw [List.length_cons]; omega, ?_⟩
          · unfold rdAt
            rw [h46, show isB 46 91 = false by decide, Bool.and_false, if_neg (by decide), hL, if_neg (by decide), sl_from, hd1, lab_text hx hql (rest_head R)]
          · rw [h46, show isB 46 91 = false by decide, show isB 46 46 = true by decide, Bool.and_false]; rfl
        · rw [hL] at hd b0 ⊢
          rw [bit_lab lab 0 true hx, if_pos rfl] at hd b0 ⊢
          have h91 : isB (byt s (bodyS L).length) 91 = false := by rw [b0]; exact lab_first hx _ 91 (by decide) (by decide) (by decide)
          refine ⟨(bodyS L).length, (labelL lab).length, ?_, rfl, ?_⟩
          · unfold rdAt
            rw [h91, Bool.and_false, if_neg (by decide), hL, if_pos rfl, sl_from, hd, lab_text hx hql (rest_head R)]
          · rw [Bool.not_true, Bool.false_and, Bool.and_false]
    obtain ⟨b, n, hr, hbn, hsep⟩ := key
    rw [pgo, hsep, hr, decide_eq_true hlt, Bool.not_true, Bool.false_and, if_neg (by decide), if_neg (by decide)]
    simp only [if_true]
    rw [hbn]; exact ih
theorem first_bit {x : Stp} (r : List UInt8) : byt (bitS x true ++ r) 0 ≠ 46 := by
  unfold bitS
  split
  · show (91 : UInt8) ≠ 46; decide
  · rename_i h
    rw [if_pos rfl]
    intro e
    have := lab_first h r 46 (by decide) (by decide) (by decide)
    rw [e] at this; exact absurd this (by decide)
theorem parse_text (L : List Stp) (hk : okL L = true) (hq : ∀ x ∈ L, (quoteL x.lab).length ≤ 65536) (hs : (textS L).length ≤ 65536) : parseP (textS L) = (L, 0, 0) := by
  by_cases h0 : L = []
  · subst h0; rfl
  · rw [textS_body L hk h0] at hs ⊢
    cases L with
    | nil => exact absurd rfl h0
    | cons x r =>
      have hb : bodyS (x :: r) = bitS x true ++ restS r := rfl
      have hf := first_bit (x := x) (restS r)
      rw [← hb] at hf
      have hpos := (lab_le x true).2
      have hp := pgo_text (bodyS (x :: r)) (x :: r) [] ((bodyS (x :: r)).length + 1) hk (.inr (by simp)) hq rfl (by have := (body_bounds (x :: r)).1; omega)
      have h46 : isB (byt (bodyS (x :: r)) 0) 46 = false := isB_no _ 46 (by decide) hf
      unfold parseP
      rw [if_neg (by omega), if_neg (by intro e; rw [eq_of_beq e] at hf; exact hf rfl), h46, Bool.and_false, if_neg (by decide)]
      exact hp
theorem small_quote {L : List Stp} (h : smallL L = true) : (∀ x ∈ L, (quoteL x.lab).length ≤ 65536) ∧ (okL L = true → (textS L).length ≤ 65536) := by
  unfold smallL at h
  rw [Bool.and_eq_true, decide_eq_true_eq, List.all_eq_true] at h
  have h60 : ∀ x ∈ L, x.lab.length ≤ 60 := fun x hx => of_decide_eq_true (h.1 x hx)
  refine ⟨fun x hx => by have := quote_len x.lab; have := h60 x hx; omega, fun hk => ?_⟩
  have bit : ∀ x ∈ L, ∀ b, (bitS x b).length ≤ 250 := fun x hx b => by
    have hq := quote_len x.lab
    have h1 := h60 x hx
    have hok := List.all_eq_true.1 hk x hx
    have hlab : (labelL x.lab).length ≤ 242 := by unfold labelL; split <;> omega
    unfold bitS
    split
    · rename_i hx0
      unfold okS at hok
      rw [if_pos hx0] at hok
      simp at hok
      have := (dec_len x.idx.toNat 7 (by decide) (by omega)).2
      simp; omega
    · split
      · omega
      · rw [List.length_cons]; omega
  have rest : ∀ R : List Stp, (∀ x ∈ R, ∀ b, (bitS x b).length ≤ 250) → (restS R).length ≤ 250 * R.length := by
    intro R
    induction R with
    | nil => intro _; exact Nat.le_refl _
    | cons y r ih =>
      intro hR
      have h1 := ih (fun x hx => hR x (List.mem_cons_of_mem _ hx))
      have h2 := hR y (List.mem_cons_self ..) false
      have e : (restS (y :: r)).length = (bitS y false).length + (restS r).length := by unfold restS; rw [List.flatMap_cons, List.length_append]
      rw [e, List.length_cons]; omega
  by_cases h0 : L = []
  · subst h0; decide
  · rw [textS_body L hk h0]
    cases L with
    | nil => exact absurd rfl h0
    | cons y r =>
      have e : (bodyS (y :: r)).length = (bitS y true).length + (restS r).length := List.length_append
      have h1 := rest r (fun x hx => bit x (List.mem_cons_of_mem _ hx))
      have h2 := bit y (List.mem_cons_self ..) true
      have h3 := h.2
      rw [List.length_cons] at h3
      rw [e]; omega
theorem text_inj {L M : List Stp} (hL : smallL L = true) (hM : smallL M = true) (kL : okL L = true) (kM : okL M = true) : (textS L == textS M) = decide (L = M) := by
  have h1 := parse_text L kL (small_quote hL).1 ((small_quote hL).2 kL)
  have h2 := parse_text M kM (small_quote hM).1 ((small_quote hM).2 kM)
  by_cases h : L = M
  · subst h; simp
  · have hn : textS L ≠ textS M := fun e => by rw [e, h2] at h1; exact h (Prod.mk.inj h1).1.symm
    rw [decide_eq_false h, beq_eq_false_iff_ne]; exact hn
theorem parse_bad : parseP [63] = ([], 8, 0) := by decide +kernel
end Go.Proofs.YtpekkdgaeadepaaDoor
