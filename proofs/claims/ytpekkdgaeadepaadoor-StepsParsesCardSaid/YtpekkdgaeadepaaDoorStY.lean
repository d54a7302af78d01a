/- Steps: plain: the text of a valid list is read back. -/
import Derived.Test.YtpekkdgaeadepaaDoorStX
namespace Go.Proofs.YtpekkdgaeadepaaDoor
open Go.RowKit

theorem ident_word {l : List UInt8} (h : identB l = true) : l ≠ [] ∧ ∀ c ∈ l, wordB c = true := by
  have tail : ∀ t : List UInt8, idTail t = true → ∀ c ∈ t, wordB c = true := by
    intro t ht c hc
    cases t with
    | nil => cases hc
    | cons a r =>
      unfold idTail at ht
      rw [Bool.and_eq_true, List.all_eq_true] at ht
      have := ht.2 c hc
      unfold wordB
      simp only [Bool.or_eq_true] at this ⊢
      rcases this with (h | h) | h
      · exact .inl (.inl (.inl h))
      · exact .inl (.inr h)
      · exact .inl (.inl (.inr h))
  unfold identB at h
  split at h
  · cases h
  · cases l with
    | nil => cases h
    | cons c t =>
      refine ⟨List.cons_ne_nil _ _, fun x hx => ?_⟩
      simp only at h
      split at h
      · rename_i hc
        rcases List.mem_cons.1 hx with rfl | hx
        · rcases hc with rfl | rfl <;> decide
        · exact tail t h x hx
      · exact tail _ h x hx
theorem run_app : ∀ (l r : List UInt8), (∀ c ∈ l, wordB c = true) → (r = [] ∨ wordB (byt r 0) = false) → runW (l ++ r) = l.length
  | [], r, _, hr => by
    unfold runW
    cases r with
    | nil => rfl
    | cons c t =>
      rcases hr with hr | hr
      · cases hr
      · have : wordB c = false := hr
        simp [this]
  | c :: l, r, h, hr => by
    have ih := run_app l r (fun x hx => h x (List.mem_cons_of_mem _ hx)) hr
    unfold runW at ih ⊢
    rw [List.cons_append, List.takeWhile_cons, if_pos (h c (List.mem_cons_self ..)), List.length_cons, ih, List.length_cons]
theorem name_ident {l r : List UInt8} (h : identB l = true) (hr : r = [] ∨ wordB (byt r 0) = false) : nameP (l ++ r) = (⟨l, 0⟩, l.length, true) := by
  unfold nameP
  rw [run_app l r (ident_word h).2 hr, List.take_left, if_pos h]
/-! the quoted form -/
theorem esc_one : ∀ c : UInt8, (escB c).length = 1 → okB c = true := forall_u8 (P := fun c => (escB c).length = 1 → okB c = true) (by decide +kernel)
theorem esc_two : ∀ c : UInt8, (escB c).length = 2 → (isB (byt (escB c) 1) 34 || isB (byt (escB c) 1) 92 || isB (byt (escB c) 1) 110 || isB (byt (escB c) 1) 116 || isB (byt (escB c) 1) 114) = true :=
  forall_u8 (P := fun c => (escB c).length = 2 → (isB (byt (escB c) 1) 34 || isB (byt (escB c) 1) 92 || isB (byt (escB c) 1) 110 || isB (byt (escB c) 1) 116 || isB (byt (escB c) 1) 114) = true) (by decide +kernel)
theorem esc_four : ∀ c : UInt8, (escB c).length = 4 → hexAt [byt (escB c) 2] c.toNat = true ∧ hexAt [byt (escB c) 2, byt (escB c) 3] c.toNat = true :=
  forall_u8 (P := fun c => (escB c).length = 4 → hexAt [byt (escB c) 2] c.toNat = true ∧ hexAt [byt (escB c) 2, byt (escB c) 3] c.toNat = true) (by decide +kernel)
theorem escP_two (b : UInt8) (r : List UInt8) (h : (isB b 34 || isB b 92 || isB b 110 || isB b 116 || isB b 114) = true) : escP (92 :: b :: r) = (2, true) := by
  have hb : byt (92 :: b :: r) 1 = b := rfl
  unfold escP
  rw [hb, if_neg (by simp), if_pos h]
theorem escP_four (x y : UInt8) (r : List UInt8) (h1 : hexP [x] = true) (h2 : hexP [x, y] = true) : escP (92 :: 120 :: x :: y :: r) = (4, true) := by
  have hb : byt (92 :: 120 :: x :: y :: r) 1 = 120 := rfl
  have s1 : sl (92 :: 120 :: x :: y :: r) 2 3 = [x] := rfl
  have s2 : sl (92 :: 120 :: x :: y :: r) 2 4 = [x, y] := rfl
  unfold escP
  rw [hb, s1, s2, h1, h2, if_neg (by simp), if_neg (by decide), if_pos (by decide), if_neg (by simp), if_neg (by decide), if_neg (by simp), if_neg (by decide)]
theorem byt_dropk (t : List UInt8) (i k : Nat) : byt (t.drop i) k = byt t (i + k) := by simp [byt, List.getD]
theorem isB_no (c : UInt8) (n : Nat) (hn : n < 256) (h : c ≠ UInt8.ofNat n) : isB c (n : Int) = false := by rw [isB_eq c n hn]; exact decide_eq_false h
theorem qscan_text (t r : List UInt8) : ∀ (l : List UInt8) (f i : Nat), t.drop i = l.flatMap escB ++ 34 :: r → l.length + 1 ≤ f → qscan t f i = (i + (l.flatMap escB).length, true)
  | _, 0, _, _, hf => by omega
  | [], f + 1, i, h, hf => by
    have hl := congrArg List.length h
    rw [List.length_drop] at hl
    simp at hl
    have hb : byt t i = 34 := by have := byt_dropk t i 0; rw [h] at this; exact this.symm
    rw [qscan, if_neg (by omega), hb, if_pos (by decide)]; rfl
  | c :: l, f + 1, i, h, hf => by
    have hlen := esc_len c
    have hl := congrArg List.length h
    rw [List.length_drop, List.flatMap_cons, List.append_assoc, List.length_append] at hl
    rw [List.flatMap_cons, List.append_assoc] at h
    have hd : t.drop (i + (escB c).length) = l.flatMap escB ++ 34 :: r := by rw [← List.drop_drop, h, List.drop_left]
    have ih := qscan_text t r l f (i + (escB c).length) hd (by simp at hf; omega)
    have hgo : qscan t (f + 1) i = qscan t f (i + (escB c).length) := by
      have hil : ¬ t.length ≤ i := by omega
      rw [qscan, if_neg hil]
      have b0 := byt_dropk t i 0
      rw [Nat.add_zero, h] at b0
      rcases esc_cases c with ⟨e, h34, h92, _⟩ | ⟨b, e, _⟩ | ⟨x, y, e, _⟩
      · rw [e] at b0
        have b0' : byt t i = c := b0.symm
        have n34 : isB c 34 = false := isB_no c 34 (by decide) h34
        have n92 : isB c 92 = false := isB_no c 92 (by decide) h92
        rw [b0', n34, n92, if_neg (by decide), if_neg (by decide), if_pos (esc_one c (by rw [e]; rfl)), e]; rfl
      · rw [e] at b0
        have b0' : byt t i = 92 := b0.symm
        have h2 := esc_two c (by rw [e]; rfl)
        rw [e] at h2
        have hs : escP (sl t i t.length) = (2, true) := by rw [sl_from, h, e]; exact escP_two b _ h2
        rw [b0', if_neg (by decide), if_pos (by decide), hs, if_pos rfl, e]; rfl
      · rw [e] at b0
        have b0' : byt t i = 92 := b0.symm
        have h4 := esc_four c (by rw [e]; rfl)
        rw [e] at h4
        have hs : escP (sl t i t.length) = (4, true) := by rw [sl_from, h, e]; exact escP_four x y _ (hexP_yes _ _ (UInt8.toNat_lt c) h4.1) (hexP_yes _ _ (UInt8.toNat_lt c) h4.2)
        rw [b0', if_neg (by decide), if_pos (by decide), hs, if_pos rfl, e]; rfl
    rw [hgo, ih, List.flatMap_cons, List.length_append, Nat.add_assoc]
theorem lab_text {l r : List UInt8} (hl : l ≠ []) (hlen : (quoteL l).length ≤ 65536) (hr : r = [] ∨ wordB (byt r 0) = false) : labP (labelL l ++ r) = (⟨l, 0⟩, (labelL l).length, true) := by
  unfold labelL
  rcases bool_two (identB l) with hi | hi
  · rw [if_neg (by rw [hi]; decide)]
    have ht : quoteL l ++ r = 34 :: (l.flatMap escB ++ 34 :: r) := by simp [quoteL]
    have hq := qscan_text (quoteL l ++ r) r l (quoteL l ++ r).length 1 (by rw [ht]; rfl) (by have := quote_len l; rw [List.length_append]; omega)
    have hb : byt (quoteL l ++ r) 0 = 34 := by rw [ht]; rfl
    have he : (quoteL l ++ r).isEmpty = false := by rw [ht]; rfl
    have hql := quoteL_length l
    unfold labP
    rw [hb, he, if_neg (by decide), hq]
    unfold labQ
    simp only
    have hs : sl (quoteL l ++ r) 0 (1 + (l.flatMap escB).length + 1) = quoteL l := by
      rw [sl_to, show 1 + (l.flatMap escB).length + 1 = (quoteL l).length by omega, List.take_left]
    have hne : l.isEmpty = false := by cases l with
      | nil => exact absurd rfl hl
      | cons => rfl
    rw [if_neg (by decide), if_neg (by rw [List.length_append]; omega), hs, unq_quote l hlen]
    simp only
    rw [hne, hi, if_neg (by decide), hql]
    congr 2; omega
  · rw [if_pos hi]
    have hw := ident_word hi
    have hlp := List.length_pos_iff.2 hl
    have hb : isB (byt (l ++ r) 0) 34 = false := by
      have e : byt (l ++ r) 0 = byt l 0 := by rw [byt_get _ 0 (by rw [List.length_append]; omega), byt_get _ 0 hlp]; exact List.getElem_append_left hlp
      rw [e]
      have := hw.2 (byt l 0) (by rw [byt_get l 0 hlp]; exact List.getElem_mem _)
      refine isB_no _ 34 (by decide) fun e2 => ?_
      rw [e2] at this; exact absurd this (by decide)
    unfold labP
    rw [hb, if_pos (by simp)]
    exact name_ident hi hr
/-! an index -/
theorem dec_head (n : Nat) (h : 1 ≤ n) : byt (Lib.decDigits n) 0 ≠ 48 := by
  induction n using Nat.strongRecOn with
  | _ n ih =>
    rw [Lib.decDigits]
    split
    · rename_i h10
      show UInt8.ofNat (48 + n) ≠ 48
      intro e
      have := congrArg UInt8.toNat e
      rw [u8_ofNat_toNat _ (by omega)] at this
      have h48 : (48 : UInt8).toNat = 48 := rfl
      omega
    · rename_i h10
      have hp := (dec_len (n / 10) (n / 10 + 1) (by omega) (Nat.lt_pow_self (by decide) |> fun h => Nat.lt_of_lt_of_le h (Nat.pow_le_pow_right (by decide) (Nat.le_succ _)))).1
      have e : byt (Lib.decDigits (n / 10) ++ [UInt8.ofNat (48 + n % 10)]) 0 = byt (Lib.decDigits (n / 10)) 0 := by
        rw [byt_get _ 0 (by rw [List.length_append]; omega), byt_get _ 0 hp]; exact List.getElem_append_left hp
      rw [e]; exact ih _ (by omega) (by omega)
theorem valD_take_le (d : List UInt8) (i : Nat) : valD (d.take i) ≤ valD d := by
  have := valD_app (d.take i) (d.drop i)
  rw [List.take_append_drop] at this
  rw [this]
  exact Nat.le_trans (Nat.le_mul_of_pos_right _ (Nat.pow_pos (by decide))) (Nat.le_add_right _ _)
theorem iscan_dec (n : Nat) (hn : n ≤ 1000000) (r t : List UInt8) (ht : t = 91 :: (Lib.decDigits n ++ 93 :: r)) : ∀ f i, 1 ≤ i → i ≤ (Lib.decDigits n).length + 1 → (Lib.decDigits n).length + 2 ≤ f + i → iscan t f i = ((Lib.decDigits n).length + 1, true)
  | 0, i, h1, h2, h3 => by omega
  | f + 1, i, h1, h2, h3 => by
    have htl : t.length = (Lib.decDigits n).length + 2 + r.length := by rw [ht, List.length_cons, List.length_append, List.length_cons]; omega
    have hby : ∀ k, byt t (k + 1) = byt (Lib.decDigits n ++ 93 :: r) k := fun k => by rw [ht]; rfl
    obtain ⟨k, rfl⟩ : ∃ k, i = k + 1 := ⟨i - 1, by omega⟩
    rw [iscan, if_neg (by omega)]
    by_cases hk : k = (Lib.decDigits n).length
    · have hb : byt t (k + 1) = 93 := by
        rw [hby, byt_get _ k (by rw [List.length_append, List.length_cons]; omega), List.getElem_append_right (by omega)]
        simp [hk]
      rw [hb, if_pos (by decide), hk]
    · have hkl : k < (Lib.decDigits n).length := by omega
      have hb : byt t (k + 1) = (Lib.decDigits n)[k] := by
        rw [hby, byt_get _ k (by rw [List.length_append]; omega)]; exact List.getElem_append_left hkl
      have hdg : digB (byt t (k + 1)) = true := by rw [hb, digB_iff]; exact dec_dgt n _ (List.getElem_mem _)
      have h48 : (decide (1 < k + 1) && isB (byt t 1) 48) = false := by
        rcases Nat.eq_zero_or_pos k with h0 | h0
        · rw [h0]; rfl
        · have hn1 : 1 ≤ n := by
            rcases Nat.eq_zero_or_pos n with hz | hz
            · exfalso
              rw [hz] at hkl
              have : (Lib.decDigits 0).length = 1 := by rw [Lib.decDigits]; rfl
              omega
            · exact hz
          have h1 : byt t 1 = byt (Lib.decDigits n) 0 := by
            rw [hby 0, byt_get _ 0 (by rw [List.length_append]; omega), byt_get _ 0 (by omega)]; exact List.getElem_append_left (by omega)
          have hx : isB (byt (Lib.decDigits n) 0) 48 = false := isB_no _ 48 (by decide) (dec_head n hn1)
          rw [h1, hx, Bool.and_false]
      have hv : ¬ 1000000 < valD (sl t 1 (k + 1 + 1)) := by
        have hs : sl t 1 (k + 1 + 1) = (Lib.decDigits n).take (k + 1) := by
          unfold sl
          rw [ht, List.drop_one, List.tail_cons, show k + 1 + 1 - 1 = k + 1 by omega, List.take_append_of_le_length (by omega)]
        have h1 := valD_take_le (Lib.decDigits n) (k + 1)
        rw [dec_val] at h1
        rw [hs]; omega
      rw [hdg, if_neg (by decide), h48, if_neg (by decide), if_neg hv]
      exact iscan_dec n hn r t ht f (k + 1 + 1) (by omega) (by omega) (by omega)
theorem idx_text (n : Nat) (hn : n ≤ 1000000) (r : List UInt8) : idxP (91 :: (Lib.decDigits n ++ [93]) ++ r) = (⟨[], (n : Int)⟩, (91 :: (Lib.decDigits n ++ [93])).length, true) := by
  have ht : 91 :: (Lib.decDigits n ++ [93]) ++ r = 91 :: (Lib.decDigits n ++ 93 :: r) := by simp
  rw [ht]
  generalize hg : (91 :: (Lib.decDigits n ++ 93 :: r) : List UInt8) = t
  have htl : t.length = (Lib.decDigits n).length + 2 + r.length := by rw [← hg, List.length_cons, List.length_append, List.length_cons]; omega
  have hp := (dec_len n 7 (by decide) (by omega)).1
  unfold idxP
  rw [iscan_dec n hn r t hg.symm t.length 1 (by omega) (by omega) (by omega)]
  have hb : byt t ((Lib.decDigits n).length + 1) = 93 := by
    rw [← hg]
    show byt (Lib.decDigits n ++ 93 :: r) (Lib.decDigits n).length = 93
    rw [byt_get _ _ (by rw [List.length_append, List.length_cons]; omega), List.getElem_append_right (by omega)]
    simp
  have hs : sl t 1 ((Lib.decDigits n).length + 1) = Lib.decDigits n := by
    unfold sl
    rw [← hg, List.drop_one, List.tail_cons, Nat.add_sub_cancel, List.take_left]
  unfold idxQ
  simp only
  rw [if_neg (by decide), hb, hs, dec_val, if_neg (by simp; exact ⟨⟨by intro e; rw [e] at hp; exact absurd hp (by decide), by omega⟩, by decide⟩)]
  congr 2
  simp
end Go.Proofs.YtpekkdgaeadepaaDoor
