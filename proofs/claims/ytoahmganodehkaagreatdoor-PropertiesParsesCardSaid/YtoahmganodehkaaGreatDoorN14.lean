import Derived.Test.YtoahmganodehkaaGreatDoorN13
import Derived.Test.YtoahmganodehkaaGreatDoorN01
namespace Go.Proofs.YtoahmganodehkaaGreatDoor
set_option linter.unusedSimpArgs false
set_option linter.unusedVariables false
section
open Go.RowKit
theorem ident_gen (u : List UInt8) (h : Nat) (hh : h = if byt u 0 = 35 ∨ byt u 0 = 95 then 1 else 0) :
   identB u = (decide (u.length ≤ 32) && !wordsL.contains u && decide (h < u.length) && letterB (byt u h) && (u.drop h).all idByte) := by
 by_cases hb : 32 < u.length
 · rw [identB_big hb, decide_eq_false (by omega)]; rfl
 rw [decide_eq_true (by omega), Bool.true_and]
 rcases (bool_two (wordsL.contains u)).symm with hw | hw
 · rw [identB_word hw, hw]; rfl
 rw [hw, Bool.not_false, Bool.true_and]
 by_cases h0 : u.length = 0
 · obtain rfl := List.eq_nil_of_length_eq_zero h0
   rw [identB_nil]; simp
 rw [identB_rest hb hw (by omega)]
 have tail : ∀ m : List UInt8, idTail m = (decide (0 < m.length) && letterB (byt m 0) && m.all idByte) := by
   intro m
   cases m with
   | nil => rfl
   | cons c t =>
     rw [decide_eq_true (by simp), Bool.true_and]
     rcases bool_two (letterB c) with hc | hc
     · rw [idTail_neg (m := c :: t) (by simp) hc, show byt (c :: t) 0 = c from rfl, hc]; rfl
     · rw [idTail_pos (m := c :: t) (by simp) hc, show byt (c :: t) 0 = c from rfl, hc, Bool.true_and]
 by_cases hc : byt u 0 = 35 ∨ byt u 0 = 95
 · rw [if_pos hc] at hh ⊢
   subst hh
   rw [tail, byt_drop, List.length_drop]
   rw [show decide (0 < u.length - 1) = decide (1 < u.length) from decide_eq_decide.2 (by omega)]
 · rw [if_neg hc] at hh ⊢
   subst hh
   rw [tail]; rfl
theorem all_iff (u : List UInt8) (h : Nat) : (u.drop h).all idByte = true ↔ ∀ k, h ≤ k → k < u.length → idByte (byt u k) = true := by
 rw [List.all_eq_true]
 constructor
 · intro hh k h1 h2
   refine hh _ ?_
   rw [byt_get u k h2]
   rw [List.mem_iff_getElem]
   exact ⟨k - h, by rw [List.length_drop]; omega, by rw [List.getElem_drop]; congr 1; omega⟩
 · intro hh c hc
   obtain ⟨i, hi, rfl⟩ := List.mem_iff_getElem.1 hc
   rw [List.length_drop] at hi
   rw [List.getElem_drop]
   have := hh (h + i) (by omega) (by omega)
   rw [byt_get u _ (by omega)] at this
   exact this
theorem word_short : ∀ u, wordsL.contains u = true → u.length ≤ 7 ∧ byt u (u.length - 1) ≠ 97 ∧ 2 ≤ u.length ∧ letterB (byt u 0) = true := by
 intro u hu
 rw [List.contains_iff_mem] at hu
 have : ∀ x ∈ wordsL, x.length ≤ 7 ∧ byt x (x.length - 1) ≠ 97 ∧ 2 ≤ x.length ∧ letterB (byt x 0) = true := by decide
 exact this u hu
theorem byt_take (t : List UInt8) (m k : Nat) (h : k < m) : byt (t.take m) k = byt t k := by simp [byt, List.getD, List.getElem?_take, h]
theorem byt_app (u v : List UInt8) (k : Nat) : byt (u ++ v) k = if k < u.length then byt u k else byt v (k - u.length) := by
 unfold byt List.getD
 rw [List.getElem?_append]
 split <;> rfl
def hdN (t : List UInt8) : Nat := if byt t 0 = 35 ∨ byt t 0 = 95 then 1 else 0
theorem ident_take (t : List UInt8) (m : Nat) (hm : m ≤ t.length) : identB (t.take m) = true ↔ m ≤ 32 ∧ wordsL.contains (t.take m) = false ∧ hdN t < m ∧ letterB (byt t (hdN t)) = true ∧ ∀ k, hdN t ≤ k → k < m → idByte (byt t k) = true := by
 have hl : (t.take m).length = m := by rw [List.length_take]; omega
 by_cases h0 : m = 0
 · subst h0; rw [List.take_zero, identB_nil]; constructor <;> intro h; cases h; omega
 have hb : byt (t.take m) 0 = byt t 0 := byt_take t m 0 (by omega)
 rw [ident_gen (t.take m) (hdN t) (by rw [hb]; rfl), hl]
 simp only [Bool.and_eq_true, decide_eq_true_eq, Bool.not_eq_true', all_iff, hl]
 constructor
 · rintro ⟨⟨⟨⟨h1, h2⟩, h3⟩, h4⟩, h5⟩
   rw [byt_take t m _ h3] at h4
   exact ⟨h1, h2, h3, h4, fun k k1 k2 => by have := h5 k k1 k2; rwa [byt_take t m k k2] at this⟩
 · rintro ⟨h1, h2, h3, h4, h5⟩
   rw [byt_take t m _ h3]
   exact ⟨⟨⟨⟨h1, h2⟩, h3⟩, h4⟩, fun k k1 k2 => by rw [byt_take t m k k2]; exact h5 k k1 k2⟩
theorem ident_more (t : List UInt8) (m : Nat) (h0 : 0 < m) (hm : m ≤ t.length) : identB (t.take m ++ [97]) = true ↔ m < 32 ∧ ∀ k, hdN t ≤ k → k < m → (k = hdN t → letterB (byt t k) = true) ∧ idByte (byt t k) = true := by
 have hl : (t.take m ++ [97]).length = m + 1 := by rw [List.length_append, List.length_take]; simp; omega
 have hlt : (t.take m).length = m := by rw [List.length_take]; omega
 have hby : ∀ k, k < m → byt (t.take m ++ [97]) k = byt t k := fun k hk => by rw [byt_app, if_pos (by omega), byt_take t m k hk]
 have hlast : byt (t.take m ++ [97]) m = 97 := by rw [byt_app, if_neg (by omega), hlt, Nat.sub_self]; rfl
 have hw : wordsL.contains (t.take m ++ [97]) = false := by
   rcases bool_two (wordsL.contains (t.take m ++ [97])) with h | h
   · exact h
   · have := (word_short _ h).2.1
     rw [hl, Nat.add_sub_cancel, hlast] at this
     exact absurd rfl this
 have hb : byt (t.take m ++ [97]) 0 = byt t 0 := hby 0 h0
 have hh : hdN t ≤ 1 := by unfold hdN; split <;> omega
 rw [ident_gen _ (hdN t) (by rw [hb]; rfl), hl, hw]
 simp only [Bool.and_eq_true, decide_eq_true_eq, Bool.not_false, all_iff, hl, and_true]
 constructor
 · rintro ⟨⟨⟨h1, h3⟩, h4⟩, h5⟩
   refine ⟨by omega, fun k k1 k2 => ⟨fun e => ?_, ?_⟩⟩
   · subst e; rwa [hby _ k2] at h4
   · have := h5 k k1 (by omega); rwa [hby k k2] at this
 · rintro ⟨h1, h5⟩
   refine ⟨⟨⟨by omega, by omega⟩, ?_⟩, fun k k1 k2 => ?_⟩
   · rcases Nat.lt_or_ge (hdN t) m with h | h
     · rw [hby _ h]; exact (h5 _ (Nat.le_refl _) h).1 rfl
     · rw [show hdN t = m by omega, hlast]; decide
   · rcases Nat.lt_or_ge k m with h | h
     · rw [hby _ h]; exact (h5 k k1 h).2
     · rw [show k = m by omega, hlast]; decide
theorem bad_iff (l : List UInt8) (k : Nat) : badAt l k = true ↔ identB (l.take (k + 1)) = false ∧ identB (l.take (k + 1) ++ [97]) = false := by
 unfold badAt; simp
theorem take_take' (t : List UInt8) (r k : Nat) (h : k ≤ r) : (t.take r).take k = t.take k := by rw [List.take_take, Nat.min_eq_left h]
theorem rrun_spec (s : List UInt8) (b : Nat) : ∀ f a, s.length + 1 ≤ f + a → b ≤ a → a ≤ b + 32 → a ≤ s.length →
   ∃ e, a ≤ e ∧ e ≤ b + 32 ∧ e ≤ s.length ∧ (∀ k, a ≤ k → k < e → idByte (byt s k) = true) ∧
     ((rrun s b f a = (e, false) ∧ (e = s.length ∨ (e < s.length ∧ idByte (byt s e) = false))) ∨ (rrun s b f a = (e, true) ∧ e = b + 32 ∧ e < s.length ∧ idByte (byt s e) = true)) := by
 intro f
 induction f with
 | zero => intro a h1 h2 h3 h4; omega
 | succ f ih =>
   intro a h1 h2 h3 h4
   rw [rrun]
   by_cases ha : s.length ≤ a
   · rw [if_pos ha]
     exact ⟨a, Nat.le_refl _, h3, h4, fun k k1 k2 => by omega, .inl ⟨rfl, .inl (by omega)⟩⟩
   rw [if_neg ha]
   rcases bool_two (idByte (byt s a)) with hi | hi
   · rw [if_pos hi]
     exact ⟨a, Nat.le_refl _, h3, h4, fun k k1 k2 => by omega, .inl ⟨rfl, .inr ⟨by omega, hi⟩⟩⟩
   rw [if_neg (by rw [hi]; decide)]
   by_cases h32 : a - b = 32
   · rw [if_pos h32]
     exact ⟨a, Nat.le_refl _, h3, h4, fun k k1 k2 => by omega, .inr ⟨rfl, by omega, by omega, hi⟩⟩
   rw [if_neg h32]
   obtain ⟨e, k1, k2, k3, k4, k5⟩ := ih (a + 1) (by omega) (by omega) (by omega) (by omega)
   refine ⟨e, by omega, k2, k3, fun k j1 j2 => ?_, k5⟩
   rcases Nat.lt_or_ge a k with h | h
   · exact k4 k (by omega) j2
   · rw [show k = a by omega]; exact hi
theorem runW_ge (t : List UInt8) (m : Nat) (hm : m ≤ t.length) (h : ∀ k, k < m → wordB (byt t k) = true) : m ≤ runW t := by
 induction m generalizing t with
 | zero => exact Nat.zero_le _
 | succ m ih =>
   cases t with
   | nil => simp at hm
   | cons c t =>
     have hc : wordB c = true := h 0 (by omega)
     have := ih t (by simpa using hm) (fun k hk => h (k + 1) (by omega))
     unfold runW at *
     rw [List.takeWhile_cons, if_pos hc, List.length_cons]; omega
theorem runW_word (t : List UInt8) : ∀ k, k < runW t → wordB (byt t k) = true := by
 induction t with
 | nil => intro k hk; simp [runW] at hk
 | cons c t ih =>
   intro k hk
   unfold runW at hk ih
   rw [List.takeWhile_cons] at hk
   split at hk
   · rename_i hc
     cases k with
     | zero => exact hc
     | succ k => exact ih k (by simpa using hk)
   · simp at hk
theorem idB_word {c : UInt8} (h : idByte c = true) : wordB c = true := by
 unfold idByte at h; unfold wordB
 simp only [Bool.or_eq_true] at *
 rcases h with (h | h) | h
 · exact .inl (.inl (.inl h))
 · exact .inl (.inr h)
 · exact .inl (.inl (.inr h))
theorem word_not_id {c : UInt8} (h : wordB c = true) (hi : idByte c = false) : c = 35 := by
 unfold idByte at hi; unfold wordB at h
 simp only [Bool.or_eq_false_iff] at hi
 rw [hi.1.1, hi.1.2, hi.2] at h
 simpa using h
theorem lett_id {c : UInt8} (h : letterB c = true) : idByte c = true := by unfold idByte; rw [h]; rfl
theorem byt_end (t : List UInt8) (k : Nat) (h : t.length ≤ k) : byt t k = 0 := by simp [byt, List.getD, List.getElem?_eq_none h]
theorem name_ref (s : List UInt8) (b : Nat) (t : List UInt8) (ht : t = sl s b s.length) (hb : b ≤ s.length) :
   let r := (if s.length ≤ rhd s b then (([] : List UInt8), rhd s b, true) else if letterB (byt s (rhd s b)) = false then ([], rhd s b, true) else ridn s b (rrun s b (s.length + 1) (rhd s b)))
   ((nameP t).2.2 = true ∧ r = ((nameP t).1.lab, b + (nameP t).2.1, false) ∧ (nameP t).1.idx = 0) ∨
   ((nameP t).2.2 = false ∧ r.2.2 = true ∧ r.2.1 = b + (nameP t).2.1) ∨
   ((nameP t).2.2 = false ∧ r.2.2 = false ∧ r.2.1 = b + (nameP t).2.1 ∧ r.2.1 < s.length ∧ byt s r.2.1 = 35) := by
 intro r
 have htl : t.length = s.length - b := by rw [ht]; exact sl_len s b s.length hb (Nat.le_refl _)
 have hbt : ∀ k, byt t k = byt s (b + k) := fun k => by rw [ht]; exact byt_sl s b k
 have hhd : rhd s b = b + hdN t := by
   unfold rhd hdN
   rw [hbt 0, Nat.add_zero]
   by_cases hlt : b < s.length
   · by_cases h1 : byt s b = 35 <;> by_cases h2 : byt s b = 95 <;> simp [hlt, h1, h2]
   · rw [if_neg (by omega), Nat.add_zero, byt_end s b (by omega)]; simp
 have hrw := runW_word t
 have hrl := runW_le t
 have hhd1 : hdN t ≤ 1 := by unfold hdN; split <;> omega
 -- the first fault
 have wrong : ∀ m, m ≤ runW t → (∀ k, k < m → badAt (t.take (runW t)) k = false) → (m = runW t ∨ (m < runW t ∧ badAt (t.take (runW t)) m = true)) → wrongN (t.take (runW t)) = m := by
   intro m h1 h2 h3
   have hl : (t.take (runW t)).length = runW t := by rw [List.length_take]; omega
   rcases h3 with h3 | ⟨h3, h4⟩
   · rw [wrongN_none _ (fun k hk => h2 k (by omega)), hl, h3]
   · exact wrongN_at _ m (by omega) h4 h2
 have good : ∀ k, k < runW t → k + 1 < 32 → (∀ j, hdN t ≤ j → j < k + 1 → (j = hdN t → letterB (byt t j) = true) ∧ idByte (byt t j) = true) → badAt (t.take (runW t)) k = false := by
   intro k h1 h2 h3
   rcases bool_two (badAt (t.take (runW t)) k) with h | h
   · exact h
   · rw [bad_iff, take_take' _ _ _ (by omega)] at h
     have := (ident_more t (k + 1) (by omega) (by omega)).2 ⟨h2, h3⟩
     rw [h.2] at this; cases this
 have bad : ∀ k, k < runW t → ¬ (k + 1 ≤ 32 ∧ ∀ j, hdN t ≤ j → j < k + 1 → (j = hdN t → letterB (byt t j) = true) ∧ idByte (byt t j) = true) → badAt (t.take (runW t)) k = true := by
   intro k h1 h2
   rw [bad_iff, take_take' _ _ _ (by omega)]
   constructor
   · rcases bool_two (identB (t.take (k + 1))) with h | h
     · exact h
     · exfalso; apply h2
       obtain ⟨k1, k2, k3, k4, k5⟩ := (ident_take t (k + 1) (by omega)).1 h
       exact ⟨k1, fun j j1 j2 => ⟨fun e => by rw [e]; exact k4, k5 j j1 j2⟩⟩
   · rcases bool_two (identB (t.take (k + 1) ++ [97])) with h | h
     · exact h
     · exfalso; apply h2
       obtain ⟨k1, k2⟩ := (ident_more t (k + 1) (by omega) (by omega)).1 h
       exact ⟨by omega, k2⟩
 have noid : identB (t.take (runW t)) = false → nameP t = (noS, wrongN (t.take (runW t)), false) := fun h => by unfold nameP; rw [if_neg (by rw [h]; decide)]
 by_cases hA : s.length ≤ rhd s b ∨ letterB (byt s (rhd s b)) = false
 · have hr : r = ([], b + hdN t, true) := by
     show (if s.length ≤ rhd s b then (([] : List UInt8), rhd s b, true) else _) = _
     rcases hA with h | h
     · rw [if_pos h, hhd]
     · by_cases h' : s.length ≤ rhd s b
       · rw [if_pos h', hhd]
       · rw [if_neg h', if_pos h, hhd]
   have hle : hdN t ≤ runW t := by
     refine runW_ge t (hdN t) ?_ fun k hk => ?_
     · unfold hdN
       split
       · rename_i h
         rcases Nat.eq_zero_or_pos t.length with h0 | h0
         · rw [byt_end t 0 (by omega)] at h; rcases h with h | h <;> cases h
         · omega
       · omega
     · have : k = 0 := by omega
       subst this
       unfold hdN at hk
       split at hk
       · rename_i h; rcases h with h | h <;> rw [h] <;> decide
       · omega
   have hno : identB (t.take (runW t)) = false := by
     rcases bool_two (identB (t.take (runW t))) with h | h
     · exact h
     · obtain ⟨k1, k2, k3, k4, k5⟩ := (ident_take t _ hrl).1 h
       rw [hbt, ← hhd] at k4
       rcases hA with hA | hA
       · omega
       · rw [hA] at k4; cases k4
   have hw : wrongN (t.take (runW t)) = hdN t := by
     refine wrong _ hle (fun k hk => good k (by omega) (by omega) (fun j j1 j2 => by omega)) ?_
     rcases Nat.lt_or_ge (hdN t) (runW t) with h | h
     · refine .inr ⟨h, bad _ h fun hh => ?_⟩
       have := (hh.2 (hdN t) (Nat.le_refl _) (by omega)).1 rfl
       rw [hbt, ← hhd] at this
       rcases hA with hA | hA
       · omega
       · rw [hA] at this; cases this
     · exact .inl (by omega)
   rw [noid hno, hr, hw]
   exact .inr (.inl ⟨rfl, rfl, rfl⟩)
 have hA1 : ¬ s.length ≤ rhd s b := fun h => hA (.inl h)
 have hA2 : letterB (byt s (rhd s b)) = true := by
   rcases bool_two (letterB (byt s (rhd s b))) with h | h
   · exact absurd (.inr h) hA
   · exact h
 have hr : r = ridn s b (rrun s b (s.length + 1) (rhd s b)) := by
   show (if s.length ≤ rhd s b then (([] : List UInt8), rhd s b, true) else _) = _
   rw [if_neg hA1, if_neg (by rw [hA2]; decide)]
 clear hA
 obtain ⟨e0, k1, k2, k3, k4, k5⟩ := rrun_spec s b (s.length + 1) (rhd s b) (by omega) (by omega) (by omega) (by omega)
 obtain ⟨e, rfl⟩ : ∃ e, e0 = b + e := ⟨e0 - b, by omega⟩
 rw [hhd] at k1 k4 hA2 hA1
 have hid : ∀ k, hdN t ≤ k → k < e → idByte (byt t k) = true := fun k h1 h2 => by rw [hbt]; exact k4 _ (by omega) (by omega)
 have hlet : letterB (byt t (hdN t)) = true := by rw [hbt]; exact hA2
 have hwd : ∀ k, k < e → wordB (byt t k) = true := by
   intro k hk
   rcases Nat.lt_or_ge k (hdN t) with h | h
   · have : k = 0 := by omega
     subst this
     unfold hdN at h
     split at h
     · rename_i h'; rcases h' with h' | h' <;> rw [h'] <;> decide
     · omega
   · exact idB_word (hid k h hk)
 have hge := runW_ge t e (by omega) hwd
 have hok : ∀ m, m ≤ e → ∀ j, hdN t ≤ j → j < m → (j = hdN t → letterB (byt t j) = true) ∧ idByte (byt t j) = true := fun m hm j j1 j2 => ⟨fun e => by rw [e]; exact hlet, hid j j1 (by omega)⟩
 have hgood : ∀ k, k < e → k < 31 → badAt (t.take (runW t)) k = false := fun k h1 h2 => good k (by omega) (by omega) (hok _ (by omega))
 -- 32 bytes are an identifier, no word is so long
 have hgood31 : e = 32 → badAt (t.take (runW t)) 31 = false := by
   intro h
   rcases bool_two (badAt (t.take (runW t)) 31) with hb | hb
   · exact hb
   · rw [bad_iff, take_take' _ _ _ (by omega)] at hb
     have : identB (t.take (31 + 1)) = true := by
       refine (ident_take t 32 (by omega)).2 ⟨by omega, ?_, by omega, hlet, fun k h1 h2 => hid k h1 (by omega)⟩
       rcases bool_two (wordsL.contains (t.take 32)) with h | h
       · exact h
       · have := (word_short _ h).1
         rw [List.length_take] at this; omega
     rw [hb.1] at this; cases this
 have hgoods : ∀ k, k < e → badAt (t.take (runW t)) k = false := by
   intro k hk
   rcases Nat.lt_or_ge k 31 with h | h
   · exact hgood k hk h
   · have : k = 31 := by omega
     subst this
     exact hgood31 (by omega)
 rcases k5 with ⟨k5, k6⟩ | ⟨k5, k6, k7, k8⟩
 · rw [k5] at hr
   have hsl : sl s b (b + e) = t.take e := by rw [ht, ← sl_to, sl_sl, Nat.add_zero]
   unfold ridn at hr
   simp only [Bool.false_eq_true, if_false] at hr
   rw [hsl] at hr
   have hel : hdN t < e := by
     rcases Nat.lt_or_ge (hdN t) e with h | h
     · exact h
     · exfalso
       have hee : e = hdN t := by omega
       rcases k6 with h6 | ⟨h6, h7⟩
       · omega
       · rw [hee] at h7
         rw [lett_id hA2] at h7; cases h7
   by_cases hre : runW t = e
   · rcases (bool_two (wordsL.contains (t.take e))).symm with hw | hw
     · rw [if_pos hw] at hr
       have hno : identB (t.take (runW t)) = false := by rw [hre]; exact identB_word hw
       rw [noid hno, hr, wrong e (by omega) hgoods (.inl hre.symm)]
       exact .inr (.inl ⟨rfl, rfl, rfl⟩)
     · rw [if_neg (by rw [hw]; decide)] at hr
       have hyes : identB (t.take (runW t)) = true := by
         rw [hre]
         exact (ident_take t e (by omega)).2 ⟨by omega, hw, hel, hlet, hid⟩
       have hn : nameP t = (⟨t.take (runW t), 0⟩, runW t, true) := by unfold nameP; rw [if_pos hyes]
       rw [hn, hr, hre]
       exact .inl ⟨rfl, rfl, rfl⟩
   · have hlt : e < runW t := by omega
     have hbe : byt t e = 35 := by
       refine word_not_id (hrw e hlt) ?_
       rcases k6 with h6 | ⟨h6, h7⟩
       · omega
       · rw [hbt]; exact h7
     have hno : identB (t.take (runW t)) = false := by
       rcases bool_two (identB (t.take (runW t))) with h | h
       · exact h
       · obtain ⟨j1, j2, j3, j4, j5⟩ := (ident_take t _ hrl).1 h
         have := j5 e (by omega) hlt
         rw [hbe] at this; exact absurd this (by decide)
     have hwr : wrongN (t.take (runW t)) = e := by
       refine wrong e (by omega) hgoods (.inr ⟨hlt, bad e hlt fun hh => ?_⟩)
       have := (hh.2 e (by omega) (by omega)).2
       rw [hbe] at this; exact absurd this (by decide)
     rw [noid hno, hr, hwr]
     rcases (bool_two (wordsL.contains (t.take e))).symm with hw | hw
     · rw [if_pos hw]; exact .inr (.inl ⟨rfl, rfl, rfl⟩)
     · rw [if_neg (by rw [hw]; decide)]
       refine .inr (.inr ⟨rfl, rfl, rfl, ?_, ?_⟩)
       · simp only; omega
       · simp only; rw [← hbt]; exact hbe
 · rw [k5] at hr
   unfold ridn at hr
   simp only [if_true] at hr
   have he32 : e = 32 := by omega
   subst he32
   have hlt : 32 < runW t := by
     have : (32 + 1) ≤ runW t := runW_ge t (32 + 1) (by omega) fun k hk => by
       rcases Nat.lt_or_ge k 32 with h | h
       · exact hwd k h
       · rw [show k = 32 by omega]; refine idB_word ?_; rw [hbt]; exact k8
     omega
   have hno : identB (t.take (runW t)) = false := identB_big (by rw [List.length_take]; omega)
   have hwr : wrongN (t.take (runW t)) = 32 := wrong 32 (by omega) hgoods (.inr ⟨hlt, bad 32 hlt fun hh => by omega⟩)
   rw [noid hno, hr, hwr]
   exact .inr (.inl ⟨rfl, rfl, rfl⟩)
theorem lab_both (s : List UInt8) (hs : s.length ≤ 65536) (b : Nat) (hb : b ≤ s.length) :
   ((labP (sl s b s.length)).2.2 = true ∧ rlab s b = ((labP (sl s b s.length)).1.lab, b + (labP (sl s b s.length)).2.1, false) ∧ (labP (sl s b s.length)).1.idx = 0) ∨
   ((labP (sl s b s.length)).2.2 = false ∧ (rlab s b).2.2 = true ∧ (rlab s b).2.1 = b + (labP (sl s b s.length)).2.1) ∨
   ((labP (sl s b s.length)).2.2 = false ∧ (rlab s b).2.2 = false ∧ (rlab s b).2.1 = b + (labP (sl s b s.length)).2.1 ∧ (rlab s b).2.1 < s.length ∧ byt s (rlab s b).2.1 = 35) := by
 generalize ht : sl s b s.length = t
 have htl : t.length = s.length - b := by rw [← ht]; exact sl_len s b s.length hb (Nat.le_refl _)
 have hbt : ∀ k, byt t k = byt s (b + k) := fun k => by rw [← ht]; exact byt_sl s b k
 by_cases hq : b < s.length ∧ byt s b = 34
 · have h34 : isB (byt t 0) 34 = true := b34y (by rw [hbt]; exact hq.2)
   have hne : t.isEmpty = false := by cases t with
     | nil => simp at htl; omega
     | cons => rfl
   have hl : labP t = labQ t (qscan t t.length 1) := by unfold labP; rw [hne, h34]; rfl
   have hr : rlab s b = rquo s (s.length + 1) (b + 1) [] := by unfold rlab; rw [if_pos hq]
   rw [hl, hr]
   have hqs := quo_both s b t ht.symm hb t.length 1 (s.length + 1) [] (by omega) (by omega) (by omega)
   generalize qscan t t.length 1 = q at hqs ⊢
   obtain ⟨j, ok⟩ := q
   simp only [List.nil_append] at hqs
   unfold labQ
   rcases hqs with ⟨h1, h2⟩ | ⟨h1, h2, h3⟩ | ⟨h1, h2, h3, h3', l, h4, h5⟩
   · rw [if_pos h1, h2]
     exact .inr (.inl ⟨rfl, rfl, rfl⟩)
   · rw [if_neg (by rw [h1]; simp), if_pos h2, h3]
     exact .inr (.inl ⟨rfl, rfl, rfl⟩)
   · have hu : sl t 0 (j + 1) = quoteL l := by
       rw [sl_cat t 0 1 (j + 1) (by omega) (by omega), sl_cat t 1 j (j + 1) h3' (by omega), h4, sl_one t j h2, h3, sl_one t 0 (by omega), (isB_iff _ 34 (by decide)).1 h34]; rfl
     have hun := unq_quote l (by rw [← hu, sl_to, List.length_take]; omega)
     rw [if_neg (by rw [h1]; simp), if_neg (show ¬ t.length ≤ j by omega), h5]
     simp only
     rw [hu, hun]
     simp only
     rcases (bool_two (l.isEmpty || identB l)).symm with hx | hx
     · rw [if_pos hx, if_pos hx]
       exact .inr (.inl ⟨rfl, rfl, rfl⟩)
     · rw [if_neg (by rw [hx]; decide), if_neg (by rw [hx]; decide)]
       exact .inl ⟨rfl, by simp only; rw [Nat.add_assoc], rfl⟩
 · have h34 : (t.isEmpty || !isB (byt t 0) 34) = true := by
     rcases Nat.lt_or_ge b s.length with h | h
     · rw [hbt, Nat.add_zero, show isB (byt s b) 34 = false from b34n (fun e => hq ⟨h, e⟩)]; simp
     · have : t = [] := List.eq_nil_of_length_eq_zero (by omega)
       rw [this]; rfl
   have hl : labP t = nameP t := by unfold labP; rw [if_pos h34]
   have hr : rlab s b = (if s.length ≤ rhd s b then (([] : List UInt8), rhd s b, true) else if letterB (byt s (rhd s b)) = false then ([], rhd s b, true) else ridn s b (rrun s b (s.length + 1) (rhd s b))) := by unfold rlab; rw [if_neg hq]
   rw [hl, hr]
   exact name_ref s b t ht.symm hb
theorem idx_scan (s : List UInt8) (b : Nat) (t : List UInt8) (ht : t = sl s b s.length) (hb : b < s.length) : ∀ f i f', t.length ≤ f + i → 1 ≤ i → i ≤ t.length → s.length + 1 ≤ f' + (b + i) → IdxIn t i →
   ((idxQ t (iscan t f i)).2.2 = true ∧ (ridx s f' (b + i) (valD (sl t 1 i)) (i - 1)).2.2 = false ∧ ((ridx s f' (b + i) (valD (sl t 1 i)) (i - 1)).1 : Int) = (idxQ t (iscan t f i)).1.idx ∧ (ridx s f' (b + i) (valD (sl t 1 i)) (i - 1)).2.1 = b + (idxQ t (iscan t f i)).2.1 ∧ (idxQ t (iscan t f i)).1.lab = []) ∨
   ((idxQ t (iscan t f i)).2.2 = false ∧ (ridx s f' (b + i) (valD (sl t 1 i)) (i - 1)).2.2 = true ∧ (ridx s f' (b + i) (valD (sl t 1 i)) (i - 1)).2.1 = b + (idxQ t (iscan t f i)).2.1) := by
 have htl : t.length = s.length - b := by rw [ht]; exact sl_len s b s.length (by omega) (Nat.le_refl _)
 have hbt : ∀ k, byt t k = byt s (b + k) := fun k => by rw [ht]; exact byt_sl s b k
 -- where the scan stops
 have stop : ∀ i g, 1 ≤ i → i ≤ t.length → ¬ (b + i < s.length ∧ digB (byt s (b + i)) = true) →
   ((idxQ t (i, true)).2.2 = true ∧ (ridx s (g + 1) (b + i) (valD (sl t 1 i)) (i - 1)).2.2 = false ∧ ((ridx s (g + 1) (b + i) (valD (sl t 1 i)) (i - 1)).1 : Int) = (idxQ t (i, true)).1.idx ∧ (ridx s (g + 1) (b + i) (valD (sl t 1 i)) (i - 1)).2.1 = b + (idxQ t (i, true)).2.1 ∧ (idxQ t (i, true)).1.lab = []) ∨
   ((idxQ t (i, true)).2.2 = false ∧ (ridx s (g + 1) (b + i) (valD (sl t 1 i)) (i - 1)).2.2 = true ∧ (ridx s (g + 1) (b + i) (valD (sl t 1 i)) (i - 1)).2.1 = b + (idxQ t (i, true)).2.1) := by
   intro i g h1 h2 h3
   obtain ⟨n, hn⟩ : ∃ n, valD (sl t 1 i) = n := ⟨_, rfl⟩
   rw [hn]
   by_cases hi1 : i = 1
   · have e1 : idxQ t (i, true) = (noS, i, false) := by unfold idxQ; rw [if_neg (by simp), if_pos (by simp [hi1])]
     have e2 : ridx s (g + 1) (b + i) n (i - 1) = (n, b + i, true) := by rw [ridx, if_neg h3, if_pos (show i - 1 = 0 by omega)]
     rw [e1, e2]
     exact .inr ⟨rfl, rfl, rfl⟩
   by_cases hi2 : t.length ≤ i
   · have e1 : idxQ t (i, true) = (noS, i, false) := by unfold idxQ; rw [if_neg (by simp), if_pos (by simp [hi2])]
     have e2 : ridx s (g + 1) (b + i) n (i - 1) = (n, b + i, true) := by rw [ridx, if_neg h3, if_neg (show ¬ i - 1 = 0 by omega), if_neg (by omega)]
     rw [e1, e2]
     exact .inr ⟨rfl, rfl, rfl⟩
   by_cases hi3 : byt t i = 93
   · have e1 : idxQ t (i, true) = (⟨[], (valD (sl t 1 i) : Int)⟩, i + 1, true) := by unfold idxQ; rw [if_neg (by simp), if_neg (by rw [hi3]; simp [hi1]; exact ⟨by omega, by decide⟩)]
     have e2 : ridx s (g + 1) (b + i) n (i - 1) = (n, b + i + 1, false) := by rw [ridx, if_neg h3, if_neg (show ¬ i - 1 = 0 by omega), if_pos ⟨by omega, by rw [← hbt]; exact hi3⟩]
     rw [e1, e2, hn]
     exact .inl ⟨rfl, rfl, rfl, by simp only; omega, rfl⟩
   · have e1 : idxQ t (i, true) = (noS, i, false) := by unfold idxQ; rw [if_neg (by simp), if_pos (by rw [show isB (byt t i) 93 = false from b93n hi3]; simp)]
     have e2 : ridx s (g + 1) (b + i) n (i - 1) = (n, b + i, true) := by rw [ridx, if_neg h3, if_neg (show ¬ i - 1 = 0 by omega), if_neg (by rw [← hbt]; exact fun h => hi3 h.2)]
     rw [e1, e2]
     exact .inr ⟨rfl, rfl, rfl⟩
 intro f
 induction f with
 | zero =>
   intro i f' h1 h2 h3 h4 hp
   obtain ⟨g, rfl⟩ : ∃ g, f' = g + 1 := ⟨f' - 1, by omega⟩
   rw [iscan]
   exact stop i g h2 h3 (by omega)
 | succ f ih =>
   intro i f' h1 h2 h3 h4 hp
   obtain ⟨g, rfl⟩ : ∃ g, f' = g + 1 := ⟨f' - 1, by omega⟩
   rw [iscan]
   by_cases hi : t.length ≤ i
   · rw [if_pos hi]; exact stop i g h2 h3 (by omega)
   rw [if_neg hi]
   rcases bool_two (digB (byt t i)) with hd | hd
   · rw [if_pos hd]; exact stop i g h2 h3 (by rw [← hbt, hd]; simp)
   rw [if_neg (by rw [hd]; decide)]
   have hdg : dgt (byt t i) := (digB_iff _).1 hd
   have hv : valD (sl t 1 (i + 1)) = valD (sl t 1 i) * 10 + ((byt t i).toNat - 48) := by rw [sl_snoc t i h2 (by omega)]; exact valD_snoc _ _
   have hz : (1 < i ∧ byt t 1 = 48) ↔ (0 < i - 1 ∧ valD (sl t 1 i) = 0) := by
     constructor
     · rintro ⟨k1, k2⟩
       have : i = 2 := by rcases hp.2.2 with h | h; (omega); exact absurd k2 h
       subst this
       refine ⟨by omega, ?_⟩
       rw [sl_one t 1 (by omega), k2, valD_one]; rfl
     · rintro ⟨k1, k2⟩
       refine ⟨by omega, ?_⟩
       rw [sl_cat t 1 2 i (by omega) (by omega), sl_one t 1 (by omega)] at k2
       by_cases h48 : byt t 1 = 48
       · exact h48
       · have := valD_pos (byt t 1) (sl t 2 i) (hp.1 _ (by rw [sl_cat t 1 2 i (by omega) (by omega), sl_one t 1 (by omega)]; simp)) h48
         simp only [List.cons_append, List.nil_append] at k2
         omega
   have e0 : ridx s (g + 1) (b + i) (valD (sl t 1 i)) (i - 1) = (if 1000000 < valD (sl t 1 (i + 1)) ∨ (0 < i - 1 ∧ valD (sl t 1 i) = 0) then (0, b + i, true) else ridx s g (b + i + 1) (valD (sl t 1 (i + 1))) (i - 1 + 1)) := by
     rw [ridx, if_pos ⟨by omega, by rw [← hbt]; exact hd⟩, ← hbt, ← hv]
   rw [e0]
   clear e0
   by_cases hz1 : 1 < i ∧ byt t 1 = 48
   · rw [if_pos (show (decide (1 < i) && isB (byt t 1) 48) = true by rw [decide_eq_true hz1.1, Bool.true_and]; exact b48y hz1.2), if_pos (show _ ∨ _ from .inr (hz.1 hz1))]
     exact .inr ⟨rfl, rfl, rfl⟩
   have hz2 : (decide (1 < i) && isB (byt t 1) 48) = false := by
     by_cases h : 1 < i
     · rw [show isB (byt t 1) 48 = false from b48n (fun e => hz1 ⟨h, e⟩)]; simp
     · rw [decide_eq_false h]; rfl
   rw [if_neg (show ¬ (decide (1 < i) && isB (byt t 1) 48) = true by rw [hz2]; decide)]
   by_cases hbig : 1000000 < valD (sl t 1 (i + 1))
   · rw [if_pos hbig, if_pos (show _ ∨ _ from .inl hbig)]
     exact .inr ⟨rfl, rfl, rfl⟩
   rw [if_neg hbig, if_neg (show ¬ (1000000 < valD (sl t 1 (i + 1)) ∨ (0 < i - 1 ∧ valD (sl t 1 i) = 0)) by rintro (h | h); exact hbig h; exact hz1 (hz.2 h))]
   have h7 := ih (i + 1) g (by omega) (by omega) (by omega) (by omega) ⟨fun c hc => by
     rw [sl_snoc t i h2 (by omega), List.mem_append, List.mem_singleton] at hc
     rcases hc with hc | rfl
     · exact hp.1 c hc
     · exact hdg, by omega, by
     rcases Nat.lt_or_ge 1 i with h | h
     · exact .inr fun e => hz1 ⟨h, e⟩
     · exact .inl (by omega)⟩
   rw [← Nat.add_assoc, Nat.add_sub_cancel] at h7
   rw [show i - 1 + 1 = i by omega]
   exact h7
theorem idx_both (s : List UInt8) (b : Nat) (hb : b < s.length) :
   ((idxP (sl s b s.length)).2.2 = true ∧ (ridx s (s.length + 1) (b + 1) 0 0).2.2 = false ∧ ((ridx s (s.length + 1) (b + 1) 0 0).1 : Int) = (idxP (sl s b s.length)).1.idx ∧ (ridx s (s.length + 1) (b + 1) 0 0).2.1 = b + (idxP (sl s b s.length)).2.1 ∧ (idxP (sl s b s.length)).1.lab = []) ∨
   ((idxP (sl s b s.length)).2.2 = false ∧ (ridx s (s.length + 1) (b + 1) 0 0).2.2 = true ∧ (ridx s (s.length + 1) (b + 1) 0 0).2.1 = b + (idxP (sl s b s.length)).2.1) := by
 have htl : (sl s b s.length).length = s.length - b := sl_len s b s.length (by omega) (Nat.le_refl _)
 have h := idx_scan s b (sl s b s.length) rfl hb (sl s b s.length).length 1 (s.length + 1) (by omega) (Nat.le_refl _) (by omega) (by omega) ⟨fun c hc => by rw [sl_nil] at hc; simp at hc, by rw [sl_nil]; decide, .inl (by omega)⟩
 rw [sl_nil] at h
 exact h
theorem go_both (s : List UInt8) (hs : s.length ≤ 65536) : ∀ f f' a L, s.length + 1 ≤ f + a → s.length + 2 ≤ f' + a → a ≤ s.length → (L.isEmpty = true → a < s.length → byt s a ≠ 46) → (L.isEmpty = true → a = 0) → pgo s f a L = rgo s f' a L := by
 intro f
 induction f with
 | zero => intro f' a L h1 h2 h3; omega
 | succ f ih =>
   intro f' a L h1 h2 h3 h4 h0
   obtain ⟨g, rfl⟩ : ∃ g, f' = g + 1 := ⟨f' - 1, by omega⟩
   have app : ∀ x : Stp, (L ++ [x]).isEmpty = false := fun x => by cases L <;> rfl
   by_cases hlt : a < s.length
   · have hd := decide_eq_true hlt
     by_cases h91 : byt s a = 91
     · have hr : rdAt s a L = (idxP (sl s a s.length), a) := by unfold rdAt; rw [if_pos (by rw [hd, b91y h91]; rfl)]
       have e1 : pgo s (f + 1) a L = (if (idxP (sl s a s.length)).2.2 then pgo s f (a + (idxP (sl s a s.length)).2.1) (L ++ [(idxP (sl s a s.length)).1]) else ([], 8, a + (idxP (sl s a s.length)).2.1)) := by
         rw [pgo, if_neg (show ¬ (!decide (a < s.length) && !L.isEmpty) = true by rw [hd]; simp), if_neg (show ¬ (!(decide (a < s.length) && isB (byt s a) 91) && (!L.isEmpty && !isB (byt s a) 46)) = true by rw [hd, show isB (byt s a) 91 = true from b91y h91]; simp), hr]
       have e2 : rgo s (g + 1) a L = (if (ridx s (s.length + 1) (a + 1) 0 0).2.2 then ([], 8, (ridx s (s.length + 1) (a + 1) 0 0).2.1) else rgo s g (ridx s (s.length + 1) (a + 1) 0 0).2.1 (L ++ [⟨[], ((ridx s (s.length + 1) (a + 1) 0 0).1 : Int)⟩])) := by
         rw [rgo, if_neg (show ¬ (s.length ≤ a ∧ L.isEmpty = false) from fun h => absurd h.1 (by omega)), if_pos (show a < s.length ∧ byt s a = 91 from ⟨hlt, h91⟩)]
       rw [e1, e2]
       have hle := idxP_le (sl s a s.length) (by rw [sl_len s a s.length (by omega) (Nat.le_refl _)]; omega)
       rw [sl_len s a s.length (by omega) (Nat.le_refl _)] at hle
       rcases idx_both s a hlt with ⟨k1, k2, k3, k4, k5⟩ | ⟨k1, k2, k3⟩
       · have hl2 := hle.2 k1
         rw [if_pos k1, if_neg (by rw [k2]; decide), k4, k3]
         have hx : (⟨[], (idxP (sl s a s.length)).1.idx⟩ : Stp) = (idxP (sl s a s.length)).1 := by rw [← k5]
         rw [hx]
         exact ih g _ _ (by omega) (by omega) (by omega) (fun h => by rw [app] at h; cases h) (fun h => by rw [app] at h; cases h)
       · rw [if_neg (by rw [k1]; decide), if_pos k2, k3]
     · have f91 : isB (byt s a) 91 = false := b91n h91
       have n1 : ¬ (!decide (a < s.length) && !L.isEmpty) = true := by rw [hd]; simp
       have n2 : ¬ (s.length ≤ a ∧ L.isEmpty = false) := fun h => absurd h.1 (by omega)
       have n3 : ¬ (a < s.length ∧ byt s a = 91) := fun h => h91 h.2
       have lab : ∀ c, c ≤ s.length → a ≤ c → (if (labP (sl s c s.length)).2.2 then pgo s f (c + (labP (sl s c s.length)).2.1) (L ++ [(labP (sl s c s.length)).1]) else ([], 8, c + (labP (sl s c s.length)).2.1)) = (if (rlab s c).2.2 then ([], 8, (rlab s c).2.1) else rgo s g (rlab s c).2.1 (L ++ [⟨(rlab s c).1, 0⟩])) := by
         intro c hc hac
         have hle := labP_le (sl s c s.length)
         rw [sl_len s c s.length (by omega) (Nat.le_refl _)] at hle
         rcases lab_both s hs c hc with ⟨k1, k2, k3⟩ | ⟨k1, k2, k3⟩ | ⟨k1, k2, k3, k4, k5⟩
         · have hl2 := hle.2 k1
           rw [if_pos k1, k2, if_neg (by simp)]
           have hx : (⟨(labP (sl s c s.length)).1.lab, 0⟩ : Stp) = (labP (sl s c s.length)).1 := by rw [← k3]
           simp only
           rw [hx]
           exact ih g _ _ (by omega) (by omega) (by omega) (fun h => by rw [app] at h; cases h) (fun h => by rw [app] at h; cases h)
         · rw [if_neg (by rw [k1]; decide), if_pos k2, k3]
         · rw [if_neg (by rw [k1]; decide), if_neg (by rw [k2]; decide)]
           obtain ⟨g2, rfl⟩ : ∃ g2, g = g2 + 1 := ⟨g - 1, by omega⟩
           rw [rgo, if_neg (show ¬ (s.length ≤ (rlab s c).2.1 ∧ _) from fun h => absurd h.1 (by omega)), if_neg (show ¬ ((rlab s c).2.1 < s.length ∧ byt s (rlab s c).2.1 = 91) by rw [k5]; exact fun h => absurd h.2 (by decide)), if_neg (by rw [app]; decide), if_neg (by rw [k5]; exact fun h => absurd h.2 (by decide)), k3]
       by_cases hL : L.isEmpty = true
       · have hb46 := h4 hL hlt
         have hr : rdAt s a L = (labP (sl s a s.length), a) := by unfold rdAt; rw [f91, Bool.and_false, if_neg (by decide), if_pos hL]
         have e1 : pgo s (f + 1) a L = (if (labP (sl s a s.length)).2.2 then pgo s f (a + (labP (sl s a s.length)).2.1) (L ++ [(labP (sl s a s.length)).1]) else ([], 8, a + (labP (sl s a s.length)).2.1)) := by
           rw [pgo, if_neg n1, if_neg (show ¬ (!(decide (a < s.length) && isB (byt s a) 91) && (!L.isEmpty && !isB (byt s a) 46)) = true by rw [hL]; simp), hr]
         have e2 : rgo s (g + 1) a L = (if (rlab s a).2.2 then ([], 8, (rlab s a).2.1) else rgo s g (rlab s a).2.1 (L ++ [⟨(rlab s a).1, 0⟩])) := by
           rw [rgo, if_neg n2, if_neg n3, if_pos hL, if_neg (show ¬ (a < s.length ∧ byt s a = 46) from fun h => hb46 h.2)]
         rw [e1, e2]
         exact lab a h3 (Nat.le_refl _)
       · have hL' : L.isEmpty = false := by simpa using hL
         have hr : rdAt s a L = (labP (sl s (a + 1) s.length), a + 1) := by unfold rdAt; rw [f91, Bool.and_false, if_neg (by decide), if_neg hL]
         by_cases h46 : byt s a = 46
         · have e1 : pgo s (f + 1) a L = (if (labP (sl s (a + 1) s.length)).2.2 then pgo s f (a + 1 + (labP (sl s (a + 1) s.length)).2.1) (L ++ [(labP (sl s (a + 1) s.length)).1]) else ([], 8, a + 1 + (labP (sl s (a + 1) s.length)).2.1)) := by
             rw [pgo, if_neg n1, if_neg (show ¬ (!(decide (a < s.length) && isB (byt s a) 91) && (!L.isEmpty && !isB (byt s a) 46)) = true by rw [show isB (byt s a) 46 = true from b46y h46]; simp), hr]
           have e2 : rgo s (g + 1) a L = (if (rlab s (a + 1)).2.2 then ([], 8, (rlab s (a + 1)).2.1) else rgo s g (rlab s (a + 1)).2.1 (L ++ [⟨(rlab s (a + 1)).1, 0⟩])) := by
             rw [rgo, if_neg n2, if_neg n3, if_neg hL, if_pos (show a < s.length ∧ byt s a = 46 from ⟨hlt, h46⟩)]
           rw [e1, e2]
           exact lab (a + 1) (by omega) (by omega)
         · have e1 : pgo s (f + 1) a L = ([], 8, a) := by
             rw [pgo, if_neg n1, if_pos (show (!(decide (a < s.length) && isB (byt s a) 91) && (!L.isEmpty && !isB (byt s a) 46)) = true by rw [f91, hL', show isB (byt s a) 46 = false from b46n h46]; simp)]
           have e2 : rgo s (g + 1) a L = ([], 8, a) := by
             rw [rgo, if_neg n2, if_neg n3, if_neg hL, if_neg (show ¬ (a < s.length ∧ byt s a = 46) from fun h => h46 h.2)]
           rw [e1, e2]
   · have hd := decide_eq_false hlt
     by_cases hL : L.isEmpty = true
     · have ha0 := h0 hL
       have hr : rdAt s a L = (labP (sl s a s.length), a) := by unfold rdAt; rw [hd, Bool.false_and, if_neg (by decide), if_pos hL]
       have e1 : pgo s (f + 1) a L = (if (labP (sl s a s.length)).2.2 then pgo s f (a + (labP (sl s a s.length)).2.1) (L ++ [(labP (sl s a s.length)).1]) else ([], 8, a + (labP (sl s a s.length)).2.1)) := by
         rw [pgo, if_neg (show ¬ (!decide (a < s.length) && !L.isEmpty) = true by rw [hL]; simp), if_neg (show ¬ (!(decide (a < s.length) && isB (byt s a) 91) && (!L.isEmpty && !isB (byt s a) 46)) = true by rw [hL]; simp), hr]
       have e2 : rgo s (g + 1) a L = (if (rlab s a).2.2 then ([], 8, (rlab s a).2.1) else rgo s g (rlab s a).2.1 (L ++ [⟨(rlab s a).1, 0⟩])) := by
         rw [rgo, if_neg (show ¬ (s.length ≤ a ∧ L.isEmpty = false) by rw [hL]; simp), if_neg (show ¬ (a < s.length ∧ byt s a = 91) from fun h => hlt h.1), if_pos hL, if_neg (show ¬ (a < s.length ∧ byt s a = 46) from fun h => hlt h.1)]
       rw [e1, e2]
       have hle := labP_le (sl s a s.length)
       rw [sl_len s a s.length (by omega) (Nat.le_refl _)] at hle
       rcases lab_both s hs a h3 with ⟨k1, k2, k3⟩ | ⟨k1, k2, k3⟩ | ⟨k1, k2, k3, k4, k5⟩
       · have := hle.2 k1; omega
       · rw [if_neg (by rw [k1]; decide), if_pos k2, k3]
       · omega
     · have hL' : L.isEmpty = false := by simpa using hL
       have e1 : pgo s (f + 1) a L = (L, 0, 0) := by
         rw [pgo, if_pos (show (!decide (a < s.length) && !L.isEmpty) = true by rw [hd, hL']; rfl)]
       have e2 : rgo s (g + 1) a L = (L, 0, 0) := by
         rw [rgo, if_pos (show s.length ≤ a ∧ L.isEmpty = false from ⟨by omega, hL'⟩)]
       rw [e1, e2]
theorem parse_both (s : List UInt8) : rparse s = parseP s := by
 unfold rparse parseP
 by_cases hl : 65536 < s.length
 · rw [if_pos hl, if_pos hl]
 rw [if_neg hl, if_neg hl]
 by_cases hd : (s == [46]) = true
 · rw [if_pos hd, if_pos hd]
 rw [if_neg hd, if_neg hd]
 by_cases h46 : 0 < s.length ∧ byt s 0 = 46
 · have he : s.isEmpty = false := by cases s with
     | nil => exact absurd h46.1 (by decide)
     | cons => rfl
   rw [if_pos (by rw [he, b46y h46.2]; rfl), rgo, if_neg (show ¬ (s.length ≤ 0 ∧ List.isEmpty ([] : List Stp) = false) by rintro ⟨-, h⟩; cases h), if_neg (show ¬ (0 < s.length ∧ byt s 0 = 91) by rw [h46.2]; exact fun h => absurd h.2 (by decide)), if_pos (show List.isEmpty ([] : List Stp) = true from rfl), if_pos h46]
 · have hx : (!s.isEmpty && isB (byt s 0) 46) = false := by
     cases s with
     | nil => rfl
     | cons c t => rw [show isB (byt (c :: t) 0) 46 = false from b46n (fun e => h46 ⟨by simp, e⟩)]; rfl
   rw [if_neg (by rw [hx]; decide)]
   exact (go_both s (by omega) (s.length + 1) (s.length + 2) 0 [] (by omega) (by omega) (Nat.zero_le _) (fun _ h e => h46 ⟨h, e⟩) (fun _ => rfl)).symm
end
section
open Go.RowKit
theorem rdG {s : List UInt8} {B : Nat} {w W : World} {a : Nat} {F : Bool} (h : RdG s B w W a F) : W.cell? ⟨B, 0, none⟩ = some (.string (S s)) ∧ W.cell? ⟨B, 1, none⟩ = some (.int .i64 (a : Int)) ∧ W.cell? ⟨B, 2, none⟩ = some (.bool F) ∧ RdG s B w W a F :=
 ⟨h.2.cells.1, h.2.cells.2.1, h.2.cells.2.2, h⟩
theorem rdG_on {s : List UInt8} {B : Nat} {w W W' : World} {a : Nat} {F : Bool} (hS : W.cell? ⟨B, 0, none⟩ = some (.string (S s)) ∧ W.cell? ⟨B, 1, none⟩ = some (.int .i64 (a : Int)) ∧ W.cell? ⟨B, 2, none⟩ = some (.bool F) ∧ RdG s B w W a F) (hb : Below W.heap.size W W') :
   W'.cell? ⟨B, 0, none⟩ = some (.string (S s)) ∧ W'.cell? ⟨B, 1, none⟩ = some (.int .i64 (a : Int)) ∧ W'.cell? ⟨B, 2, none⟩ = some (.bool F) ∧ RdG s B w W' a F := rdG (hS.2.2.2.below hb)
theorem resc_le (s : List UInt8) (a : Nat) (ha : a ≤ s.length) : (rescP s a).1.length ≤ 1 ∧ a ≤ (rescP s a).2.1 ∧ (rescP s a).2.1 ≤ s.length ∧ ((rescP s a).2.2 = false → a + 1 ≤ (rescP s a).2.1) := by
 have h1 := fun h => dgAt_lt (s := s) (a := a + 1) h
 have h2 := fun h => dgAt_lt (s := s) (a := a + 2) h
 unfold rescP
 by_cases hlt : a < s.length
 · rw [if_pos hlt]
   repeat' split
   all_goals (refine ⟨by simp, by simp only; omega, by simp only; omega, fun h => ?_⟩; first | (simp only; omega) | cases h)
 · rw [if_neg hlt]
   exact ⟨by simp, by simp only; omega, by simp only; omega, fun h => by cases h⟩
set_option maxRecDepth 100000 in
set_option maxHeartbeats 8000000 in
theorem quoted_ref (s : List UInt8) (a : Nat) (ha : a ≤ s.length) (B : Nat) (w : World) (hl : s.length ≤ 100000) (hR : RdAt w B s a false) : Calls Tryz.prog 214 #[.pointer (some ⟨B, 0, none⟩)] w (RdP s B w (rquo s (s.length + 1) a [])) := by
 have G0 := Lib.hid (RdG.refl hR)
 clear hR
 obtain ⟨r, hr⟩ : ∃ r, rquo s (s.length + 1) a [] = r := ⟨_, rfl⟩
 rw [hr]
 have HR0 := Lib.hid hr
 clear hr
 go_enter Tryz.func214, Tryz.ntmps214
 go_wp2_with fail
 go_loopg [3] (s.length + 1) (fun f v wr => ∃ (acc : List UInt8) (b : Nat) (F : Bool), v = .string (S acc) ∧ acc.length ≤ b ∧ b ≤ s.length ∧ Hid (((F = false ∧ rquo s f b acc = r ∧ s.length + 1 ≤ f + b) ∨ (F = true ∧ r = ([], b, true))) ∧ RdG s B w wr b F))
 case atStart => exact ⟨[], a, false, rfl, Nat.zero_le _, ha, Lib.hid ⟨.inl ⟨rfl, HR0.out, by omega⟩, G0.out⟩⟩
 case round =>
   clear G0 HR0 ha
   obtain ⟨acc, b, F, rfl, hacc, hb, H⟩ := hrel
   rcases bool_two F with rfl | rfl
   · have hq : rquo s gk b acc = r ∧ s.length + 1 ≤ gk + b := by
       rcases H.out.1 with ⟨_, h⟩ | ⟨h, _⟩
       · exact h
       · cases h
     have G1 := Lib.hid H.out.2
     clear H
     obtain ⟨hq, hfu⟩ := hq
     obtain ⟨f, hf⟩ : ∃ f, gk = f + 1 := ⟨gk - 1, by omega⟩
     rw [hf, rquo] at hq
     by_cases hlt : b < s.length
     · rw [if_neg (by omega)] at hq
       have HM : Hid ((!false && decide (b < s.length)) = true) := Lib.hid (by rw [decide_eq_true hlt]; rfl)
       have b0 : (0 : Int) ≤ (b : Int) := by omega
       have b1 : (b : Int) < (s.length : Int) := by omega
       have hcl := byt_lt s b
       obtain ⟨c, hc⟩ : ∃ c, byt s b = c := ⟨_, rfl⟩
       rw [hc] at hq hcl
       have HQ := Lib.hid hq
       have HC := Lib.hid hc
       clear hq hc
       have hw : (((c.toNat : Int) == 34) = true ∧ c = 34) ∨ (((c.toNat : Int) == 34) = false ∧ c ≠ 34 ∧ ((okB c = false ∧ (decide ((c.toNat : Int) < 32) = true ∨ (decide ((c.toNat : Int) < 32) = false ∧ decide (126 < (c.toNat : Int)) = true))) ∨
           (okB c = true ∧ decide ((c.toNat : Int) < 32) = false ∧ decide (126 < (c.toNat : Int)) = false ∧ ((((c.toNat : Int) == 92) = true ∧ c = 92) ∨ (((c.toNat : Int) == 92) = false ∧ c ≠ 92))))) := by
         by_cases h34 : c = 34
         · exact .inl ⟨by rw [h34]; rfl, h34⟩
         refine .inr ⟨u8_ne h34, h34, ?_⟩
         unfold okB
         by_cases g1 : 32 ≤ c.toNat
         · by_cases g2 : c.toNat ≤ 126
           · refine .inr ⟨by simp [g1, g2], decide_eq_false (by omega), decide_eq_false (by omega), ?_⟩
             by_cases h92 : c = 92
             · exact .inl ⟨by rw [h92]; rfl, h92⟩
             · exact .inr ⟨u8_ne h92, h92⟩
           · exact .inl ⟨by simp [g2], .inr ⟨decide_eq_false (by omega), decide_eq_true (by omega)⟩⟩
         · exact .inl ⟨by simp [g1], .inl (decide_eq_true (by omega))⟩
       go_wp2_with fail
       refine (more_any s b false B _ G1.out.2).mono ?_
       rintro e w1 ⟨rfl, hb1⟩
       rw [HM.out]
       have HI := Lib.hid (rdG ((G1.out.below hb1).drew))
       clear hb1 G1
       go_upto_region 3 with fail
       go_region_held3 (fun w' => w'.cell? ⟨B, 0, none⟩ = some (.string (S s)) ∧ w'.cell? ⟨B, 1, none⟩ = some (.int .i64 (b : Int)) ∧ w'.cell? ⟨B, 2, none⟩ = some (.bool false) ∧ RdG s B w w' b false)
         (first | with_reducible exact HI.out | go_keep) (fail)
       all_goals
         rw [HC.out]
         have G2 := Lib.hid HI.out.2.2.2
         clear HI
         obtain ⟨V, hV⟩ : ∃ V, w1.drew = V := ⟨_, rfl⟩
         rw [hV] at G2 ⊢
         clear hV
         obtain ⟨x0, x1, x2⟩ := G2.out.2.cells
         have f1 := Blk.frozen G2.out.2 1
         have f2 := Blk.frozen G2.out.2 2
         have aln : acc.length ≤ 1000000 := by omega
         rcases hw with ⟨e34, h34⟩ | ⟨e34, h34, ⟨ho, hw⟩ | ⟨ho, e1, e2, ⟨e92, h92⟩ | ⟨e92, h92⟩⟩⟩
         · have hq := HQ.out
           rw [if_pos h34] at hq
           clear HQ h34
           rcases (bool_two acc.isEmpty).symm with he | he
           · rw [he, Bool.true_or, if_pos rfl] at hq
             have HV := Lib.hid hq.symm
             clear hq
             go_wp2_with fail
             go_ret
             exact RdP.of HV.out G2.out.fail
           · obtain ⟨i, hi⟩ : ∃ i, identB acc = i := ⟨_, rfl⟩
             rw [he, Bool.false_or, hi] at hq
             have HI := Lib.hid hi
             have HQ := Lib.hid hq
             clear hq hi
             go_wp2_with fail
             refine (refIdent_any acc aln _).mono ?_
             rintro e w2 ⟨rfl, hb2⟩
             rw [HI.out]
             have G3 := Lib.hid (G2.out.below hb2)
             clear hb2 G2 x0 x1 x2 f1 f2
             obtain ⟨x0, x1, x2⟩ := G3.out.2.cells
             have f1 := Blk.frozen G3.out.2 1
             have f2 := Blk.frozen G3.out.2 2
             rcases (bool_two i).symm with rfl | rfl
             · have HV := Lib.hid (show r = ([], b, true) from HQ.out.symm)
               clear HQ
               go_wp2_with fail
               go_ret
               exact RdP.of HV.out G3.out.fail
             · have HV := Lib.hid (show r = (acc, b + 1, false) from HQ.out.symm)
               clear HQ
               go_wp2_with fail
               go_ret
               exact RdP.of HV.out (G3.out.setAt (b + 1))
         · have hq := HQ.out
           rw [if_neg h34, if_pos ho] at hq
           have HV := Lib.hid hq.symm
           clear hq HQ ho h34
           rcases hw with e1 | ⟨e1, e2⟩
           all_goals
             go_wp2_with fail
             go_ret
             exact RdP.of HV.out G2.out.fail
         · have hq := HQ.out
           rw [if_neg h34, if_neg (by rw [ho]; decide), if_pos h92] at hq
           clear HQ ho h34 h92
           have hre := resc_le s (b + 1) (by omega)
           obtain ⟨⟨el, en, eF⟩, he⟩ : ∃ x, rescP s (b + 1) = x := ⟨_, rfl⟩
           rw [he] at hq hre
           simp only at hq hre
           obtain ⟨y1, y2, y3, y4⟩ := hre
           have HE := Lib.hid he
           have HQ := Lib.hid hq
           have hlen1 : ¬ (9223372036854775807 : Nat) < acc.length + el.length := by omega
           clear hq he
           go_wp2_with fail
           refine (escape_ref s (b + 1) B _ hl (G2.out.setAt (b + 1)).2).mono ?_
           rintro e w2 ⟨rfl, hg2, hr2⟩
           rw [HE.out] at hr2 ⊢
           simp only at hr2 ⊢
           have G3 := Lib.hid ((G2.out.setAt (b + 1)).step hg2 hr2)
           clear hg2 hr2 x0 x1 x2 f1 f2
           go_wp2_with fail
           go_roundg f
           case measure => omega
           case rel =>
             refine ⟨ct acc el, en, eF, rfl, by rw [ct_len]; omega, y3, Lib.hid ⟨?_, G3.out⟩⟩
             rcases (bool_two eF).symm with rfl | rfl
             · exact .inr ⟨rfl, HQ.out.symm⟩
             · exact .inl ⟨rfl, HQ.out, by have := y4 rfl; omega⟩
         · have hq := HQ.out
           rw [if_neg h34, if_neg (by rw [ho]; decide), if_neg h92] at hq
           have HQ1 := Lib.hid hq
           clear hq HQ ho h34 h92
           have hcv := fun v cap => conv_one_at (P := Tryz.prog) (V.setCell ⟨B, 1, none⟩ v) V.heap.size (by simp [World.setCell]) 138 9 5 5 c cap Tryz.underlying138 Tryz.underlying5 Tryz.underlying9
           have hlen1 : ¬ (9223372036854775807 : Nat) < acc.length + [c].length := by simp; omega
           have hlen2 : ¬ (9223372036854775807 : Nat) < acc.length + 1 := by omega
           go_wp2_with fail
           go_roundg f
           case measure => omega
           case rel => exact ⟨ct acc [c], b + 1, false, rfl, by rw [ct_len]; simp; omega, by omega, Lib.hid ⟨.inl ⟨rfl, HQ1.out, by omega⟩, (G2.out.setAt (b + 1)).alloc _⟩⟩
     · rw [if_pos (by omega)] at hq
       have HV := Lib.hid hq.symm
       have HM : Hid ((!false && decide (b < s.length)) = false) := Lib.hid (by rw [decide_eq_false hlt]; rfl)
       clear hq
       go_wp2_with fail
       refine (more_any s b false B _ G1.out.2).mono ?_
       rintro e w1 ⟨rfl, hb1⟩
       rw [HM.out]
       have G2 := Lib.hid (G1.out.below hb1)
       clear hb1 G1
       obtain ⟨x0, x1, x2⟩ := G2.out.2.cells
       have f2 := Blk.frozen G2.out.2 2
       go_wp2_with fail
       go_ret
       exact RdP.of HV.out G2.out.fail
   · have HV : Hid (r = ([], b, true)) := by
       rcases H.out.1 with ⟨h, _⟩ | ⟨_, h⟩
       · cases h
       · exact Lib.hid h
     have G1 := Lib.hid H.out.2
     clear H
     have HM : Hid ((!true && decide (b < s.length)) = false) := Lib.hid rfl
     go_wp2_with fail
     refine (more_any s b true B _ G1.out.2).mono ?_
     rintro e w1 ⟨rfl, hb1⟩
     rw [HM.out]
     have G2 := Lib.hid (G1.out.below hb1)
     clear hb1 G1
     obtain ⟨x0, x1, x2⟩ := G2.out.2.cells
     have f2 := Blk.frozen G2.out.2 2
     go_wp2_with fail
     go_ret
     exact RdP.of HV.out G2.out.fail
end
section
open Go.RowKit
set_option maxRecDepth 100000 in
set_option maxHeartbeats 2000000 in
theorem refWord_any (l : List UInt8) (hl : l.length ≤ 1000000) (w : World) : Calls Tryz.prog 215 #[.string (S l)] w fun e w' => e = .returned (.bool (wordsL.contains l)) ∧ Below w.heap.size w w' := by
 obtain ⟨r, hr⟩ : ∃ r, wordsL.contains l = r := ⟨_, rfl⟩
 rw [hr]
 have HI := Lib.hid hr
 clear hr
 have hw := words_at w 9
 have hbw : Below w.heap.size w (w.alloc (.cells #[.string ⟨#[110, 117, 108, 108]⟩, .string ⟨#[116, 114, 117, 101]⟩, .string ⟨#[102, 97, 108, 115, 101]⟩, .string ⟨#[98, 111, 111, 108]⟩, .string ⟨#[105, 110, 116]⟩, .string ⟨#[110, 117, 109, 98, 101, 114]⟩, .string ⟨#[115, 116, 114, 105, 110, 103]⟩, .string ⟨#[108, 101, 116]⟩, .string ⟨#[105, 102]⟩, .string ⟨#[102, 111, 114]⟩, .string ⟨#[105, 110]⟩, .string ⟨#[112, 97, 99, 107, 97, 103, 101]⟩, .string ⟨#[105, 109, 112, 111, 114, 116]⟩] 9)) := (Below.refl _ _).alloc (Nat.le_refl _) _
 obtain ⟨W1, hW1⟩ : ∃ W1, W1 = w.alloc (.cells #[.string ⟨#[110, 117, 108, 108]⟩, .string ⟨#[116, 114, 117, 101]⟩, .string ⟨#[102, 97, 108, 115, 101]⟩, .string ⟨#[98, 111, 111, 108]⟩, .string ⟨#[105, 110, 116]⟩, .string ⟨#[110, 117, 109, 98, 101, 114]⟩, .string ⟨#[115, 116, 114, 105, 110, 103]⟩, .string ⟨#[108, 101, 116]⟩, .string ⟨#[105, 102]⟩, .string ⟨#[102, 111, 114]⟩, .string ⟨#[105, 110]⟩, .string ⟨#[112, 97, 99, 107, 97, 103, 101]⟩, .string ⟨#[105, 109, 112, 111, 114, 116]⟩] 9) := ⟨_, rfl⟩
 rw [← hW1] at hw hbw
 have HW := Lib.hid hw
 have HB := Lib.hid hbw
 have HE := Lib.hid hW1
 clear hw hbw hW1
 go_enter Tryz.func215, Tryz.ntmps215
 go_wp2_with fail
 refine (Words_any _).mono ?_
 rintro e w' ⟨rfl, hw'⟩
 rw [← HE.out] at hw'
 subst hw'
 go_wp2_with fail
 go_loop [4] (fun i => ∃ k : Nat, k ≤ 13 ∧ i = .int .i64 k ∧ Hid (l ∉ wordsL.take k)) (fun i => 13 - (intOf i).toNat)
 case atStart => exact ⟨0, by omega, rfl, by show l ∉ wordsL.take 0; simp⟩
 case round =>
   obtain ⟨k, hk, rfl, hh⟩ := hrel
   by_cases hlt : k < 13
   · have hcell := HW.out k hlt
     by_cases he : (wd wordsL k == l) = true
     · have hm : wordsL.contains l = true := by
         rw [List.contains_iff_mem]
         have : wd wordsL k = l := by simpa using he
         rw [← this, wd_get wordsL k hlt]; exact List.getElem_mem hlt
       have HR := Lib.hid (show r = true by rw [← HI.out, hm])
       clear hm
       go_wp2_with fail
       go_ret
       exact ⟨ret_bool HR.out.symm, HB.out⟩
     · have he' : (wd wordsL k == l) = false := by simpa using he
       have he2 : (l == wd wordsL k) = false := by
         rw [beq_eq_false_iff_ne] at he' ⊢; exact fun e => he' e.symm
       have HN := Lib.hid (contains_step hlt hh.out he2)
       clear he he2
       go_wp2_with fail
       go_round
       case rel => exact ⟨k + 1, by omega, by go_num, HN.out⟩
       case measure => simp [intOf]; omega
   · have hm : wordsL.contains l = false := by
       have := hh.out
       rw [List.take_of_length_le (by show 13 ≤ k; omega)] at this
       rw [← Bool.not_eq_true, List.contains_iff_mem]; exact this
     have HR := Lib.hid (show r = false by rw [← HI.out, hm])
     clear hm
     go_wp2_with fail
     go_ret
     exact ⟨ret_bool HR.out.symm, HB.out⟩
end
section
open Go.RowKit
set_option maxRecDepth 100000 in
set_option maxHeartbeats 16000000 in
theorem label_ref (s : List UInt8) (b : Nat) (hb : b ≤ s.length) (B : Nat) (w : World) (hl : s.length ≤ 100000) (hR : RdAt w B s b false) : Calls Tryz.prog 173 #[.pointer (some ⟨B, 0, none⟩)] w (RdP s B w (rlab s b)) := by
 have G0 := Lib.hid (RdG.refl hR)
 clear hR
 obtain ⟨r, hr⟩ : ∃ r, rlab s b = r := ⟨_, rfl⟩
 rw [hr]
 by_cases hq : b < s.length ∧ byt s b = 34
 · obtain ⟨hlt, h34⟩ := hq
   have HV : Hid (rquo s (s.length + 1) (b + 1) [] = r) := Lib.hid (by rw [← hr]; unfold rlab; rw [if_pos ⟨hlt, h34⟩])
   have H34 := Lib.hid h34
   clear hr h34
   obtain ⟨⟨rl, rn, rF⟩, hrr⟩ : ∃ x, r = x := ⟨_, rfl⟩
   have HRR := Lib.hid hrr
   clear hrr
   go_enter Tryz.func173, Tryz.ntmps173
   go_wp2_with fail
   refine (is_yes s b 34 B _ hl G0.out.2 hlt H34.out).mono ?_
   rintro e w1 ⟨rfl, hg1, hr1⟩
   have G1 := Lib.hid (G0.out.step hg1 hr1)
   clear hg1 hr1
   go_wp2_with fail
   refine (quoted_ref s (b + 1) (by omega) B _ hl G1.out.2).mono ?_
   rintro e w2 ⟨rfl, hg2, hr2⟩
   rw [HV.out, HRR.out] at hr2 ⊢
   simp only at hr2 ⊢
   have G2 := Lib.hid (G1.out.step hg2 hr2)
   clear hg2 hr2
   go_wp2_with fail
   go_ret
   exact RdP.of HRR.out G2.out
 · have hno : s.length ≤ b ∨ byt s b ≠ 34 := by
     by_cases h : b < s.length
     · exact .inr fun e => hq ⟨h, e⟩
     · exact .inl (by omega)
   have HNO := Lib.hid hno
   obtain ⟨h, hh⟩ : ∃ h, rhd s b = h := ⟨_, rfl⟩
   have hr' : (if s.length ≤ h then (([] : List UInt8), h, true) else if letterB (byt s h) = false then ([], h, true) else ridn s b (rrun s b (s.length + 1) h)) = r := by
     rw [← hr, ← hh]; unfold rlab; rw [if_neg hq]
   have HR := Lib.hid hr'
   have hw : (b < s.length ∧ Hid (byt s b = 95) ∧ h = b + 1) ∨ (b < s.length ∧ Hid (byt s b = 35) ∧ h = b + 1) ∨ (Hid (s.length ≤ b ∨ byt s b ≠ 95) ∧ Hid (s.length ≤ b ∨ byt s b ≠ 35) ∧ h = b) := by
     unfold rhd at hh
     by_cases h1 : b < s.length
     · by_cases h2 : byt s b = 95
       · exact .inl ⟨h1, Lib.hid h2, by rw [← hh, if_pos ⟨h1, .inl h2⟩]⟩
       · by_cases h3 : byt s b = 35
         · exact .inr (.inl ⟨h1, Lib.hid h3, by rw [← hh, if_pos ⟨h1, .inr h3⟩]⟩)
         · exact .inr (.inr ⟨Lib.hid (.inr h2), Lib.hid (.inr h3), by rw [← hh, if_neg (by rintro ⟨_, h | h⟩; exact h2 h; exact h3 h)]⟩)
     · exact .inr (.inr ⟨Lib.hid (.inl (by omega)), Lib.hid (.inl (by omega)), by rw [← hh, if_neg (fun h => h1 h.1)]⟩)
   clear hr hr' hh hno hq
   have hbh : b ≤ h ∧ h ≤ b + 1 ∧ h ≤ s.length := by rcases hw with ⟨_, _, hh⟩ | ⟨_, _, hh⟩ | ⟨_, _, hh⟩ <;> omega
   have hw' : (b < s.length ∧ Hid (byt s b = 95) ∧ Hid (h = b + 1)) ∨ (b < s.length ∧ Hid (byt s b = 35) ∧ Hid (h = b + 1)) ∨ (Hid (s.length ≤ b ∨ byt s b ≠ 95) ∧ Hid (s.length ≤ b ∨ byt s b ≠ 35) ∧ Hid (h = b)) := hw
   clear hw
   go_enter Tryz.func173, Tryz.ntmps173
   go_wp2_with fail
   refine (is_no s b 34 B _ hl G0.out.2 HNO.out).mono ?_
   rintro e w1 ⟨rfl, hb1⟩
   have G1 := Lib.hid (G0.out.below hb1)
   clear hb1 G0 HNO
   obtain ⟨x0, x1, x2⟩ := G1.out.2.cells
   go_upto_region 4 with fail
   clear x0 x1 x2
   go_cut [14] (fun v wx => (v = .bool false ∧ Hid (RdG s B w wx h false)) ∨ (v = .bool true ∧ b < s.length ∧ Hid (byt s b = 35) ∧ Hid (h = b + 1) ∧ Hid (RdG s B w wx b false)) ∨ (v = .bool true ∧ Hid (s.length ≤ b ∨ byt s b ≠ 35) ∧ Hid (h = b) ∧ Hid (RdG s B w wx b false)))
   case first =>
     rcases hw' with ⟨hlt, H9, HH⟩ | ⟨hlt, H9, HH⟩ | ⟨H95, H35, HH⟩
     · go_wp2_with fail
       refine (is_yes s b 95 B _ hl G1.out.2 hlt H9.out).mono ?_
       rintro e w3 ⟨rfl, hg3, hr3⟩
       have G3 : Hid (RdG s B w w3 h false) := Lib.hid (by rw [HH.out]; exact G1.out.step hg3 hr3)
       clear hg3 hr3
       go_wp2_with fail
       go_meet
       case rel => exact .inl ⟨rfl, G3⟩
     · have HN : Hid (s.length ≤ b ∨ byt s b ≠ 95) := Lib.hid (.inr (by rw [H9.out]; decide))
       go_wp2_with fail
       refine (is_no s b 95 B _ hl G1.out.2 HN.out).mono ?_
       rintro e w3 ⟨rfl, hb3⟩
       have G3 := Lib.hid (G1.out.below hb3)
       clear hb3
       go_wp2_with fail
       go_meet
       case rel => exact .inr (.inl ⟨rfl, hlt, H9, HH, G3⟩)
     · go_wp2_with fail
       refine (is_no s b 95 B _ hl G1.out.2 H95.out).mono ?_
       rintro e w3 ⟨rfl, hb3⟩
       have G3 := Lib.hid (G1.out.below hb3)
       clear hb3
       go_wp2_with fail
       go_meet
       case rel => exact .inr (.inr ⟨rfl, H35, HH, G3⟩)
   case rest =>
     clear hw' G1
     go_upto_if 14 with (fail)
     go_cut [] (fun wx => Hid (RdG s B w wx h false))
     case first =>
       rcases hcut with ⟨rfl, G3⟩ | ⟨rfl, hlt, H9, HH, G3⟩ | ⟨rfl, H35, HH, G3⟩
       · go_wp2_with fail
         go_meet
         case rel => exact G3
       · go_wp2_with fail
         refine (is_yes s b 35 B _ hl G3.out.2 hlt H9.out).mono ?_
         rintro e w4 ⟨rfl, hg3, hr3⟩
         have G4 : Hid (RdG s B w w4 h false) := Lib.hid (by rw [HH.out]; exact G3.out.step hg3 hr3)
         clear hg3 hr3
         go_wp2_with fail
         go_meet
         case rel => exact G4
       · go_wp2_with fail
         refine (is_no s b 35 B _ hl G3.out.2 H35.out).mono ?_
         rintro e w4 ⟨rfl, hb3⟩
         have G4 : Hid (RdG s B w w4 h false) := Lib.hid (by rw [HH.out]; exact G3.out.below hb3)
         clear hb3
         go_wp2_with fail
         go_meet
         case rel => exact G4
     case rest =>
       rename Hid (RdG s B w _ h false) => G3
       obtain ⟨w3, hw3⟩ : ∃ W, W = wc := ⟨_, rfl⟩
       rw [← hw3] at G3 ⊢
       clear hw3
       by_cases hlt2 : h < s.length
       · have hr := HR.out
         rw [if_neg (by omega)] at hr
         have h0 : (0 : Int) ≤ (h : Int) := by omega
         have h1 : (h : Int) < (s.length : Int) := by omega
         have HM : Hid ((!false && decide (h < s.length)) = true) := Lib.hid (by rw [decide_eq_true hlt2]; rfl)
         have HI := Lib.hid (rdG G3.out.drew)
         clear G3
         rcases bool_two (letterB (byt s h)) with hL | hL
         · rw [if_pos hL] at hr
           have HV := Lib.hid hr.symm
           have HL := Lib.hid hL
           clear hr hL HR
           go_upto_region 6 with fail
           refine wp_region_noPanic ?_
           refine wp_region_held_drew (S := fun w' => w'.cell? ⟨B, 0, none⟩ = some (.string (S s)) ∧ w'.cell? ⟨B, 1, none⟩ = some (.int .i64 (h : Int)) ∧ w'.cell? ⟨B, 2, none⟩ = some (.bool false) ∧ RdG s B w w' h false) (by kernel_rfl) (HI.out) (fun hS => ?_)
           generalize hV0 : w3.drew = V0 at hS ⊢
           refine tL (i := 0) hS ?_
           try simp only [gA, gB, gC, Act.put, pB, pC, pD]
           refine wpAnyH_ready (rs := [1]) (by kernel_rfl) (by simp) ?_
           refine AllReadyH.cons rfl (fun K hK => ?_) AllReadyH.nil
           try simp only [gA, gB, gC]
           go_simp
           refine (more_any s h false B _ hS.2.2.2.2).mono ?_
           rintro e w9 ⟨rfl, hb9⟩
           rw [HM.out]
           try go_wp2_with fail
           refine hK.out _ _ (rdG_on hS hb9) (fun hS' => ?_)
           clear hK K hS hb9
           have hS := hS'
           clear hS'
           try simp only [Act.put, pB, pC, pD]
           refine tL (i := 2) hS ?_
           try simp only [gA, gB, gC, Act.put, pB, pC, pD]
           refine tL (i := 3) hS ?_
           try simp only [gA, gB, gC, Act.put, pB, pC, pD]
           refine tL (i := 4) hS ?_
           try simp only [gA, gB, gC, Act.put, pB, pC, pD]
           refine tL (i := 5) hS ?_
           try simp only [gA, gB, gC, Act.put, pB, pC, pD]
           refine tL (i := 6) hS ?_
           try simp only [gA, gB, gC, Act.put, pB, pC, pD]
           refine tL (i := 7) hS ?_
           try simp only [gA, gB, gC, Act.put, pB, pC, pD]
           refine tL (i := 8) hS ?_
           try simp only [gA, gB, gC, Act.put, pB, pC, pD]
           refine tL (i := 9) hS ?_
           try simp only [gA, gB, gC, Act.put, pB, pC, pD]
           refine tL (i := 10) hS ?_
           try simp only [gA, gB, gC, Act.put, pB, pC, pD]
           refine tL (i := 11) hS ?_
           try simp only [gA, gB, gC, Act.put, pB, pC, pD]
           refine tL (i := 12) hS ?_
           try simp only [gA, gB, gC, Act.put, pB, pC, pD]
           refine wpAnyH_ready (rs := [13]) (by kernel_rfl) (by simp) ?_
           refine AllReadyH.cons rfl (fun K hK => ?_) AllReadyH.nil
           try simp only [gA, gB, gC]
           go_simp
           refine (Letter_any _ _).mono ?_
           rintro e w9 ⟨rfl, rfl⟩
           rw [HL.out]
           try go_wp2_with fail
           refine hK.out _ _ hS (fun hS' => ?_)
           clear hK K hS
           have hS := hS'
           clear hS'
           try simp only [Act.put, pB, pC, pD]
           refine tL (i := 14) hS ?_
           try simp only [gA, gB, gC, Act.put, pB, pC, pD]
           refine tL (i := 15) hS ?_
           try simp only [gA, gB, gC, Act.put, pB, pC, pD]
           refine wpAnyH_done (by kernel_rfl) ?_ _
           refine NoPanic.normal ?_
           have G4 := Lib.hid hS.2.2.2
           clear hS HI
           obtain ⟨x0, x1, x2⟩ := G4.out.2.cells
           have f1 := Blk.frozen G4.out.2 1
           have f2 := Blk.frozen G4.out.2 2
           go_wp2_with fail
           go_ret
           exact RdP.of HV.out G4.out.fail
         · rw [if_neg (by rw [hL]; decide)] at hr
           have HR2 := Lib.hid hr
           have HL := Lib.hid hL
           clear hr HR hL
           go_upto_region 6 with fail
           refine wp_region_noPanic ?_
           refine wp_region_held_drew (S := fun w' => w'.cell? ⟨B, 0, none⟩ = some (.string (S s)) ∧ w'.cell? ⟨B, 1, none⟩ = some (.int .i64 (h : Int)) ∧ w'.cell? ⟨B, 2, none⟩ = some (.bool false) ∧ RdG s B w w' h false) (by kernel_rfl) (HI.out) (fun hS => ?_)
           generalize hV0 : w3.drew = V0 at hS ⊢
           refine tL (i := 0) hS ?_
           try simp only [gA, gB, gC, Act.put, pB, pC, pD]
           refine wpAnyH_ready (rs := [1]) (by kernel_rfl) (by simp) ?_
           refine AllReadyH.cons rfl (fun K hK => ?_) AllReadyH.nil
           try simp only [gA, gB, gC]
           go_simp
           refine (more_any s h false B _ hS.2.2.2.2).mono ?_
           rintro e w9 ⟨rfl, hb9⟩
           rw [HM.out]
           try go_wp2_with fail
           refine hK.out _ _ (rdG_on hS hb9) (fun hS' => ?_)
           clear hK K hS hb9
           have hS := hS'
           clear hS'
           try simp only [Act.put, pB, pC, pD]
           refine tL (i := 2) hS ?_
           try simp only [gA, gB, gC, Act.put, pB, pC, pD]
           refine tL (i := 3) hS ?_
           try simp only [gA, gB, gC, Act.put, pB, pC, pD]
           refine tL (i := 4) hS ?_
           try simp only [gA, gB, gC, Act.put, pB, pC, pD]
           refine tL (i := 5) hS ?_
           try simp only [gA, gB, gC, Act.put, pB, pC, pD]
           refine tL (i := 6) hS ?_
           try simp only [gA, gB, gC, Act.put, pB, pC, pD]
           refine tL (i := 7) hS ?_
           try simp only [gA, gB, gC, Act.put, pB, pC, pD]
           refine tL (i := 8) hS ?_
           try simp only [gA, gB, gC, Act.put, pB, pC, pD]
           refine tL (i := 9) hS ?_
           try simp only [gA, gB, gC, Act.put, pB, pC, pD]
           refine tL (i := 10) hS ?_
           try simp only [gA, gB, gC, Act.put, pB, pC, pD]
           refine tL (i := 11) hS ?_
           try simp only [gA, gB, gC, Act.put, pB, pC, pD]
           refine tL (i := 12) hS ?_
           try simp only [gA, gB, gC, Act.put, pB, pC, pD]
           refine wpAnyH_ready (rs := [13]) (by kernel_rfl) (by simp) ?_
           refine AllReadyH.cons rfl (fun K hK => ?_) AllReadyH.nil
           try simp only [gA, gB, gC]
           go_simp
           refine (Letter_any _ _).mono ?_
           rintro e w9 ⟨rfl, rfl⟩
           rw [HL.out]
           try go_wp2_with fail
           refine hK.out _ _ hS (fun hS' => ?_)
           clear hK K hS
           have hS := hS'
           clear hS'
           try simp only [Act.put, pB, pC, pD]
           refine tL (i := 14) hS ?_
           try simp only [gA, gB, gC, Act.put, pB, pC, pD]
           refine tL (i := 15) hS ?_
           try simp only [gA, gB, gC, Act.put, pB, pC, pD]
           refine wpAnyH_done (by kernel_rfl) ?_ _
           refine NoPanic.normal ?_
           have G4 := Lib.hid hS.2.2.2
           clear hS HI HL HM
           go_wp2_with fail
           go_loopg [] (s.length + 1) (fun f wr => ∃ n : Nat, b ≤ n ∧ n ≤ b + 32 ∧ n ≤ s.length ∧ s.length + 1 ≤ f + n ∧ Hid (ridn s b (rrun s b f n) = r ∧ RdG s B w wr n false))
           case atStart => exact ⟨h, by omega, by omega, by omega, by omega, Lib.hid ⟨HR2.out, G4.out⟩⟩
           case round =>
             clear HR2 G4 hbh hlt2 h0 h1
             obtain ⟨n, hn1, hn2, hn3, hn4, H⟩ := hrel
             obtain ⟨f, hf⟩ : ∃ f, gk = f + 1 := ⟨gk - 1, by omega⟩
             have hr := H.out.1
             rw [hf, rrun] at hr
             have HI := Lib.hid (rdG H.out.2.drew)
             clear H
             have n0 : (0 : Int) ≤ (n : Int) := by omega
             have hw : ((n : Int) < (s.length : Int) ∧ Hid ((!false && decide (n < s.length)) = true) ∧ Hid (ridn s b (if n - b = 32 then (n, true) else rrun s b f (n + 1)) = r) ∧ (Hid (letterB (byt s n) = true) ∨ (Hid (letterB (byt s n) = false) ∧ Hid (digitB (byt s n) = true)) ∨ (Hid (letterB (byt s n) = false) ∧ Hid (digitB (byt s n) = false) ∧ (((byt s n).toNat : Int) == 95) = true))) ∨
                 ((n : Int) < (s.length : Int) ∧ Hid ((!false && decide (n < s.length)) = true) ∧ Hid (ridn s b (n, false) = r) ∧ Hid (letterB (byt s n) = false) ∧ Hid (digitB (byt s n) = false) ∧ (((byt s n).toNat : Int) == 95) = false) ∨ (Hid ((!false && decide (n < s.length)) = false) ∧ Hid (ridn s b (n, false) = r)) := by
               by_cases hln : n < s.length
               · rw [if_neg (by omega)] at hr
                 have HM : Hid ((!false && decide (n < s.length)) = true) := Lib.hid (by rw [decide_eq_true hln]; rfl)
                 rcases (bool_two (idByte (byt s n))).symm with hi | hi
                 · rw [if_neg (by rw [hi]; decide)] at hr
                   refine .inl ⟨by omega, HM, Lib.hid hr, ?_⟩
                   rcases idByte_cases2 hi with hL | ⟨hL, hD⟩ | ⟨hL, hD, h95⟩
                   · exact .inl (Lib.hid hL)
                   · exact .inr (.inl ⟨Lib.hid hL, Lib.hid hD⟩)
                   · exact .inr (.inr ⟨Lib.hid hL, Lib.hid hD, by rw [bne, Bool.not_eq_false'] at h95; exact h95⟩)
                 · rw [if_pos hi] at hr
                   obtain ⟨hL, hD, h95⟩ := idByte_no2 hi
                   exact .inr (.inl ⟨by omega, HM, Lib.hid hr, Lib.hid hL, Lib.hid hD, by rw [bne, Bool.not_eq_true'] at h95; exact h95⟩)
               · rw [if_pos (by omega)] at hr
                 exact .inr (.inr ⟨Lib.hid (by rw [decide_eq_false hln]; rfl), Lib.hid hr⟩)
             clear hr
             rcases hw with ⟨n1, HM, HR3, hw⟩ | ⟨n1, HM, HE, HL, HD, e95⟩ | ⟨HM, HE⟩
             focus
               rcases hw with HL | ⟨HL, HD⟩ | ⟨HL, HD, e95⟩
               focus
                 go_upto_region 9 with fail
                 refine wp_region_noPanic ?_
                 refine wp_region_held_drew (S := fun w' => w'.cell? ⟨B, 0, none⟩ = some (.string (S s)) ∧ w'.cell? ⟨B, 1, none⟩ = some (.int .i64 (n : Int)) ∧ w'.cell? ⟨B, 2, none⟩ = some (.bool false) ∧ RdG s B w w' n false) (by kernel_rfl) (HI.out) (fun hS => ?_)
                 generalize hV0 : wr.drew = V0 at hS ⊢
                 refine tL (i := 0) hS ?_
                 try simp only [gA, gB, gC, Act.put, pB, pC, pD]
                 refine wpAnyH_ready (rs := [1]) (by kernel_rfl) (by simp) ?_
                 refine AllReadyH.cons rfl (fun K hK => ?_) AllReadyH.nil
                 try simp only [gA, gB, gC]
                 go_simp
                 refine (more_any s n false B _ hS.2.2.2.2).mono ?_
                 rintro e w9 ⟨rfl, hb9⟩
                 rw [HM.out]
                 try go_wp2_with fail
                 refine hK.out _ _ (rdG_on hS hb9) (fun hS' => ?_)
                 clear hK K hS hb9
                 have hS := hS'
                 clear hS'
                 try simp only [Act.put, pB, pC, pD]
                 refine tL (i := 2) hS ?_
                 try simp only [gA, gB, gC, Act.put, pB, pC, pD]
                 refine tL (i := 3) hS ?_
                 try simp only [gA, gB, gC, Act.put, pB, pC, pD]
                 refine tL (i := 4) hS ?_
                 try simp only [gA, gB, gC, Act.put, pB, pC, pD]
                 refine tL (i := 5) hS ?_
                 try simp only [gA, gB, gC, Act.put, pB, pC, pD]
                 refine tL (i := 6) hS ?_
                 try simp only [gA, gB, gC, Act.put, pB, pC, pD]
                 refine tL (i := 7) hS ?_
                 try simp only [gA, gB, gC, Act.put, pB, pC, pD]
                 refine tL (i := 8) hS ?_
                 try simp only [gA, gB, gC, Act.put, pB, pC, pD]
                 refine tL (i := 9) hS ?_
                 try simp only [gA, gB, gC, Act.put, pB, pC, pD]
                 refine tL (i := 10) hS ?_
                 try simp only [gA, gB, gC, Act.put, pB, pC, pD]
                 refine tL (i := 11) hS ?_
                 try simp only [gA, gB, gC, Act.put, pB, pC, pD]
                 refine wpAnyH_ready (rs := [12]) (by kernel_rfl) (by simp) ?_
                 refine AllReadyH.cons rfl (fun K hK => ?_) AllReadyH.nil
                 try simp only [gA, gB, gC]
                 go_simp
                 refine (Letter_any _ _).mono ?_
                 rintro e w9 ⟨rfl, rfl⟩
                 rw [HL.out]
                 try go_wp2_with fail
                 refine hK.out _ _ hS (fun hS' => ?_)
                 clear hK K hS
                 have hS := hS'
                 clear hS'
                 try simp only [Act.put, pB, pC, pD]
                 refine tL (i := 13) hS ?_
                 try simp only [gA, gB, gC, Act.put, pB, pC, pD]
                 refine tR (i := 14) hS ?_
                 try simp only [gA, gB, gC, Act.put, pB, pC, pD]
                 refine tR (i := 15) hS ?_
                 try simp only [gA, gB, gC, Act.put, pB, pC, pD]
                 refine tR (i := 16) hS ?_
                 try simp only [gA, gB, gC, Act.put, pB, pC, pD]
                 refine tR (i := 17) hS ?_
                 try simp only [gA, gB, gC, Act.put, pB, pC, pD]
                 refine tR (i := 18) hS ?_
                 try simp only [gA, gB, gC, Act.put, pB, pC, pD]
                 refine tR (i := 19) hS ?_
                 try simp only [gA, gB, gC, Act.put, pB, pC, pD]
                 refine tR (i := 20) hS ?_
                 try simp only [gA, gB, gC, Act.put, pB, pC, pD]
                 refine tR (i := 21) hS ?_
                 try simp only [gA, gB, gC, Act.put, pB, pC, pD]
                 refine tR (i := 22) hS ?_
                 try simp only [gA, gB, gC, Act.put, pB, pC, pD]
                 refine wpAnyH_ready (rs := [23]) (by kernel_rfl) (by simp) ?_
                 refine AllReadyH.cons rfl (fun K hK => ?_) AllReadyH.nil
                 try simp only [gA, gB, gC]
                 go_simp
                 refine hK.out _ _ hS (fun hS' => ?_)
                 clear hK K hS
                 have hS := hS'
                 clear hS'
                 try simp only [Act.put, pB, pC, pD]
                 refine tL (i := 24) hS ?_
                 try simp only [gA, gB, gC, Act.put, pB, pC, pD]
                 refine tL (i := 25) hS ?_
                 try simp only [gA, gB, gC, Act.put, pB, pC, pD]
                 refine tR (i := 26) hS ?_
                 try simp only [gA, gB, gC, Act.put, pB, pC, pD]
                 refine tR (i := 27) hS ?_
                 try simp only [gA, gB, gC, Act.put, pB, pC, pD]
                 refine tR (i := 28) hS ?_
                 try simp only [gA, gB, gC, Act.put, pB, pC, pD]
                 refine tR (i := 29) hS ?_
                 try simp only [gA, gB, gC, Act.put, pB, pC, pD]
                 refine tR (i := 30) hS ?_
                 try simp only [gA, gB, gC, Act.put, pB, pC, pD]
                 refine tR (i := 31) hS ?_
                 try simp only [gA, gB, gC, Act.put, pB, pC, pD]
                 refine tR (i := 32) hS ?_
                 try simp only [gA, gB, gC, Act.put, pB, pC, pD]
                 refine tR (i := 33) hS ?_
                 try simp only [gA, gB, gC, Act.put, pB, pC, pD]
                 refine tR (i := 34) hS ?_
                 try simp only [gA, gB, gC, Act.put, pB, pC, pD]
                 refine tR (i := 35) hS ?_
                 try simp only [gA, gB, gC, Act.put, pB, pC, pD]
                 refine tL (i := 36) hS ?_
                 try simp only [gA, gB, gC, Act.put, pB, pC, pD]
                 refine tL (i := 37) hS ?_
                 try simp only [gA, gB, gC, Act.put, pB, pC, pD]
                 refine wpAnyH_done (by kernel_rfl) ?_ _
                 refine NoPanic.normal ?_
                 have G5 := Lib.hid hS.2.2.2
                 clear hS HI HM HL
               rotate_left
               focus
                 go_upto_region 9 with fail
                 refine wp_region_noPanic ?_
                 refine wp_region_held_drew (S := fun w' => w'.cell? ⟨B, 0, none⟩ = some (.string (S s)) ∧ w'.cell? ⟨B, 1, none⟩ = some (.int .i64 (n : Int)) ∧ w'.cell? ⟨B, 2, none⟩ = some (.bool false) ∧ RdG s B w w' n false) (by kernel_rfl) (HI.out) (fun hS => ?_)
                 generalize hV0 : wr.drew = V0 at hS ⊢
                 refine tL (i := 0) hS ?_
                 try simp only [gA, gB, gC, Act.put, pB, pC, pD]
                 refine wpAnyH_ready (rs := [1]) (by kernel_rfl) (by simp) ?_
                 refine AllReadyH.cons rfl (fun K hK => ?_) AllReadyH.nil
                 try simp only [gA, gB, gC]
                 go_simp
                 refine (more_any s n false B _ hS.2.2.2.2).mono ?_
                 rintro e w9 ⟨rfl, hb9⟩
                 rw [HM.out]
                 try go_wp2_with fail
                 refine hK.out _ _ (rdG_on hS hb9) (fun hS' => ?_)
                 clear hK K hS hb9
                 have hS := hS'
                 clear hS'
                 try simp only [Act.put, pB, pC, pD]
                 refine tL (i := 2) hS ?_
                 try simp only [gA, gB, gC, Act.put, pB, pC, pD]
                 refine tL (i := 3) hS ?_
                 try simp only [gA, gB, gC, Act.put, pB, pC, pD]
                 refine tL (i := 4) hS ?_
                 try simp only [gA, gB, gC, Act.put, pB, pC, pD]
                 refine tL (i := 5) hS ?_
                 try simp only [gA, gB, gC, Act.put, pB, pC, pD]
                 refine tL (i := 6) hS ?_
                 try simp only [gA, gB, gC, Act.put, pB, pC, pD]
                 refine tL (i := 7) hS ?_
                 try simp only [gA, gB, gC, Act.put, pB, pC, pD]
                 refine tL (i := 8) hS ?_
                 try simp only [gA, gB, gC, Act.put, pB, pC, pD]
                 refine tL (i := 9) hS ?_
                 try simp only [gA, gB, gC, Act.put, pB, pC, pD]
                 refine tL (i := 10) hS ?_
                 try simp only [gA, gB, gC, Act.put, pB, pC, pD]
                 refine tL (i := 11) hS ?_
                 try simp only [gA, gB, gC, Act.put, pB, pC, pD]
                 refine wpAnyH_ready (rs := [12]) (by kernel_rfl) (by simp) ?_
                 refine AllReadyH.cons rfl (fun K hK => ?_) AllReadyH.nil
                 try simp only [gA, gB, gC]
                 go_simp
                 refine (Letter_any _ _).mono ?_
                 rintro e w9 ⟨rfl, rfl⟩
                 rw [HL.out]
                 try go_wp2_with fail
                 refine hK.out _ _ hS (fun hS' => ?_)
                 clear hK K hS
                 have hS := hS'
                 clear hS'
                 try simp only [Act.put, pB, pC, pD]
                 refine tL (i := 13) hS ?_
                 try simp only [gA, gB, gC, Act.put, pB, pC, pD]
                 refine tL (i := 14) hS ?_
                 try simp only [gA, gB, gC, Act.put, pB, pC, pD]
                 refine tL (i := 15) hS ?_
                 try simp only [gA, gB, gC, Act.put, pB, pC, pD]
                 refine tL (i := 16) hS ?_
                 try simp only [gA, gB, gC, Act.put, pB, pC, pD]
                 refine tL (i := 17) hS ?_
                 try simp only [gA, gB, gC, Act.put, pB, pC, pD]
                 refine tL (i := 18) hS ?_
                 try simp only [gA, gB, gC, Act.put, pB, pC, pD]
                 refine tL (i := 19) hS ?_
                 try simp only [gA, gB, gC, Act.put, pB, pC, pD]
                 refine tL (i := 20) hS ?_
                 try simp only [gA, gB, gC, Act.put, pB, pC, pD]
                 refine tL (i := 21) hS ?_
                 try simp only [gA, gB, gC, Act.put, pB, pC, pD]
                 refine tL (i := 22) hS ?_
                 try simp only [gA, gB, gC, Act.put, pB, pC, pD]
                 refine wpAnyH_ready (rs := [23]) (by kernel_rfl) (by simp) ?_
                 refine AllReadyH.cons rfl (fun K hK => ?_) AllReadyH.nil
                 try simp only [gA, gB, gC]
                 go_simp
                 refine (Digit_any _ _).mono ?_
                 rintro e w9 ⟨rfl, rfl⟩
                 rw [HD.out]
                 try go_wp2_with fail
                 refine hK.out _ _ hS (fun hS' => ?_)
                 clear hK K hS
                 have hS := hS'
                 clear hS'
                 try simp only [Act.put, pB, pC, pD]
                 refine tL (i := 24) hS ?_
                 try simp only [gA, gB, gC, Act.put, pB, pC, pD]
                 refine tL (i := 25) hS ?_
                 try simp only [gA, gB, gC, Act.put, pB, pC, pD]
                 refine tR (i := 26) hS ?_
                 try simp only [gA, gB, gC, Act.put, pB, pC, pD]
                 refine tR (i := 27) hS ?_
                 try simp only [gA, gB, gC, Act.put, pB, pC, pD]
                 refine tR (i := 28) hS ?_
                 try simp only [gA, gB, gC, Act.put, pB, pC, pD]
                 refine tR (i := 29) hS ?_
                 try simp only [gA, gB, gC, Act.put, pB, pC, pD]
                 refine tR (i := 30) hS ?_
                 try simp only [gA, gB, gC, Act.put, pB, pC, pD]
                 refine tR (i := 31) hS ?_
                 try simp only [gA, gB, gC, Act.put, pB, pC, pD]
                 refine tR (i := 32) hS ?_
                 try simp only [gA, gB, gC, Act.put, pB, pC, pD]
                 refine tR (i := 33) hS ?_
                 try simp only [gA, gB, gC, Act.put, pB, pC, pD]
                 refine tR (i := 34) hS ?_
                 try simp only [gA, gB, gC, Act.put, pB, pC, pD]
                 refine tR (i := 35) hS ?_
                 try simp only [gA, gB, gC, Act.put, pB, pC, pD]
                 refine tL (i := 36) hS ?_
                 try simp only [gA, gB, gC, Act.put, pB, pC, pD]
                 refine tL (i := 37) hS ?_
                 try simp only [gA, gB, gC, Act.put, pB, pC, pD]
                 refine wpAnyH_done (by kernel_rfl) ?_ _
                 refine NoPanic.normal ?_
                 have G5 := Lib.hid hS.2.2.2
                 clear hS HI HM HL HD
               rotate_left
               focus
                 go_upto_region 9 with fail
                 refine wp_region_noPanic ?_
                 refine wp_region_held_drew (S := fun w' => w'.cell? ⟨B, 0, none⟩ = some (.string (S s)) ∧ w'.cell? ⟨B, 1, none⟩ = some (.int .i64 (n : Int)) ∧ w'.cell? ⟨B, 2, none⟩ = some (.bool false) ∧ RdG s B w w' n false) (by kernel_rfl) (HI.out) (fun hS => ?_)
                 generalize hV0 : wr.drew = V0 at hS ⊢
                 refine tL (i := 0) hS ?_
                 try simp only [gA, gB, gC, Act.put, pB, pC, pD]
                 refine wpAnyH_ready (rs := [1]) (by kernel_rfl) (by simp) ?_
                 refine AllReadyH.cons rfl (fun K hK => ?_) AllReadyH.nil
                 try simp only [gA, gB, gC]
                 go_simp
                 refine (more_any s n false B _ hS.2.2.2.2).mono ?_
                 rintro e w9 ⟨rfl, hb9⟩
                 rw [HM.out]
                 try go_wp2_with fail
                 refine hK.out _ _ (rdG_on hS hb9) (fun hS' => ?_)
                 clear hK K hS hb9
                 have hS := hS'
                 clear hS'
                 try simp only [Act.put, pB, pC, pD]
                 refine tL (i := 2) hS ?_
                 try simp only [gA, gB, gC, Act.put, pB, pC, pD]
                 refine tL (i := 3) hS ?_
                 try simp only [gA, gB, gC, Act.put, pB, pC, pD]
                 refine tL (i := 4) hS ?_
                 try simp only [gA, gB, gC, Act.put, pB, pC, pD]
                 refine tL (i := 5) hS ?_
                 try simp only [gA, gB, gC, Act.put, pB, pC, pD]
                 refine tL (i := 6) hS ?_
                 try simp only [gA, gB, gC, Act.put, pB, pC, pD]
                 refine tL (i := 7) hS ?_
                 try simp only [gA, gB, gC, Act.put, pB, pC, pD]
                 refine tL (i := 8) hS ?_
                 try simp only [gA, gB, gC, Act.put, pB, pC, pD]
                 refine tL (i := 9) hS ?_
                 try simp only [gA, gB, gC, Act.put, pB, pC, pD]
                 refine tL (i := 10) hS ?_
                 try simp only [gA, gB, gC, Act.put, pB, pC, pD]
                 refine tL (i := 11) hS ?_
                 try simp only [gA, gB, gC, Act.put, pB, pC, pD]
                 refine wpAnyH_ready (rs := [12]) (by kernel_rfl) (by simp) ?_
                 refine AllReadyH.cons rfl (fun K hK => ?_) AllReadyH.nil
                 try simp only [gA, gB, gC]
                 go_simp
                 refine (Letter_any _ _).mono ?_
                 rintro e w9 ⟨rfl, rfl⟩
                 rw [HL.out]
                 try go_wp2_with fail
                 refine hK.out _ _ hS (fun hS' => ?_)
                 clear hK K hS
                 have hS := hS'
                 clear hS'
                 try simp only [Act.put, pB, pC, pD]
                 refine tL (i := 13) hS ?_
                 try simp only [gA, gB, gC, Act.put, pB, pC, pD]
                 refine tL (i := 14) hS ?_
                 try simp only [gA, gB, gC, Act.put, pB, pC, pD]
                 refine tL (i := 15) hS ?_
                 try simp only [gA, gB, gC, Act.put, pB, pC, pD]
                 refine tL (i := 16) hS ?_
                 try simp only [gA, gB, gC, Act.put, pB, pC, pD]
                 refine tL (i := 17) hS ?_
                 try simp only [gA, gB, gC, Act.put, pB, pC, pD]
                 refine tL (i := 18) hS ?_
                 try simp only [gA, gB, gC, Act.put, pB, pC, pD]
                 refine tL (i := 19) hS ?_
                 try simp only [gA, gB, gC, Act.put, pB, pC, pD]
                 refine tL (i := 20) hS ?_
                 try simp only [gA, gB, gC, Act.put, pB, pC, pD]
                 refine tL (i := 21) hS ?_
                 try simp only [gA, gB, gC, Act.put, pB, pC, pD]
                 refine tL (i := 22) hS ?_
                 try simp only [gA, gB, gC, Act.put, pB, pC, pD]
                 refine wpAnyH_ready (rs := [23]) (by kernel_rfl) (by simp) ?_
                 refine AllReadyH.cons rfl (fun K hK => ?_) AllReadyH.nil
                 try simp only [gA, gB, gC]
                 go_simp
                 refine (Digit_any _ _).mono ?_
                 rintro e w9 ⟨rfl, rfl⟩
                 rw [HD.out]
                 try go_wp2_with fail
                 refine hK.out _ _ hS (fun hS' => ?_)
                 clear hK K hS
                 have hS := hS'
                 clear hS'
                 try simp only [Act.put, pB, pC, pD]
                 refine tL (i := 24) hS ?_
                 try simp only [gA, gB, gC, Act.put, pB, pC, pD]
                 refine tL (i := 25) hS ?_
                 try simp only [gA, gB, gC, Act.put, pB, pC, pD]
                 refine tL (i := 26) hS ?_
                 try simp only [gA, gB, gC, Act.put, pB, pC, pD]
                 refine tL (i := 27) hS ?_
                 try simp only [gA, gB, gC, Act.put, pB, pC, pD]
                 refine tL (i := 28) hS ?_
                 try simp only [gA, gB, gC, Act.put, pB, pC, pD]
                 refine tL (i := 29) hS ?_
                 try simp only [gA, gB, gC, Act.put, pB, pC, pD]
                 refine tL (i := 30) hS ?_
                 try simp only [gA, gB, gC, Act.put, pB, pC, pD]
                 refine tL (i := 31) hS ?_
                 try simp only [gA, gB, gC, Act.put, pB, pC, pD]
                 refine tL (i := 32) hS ?_
                 try simp only [gA, gB, gC, Act.put, pB, pC, pD]
                 refine tL (i := 33) hS ?_
                 try simp only [gA, gB, gC, Act.put, pB, pC, pD]
                 refine tL (i := 34) hS ?_
                 try simp only [gA, gB, gC, Act.put, pB, pC, pD]
                 refine tL (i := 35) hS ?_
                 try simp only [gA, gB, gC, Act.put, pB, pC, pD]
                 refine tL (i := 36) hS ?_
                 try simp only [gA, gB, gC, Act.put, pB, pC, pD]
                 refine tL (i := 37) hS ?_
                 try simp only [gA, gB, gC, Act.put, pB, pC, pD]
                 refine wpAnyH_done (by kernel_rfl) ?_ _
                 refine NoPanic.normal ?_
                 have G5 := Lib.hid hS.2.2.2
                 clear hS HI HM HL HD
               rotate_left
               all_goals
                 obtain ⟨x0, x1, x2⟩ := G5.out.2.cells
                 have f1 := Blk.frozen G5.out.2 1
                 have f2 := Blk.frozen G5.out.2 2
                 by_cases h32 : n - b = 32
                 · have hr := HR3.out
                   rw [if_pos h32] at hr
                   have e32 : (((n : Int) - (b : Int)) == 32) = true := by rw [beq_iff_eq]; omega
                   have HV : Hid (r = ([], n, true)) := Lib.hid (by rw [← hr]; rfl)
                   clear hr h32 HR3
                   go_wp2_with fail
                   go_ret
                   exact RdP.of HV.out G5.out.fail
                 · have hr := HR3.out
                   rw [if_neg h32] at hr
                   have e32 : (((n : Int) - (b : Int)) == 32) = false := by rw [beq_eq_false_iff_ne]; omega
                   have HR4 := Lib.hid hr
                   have hn5 : n + 1 ≤ b + 32 := by omega
                   clear hr h32 HR3
                   go_wp2_with fail
                   go_roundg f
                   case measure => omega
                   case rel => exact ⟨n + 1, by omega, by omega, by omega, by omega, Lib.hid ⟨HR4.out, G5.out.setAt (n + 1)⟩⟩
             focus
               go_upto_region 9 with fail
               refine wp_region_noPanic ?_
               refine wp_region_held_drew (S := fun w' => w'.cell? ⟨B, 0, none⟩ = some (.string (S s)) ∧ w'.cell? ⟨B, 1, none⟩ = some (.int .i64 (n : Int)) ∧ w'.cell? ⟨B, 2, none⟩ = some (.bool false) ∧ RdG s B w w' n false) (by kernel_rfl) (HI.out) (fun hS => ?_)
               generalize hV0 : wr.drew = V0 at hS ⊢
               refine tL (i := 0) hS ?_
               try simp only [gA, gB, gC, Act.put, pB, pC, pD]
               refine wpAnyH_ready (rs := [1]) (by kernel_rfl) (by simp) ?_
               refine AllReadyH.cons rfl (fun K hK => ?_) AllReadyH.nil
               try simp only [gA, gB, gC]
               go_simp
               refine (more_any s n false B _ hS.2.2.2.2).mono ?_
               rintro e w9 ⟨rfl, hb9⟩
               rw [HM.out]
               try go_wp2_with fail
               refine hK.out _ _ (rdG_on hS hb9) (fun hS' => ?_)
               clear hK K hS hb9
               have hS := hS'
               clear hS'
               try simp only [Act.put, pB, pC, pD]
               refine tL (i := 2) hS ?_
               try simp only [gA, gB, gC, Act.put, pB, pC, pD]
               refine tL (i := 3) hS ?_
               try simp only [gA, gB, gC, Act.put, pB, pC, pD]
               refine tL (i := 4) hS ?_
               try simp only [gA, gB, gC, Act.put, pB, pC, pD]
               refine tL (i := 5) hS ?_
               try simp only [gA, gB, gC, Act.put, pB, pC, pD]
               refine tL (i := 6) hS ?_
               try simp only [gA, gB, gC, Act.put, pB, pC, pD]
               refine tL (i := 7) hS ?_
               try simp only [gA, gB, gC, Act.put, pB, pC, pD]
               refine tL (i := 8) hS ?_
               try simp only [gA, gB, gC, Act.put, pB, pC, pD]
               refine tL (i := 9) hS ?_
               try simp only [gA, gB, gC, Act.put, pB, pC, pD]
               refine tL (i := 10) hS ?_
               try simp only [gA, gB, gC, Act.put, pB, pC, pD]
               refine tL (i := 11) hS ?_
               try simp only [gA, gB, gC, Act.put, pB, pC, pD]
               refine wpAnyH_ready (rs := [12]) (by kernel_rfl) (by simp) ?_
               refine AllReadyH.cons rfl (fun K hK => ?_) AllReadyH.nil
               try simp only [gA, gB, gC]
               go_simp
               refine (Letter_any _ _).mono ?_
               rintro e w9 ⟨rfl, rfl⟩
               rw [HL.out]
               try go_wp2_with fail
               refine hK.out _ _ hS (fun hS' => ?_)
               clear hK K hS
               have hS := hS'
               clear hS'
               try simp only [Act.put, pB, pC, pD]
               refine tL (i := 13) hS ?_
               try simp only [gA, gB, gC, Act.put, pB, pC, pD]
               refine tL (i := 14) hS ?_
               try simp only [gA, gB, gC, Act.put, pB, pC, pD]
               refine tL (i := 15) hS ?_
               try simp only [gA, gB, gC, Act.put, pB, pC, pD]
               refine tL (i := 16) hS ?_
               try simp only [gA, gB, gC, Act.put, pB, pC, pD]
               refine tL (i := 17) hS ?_
               try simp only [gA, gB, gC, Act.put, pB, pC, pD]
               refine tL (i := 18) hS ?_
               try simp only [gA, gB, gC, Act.put, pB, pC, pD]
               refine tL (i := 19) hS ?_
               try simp only [gA, gB, gC, Act.put, pB, pC, pD]
               refine tL (i := 20) hS ?_
               try simp only [gA, gB, gC, Act.put, pB, pC, pD]
               refine tL (i := 21) hS ?_
               try simp only [gA, gB, gC, Act.put, pB, pC, pD]
               refine tL (i := 22) hS ?_
               try simp only [gA, gB, gC, Act.put, pB, pC, pD]
               refine wpAnyH_ready (rs := [23]) (by kernel_rfl) (by simp) ?_
               refine AllReadyH.cons rfl (fun K hK => ?_) AllReadyH.nil
               try simp only [gA, gB, gC]
               go_simp
               refine (Digit_any _ _).mono ?_
               rintro e w9 ⟨rfl, rfl⟩
               rw [HD.out]
               try go_wp2_with fail
               refine hK.out _ _ hS (fun hS' => ?_)
               clear hK K hS
               have hS := hS'
               clear hS'
               try simp only [Act.put, pB, pC, pD]
               refine tL (i := 24) hS ?_
               try simp only [gA, gB, gC, Act.put, pB, pC, pD]
               refine tL (i := 25) hS ?_
               try simp only [gA, gB, gC, Act.put, pB, pC, pD]
               refine tL (i := 26) hS ?_
               try simp only [gA, gB, gC, Act.put, pB, pC, pD]
               refine tL (i := 27) hS ?_
               try simp only [gA, gB, gC, Act.put, pB, pC, pD]
               refine tL (i := 28) hS ?_
               try simp only [gA, gB, gC, Act.put, pB, pC, pD]
               refine tL (i := 29) hS ?_
               try simp only [gA, gB, gC, Act.put, pB, pC, pD]
               refine tL (i := 30) hS ?_
               try simp only [gA, gB, gC, Act.put, pB, pC, pD]
               refine tL (i := 31) hS ?_
               try simp only [gA, gB, gC, Act.put, pB, pC, pD]
               refine tL (i := 32) hS ?_
               try simp only [gA, gB, gC, Act.put, pB, pC, pD]
               refine tL (i := 33) hS ?_
               try simp only [gA, gB, gC, Act.put, pB, pC, pD]
               refine tL (i := 34) hS ?_
               try simp only [gA, gB, gC, Act.put, pB, pC, pD]
               refine tL (i := 35) hS ?_
               try simp only [gA, gB, gC, Act.put, pB, pC, pD]
               refine tL (i := 36) hS ?_
               try simp only [gA, gB, gC, Act.put, pB, pC, pD]
               refine tL (i := 37) hS ?_
               try simp only [gA, gB, gC, Act.put, pB, pC, pD]
               refine wpAnyH_done (by kernel_rfl) ?_ _
               refine NoPanic.normal ?_
               have G5 := Lib.hid hS.2.2.2
               clear hS HI HM HL HD e95
             rotate_left
             focus
               go_upto_region 9 with fail
               refine wp_region_noPanic ?_
               refine wp_region_held_drew (S := fun w' => w'.cell? ⟨B, 0, none⟩ = some (.string (S s)) ∧ w'.cell? ⟨B, 1, none⟩ = some (.int .i64 (n : Int)) ∧ w'.cell? ⟨B, 2, none⟩ = some (.bool false) ∧ RdG s B w w' n false) (by kernel_rfl) (HI.out) (fun hS => ?_)
               generalize hV0 : wr.drew = V0 at hS ⊢
               refine tL (i := 0) hS ?_
               try simp only [gA, gB, gC, Act.put, pB, pC, pD]
               refine wpAnyH_ready (rs := [1]) (by kernel_rfl) (by simp) ?_
               refine AllReadyH.cons rfl (fun K hK => ?_) AllReadyH.nil
               try simp only [gA, gB, gC]
               go_simp
               refine (more_any s n false B _ hS.2.2.2.2).mono ?_
               rintro e w9 ⟨rfl, hb9⟩
               rw [HM.out]
               try go_wp2_with fail
               refine hK.out _ _ (rdG_on hS hb9) (fun hS' => ?_)
               clear hK K hS hb9
               have hS := hS'
               clear hS'
               try simp only [Act.put, pB, pC, pD]
               refine tL (i := 2) hS ?_
               try simp only [gA, gB, gC, Act.put, pB, pC, pD]
               refine tR (i := 3) hS ?_
               try simp only [gA, gB, gC, Act.put, pB, pC, pD]
               refine tR (i := 4) hS ?_
               try simp only [gA, gB, gC, Act.put, pB, pC, pD]
               refine tR (i := 5) hS ?_
               try simp only [gA, gB, gC, Act.put, pB, pC, pD]
               refine tR (i := 6) hS ?_
               try simp only [gA, gB, gC, Act.put, pB, pC, pD]
               refine tR (i := 7) hS ?_
               try simp only [gA, gB, gC, Act.put, pB, pC, pD]
               refine tR (i := 8) hS ?_
               try simp only [gA, gB, gC, Act.put, pB, pC, pD]
               refine tR (i := 9) hS ?_
               try simp only [gA, gB, gC, Act.put, pB, pC, pD]
               refine tR (i := 10) hS ?_
               try simp only [gA, gB, gC, Act.put, pB, pC, pD]
               refine tR (i := 11) hS ?_
               try simp only [gA, gB, gC, Act.put, pB, pC, pD]
               refine wpAnyH_ready (rs := [12]) (by kernel_rfl) (by simp) ?_
               refine AllReadyH.cons rfl (fun K hK => ?_) AllReadyH.nil
               try simp only [gA, gB, gC]
               go_simp
               refine hK.out _ _ hS (fun hS' => ?_)
               clear hK K hS
               have hS := hS'
               clear hS'
               try simp only [Act.put, pB, pC, pD]
               refine tR (i := 13) hS ?_
               try simp only [gA, gB, gC, Act.put, pB, pC, pD]
               refine tR (i := 14) hS ?_
               try simp only [gA, gB, gC, Act.put, pB, pC, pD]
               refine tR (i := 15) hS ?_
               try simp only [gA, gB, gC, Act.put, pB, pC, pD]
               refine tR (i := 16) hS ?_
               try simp only [gA, gB, gC, Act.put, pB, pC, pD]
               refine tR (i := 17) hS ?_
               try simp only [gA, gB, gC, Act.put, pB, pC, pD]
               refine tR (i := 18) hS ?_
               try simp only [gA, gB, gC, Act.put, pB, pC, pD]
               refine tR (i := 19) hS ?_
               try simp only [gA, gB, gC, Act.put, pB, pC, pD]
               refine tR (i := 20) hS ?_
               try simp only [gA, gB, gC, Act.put, pB, pC, pD]
               refine tR (i := 21) hS ?_
               try simp only [gA, gB, gC, Act.put, pB, pC, pD]
               refine tR (i := 22) hS ?_
               try simp only [gA, gB, gC, Act.put, pB, pC, pD]
               refine wpAnyH_ready (rs := [23]) (by kernel_rfl) (by simp) ?_
               refine AllReadyH.cons rfl (fun K hK => ?_) AllReadyH.nil
               try simp only [gA, gB, gC]
               go_simp
               refine hK.out _ _ hS (fun hS' => ?_)
               clear hK K hS
               have hS := hS'
               clear hS'
               try simp only [Act.put, pB, pC, pD]
               refine tR (i := 24) hS ?_
               try simp only [gA, gB, gC, Act.put, pB, pC, pD]
               refine tR (i := 25) hS ?_
               try simp only [gA, gB, gC, Act.put, pB, pC, pD]
               refine tR (i := 26) hS ?_
               try simp only [gA, gB, gC, Act.put, pB, pC, pD]
               refine tR (i := 27) hS ?_
               try simp only [gA, gB, gC, Act.put, pB, pC, pD]
               refine tR (i := 28) hS ?_
               try simp only [gA, gB, gC, Act.put, pB, pC, pD]
               refine tR (i := 29) hS ?_
               try simp only [gA, gB, gC, Act.put, pB, pC, pD]
               refine tR (i := 30) hS ?_
               try simp only [gA, gB, gC, Act.put, pB, pC, pD]
               refine tR (i := 31) hS ?_
               try simp only [gA, gB, gC, Act.put, pB, pC, pD]
               refine tR (i := 32) hS ?_
               try simp only [gA, gB, gC, Act.put, pB, pC, pD]
               refine tR (i := 33) hS ?_
               try simp only [gA, gB, gC, Act.put, pB, pC, pD]
               refine tR (i := 34) hS ?_
               try simp only [gA, gB, gC, Act.put, pB, pC, pD]
               refine tR (i := 35) hS ?_
               try simp only [gA, gB, gC, Act.put, pB, pC, pD]
               refine tR (i := 36) hS ?_
               try simp only [gA, gB, gC, Act.put, pB, pC, pD]
               refine tL (i := 37) hS ?_
               try simp only [gA, gB, gC, Act.put, pB, pC, pD]
               refine wpAnyH_done (by kernel_rfl) ?_ _
               refine NoPanic.normal ?_
               have G5 := Lib.hid hS.2.2.2
               clear hS HI HM
             all_goals
               have hsl : (sl s b n).length ≤ 1000000 := by have := sl_le s b n; omega
               have nb : (b : Int) ≤ (n : Int) := by omega
               have nl : (n : Int) ≤ (s.length : Int) := by omega
               have b0 : (0 : Int) ≤ (b : Int) := by omega
               have hrr := HE.out
               unfold ridn at hrr
               simp only [Bool.false_eq_true, if_false] at hrr
               clear HE
               obtain ⟨q, hW⟩ : ∃ q, wordsL.contains (sl s b n) = q := ⟨_, rfl⟩
               rw [hW] at hrr
               have HWD := Lib.hid hW
               have HI := Lib.hid (rdG G5.out.drew)
               have HRR := Lib.hid hrr
               clear hrr hW G5
               go_upto_region 14 with fail
               refine wp_region_noPanic ?_
               refine wp_region_held_drew (S := fun w' => w'.cell? ⟨B, 0, none⟩ = some (.string (S s)) ∧ w'.cell? ⟨B, 1, none⟩ = some (.int .i64 (n : Int)) ∧ w'.cell? ⟨B, 2, none⟩ = some (.bool false) ∧ RdG s B w w' n false) (by kernel_rfl) (HI.out) (fun hS => ?_)
               generalize hV0 : w9.drew = V0 at hS ⊢
               refine tL (i := 0) hS ?_
               try simp only [gA, gB, gC, Act.put, pB, pC, pD]
               refine tL (i := 1) hS ?_
               try simp only [gA, gB, gC, Act.put, pB, pC, pD]
               refine tL (i := 2) hS ?_
               try simp only [gA, gB, gC, Act.put, pB, pC, pD]
               refine tL (i := 3) hS ?_
               try simp only [gA, gB, gC, Act.put, pB, pC, pD]
               refine tL (i := 4) hS ?_
               try simp only [gA, gB, gC, Act.put, pB, pC, pD]
               refine tL (i := 5) hS ?_
               try simp only [gA, gB, gC, Act.put, pB, pC, pD]
               refine tL (i := 6) hS ?_
               try simp only [gA, gB, gC, Act.put, pB, pC, pD]
               refine tL (i := 7) hS ?_
               try simp only [gA, gB, gC, Act.put, pB, pC, pD]
               refine tL (i := 8) hS ?_
               try simp only [gA, gB, gC, Act.put, pB, pC, pD]
               refine tL (i := 9) hS ?_
               try simp only [gA, gB, gC, Act.put, pB, pC, pD]
               refine wpAnyH_ready (rs := [10]) (by kernel_rfl) (by simp) ?_
               refine AllReadyH.cons rfl (fun K hK => ?_) AllReadyH.nil
               try simp only [gA, gB, gC]
               go_simp
               refine (refWord_any (sl s b n) hsl _).mono ?_
               rintro e w9 ⟨rfl, hb9⟩
               rw [HWD.out]
               try go_wp2_with fail
               refine hK.out _ _ (rdG_on hS hb9) (fun hS' => ?_)
               clear hK K hS hb9
               have hS := hS'
               clear hS'
               try simp only [Act.put, pB, pC, pD]
               refine wpAnyH_done (by kernel_rfl) ?_ _
               refine NoPanic.normal ?_
               have G6 := Lib.hid hS.2.2.2
               clear hS HI
               rcases (bool_two q).symm with rfl | rfl
               · have HV : Hid (r = ([], n, true)) := Lib.hid (by have := HRR.out; rw [if_pos rfl] at this; exact this.symm)
                 obtain ⟨x0, x1, x2⟩ := G6.out.2.cells
                 have f1 := Blk.frozen G6.out.2 1
                 have f2 := Blk.frozen G6.out.2 2
                 go_wp2_with fail
                 go_ret
                 exact RdP.of HV.out G6.out.fail
               · have HV : Hid (r = (sl s b n, n, false)) := Lib.hid (by have := HRR.out; rw [if_neg (by decide)] at this; exact this.symm)
                 have HI := Lib.hid (rdG G6.out.drew)
                 clear G6
                 go_upto_region 17 with fail
                 go_region_held3 (fun w' => w'.cell? ⟨B, 0, none⟩ = some (.string (S s)) ∧ w'.cell? ⟨B, 1, none⟩ = some (.int .i64 (n : Int)) ∧ w'.cell? ⟨B, 2, none⟩ = some (.bool false) ∧ RdG s B w w' n false)
                   (first | with_reducible exact HI.out | go_keep) (fail)
                 all_goals
                   go_wp2_with fail
                   go_ret
                   exact RdP.of HV.out HI.out.2.2.2
       · have HV : Hid (r = ([], h, true)) := Lib.hid (by have hr := HR.out; rw [if_pos (by omega)] at hr; exact hr.symm)
         have HM : Hid ((!false && decide (h < s.length)) = false) := Lib.hid (by rw [decide_eq_false hlt2]; rfl)
         have HI := Lib.hid (rdG G3.out.drew)
         clear G3 HR
         go_upto_region 6 with fail
         refine wp_region_noPanic ?_
         refine wp_region_held_drew (S := fun w' => w'.cell? ⟨B, 0, none⟩ = some (.string (S s)) ∧ w'.cell? ⟨B, 1, none⟩ = some (.int .i64 (h : Int)) ∧ w'.cell? ⟨B, 2, none⟩ = some (.bool false) ∧ RdG s B w w' h false) (by kernel_rfl) (HI.out) (fun hS => ?_)
         generalize hV0 : w3.drew = V0 at hS ⊢
         refine tL (i := 0) hS ?_
         try simp only [gA, gB, gC, Act.put, pB, pC, pD]
         refine wpAnyH_ready (rs := [1]) (by kernel_rfl) (by simp) ?_
         refine AllReadyH.cons rfl (fun K hK => ?_) AllReadyH.nil
         try simp only [gA, gB, gC]
         go_simp
         refine (more_any s h false B _ hS.2.2.2.2).mono ?_
         rintro e w9 ⟨rfl, hb9⟩
         rw [HM.out]
         try go_wp2_with fail
         refine hK.out _ _ (rdG_on hS hb9) (fun hS' => ?_)
         clear hK K hS hb9
         have hS := hS'
         clear hS'
         try simp only [Act.put, pB, pC, pD]
         refine tL (i := 2) hS ?_
         try simp only [gA, gB, gC, Act.put, pB, pC, pD]
         refine tL (i := 3) hS ?_
         try simp only [gA, gB, gC, Act.put, pB, pC, pD]
         refine tR (i := 4) hS ?_
         try simp only [gA, gB, gC, Act.put, pB, pC, pD]
         refine tR (i := 5) hS ?_
         try simp only [gA, gB, gC, Act.put, pB, pC, pD]
         refine tR (i := 6) hS ?_
         try simp only [gA, gB, gC, Act.put, pB, pC, pD]
         refine tR (i := 7) hS ?_
         try simp only [gA, gB, gC, Act.put, pB, pC, pD]
         refine tR (i := 8) hS ?_
         try simp only [gA, gB, gC, Act.put, pB, pC, pD]
         refine tR (i := 9) hS ?_
         try simp only [gA, gB, gC, Act.put, pB, pC, pD]
         refine tR (i := 10) hS ?_
         try simp only [gA, gB, gC, Act.put, pB, pC, pD]
         refine tR (i := 11) hS ?_
         try simp only [gA, gB, gC, Act.put, pB, pC, pD]
         refine tR (i := 12) hS ?_
         try simp only [gA, gB, gC, Act.put, pB, pC, pD]
         refine wpAnyH_ready (rs := [13]) (by kernel_rfl) (by simp) ?_
         refine AllReadyH.cons rfl (fun K hK => ?_) AllReadyH.nil
         try simp only [gA, gB, gC]
         go_simp
         refine hK.out _ _ hS (fun hS' => ?_)
         clear hK K hS
         have hS := hS'
         clear hS'
         try simp only [Act.put, pB, pC, pD]
         refine tR (i := 14) hS ?_
         try simp only [gA, gB, gC, Act.put, pB, pC, pD]
         refine tL (i := 15) hS ?_
         try simp only [gA, gB, gC, Act.put, pB, pC, pD]
         refine wpAnyH_done (by kernel_rfl) ?_ _
         refine NoPanic.normal ?_
         have G4 := Lib.hid hS.2.2.2
         clear hS HI
         obtain ⟨x0, x1, x2⟩ := G4.out.2.cells
         have f1 := Blk.frozen G4.out.2 1
         have f2 := Blk.frozen G4.out.2 2
         go_wp2_with fail
         go_ret
         exact RdP.of HV.out G4.out.fail
end
end Go.Proofs.YtoahmganodehkaaGreatDoor
