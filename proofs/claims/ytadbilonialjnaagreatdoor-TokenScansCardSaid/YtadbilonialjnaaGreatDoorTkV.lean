/- What the specification of the tokens computes, in the words of the program's: the next token, the end of a line. No program in sight. -/
import Derived.Test.YtadbilonialjnaaGreatDoorByt
import Derived.Test.YtadbilonialjnaaGreatDoorTkQ
import Derived.Test.YtadbilonialjnaaGreatDoorTkR
namespace Go.Proofs.YtadbilonialjnaaGreatDoor

/-- the length of the number at the beginning, 0 if there is none -/
def rNum (m : List UInt8) : Nat := if runN digitB m = 0 then 0 else tkNum m
/-- the token at the beginning, as the specification orders the cases -/
def rNext (nb : List UInt8 → Bool) (m : List UInt8) : Option (Nat × List UInt8 × Nat) :=
  match m with
  | [] => none
  | c :: _ =>
    if c = 34 then tkStr m
    else if List.isPrefixOf [47, 47] m = true then some (6, (m.take (runN (· != 10) m)).drop 2, runN (· != 10) m)
    else if 0 < rNum m then (if nb (m.take (rNum m)) = true then some (2, m.take (rNum m), rNum m) else none)
    else if 0 < tkWord m ∧ (tkOp m).length ≤ tkWord m then some (1, m.take (tkWord m), tkWord m)
    else if tkOp m = [] then none else some (5, tkOp m, (tkOp m).length)
def opHead : List UInt8 → Bool
  | a :: _ => !letterB a && a != 35
  | [] => true
def opNext : List UInt8 → Bool
  | _ :: b :: _ => !tkWb b
  | _ => true
theorem ops_head : ∀ o ∈ tkOps, opHead o = true ∧ opNext o = true ∧ ¬ o = [] := by decide
theorem word_op (m : List UInt8) (h : 0 < tkWord m) : (tkOp m).length ≤ tkWord m := by
  cases m with
  | nil => simp [tkWord] at h
  | cons c t =>
    rcases tkOp_pre (c :: t) with hp | hn
    · by_cases h0 : tkOp (c :: t) = []
      · rw [h0]; simp
      · obtain ⟨o1, o2, -⟩ := ops_head _ (tkOp_mem _ h0)
        generalize tkOp (c :: t) = o at *
        match o, h0, hp, o1, o2 with
        | [a], _, _, _, _ => simp; omega
        | a :: b :: r, _, hp, o1, o2 =>
          exfalso
          have hpp : a = c ∧ (b :: r).isPrefixOf t = true := by simpa [List.isPrefixOf] using hp
          obtain ⟨rfl, hp2⟩ := hpp
          rw [tkWord_cons, tkWn_cons] at h
          simp only [opHead, opNext, Bool.and_eq_true, Bool.not_eq_true', bne_iff_ne, ne_eq] at o1 o2
          by_cases hL : (tkLet a || a == 35) = true
          · rw [if_pos hL] at h
            have ha : a = 95 := by
              simp only [tkLet, o1.1, Bool.false_or, Bool.or_eq_true, beq_iff_eq] at hL
              rcases hL with hL | hL
              · exact hL
              · exact absurd hL o1.2
            cases t with
            | nil => simp [List.isPrefixOf] at hp2
            | cons d t' =>
              have hd : b = d := by
                have : b = d ∧ r.isPrefixOf t' = true := by simpa [List.isPrefixOf] using hp2
                exact this.1
              subst hd
              have hr : runN tkWb (b :: t') = 0 := by unfold runN; rw [o2]; rfl
              rw [hr, if_pos ⟨rfl, .inr ha⟩] at h
              omega
          · rw [if_neg hL] at h
            simp at h
    · rw [hn]; simp
theorem num_head (c : UInt8) (t : List UInt8) (h : digitB c = true) : 0 < rNum (c :: t) ∧ rNum (c :: t) = tkNum (c :: t) := by
  have hr : 0 < runN digitB (c :: t) := by unfold runN; rw [if_pos h]; omega
  have hn : runN digitB (c :: t) ≤ tkNum (c :: t) := by
    unfold tkNum
    split
    · split <;> omega
    · omega
  have e : rNum (c :: t) = tkNum (c :: t) := by unfold rNum; rw [if_neg (by omega)]
  exact ⟨by omega, e⟩
theorem num_not (c : UInt8) (t : List UInt8) (h : digitB c = false) : rNum (c :: t) = 0 := by
  unfold rNum; rw [if_pos]; unfold runN; rw [h]; rfl
theorem digit_nowd (c : UInt8) (t : List UInt8) (h : digitB c = true) : tkWord (c :: t) = 0 := by
  have hl : (tkLet c || c == 35) = false := by
    rw [digitB_nat] at h
    simp only [decide_eq_true_eq] at h
    have h35 : (c == 35) = false := by rw [beq_eq_false_iff_ne]; rintro rfl; exact absurd h (by decide)
    have h95 : (c == 95) = false := by rw [beq_eq_false_iff_ne]; rintro rfl; exact absurd h (by decide)
    have hL : letterB c = false := by
      rw [letterB_nat]
      simp only [Bool.or_eq_false_iff, decide_eq_false_iff_not]
      omega
    unfold tkLet
    rw [h35, h95, hL]; rfl
  rw [tkWord_cons, tkWn_cons, hl]
  simp
theorem rNext_eq (nb : List UInt8 → Bool) (c : UInt8) (t : List UInt8) : rNext nb (c :: t) = tkNext nb (c :: t) := by
  by_cases hq : c = 34
  · subst hq
    have hw : tkWord (34 :: t) = 0 := by rw [tkWord_cons, tkWn_cons]; simp [show tkLet 34 = false by decide]
    rw [nx_rest (by simp [List.isPrefixOf]) hw]
    simp only [rNext, if_true, show digitB 34 = false by decide]
    rfl
  · by_cases hp : List.isPrefixOf [47, 47] (c :: t) = true
    · rw [nx_com hp]
      simp only [rNext, if_neg hq, if_pos hp]
    · have hp' := not_true hp
      by_cases hd : digitB c = true
      · obtain ⟨h1, h2⟩ := num_head c t hd
        rw [nx_rest hp' (digit_nowd c t hd)]
        simp only [rNext, if_neg hq, if_neg hp, if_pos h1, if_pos hd]
        rw [h2]
      · have hd' := not_true hd
        have h0 := num_not c t hd'
        by_cases hw : 0 < tkWord (c :: t)
        · rw [nx_word hp' hw]
          simp only [rNext, if_neg hq, if_neg hp, h0, if_pos (show 0 < tkWord (c :: t) ∧ _ from ⟨hw, word_op _ hw⟩)]
          simp
        · rw [nx_rest hp' (by omega)]
          simp only [rNext, if_neg hq, if_neg hp, h0, if_neg (show ¬ (0 < tkWord (c :: t) ∧ _) from fun h => hw h.1), if_neg hd]
          simp

/-- whether a declaration may end behind a token -/
def tkEnd (k : Nat) (t : List UInt8) : Bool := if k = 1 ∨ k = 2 ∨ k = 3 ∨ k = 4 then true else k == 5 && tkEndOps.contains t
/-- whether a line feed at offset a gives a token behind the tokens R, the last one first -/
def rLine (s : List UInt8) (a : Nat) : List Tok → Bool
  | [] => false
  | x :: r => if x.k = 7 then false else if x.k = 6 then rLine s a r else if (sl s x.e a).contains 10 = true then false else tkEnd x.k x.t
theorem sl_more (s : List UInt8) (a b n : Nat) (h : a ≤ b) : sl s a (b + n) = sl s a b ++ sl s b (b + n) := by
  unfold sl
  rw [show b + n - a = (b - a) + n by omega, List.take_add, List.drop_drop, show a + (b - a) = b by omega, show b + n - b = n by omega]
theorem rLine_quiet (s : List UInt8) (a n : Nat) (h : (sl s a (a + n)).contains 10 = false) : ∀ R : List Tok, (∀ x ∈ R, x.e ≤ a) → rLine s (a + n) R = rLine s a R
  | [], _ => rfl
  | x :: r, hx => by
    have hxe := hx x (List.mem_cons_self ..)
    unfold rLine
    rw [rLine_quiet s a n h r fun y hy => hx y (List.mem_cons_of_mem _ hy), sl_more s x.e a n hxe]
    have e : (sl s x.e a ++ sl s a (a + n)).contains 10 = (sl s x.e a).contains 10 := by
      have h' : ¬ (10 : UInt8) ∈ sl s a (a + n) := by
        intro hm; rw [← List.contains_iff_mem, h] at hm; cases hm
      rw [Bool.eq_iff_iff, List.contains_iff_mem, List.contains_iff_mem, List.mem_append]
      exact ⟨fun hh => hh.resolve_right h', .inl⟩
    rw [e]
theorem rLine_low (s : List UInt8) (a : Nat) : ∀ R : List Tok, (∀ x ∈ R, x.e ≤ a) → rLine s a R = false → rLine s (a + 1) R = false
  | [], _, _ => rfl
  | x :: r, hx, h => by
    have hxe := hx x (List.mem_cons_self ..)
    unfold rLine at h ⊢
    by_cases h7 : x.k = 7
    · rw [if_pos h7]
    · rw [if_neg h7] at h ⊢
      by_cases h6 : x.k = 6
      · rw [if_pos h6] at h ⊢
        exact rLine_low s a r (fun y hy => hx y (List.mem_cons_of_mem _ hy)) h
      · rw [if_neg h6] at h ⊢
        by_cases hc : (sl s x.e a).contains 10 = true
        · rw [if_pos]
          rw [sl_more s x.e a 1 hxe]
          rw [List.contains_iff_mem] at hc ⊢
          exact List.mem_append_left _ hc
        · rw [if_neg hc] at h
          split
          · rfl
          · exact h
theorem run_quiet : ∀ m : List UInt8, (m.take (runN (· != 10) m)).contains 10 = false
  | [] => rfl
  | c :: t => by
    unfold runN
    by_cases h : (c != 10) = true
    · rw [if_pos h, List.take_succ_cons, List.contains_cons, run_quiet t]
      have : ¬ c = 10 := by simpa using h
      simp; exact fun e => this e.symm
    · rw [if_neg h]; rfl
theorem nx_kind {nb : List UInt8 → Bool} {m : List UInt8} {k n : Nat} {x : List UInt8} (h : tkNext nb m = some (k, x, n)) : ¬ k = 7 ∧ (k = 6 → n = runN (· != 10) m) := by
  unfold tkNext at h
  split at h
  · injection h with h; injection h with h1 h2; injection h2 with h2 h3; exact ⟨by omega, fun _ => h3.symm⟩
  · split at h
    · injection h with h; injection h with h1 h2; exact ⟨by omega, fun e => by omega⟩
    · split at h
      · cases h
      · split at h
        · split at h
          · injection h with h; injection h with h1 h2; exact ⟨by omega, fun e => by omega⟩
          · cases h
        · split at h
          · unfold tkStr at h
            (repeat' split at h) <;> first | (cases h; done) | (cases h; exact ⟨by omega, fun e => by omega⟩)
          · split at h
            · cases h
            · injection h with h; injection h with h1 h2; exact ⟨by omega, fun e => by omega⟩
/-- the state of the scan: what the specification reckons anew, the program keeps -/
def LnIs (s : List UInt8) (a : Nat) (L : List Tok) (ln : Bool) : Prop := rLine s a L.reverse = ln ∧ ∀ x ∈ L, x.e ≤ a
theorem ln_start (s : List UInt8) : LnIs s 0 [] false := ⟨rfl, by simp⟩
theorem ln_blank {s : List UInt8} {a : Nat} {L : List Tok} {ln : Bool} (h : LnIs s a L ln) (ha : a < s.length) (hb : ¬ byt s a = 10) : LnIs s (a + 1) L ln := by
  refine ⟨?_, fun x hx => Nat.le_succ_of_le (h.2 x hx)⟩
  rw [rLine_quiet s a 1 ?_ _ (fun x hx => h.2 x (List.mem_reverse.1 hx))]
  · exact h.1
  · rw [sl_snoc s a a (Nat.le_refl _) ha, sl_self]; simpa using fun e => hb e.symm
theorem ln_skip {s : List UInt8} {a : Nat} {L : List Tok} (h : LnIs s a L false) : LnIs s (a + 1) L false :=
  ⟨rLine_low s a _ (fun x hx => h.2 x (List.mem_reverse.1 hx)) h.1, fun x hx => Nat.le_succ_of_le (h.2 x hx)⟩
theorem ln_line {s : List UInt8} {a : Nat} {L : List Tok} {ln : Bool} (h : LnIs s a L ln) : LnIs s (a + 1) (L ++ [⟨7, [10], a, a + 1⟩]) false := by
  refine ⟨by rw [List.reverse_append]; rfl, fun x hx => ?_⟩
  rcases List.mem_append.1 hx with hx | hx
  · exact Nat.le_succ_of_le (h.2 x hx)
  · simp at hx; subst hx; exact Nat.le_refl _
theorem ln_next {nb : List UInt8 → Bool} {s : List UInt8} {a : Nat} {L : List Tok} {ln : Bool} {k n : Nat} {x : List UInt8} (h : LnIs s a L ln) (ht : tkNext nb (s.drop a) = some (k, x, n)) : LnIs s (a + n) (L ++ [⟨k, x, a, a + n⟩]) (tkLn k x ln) := by
  obtain ⟨h7, h6⟩ := nx_kind ht
  refine ⟨?_, fun y hy => ?_⟩
  · rw [List.reverse_append]
    show rLine s (a + n) (⟨k, x, a, a + n⟩ :: L.reverse) = _
    unfold rLine
    simp only
    rw [if_neg h7]
    by_cases hk : k = 6
    · rw [if_pos hk]
      unfold tkLn
      rw [if_pos hk, rLine_quiet s a n ?_ _ (fun x hx => h.2 x (List.mem_reverse.1 hx))]
      · exact h.1
      · rw [← take_drop_sl, h6 hk]; exact run_quiet _
    · rw [if_neg hk, sl_self]
      unfold tkLn tkEnd
      rw [if_neg hk]
      simp
  · rcases List.mem_append.1 hy with hy | hy
    · exact Nat.le_trans (h.2 y hy) (Nat.le_add_right _ _)
    · simp at hy; subst hy; exact Nat.le_refl _
end Go.Proofs.YtadbilonialjnaaGreatDoor
