/- Plain laws of the tokens: the token at the beginning does not depend on what lies behind a line feed or a space. No program in sight. -/
import Derived.Test.YtadbilonialjnaaGreatDoorTkQ
namespace Go.Proofs.YtadbilonialjnaaGreatDoor

theorem runN_app {p : UInt8 → Bool} {c : UInt8} (hc : p c = false) (y : List UInt8) : ∀ m, runN p (m ++ c :: y) = runN p m
  | [] => by simp [runN, hc]
  | a :: m => by
    have := runN_app hc y m
    rw [List.cons_append, runN, runN, this]
theorem runN_take (p : UInt8 → Bool) : ∀ (m : List UInt8) (j : Nat), runN p (m.take j) = min j (runN p m)
  | [], j => by simp [runN]
  | a :: m, 0 => by simp [runN]
  | a :: m, j + 1 => by
    have := runN_take p m j
    rw [List.take_succ_cons, runN, runN, this]
    split <;> omega
theorem pre_app (o : List UInt8) (c : UInt8) (y : List UInt8) : ∀ (_ : c ∉ o) (m : List UInt8), o.isPrefixOf (m ++ c :: y) = o.isPrefixOf m := by
  induction o with
  | nil => intro _ m; rfl
  | cons a o ih =>
    intro hc m
    simp only [List.mem_cons, not_or] at hc
    cases m with
    | nil => simp [List.isPrefixOf]; intro e; exact absurd e.symm hc.1
    | cons b m => simp only [List.cons_append, List.isPrefixOf]; rw [ih hc.2 m]
theorem find_congr {α : Type} {p q : α → Bool} : ∀ (l : List α), (∀ x ∈ l, p x = q x) → l.find? p = l.find? q
  | [], _ => rfl
  | a :: l, h => by
    rw [List.find?_cons, List.find?_cons, h a (by simp), find_congr l (fun x hx => h x (by simp [hx]))]
theorem ops_sep : ∀ o ∈ tkOps, (10 : UInt8) ∉ o ∧ (32 : UInt8) ∉ o := by decide
def sepB (c : UInt8) : Prop := c = 10 ∨ c = 32
theorem sep_tests {c : UInt8} (h : sepB c) : tkWb c = false ∧ digitB c = false ∧ ¬ c = 46 ∧ ¬ c = 47 := by
  rcases h with rfl | rfl <;> decide
theorem tkOp_app {c : UInt8} (h : sepB c) (m y : List UInt8) : tkOp (m ++ c :: y) = tkOp m := by
  unfold tkOp
  rw [find_congr tkOps (q := fun o => o.isPrefixOf m)]
  intro o ho
  have := ops_sep o ho
  exact pre_app o c y (by rcases h with rfl | rfl <;> simp [this]) m
theorem tkWn_cons (c : UInt8) (t : List UInt8) : tkWn (c :: t) = if (tkLet c || c == 35) = true then runN tkWb t + 1 else 0 := rfl
theorem tkWord_cons (c : UInt8) (t : List UInt8) : tkWord (c :: t) = if tkWn (c :: t) = 1 ∧ (c = 35 ∨ c = 95) then 0 else tkWn (c :: t) := rfl
theorem tkWord_app {c : UInt8} (h : sepB c) (a : UInt8) (m y : List UInt8) : tkWord (a :: m ++ c :: y) = tkWord (a :: m) := by
  rw [List.cons_append, tkWord_cons, tkWord_cons, tkWn_cons, tkWn_cons, runN_app (sep_tests h).1]
theorem tkNum_app {c : UInt8} (h : sepB c) (m y : List UInt8) : tkNum (m ++ c :: y) = tkNum m := by
  obtain ⟨-, h2, h3, -⟩ := sep_tests h
  have hr := runN_le digitB m
  unfold tkNum
  rw [runN_app h2, List.drop_append_of_le_length hr]
  cases m.drop (runN digitB m) with
  | nil =>
    cases y with
    | nil => rfl
    | cons d y => simp only [List.nil_append]; rw [if_neg (by simp [h3])]
  | cons a q =>
    cases q with
    | nil => simp only [List.cons_append, List.nil_append]; rw [if_neg (by simp [h2])]
    | cons b q =>
      simp only [List.cons_append]
      rw [show b :: (q ++ c :: y) = (b :: q) ++ c :: y from rfl, runN_app h2]
theorem litL_app (y : List UInt8) : ∀ (l : List UInt8) (i : Nat) (code : Bool), ¬ (litL l i code).1 = 0 → litL (l ++ y) i code = litL l i code
  | [], i, code, h => by simp [litL] at h
  | [c], i, code, h => by
    unfold litL at h
    by_cases h1 : c = 34
    · subst h1; rw [List.cons_append, litL.eq_def, litL.eq_def]; simp
    · rw [if_neg h1] at h
      by_cases h2 : c = 92
      · rw [if_pos h2] at h; simp at h
      · rw [if_neg h2] at h; simp [litL] at h
  | c :: d :: t, i, code, h => by
    rw [List.cons_append, List.cons_append]
    unfold litL at h ⊢
    by_cases h1 : c = 34
    · rw [if_pos h1, if_pos h1]
    · rw [if_neg h1] at h ⊢
      rw [if_neg h1]
      by_cases h2 : c = 92
      · rw [if_pos h2] at h ⊢
        rw [if_pos h2]
        exact litL_app y t _ _ h
      · rw [if_neg h2] at h ⊢
        rw [if_neg h2]
        exact litL_app y (d :: t) _ _ h
theorem litL_take : ∀ (l : List UInt8) (i : Nat) (code : Bool), ¬ (litL l i code).1 = 0 → litL (l.take ((litL l i code).1 - i)) i code = litL l i code
  | [], i, code, h => by simp [litL] at h
  | [c], i, code, h => by
    unfold litL at h
    by_cases h1 : c = 34
    · subst h1; simp [litL, show i + 1 - i = 1 by omega]
    · rw [if_neg h1] at h
      by_cases h2 : c = 92
      · rw [if_pos h2] at h; simp at h
      · rw [if_neg h2] at h; simp [litL] at h
  | c :: d :: t, i, code, h => by
    by_cases h1 : c = 34
    · subst h1
      have e : litL (34 :: d :: t) i code = (i + 1, code) := by rw [litL, if_pos rfl]
      rw [e]; simp [litL, show i + 1 - i = 1 by omega]
    · by_cases h2 : c = 92
      · have e : litL (c :: d :: t) i code = litL t (i + 2) (code || d == 40) := by rw [litL, if_neg h1, if_pos h2]
        rw [e] at h ⊢
        have hb := (litQ_end t _ _ h).1
        rw [show (litL t (i + 2) (code || d == 40)).1 - i = ((litL t (i + 2) (code || d == 40)).1 - (i + 2)) + 1 + 1 by omega, List.take_succ_cons, List.take_succ_cons, litL, if_neg h1, if_pos h2]
        exact litL_take t _ _ h
      · have e : litL (c :: d :: t) i code = litL (d :: t) (i + 1) code := by rw [litL, if_neg h1, if_neg h2]
        rw [e] at h ⊢
        have hb := (litQ_end (d :: t) _ _ h).1
        rw [show (litL (d :: t) (i + 1) code).1 - i = ((litL (d :: t) (i + 1) code).1 - (i + 1)) + 1 by omega, List.take_succ_cons, litL.eq_def]
        simp only [if_neg h1, if_neg h2]
        exact litL_take (d :: t) _ _ h
theorem sl_app (m y : List UInt8) (a b : Nat) (h : b ≤ m.length) : sl (m ++ y) a b = sl m a b := by
  unfold sl
  by_cases ha : a ≤ m.length
  · rw [List.drop_append_of_le_length ha, List.take_append_of_le_length (by rw [List.length_drop]; omega)]
  · rw [show b - a = 0 by omega]; simp
theorem sl_take (m : List UInt8) (a b n : Nat) (h : b ≤ n) : sl (m.take n) a b = sl m a b := by
  unfold sl
  rw [List.drop_take, List.take_take, Nat.min_eq_left (by omega)]
theorem tkStr_app (y : List UInt8) {m : List UInt8} (h0 : m.head? = some 34) {q : Nat × List UInt8 × Nat} (hs : tkStr m = some q) : tkStr (m ++ y) = some q := by
  obtain ⟨k, x, n⟩ := q
  obtain ⟨c, t, rfl⟩ : ∃ c t, m = c :: t := by cases m with
    | nil => cases h0
    | cons c t => exact ⟨c, t, rfl⟩
  have hn : ¬ (litL t 1 false).1 = 0 := by
    intro e
    unfold tkStr at hs
    rw [if_pos (show (tkLit (c :: t)).1 = 0 from e)] at hs; cases hs
  have hle := tkLit_le (c :: t) (by simp)
  have e : tkLit (c :: t ++ y) = tkLit (c :: t) := litL_app y t 1 false hn
  unfold tkStr at hs ⊢
  rw [e, sl_app _ _ _ _ (by omega), List.take_append_of_le_length hle]
  exact hs
theorem tkStr_take {m : List UInt8} (h0 : m.head? = some 34) {k n : Nat} {x : List UInt8} (hs : tkStr m = some (k, x, n)) : tkStr (m.take n) = some (k, x, n) ∧ 2 ≤ n := by
  obtain ⟨c, t, rfl⟩ : ∃ c t, m = c :: t := by cases m with
    | nil => cases h0
    | cons c t => exact ⟨c, t, rfl⟩
  have hn : ¬ (litL t 1 false).1 = 0 := by
    intro e
    unfold tkStr at hs
    rw [if_pos (show (tkLit (c :: t)).1 = 0 from e)] at hs; cases hs
  have hle := tkLit_le (c :: t) (by simp)
  have hb := (litQ_end t 1 false hn).1
  have hnn : n = (tkLit (c :: t)).1 := by
    unfold tkStr at hs
    rw [if_neg (show ¬ (tkLit (c :: t)).1 = 0 from hn)] at hs
    split at hs
    · split at hs
      · cases hs; rfl
      · cases hs
    · split at hs
      · cases hs; rfl
      · cases hs
  have e : tkLit ((c :: t).take n) = tkLit (c :: t) := by
    have h1 := litL_take t 1 false hn
    have h2 : n = ((litL t 1 false).1 - 1) + 1 := by rw [hnn]; show (litL t 1 false).1 = _; omega
    rw [h2, List.take_succ_cons]
    exact h1
  refine ⟨?_, by rw [hnn]; exact hb⟩
  unfold tkStr at hs ⊢
  rw [e, sl_take _ _ _ _ (by omega), List.take_take, hnn, Nat.min_self]
  rw [hnn] at hs
  exact hs
theorem ops_self : ∀ o ∈ tkOps, List.isPrefixOf [47, 47] o = false ∧ tkWord o = 0 ∧ (∃ c t, o = c :: t ∧ digitB c = false ∧ ¬ c = 34) ∧ tkOp o = o := by
  have h : ∀ o ∈ tkOps, List.isPrefixOf [47, 47] o = false ∧ tkWord o = 0 ∧ digitB (o.headD 0) = false ∧ ¬ o.headD 0 = 34 ∧ tkOp o = o ∧ ¬ o = [] := by decide
  intro o ho
  obtain ⟨h1, h2, h3, h4, h5, h6⟩ := h o ho
  cases o with
  | nil => exact absurd rfl h6
  | cons c t => exact ⟨h1, h2, ⟨c, t, rfl, h3, h4⟩, h5⟩
theorem tkOp_mem (m : List UInt8) (h : ¬ tkOp m = []) : tkOp m ∈ tkOps := by
  unfold tkOp at *
  cases hf : tkOps.find? (fun o => o.isPrefixOf m) with
  | none => rw [hf] at h; exact absurd rfl h
  | some o => exact List.mem_of_find?_eq_some hf
/-- the ways of tkNext -/
theorem nx_com {nb : List UInt8 → Bool} {m : List UInt8} (h : List.isPrefixOf [47, 47] m = true) : tkNext nb m = some (6, (m.take (runN (· != 10) m)).drop 2, runN (· != 10) m) := by
  unfold tkNext; rw [if_pos h]
theorem nx_word {nb : List UInt8 → Bool} {m : List UInt8} (h : List.isPrefixOf [47, 47] m = false) (hw : 0 < tkWord m) : tkNext nb m = some (1, m.take (tkWord m), tkWord m) := by
  unfold tkNext; rw [if_neg (by rw [h]; decide), if_pos hw]
theorem nx_rest {nb : List UInt8 → Bool} {c : UInt8} {t : List UInt8} (h : List.isPrefixOf [47, 47] (c :: t) = false) (hw : tkWord (c :: t) = 0) : tkNext nb (c :: t) =
    if digitB c = true then (if nb ((c :: t).take (tkNum (c :: t))) = true then some (2, (c :: t).take (tkNum (c :: t)), tkNum (c :: t)) else none)
    else if c = 34 then tkStr (c :: t)
    else if tkOp (c :: t) = [] then none else some (5, tkOp (c :: t), (tkOp (c :: t)).length) := by
  unfold tkNext; rw [if_neg (by rw [h]; decide), if_neg (by omega)]
theorem not_true {b : Bool} (h : ¬ b = true) : b = false := by cases b <;> simp_all
/-- a line feed or a space behind the source changes nothing -/
theorem nx_app {nb : List UInt8 → Bool} {c : UInt8} (hc : sepB c) (y : List UInt8) {m : List UInt8} (h0 : m ≠ []) {k n : Nat} {x : List UInt8} (hk : k = 6 → c = 10) (hs : tkNext nb m = some (k, x, n)) : tkNext nb (m ++ c :: y) = some (k, x, n) := by
  have hsr := tkNext_src h0 hs
  have hp : List.isPrefixOf [47, 47] (m ++ c :: y) = List.isPrefixOf [47, 47] m := pre_app _ c y (by have := (sep_tests hc).2.2.2; simp [this]) m
  by_cases hpre : List.isPrefixOf [47, 47] m = true
  · rw [nx_com hpre] at hs
    rw [nx_com (by rw [hp]; exact hpre)]
    have hk6 : 6 = k := by injection hs with hs; injection hs
    have hr : runN (· != 10) (m ++ c :: y) = runN (· != 10) m := by
      rw [hk hk6.symm]; exact runN_app (by decide) y m
    rw [hr, List.take_append_of_le_length (runN_le _ _)]
    exact hs
  · have hpf := not_true hpre
    obtain ⟨a, t, rfl⟩ : ∃ a t, m = a :: t := by cases m with
      | nil => exact absurd rfl h0
      | cons a t => exact ⟨a, t, rfl⟩
    have hw := tkWord_app hc a t y
    have hwl := tkWord_le (a :: t)
    by_cases h1 : 0 < tkWord (a :: t)
    · rw [nx_word hpf h1] at hs
      rw [nx_word (by rw [hp]; exact hpf) (by rw [hw]; exact h1), hw, List.take_append_of_le_length hwl]
      exact hs
    · rw [nx_rest hpf (by omega)] at hs
      rw [List.cons_append] at hp hw ⊢
      rw [nx_rest (by rw [hp]; exact hpf) (by rw [hw]; omega)]
      rw [← List.cons_append, tkNum_app hc, tkOp_app hc, List.take_append_of_le_length (tkNum_le _)]
      split at hs
      · next hd => rw [if_pos hd]; exact hs
      · next hd =>
        rw [if_neg hd]
        split at hs
        · next h34 => rw [if_pos h34]; exact tkStr_app _ (by rw [h34]; rfl) hs
        · next h34 => rw [if_neg h34]; exact hs
/-- the token alone gives the token -/
theorem nx_take {nb : List UInt8 → Bool} {m : List UInt8} (h0 : m ≠ []) {k n : Nat} {x : List UInt8} (hs : tkNext nb m = some (k, x, n)) : tkNext nb (m.take n) = some (k, x, n) := by
  have hsr := tkNext_src h0 hs
  by_cases hpre : List.isPrefixOf [47, 47] m = true
  · rw [nx_com hpre] at hs
    injection hs with hs; injection hs with hs1 hs2; injection hs2 with hs2 hs3
    obtain ⟨t, rfl⟩ := slash_two m hpre
    have hr : runN (· != 10) (47 :: 47 :: t) = runN (· != 10) t + 1 + 1 := by simp [runN]
    have hp2 : List.isPrefixOf [47, 47] ((47 :: 47 :: t).take n) = true := by
      rw [← hs3, hr, List.take_succ_cons, List.take_succ_cons]; rfl
    rw [nx_com hp2, runN_take, List.take_take, hs3, Nat.min_self, Nat.min_self, ← hs1, ← hs2, hs3]
  · have hpf := not_true hpre
    have hpt : List.isPrefixOf [47, 47] (m.take n) = false := by
      apply not_true
      intro e
      exact hpre (List.isPrefixOf_iff_prefix.2 ((List.isPrefixOf_iff_prefix.1 e).trans (List.take_prefix n m)))
    obtain ⟨a, t, rfl⟩ : ∃ a t, m = a :: t := by cases m with
      | nil => exact absurd rfl h0
      | cons a t => exact ⟨a, t, rfl⟩
    obtain ⟨j, rfl⟩ : ∃ j, n = j + 1 := ⟨n - 1, by have := hsr.pos; omega⟩
    by_cases h1 : 0 < tkWord (a :: t)
    · rw [nx_word hpf h1] at hs
      injection hs with hs; injection hs with hs1 hs2; injection hs2 with hs2 hs3
      have hwn : tkWord (a :: t) = tkWn (a :: t) := by
        unfold tkWord at h1 ⊢; simp only at h1 ⊢; split at h1
        · omega
        · rename_i hh; rw [if_neg hh]
      have hwn2 : tkWn ((a :: t).take (j + 1)) = tkWn (a :: t) := by
        rw [List.take_succ_cons]
        rw [hwn] at hs3 h1
        rw [tkWn_cons] at hs3 h1 ⊢
        rw [tkWn_cons]
        split at h1
        · rename_i hh
          rw [if_pos hh] at hs3
          rw [if_pos hh, if_pos hh, runN_take]; omega
        · omega
      have hw2 : tkWord ((a :: t).take (j + 1)) = tkWord (a :: t) := by
        rw [hwn]
        rw [List.take_succ_cons] at hwn2 ⊢
        unfold tkWord at h1 ⊢
        simp only at h1 ⊢
        rw [hwn2]
        split at h1
        · omega
        · rename_i hh; rw [if_neg hh]
      rw [nx_word hpt (by rw [hw2]; exact h1), hw2, List.take_take, ← hs1, ← hs2, hs3, Nat.min_self]
    · rw [nx_rest hpf (by omega)] at hs
      rw [List.take_succ_cons] at hpt ⊢
      by_cases hd : digitB a = true
      · rw [if_pos hd] at hs
        split at hs
        · next hnb =>
          injection hs with hs; injection hs with hs1 hs2; injection hs2 with hs2 hs3
          have hw2 : tkWord (a :: t.take j) = 0 := by
            have : (tkLet a || a == 35) = false := by
              have := hd
              simp only [digitB, tkLet, letterB, Bool.and_eq_true, decide_eq_true_eq, UInt8.le_iff_toNat_le, ge_iff_le] at this
              apply not_true
              simp only [tkLet, letterB, Bool.or_eq_true, Bool.and_eq_true, decide_eq_true_eq, beq_iff_eq, UInt8.le_iff_toNat_le, ge_iff_le]
              rintro ((h | h) | h)
              · simp at h this; omega
              · rw [h] at this; simp at this
              · rw [h] at this; simp at this
            unfold tkWord tkWn
            simp [this]
          have hnum : tkNum (a :: t.take j) = j + 1 := by
            rw [← List.take_succ_cons]
            have hr := runN_take digitB (a :: t) (j + 1)
            have hnn := hs3
            unfold tkNum at hs3 ⊢
            rw [hr, List.drop_take]
            split at hs3
            · next c d q e =>
              split at hs3
              · next hc =>
                have hq : 1 ≤ runN digitB (d :: q) := by simp [runN, hc.2]
                rw [Nat.min_eq_right (by omega), e]
                rw [show j + 1 - runN digitB (a :: t) = (runN digitB (d :: q) - 1) + 1 + 1 by omega, List.take_succ_cons, List.take_succ_cons]
                simp only
                rw [if_pos hc, ← List.take_succ_cons, runN_take]
                omega
              · rw [Nat.min_eq_right (by omega), show j + 1 - runN digitB (a :: t) = 0 by omega, List.take_zero]
                exact hs3
            · rw [Nat.min_eq_right (by omega), show j + 1 - runN digitB (a :: t) = 0 by omega, List.take_zero]
              exact hs3
          rw [nx_rest hpt hw2, if_pos hd, hnum, ← List.take_succ_cons, List.take_take, Nat.min_self, ← hs3, if_pos hnb, ← hs1, ← hs2]
        · cases hs
      · rw [if_neg hd] at hs
        by_cases h34 : a = 34
        · rw [if_pos h34] at hs
          subst h34
          have h2 := tkStr_take rfl hs
          have hw2 : tkWord (34 :: t.take j) = 0 := by unfold tkWord tkWn; simp [tkLet, letterB]
          rw [nx_rest hpt hw2, if_neg hd, if_pos rfl, ← List.take_succ_cons]
          exact h2.1
        · rw [if_neg h34] at hs
          split at hs
          · cases hs
          · next ho =>
            injection hs with hs; injection hs with hs1 hs2; injection hs2 with hs2 hs3
            have hx := hsr.plain (by omega)
            have hm := tkOp_mem _ ho
            rw [hs2, hx, List.take_succ_cons] at hm
            obtain ⟨o1, o2, -, o4⟩ := ops_self _ hm
            rw [nx_rest o1 o2, if_neg hd, if_neg h34, o4, if_neg (by simp), ← hs1, hx, ← List.take_succ_cons, List.length_take, Nat.min_eq_left hsr.le]
end Go.Proofs.YtadbilonialjnaaGreatDoor
