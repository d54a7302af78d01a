/- Plain laws of the tokens: what a token says of the bytes it was read from, and what lies between them. No program in sight. -/
import Derived.Test.YtadbilonialjnaaGreatDoorTkP
namespace Go.Proofs.YtadbilonialjnaaGreatDoor

def blankB (c : UInt8) : Bool := c == 32 || c == 9 || c == 13 || c == 10
theorem litQ_end : ∀ (l : List UInt8) (i : Nat) (code : Bool), ¬ (litL l i code).1 = 0 → i < (litL l i code).1 ∧ (litL l i code).1 ≤ i + l.length ∧ l[(litL l i code).1 - 1 - i]? = some 34
  | [], i, code, h => by simp [litL] at h
  | [c], i, code, h => by
    unfold litL at h ⊢
    by_cases h1 : c = 34
    · rw [if_pos h1]; subst h1; simp
    · rw [if_neg h1] at h ⊢
      by_cases h2 : c = 92
      · rw [if_pos h2] at h; simp at h
      · rw [if_neg h2] at h; simp [litL] at h
  | c :: d :: t, i, code, h => by
    unfold litL at h ⊢
    by_cases h1 : c = 34
    · rw [if_pos h1]; subst h1; simp
    · rw [if_neg h1] at h ⊢
      by_cases h2 : c = 92
      · rw [if_pos h2] at h ⊢
        simp only at h ⊢
        obtain ⟨k1, k2, k3⟩ := litQ_end t (i + 2) _ h
        refine ⟨by omega, by simp only [List.length_cons]; omega, ?_⟩
        rw [show (litL t (i + 2) (code || d == 40)).1 - 1 - i = ((litL t (i + 2) (code || d == 40)).1 - 1 - (i + 2)) + 2 by omega]
        exact k3
      · rw [if_neg h2] at h ⊢
        obtain ⟨k1, k2, k3⟩ := litQ_end (d :: t) (i + 1) _ h
        refine ⟨by omega, by simp only [List.length_cons] at *; omega, ?_⟩
        rw [show (litL (d :: t) (i + 1) code).1 - 1 - i = ((litL (d :: t) (i + 1) code).1 - 1 - (i + 1)) + 1 by omega]
        exact k3
/-- what a token of kind k with the text x and n bytes says of the bytes -/
structure SrcT (m : List UInt8) (k : Nat) (x : List UInt8) (n : Nat) : Prop where
  pos : 1 ≤ n
  le : n ≤ m.length
  kp : 1 ≤ k
  k6 : k ≤ 6
  plain : k = 1 ∨ k = 2 ∨ k = 5 → x = m.take n
  com : k = 6 → [47, 47] ++ x = m.take n
  itp : k = 4 → ([34] ++ x) ++ [34] = m.take n
theorem tkStr_src {m : List UInt8} (h0 : m.head? = some 34) {k n : Nat} {x : List UInt8} (hs : tkStr m = some (k, x, n)) : SrcT m k x n := by
  obtain ⟨c, t, rfl⟩ : ∃ c t, m = c :: t := by cases m with
    | nil => cases h0
    | cons c t => exact ⟨c, t, rfl⟩
  have hc : c = 34 := by simpa using h0
  subst hc
  unfold tkStr at hs
  by_cases h1 : (tkLit (34 :: t)).1 = 0
  · rw [if_pos h1] at hs; cases hs
  · rw [if_neg h1] at hs
    obtain ⟨k1, k2, k3⟩ := litQ_end t 1 false (show ¬ (litL t 1 false).1 = 0 from h1)
    have e : tkLit (34 :: t) = litL t 1 false := rfl
    obtain ⟨r, hr⟩ : ∃ r, (litL t 1 false).1 = r := ⟨_, rfl⟩
    rw [e, hr] at hs
    rw [hr] at k1 k2 k3
    have hle : r ≤ (34 :: t).length := by simp only [List.length_cons]; omega
    by_cases h2 : (litL t 1 false).2 = true
    · rw [if_pos h2] at hs
      split at hs
      · cases hs
        refine ⟨by omega, hle, by omega, by omega, by omega, by omega, fun _ => ?_⟩
        obtain ⟨q, rfl⟩ : ∃ q, n = q + 2 := ⟨n - 2, by omega⟩
        have e2 : sl (34 :: t) 1 (q + 2 - 1) = t.take q := by unfold sl; simp
        rw [show q + 2 - 1 - 1 = q by omega] at k3
        have hq : q < t.length := by omega
        rw [e2, show q + 2 = (q + 1) + 1 by omega, List.take_succ_cons, List.take_add_one, k3]
        simp
      · cases hs
    · rw [if_neg h2] at hs
      split at hs
      · cases hs
        exact ⟨by omega, hle, by omega, by omega, by omega, by omega, by omega⟩
      · cases hs
theorem tkOp_pre (m : List UInt8) : (tkOp m).isPrefixOf m = true ∨ tkOp m = [] := by
  unfold tkOp
  cases hf : tkOps.find? (fun o => o.isPrefixOf m) with
  | none => right; rfl
  | some o => left; have := List.find?_some hf; simpa using this
theorem slash_two (m : List UInt8) (h : List.isPrefixOf [47, 47] m = true) : ∃ t, m = 47 :: 47 :: t := by
  obtain ⟨t, rfl⟩ := List.isPrefixOf_iff_prefix.1 h
  exact ⟨t, rfl⟩
theorem tkNext_src {nb : List UInt8 → Bool} {m : List UInt8} (h0 : m ≠ []) {k n : Nat} {x : List UInt8} (hs : tkNext nb m = some (k, x, n)) : SrcT m k x n := by
  unfold tkNext at hs
  split at hs
  · next hp =>
    cases hs
    obtain ⟨t, rfl⟩ := slash_two m hp
    have hr : runN (· != 10) (47 :: 47 :: t) = runN (· != 10) t + 2 := by simp [runN]
    have hl := runN_le (· != 10) t
    rw [hr]
    exact ⟨by omega, by simp only [List.length_cons]; omega, by omega, by omega, by omega, fun _ => by simp, by omega⟩
  · split at hs
    · next hw =>
      cases hs
      exact ⟨hw, tkWord_le m, by omega, by omega, fun _ => rfl, by omega, by omega⟩
    · split at hs
      · exact absurd rfl h0
      · next c t hpre hw =>
        split at hs
        · next hd =>
          split at hs
          · cases hs
            refine ⟨?_, tkNum_le _, by omega, by omega, fun _ => rfl, by omega, by omega⟩
            have h1 : 1 ≤ runN digitB (c :: t) := by simp [runN, hd]
            unfold tkNum
            split
            · split <;> omega
            · exact h1
          · cases hs
        · split at hs
          · next hc => subst hc; exact tkStr_src rfl hs
          · split at hs
            · cases hs
            · next ho =>
              cases hs
              rcases tkOp_pre (c :: t) with h1 | h1
              · obtain ⟨q, hq⟩ := List.isPrefixOf_iff_prefix.1 h1
                refine ⟨List.length_pos_iff.2 ho, ?_, by omega, by omega, fun _ => ?_, by omega, by omega⟩
                · have := congrArg List.length hq
                  rw [List.length_append] at this
                  omega
                · have := congrArg (List.take (tkOp (c :: t)).length) hq
                  rw [List.take_left] at this
                  exact this
              · exact absurd h1 ho
theorem drop_cons {s : List UInt8} {i : Nat} {c : UInt8} {t : List UInt8} (h : s.drop i = c :: t) : i < s.length ∧ t = s.drop (i + 1) ∧ byt s i = c := by
  have hi : i < s.length := by
    apply Classical.byContradiction; intro hn
    rw [List.drop_of_length_le (by omega)] at h; cases h
  rw [drop_byt s i hi] at h
  injection h with h1 h2
  exact ⟨hi, h2.symm, h1⟩
theorem sl_snoc (s : List UInt8) (a i : Nat) (ha : a ≤ i) (hi : i < s.length) : sl s a (i + 1) = sl s a i ++ [byt s i] := by
  unfold sl
  rw [show i + 1 - a = (i - a) + 1 by omega, List.take_add_one, List.getElem?_drop, show a + (i - a) = i by omega, byt_get s i hi, List.getElem?_eq_getElem hi]
  rfl
theorem sl_self (s : List UInt8) (a : Nat) : sl s a a = [] := by unfold sl; simp
theorem take_drop_sl (s : List UInt8) (i n : Nat) : (s.drop i).take n = sl s i (i + n) := by unfold sl; rw [show i + n - i = n by omega]
/-- what the statement asks of one token -/
structure GapT (s : List UInt8) (a : Nat) (x : Tok) (lst : Bool) : Prop where
  h1 : a ≤ x.p
  h2 : x.p ≤ x.e
  h3 : x.e ≤ s.length
  bl : (sl s a x.p).all blankB = true
  kd : (x.k == 0) = lst
  em : (x.e == x.p) = (x.k == 0)
  k7 : x.k ≤ 7
  pl : x.k = 1 ∨ x.k = 2 ∨ x.k = 5 ∨ x.k = 7 → x.t = sl s x.p x.e
  co : x.k = 6 → [47, 47] ++ x.t = sl s x.p x.e
  ip : x.k = 4 → ([34] ++ x.t) ++ [34] = sl s x.p x.e
def gapOK (s : List UInt8) : Nat → List Tok → Prop
  | a, [] => a = s.length
  | a, x :: r => GapT s a x r.isEmpty ∧ gapOK s x.e r
theorem scan_gap (nb : List UInt8 → Bool) (s : List UInt8) : ∀ (f i a : Nat) (ln : Bool) (acc L : List Tok), i ≤ s.length → a ≤ i → (sl s a i).all blankB = true → tkScan nb f (s.drop i) i ln acc = .ok L → ∃ R, L = acc ++ R ∧ R ≠ [] ∧ gapOK s a R := by
  intro f
  have fin : ∀ (i a : Nat) (acc L : List Tok), i ≤ s.length → a ≤ i → (sl s a i).all blankB = true → s.drop i = [] → acc ++ [⟨0, [], i, i⟩] = L → ∃ R, L = acc ++ R ∧ R ≠ [] ∧ gapOK s a R := by
    intro i a acc L hi ha hb hd hL
    have : i = s.length := by
      have := congrArg List.length hd
      simp at this; omega
    refine ⟨[⟨0, [], i, i⟩], hL.symm, by simp, ⟨ha, Nat.le_refl _, hi, hb, rfl, by simp, by simp, by simp, by simp, by simp⟩, this⟩
  induction f with
  | zero =>
    intro i a ln acc L hi ha hb h
    cases hd : s.drop i with
    | nil => rw [hd, tkScan] at h; exact fin i a acc L hi ha hb hd (by injection h)
    | cons c t => rw [hd, tkScan] at h; cases h
  | succ f ih =>
    intro i a ln acc L hi ha hb h
    cases hd : s.drop i with
    | nil => rw [hd, tkScan] at h; exact fin i a acc L hi ha hb hd (by injection h)
    | cons c t =>
      obtain ⟨hlt, ht, hc⟩ := drop_cons hd
      rw [hd, tkScan] at h
      by_cases h1 : c = 10 ∧ ln = true
      · rw [if_pos h1, ht] at h
        obtain ⟨R, rfl, hR, hg⟩ := ih (i + 1) (i + 1) false _ L (by omega) (Nat.le_refl _) (by rw [sl_self]; rfl) h
        refine ⟨⟨7, [10], i, i + 1⟩ :: R, by simp, by simp, ⟨ha, by simp, by simp only; omega, hb, ?_, by simp, by simp, fun _ => ?_, by simp, by simp⟩, hg⟩
        · cases R with
          | nil => exact absurd rfl hR
          | cons => rfl
        · simp only
          rw [sl_snoc s i i (Nat.le_refl _) hlt, sl_self, hc, h1.1]; rfl
      · rw [if_neg h1] at h
        by_cases h2 : c = 10 ∨ c = 32 ∨ c = 9 ∨ c = 13
        · rw [if_pos h2, ht] at h
          refine ih (i + 1) a ln acc L (by omega) (by omega) ?_ h
          rw [sl_snoc s a i ha hlt, hc, List.all_append, hb]
          rcases h2 with rfl | rfl | rfl | rfl <;> rfl
        · rw [if_neg h2] at h
          cases hn : tkNext nb (c :: t) with
          | none => rw [hn] at h; cases h
          | some q =>
            obtain ⟨k, x, n⟩ := q
            rw [hn] at h
            simp only at h
            have hsr := tkNext_src (by simp) hn
            rw [← hd] at hsr h
            rw [List.drop_drop] at h
            have hle := hsr.le
            have hps := hsr.pos
            rw [List.length_drop] at hle
            obtain ⟨R, rfl, hR, hg⟩ := ih (i + n) (i + n) _ _ L (by omega) (Nat.le_refl _) (by rw [sl_self]; rfl) h
            have hk0 := hsr.kp
            have hk6 := hsr.k6
            have e0 : (k == 0) = false := by simp; omega
            refine ⟨⟨k, x, i, i + n⟩ :: R, by simp, by simp, ⟨ha, by simp, by simp only; omega, hb, ?_, ?_, by simp only; omega, fun hk => ?_, fun hk => ?_, fun hk => ?_⟩, hg⟩
            · cases R with
              | nil => exact absurd rfl hR
              | cons => exact e0
            · simp only [e0]; simp; omega
            · simp only at hk ⊢
              rw [hsr.plain (by omega), take_drop_sl]
            · simp only at hk ⊢
              rw [hsr.com hk, take_drop_sl]
            · simp only at hk ⊢
              rw [hsr.itp hk, take_drop_sl]
theorem scan_err (nb : List UInt8 → Bool) (s : List UInt8) : ∀ (f i j : Nat) (ln : Bool) (acc : List Tok), tkScan nb f (s.drop i) i ln acc = .error j → j < s.length := by
  intro f
  induction f with
  | zero =>
    intro i j ln acc h
    cases hd : s.drop i with
    | nil => rw [hd, tkScan] at h; cases h
    | cons c t => rw [hd, tkScan] at h; injection h with h; subst h; exact (drop_cons hd).1
  | succ f ih =>
    intro i j ln acc h
    cases hd : s.drop i with
    | nil => rw [hd, tkScan] at h; cases h
    | cons c t =>
      obtain ⟨hlt, ht, hc⟩ := drop_cons hd
      rw [hd, tkScan] at h
      split at h
      · rw [ht] at h; exact ih _ _ _ _ h
      · split at h
        · rw [ht] at h; exact ih _ _ _ _ h
        · split at h
          · injection h with h; subst h; exact hlt
          · rw [← hd, List.drop_drop] at h; exact ih _ _ _ _ h
/-- what the statement of the gaps says of a source's tokens -/
theorem scanT_gap (nb : List UInt8 → Bool) (s : List UInt8) (hs : s.length ≤ 65536) : (∃ p, scanT nb s = ([], 8, p) ∧ p < s.length) ∨ (∃ L, scanT nb s = (L, 0, 0) ∧ L ≠ [] ∧ gapOK s 0 L) := by
  unfold scanT
  rw [if_neg (by omega)]
  cases h : tkScan nb s.length s 0 false [] with
  | error p =>
    left
    exact ⟨p, rfl, scan_err nb s s.length 0 p false [] (by rw [List.drop_zero]; exact h)⟩
  | ok L =>
    right
    obtain ⟨R, e, h1, h2⟩ := scan_gap nb s s.length 0 0 false [] L (Nat.zero_le _) (Nat.le_refl _) (by rw [sl_self]; rfl) (by rw [List.drop_zero]; exact h)
    rw [List.nil_append] at e
    subst e
    exact ⟨L, rfl, h1, h2⟩
end Go.Proofs.YtadbilonialjnaaGreatDoor
