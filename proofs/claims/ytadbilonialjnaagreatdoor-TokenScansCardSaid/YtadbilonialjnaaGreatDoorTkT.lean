/- Plain laws of the reference's Interp: a piece, the closing parenthesis. No program in sight. -/
import Derived.Test.YtadbilonialjnaaGreatDoorTkP
namespace Go.Proofs.YtadbilonialjnaaGreatDoor

/-- the byte that the piece at the beginning stands for and its length; 0 if none -/
def pieceL : List UInt8 → UInt8 × Nat
  | [] => (0, 0)
  | c :: t => if c = 92 then unesc (c :: t) else if c < 32 ∨ 126 < c ∨ c = 34 then (0, 0) else (c, 1)
theorem pieceL_cons (c : UInt8) (t : List UInt8) : pieceL (c :: t) = if c = 92 then unesc (c :: t) else if c < 32 ∨ 126 < c ∨ c = 34 then (0, 0) else (c, 1) := rfl
theorem unesc_hexS {p q x : UInt8} (z : List UInt8) (h : hexTwo p q = some x) : unesc (92 :: 120 :: p :: q :: z) = (x, 4) := by simp [unesc, h]
theorem unesc_hexN {p q : UInt8} (z : List UInt8) (h : hexTwo p q = none) : unesc (92 :: 120 :: p :: q :: z) = (0, 0) := by simp [unesc, h]
theorem unesc_hex1 (p : UInt8) : unesc [92, 120, p] = (0, 0) := by simp [unesc]
theorem unesc_hex0 : unesc [92, 120] = (0, 0) := by simp [unesc]
theorem hex_q (h : UInt8) : hexTwo h 34 = none := by
  unfold hexTwo
  have : hexVal 34 = none := by decide
  rw [this]
  cases hexVal h <;> rfl
theorem unq_head (q : List UInt8) (h : q.length ≤ 60000) : unqL (34 :: q) = scan q 0 1 [] := by
  unfold unqL
  rw [if_neg (by simp only [List.length_cons]; omega)]
  simp
theorem scan_es0 (t : List UInt8) (i : Nat) (acc : List UInt8) (h : (unesc (92 :: t)).2 = 0) : scan (92 :: t) 0 i acc = ([], 8, i) := by
  rw [scan.eq_def]; simp [h]
theorem scan_es1 (t : List UInt8) (i n : Nat) (b : UInt8) (acc : List UInt8) (h : unesc (92 :: t) = (b, n + 1)) : scan (92 :: t) 0 i acc = scan t n (i + (n + 1)) (acc ++ [b]) := by
  rw [scan.eq_def]; simp [h]
theorem scan_q (i : Nat) (acc : List UInt8) : scan [34] 0 i acc = (acc, 0, 0) := by rw [scan.eq_def]; simp
theorem scan_none (k i : Nat) (acc : List UInt8) : scan [] k i acc = ([], 8, i) := by rw [scan.eq_def]
theorem unesc_cases (t : List UInt8) (x : UInt8) (n : Nat) (h : unesc (92 :: t) = (x, n)) (hn : ¬ n = 0) :
    (∃ b r, t = b :: r ∧ n = 2 ∧ ¬ b = 120 ∧ ∀ v, unesc (92 :: b :: v) = (x, 2)) ∨ (∃ h l r, t = 120 :: h :: l :: r ∧ n = 4 ∧ hexTwo h l = some x) := by
  cases t with
  | nil => simp [unesc] at h; omega
  | cons b r =>
    by_cases h1 : b = 120
    · right
      subst h1
      simp only [unesc, show ¬ ((120 : UInt8) = 34 ∨ (120 : UInt8) = 92) by decide, show ¬ ((120 : UInt8) = 110) by decide, show ¬ ((120 : UInt8) = 116) by decide, show ¬ ((120 : UInt8) = 114) by decide, if_true, if_false] at h
      match r, h with
      | [], h => injection h with _ h; omega
      | [_], h => injection h with _ h; omega
      | p :: q :: r', h =>
        simp only at h
        cases hx : hexTwo p q with
        | none => rw [hx] at h; injection h with _ h; omega
        | some y => rw [hx] at h; injection h with e1 e2; exact ⟨p, q, r', rfl, by omega, by rw [hx, e1]⟩
    · left
      refine ⟨b, r, rfl, ?_, h1, ?_⟩
      · simp only [unesc, h1, if_false] at h
        by_cases a1 : b = 34 ∨ b = 92
        · rw [if_pos a1] at h; injection h with _ h; exact h.symm
        · rw [if_neg a1] at h
          (repeat' split at h) <;> injection h with e1 e2 <;> omega
      · intro v
        simp only [unesc, h1, if_false] at h ⊢
        by_cases a1 : b = 34 ∨ b = 92
        · rw [if_pos a1] at h ⊢; injection h with e1 e2; rw [e1]
        · rw [if_neg a1] at h ⊢
          by_cases a2 : b = 110
          · rw [if_pos a2] at h ⊢; injection h with e1 e2; rw [e1]
          · rw [if_neg a2] at h ⊢
            by_cases a3 : b = 116
            · rw [if_pos a3] at h ⊢; injection h with e1 e2; rw [e1]
            · rw [if_neg a3] at h ⊢
              by_cases a4 : b = 114
              · rw [if_pos a4] at h ⊢; injection h with e1 e2; rw [e1]
              · rw [if_neg a4] at h; injection h with e1 e2; omega
theorem piece_le (m : List UInt8) : (pieceL m).2 ≤ 4 ∧ (pieceL m).2 ≤ m.length := by
  cases m with
  | nil => simp [pieceL]
  | cons c t =>
    rw [pieceL_cons]
    by_cases hc : c = 92
    · rw [if_pos hc]
      subst hc
      by_cases h0 : (unesc (92 :: t)).2 = 0
      · rw [h0]; simp
      · rcases unesc_cases t (unesc (92 :: t)).1 (unesc (92 :: t)).2 rfl h0 with ⟨b, r, rfl, h2, -⟩ | ⟨p, q, r, rfl, h2, -⟩
        · rw [h2]; simp
        · rw [h2]; simp
    · rw [if_neg hc]
      split <;> simp
theorem piece_yes (m : List UInt8) (h : ¬ (pieceL m).2 = 0) : unqL (34 :: (m.take (pieceL m).2 ++ [34])) = ([(pieceL m).1], 0, 0) := by
  have hle := piece_le m
  rw [unq_head _ (by simp; omega)]
  cases m with
  | nil => simp [pieceL] at h
  | cons c t =>
    by_cases hc : c = 92
    · subst hc
      have e : pieceL (92 :: t) = unesc (92 :: t) := by simp [pieceL]
      rw [e] at h ⊢
      rcases unesc_cases t (unesc (92 :: t)).1 (unesc (92 :: t)).2 rfl h with ⟨b, r, rfl, h2, -, h3⟩ | ⟨p, q, r, rfl, h2, h3⟩
      · rw [h2]
        have := h3 [34]
        show scan (92 :: b :: [34]) 0 1 [] = _
        rw [scan_es1 (b :: [34]) 1 1 _ [] this]
        rw [scan.eq_def]
        simp only
        exact scan_q _ _
      · rw [h2]
        have hu : unesc (92 :: 120 :: p :: q :: [34]) = ((unesc (92 :: 120 :: p :: q :: r)).1, 3 + 1) := by
          exact unesc_hexS [34] h3
        show scan (92 :: 120 :: p :: q :: [34]) 0 1 [] = _
        rw [scan_es1 _ 1 3 _ [] hu]
        rw [scan.eq_def]; simp only
        rw [scan.eq_def]; simp only
        rw [scan.eq_def]; simp only
        exact scan_q _ _
    · rw [pieceL_cons, if_neg hc] at h ⊢
      by_cases hb : c < 32 ∨ 126 < c ∨ c = 34
      · rw [if_pos hb] at h; exact absurd rfl h
      · rw [if_neg hb]
        simp only [not_or] at hb
        show scan (c :: [34]) 0 1 [] = _
        rw [scan.eq_def]
        simp only [hb.2.2, hc, if_false]
        rw [if_neg (by simp [hb.1, hb.2.1])]
        exact scan_q _ _
theorem piece_no (m : List UInt8) (j : Nat) (h1 : 1 ≤ j) (h4 : j ≤ 4) (hl : j ≤ m.length) (h : (pieceL m).2 = 0 ∨ j < (pieceL m).2) : (unqL (34 :: (m.take j ++ [34]))).2.1 = 8 := by
  rw [unq_head _ (by simp; omega)]
  cases m with
  | nil => simp at hl; omega
  | cons c t =>
    obtain ⟨j, rfl⟩ : ∃ i, j = i + 1 := ⟨j - 1, by omega⟩
    rw [List.take_succ_cons, List.cons_append]
    by_cases hc : c = 92
    · subst hc
      have e : pieceL (92 :: t) = unesc (92 :: t) := by simp [pieceL]
      rw [e] at h
      cases j with
      | zero =>
        rw [List.take_zero, List.nil_append, scan_es1 [34] 1 1 34 [] (by simp [unesc]), scan.eq_def]
        simp only
        rw [scan_none]
      | succ j =>
        cases t with
        | nil => simp at hl
        | cons b r =>
          rw [List.take_succ_cons, List.cons_append]
          rw [scan_es0]
          by_cases hb : b = 120
          · subst hb
            match r, h, hl with
            | [], h, hl =>
              simp only [List.length_cons, List.length_nil] at hl
              have : j = 0 := by omega
              subst this
              show (unesc [92, 120, 34]).2 = 0
              rw [unesc_hex1]
            | [p], h, hl =>
              match j, hl with
              | 0, _ => show (unesc [92, 120, 34]).2 = 0; rw [unesc_hex1]
              | 1, _ => show (unesc [92, 120, p, 34]).2 = 0; rw [unesc_hexN _ (hex_q p)]
              | j + 2, hl => simp only [List.length_cons, List.length_nil] at hl; omega
            | p :: q :: r', h, hl =>
              match j, h4, h with
              | 0, _, _ => show (unesc [92, 120, 34]).2 = 0; rw [unesc_hex1]
              | 1, _, _ => show (unesc [92, 120, p, 34]).2 = 0; rw [unesc_hexN _ (hex_q p)]
              | 2, _, h =>
                show (unesc [92, 120, p, q, 34]).2 = 0
                cases hx : hexTwo p q with
                | none => rw [unesc_hexN _ hx]
                | some y => rw [unesc_hexS _ hx] at h; simp at h
              | j + 3, h4, _ => omega
          · by_cases hz : (unesc (92 :: b :: r)).2 = 0
            · apply Classical.byContradiction
              intro hne
              rcases unesc_cases (b :: (r.take j ++ [34])) (unesc (92 :: b :: (r.take j ++ [34]))).1 (unesc (92 :: b :: (r.take j ++ [34]))).2 rfl hne with ⟨b', r', e1, -, -, h3⟩ | ⟨p, q, r', e1, -, -⟩
              · injection e1 with e1 e2
                subst e1
                rw [h3 r] at hz; cases hz
              · injection e1 with e1 e2; exact hb e1
            · rcases unesc_cases (b :: r) (unesc (92 :: b :: r)).1 (unesc (92 :: b :: r)).2 rfl hz with ⟨b', r', e1, e2, -, h3⟩ | ⟨p, q, r', e1, -, -⟩
              · rw [e2] at h; omega
              · injection e1 with e1 e2; exact absurd e1 hb
    · rw [pieceL_cons, if_neg hc] at h
      by_cases hb : c < 32 ∨ 126 < c ∨ c = 34
      · rw [scan.eq_def]
        simp only
        by_cases h34 : c = 34
        · rw [if_pos h34]
          cases hq : List.take j t ++ [34] with
          | nil => simp at hq
          | cons a b => rfl
        · rw [if_neg h34, if_neg hc, if_pos]
          rcases hb with hb | hb | hb
          · exact .inl hb
          · exact .inr hb
          · exact absurd hb h34
      · rw [if_neg hb] at h; simp at h
/-- where code closes -/
theorem codeA_shift (d : Nat) : ∀ (l : List UInt8) (i k : Nat), codeA l (i + d) k = (codeA l i k).map (· + d)
  | [], i, k => rfl
  | c :: t, i, k => by
    unfold codeA
    split
    · rw [show i + d + 1 = i + 1 + d by omega]; exact codeA_shift d t _ _
    · split
      · split
        · rfl
        · rw [show i + d + 1 = i + 1 + d by omega]; exact codeA_shift d t _ _
      · rw [show i + d + 1 = i + 1 + d by omega]; exact codeA_shift d t _ _
/-- one step that is no code -/
theorem tkInt_piece {c : UInt8} {t : List UInt8} (h : ¬ (c = 92 ∧ t.head? = some 40)) (f i fr : Nat) (text : List UInt8) (out : List Prt) :
    tkInt (f + 1) (c :: t) i text fr out = if (pieceL (c :: t)).2 = 0 then .error i else tkInt f ((c :: t).drop (pieceL (c :: t)).2) (i + (pieceL (c :: t)).2) (text ++ [(pieceL (c :: t)).1]) (if text = [] then i else fr) out := by
  rw [tkInt, if_neg h, pieceL_cons]
  by_cases hc : c = 92
  · rw [if_pos hc, if_pos hc]
  · rw [if_neg hc, if_neg hc]
    by_cases hb : c < 32 ∨ 126 < c ∨ c = 34
    · rw [if_pos hb, if_pos hb]; rfl
    · rw [if_neg hb, if_neg hb]; simp
end Go.Proofs.YtadbilonialjnaaGreatDoor
