/- Plain facts on string literals: what is written for a byte, a literal, how it is read back; identifiers and labels. No program in sight. -/
namespace Go.Proofs.YtadbilonialjnaaGreatDoor
theorem forall_u8 {P : UInt8 → Prop} (h : ∀ n : Fin 256, P (UInt8.ofFin n)) (c : UInt8) : P c := by
  have := h c.toFin
  simpa using this

def letterB (c : UInt8) : Bool := (97 ≤ c && c ≤ 122) || (65 ≤ c && c ≤ 90)
def digitB (c : UInt8) : Bool := 48 ≤ c && c ≤ 57
def hexDig (n : UInt8) : UInt8 := if n < 10 then 48 + n else 87 + n
def escB (c : UInt8) : List UInt8 :=
  if c = 34 ∨ c = 92 then [92, c] else if c = 10 then [92, 110] else if c = 9 then [92, 116] else if c = 13 then [92, 114]
  else if c < 32 ∨ 126 < c then [92, 120, hexDig (c >>> 4), hexDig (c &&& 15)] else [c]
def quoteL (s : List UInt8) : List UInt8 := 34 :: (s.flatMap escB ++ [34])
/-- the value of a hexadecimal digit -/
def hexVal (c : UInt8) : Option UInt8 :=
  if digitB c then some (c - 48) else if 97 ≤ c && c ≤ 102 then some (c - 87) else if 65 ≤ c && c ≤ 70 then some (c - 55) else none
def hexTwo (h l : UInt8) : Option UInt8 :=
  match hexVal h, hexVal l with
  | some a, some b => some (16 * a + b)
  | _, _ => none
/-- the byte that an escape at the head stands for and its length; 0 if none -/
def unesc : List UInt8 → UInt8 × Nat
  | _ :: b :: r =>
    if b = 34 ∨ b = 92 then (b, 2) else if b = 110 then (10, 2) else if b = 116 then (9, 2) else if b = 114 then (13, 2)
    else if b = 120 then
      match r with
      | h :: l :: _ => (match hexTwo h l with | some x => (x, 4) | none => (0, 0))
      | _ => (0, 0)
    else (0, 0)
  | _ => (0, 0)
/-- the reading behind the first quote: bytes still to be passed over, the offset, what has been read: the string, the error, its offset -/
def scan : List UInt8 → Nat → Nat → List UInt8 → List UInt8 × Nat × Nat
  | [], _, i, _ => ([], 8, i)
  | _ :: t, k + 1, i, acc => scan t k i acc
  | c :: t, 0, i, acc =>
    if c = 34 then (match t with | [] => (acc, 0, 0) | _ :: _ => ([], 8, i + 1))
    else if c = 92 then
      (if (unesc (c :: t)).2 = 0 then ([], 8, i) else scan t ((unesc (c :: t)).2 - 1) (i + (unesc (c :: t)).2) (acc ++ [(unesc (c :: t)).1]))
    else if c < 32 ∨ 126 < c then ([], 8, i)
    else scan t 0 (i + 1) (acc ++ [c])
def unqL (s : List UInt8) : List UInt8 × Nat × Nat :=
  if 65536 < s.length then ([], 2, 0) else
  match s with
  | [] => ([], 8, 0)
  | c :: t => if c = 34 then scan t 0 1 [] else ([], 8, 0)
def wordsL : List (List UInt8) :=
  [[110,117,108,108],[116,114,117,101],[102,97,108,115,101],[98,111,111,108],[105,110,116],[110,117,109,98,101,114],[115,116,114,105,110,103],[108,101,116],[105,102],[102,111,114],[105,110],[112,97,99,107,97,103,101],[105,109,112,111,114,116]]
def idTail (s : List UInt8) : Bool :=
  match s with
  | [] => false
  | c :: _ => letterB c && s.all fun c => letterB c || c == 95 || digitB c
def identB (s : List UInt8) : Bool :=
  if 32 < s.length ∨ wordsL.contains s then false else
  match s with
  | [] => false
  | c :: t => if c = 35 ∨ c = 95 then idTail t else idTail s
def labelL (s : List UInt8) : List UInt8 := if identB s then s else quoteL s
def unlabelL (s : List UInt8) : List UInt8 × Nat × Nat := if identB s then (s, 0, 0) else unqL s

theorem scan_skip : ∀ (k : Nat) (l : List UInt8) (i : Nat) (acc : List UInt8), k ≤ l.length → scan l k i acc = scan (l.drop k) 0 i acc
  | 0, _, _, _, _ => rfl
  | _ + 1, [], _, _, h => by simp at h
  | k + 1, _ :: t, i, acc, h => by rw [scan, List.drop_succ_cons]; exact scan_skip k t i acc (by simpa using h)

theorem esc_cases : ∀ c : UInt8, (escB c = [c] ∧ c ≠ 34 ∧ c ≠ 92 ∧ ¬ c < 32 ∧ ¬ 126 < c) ∨ (∃ b, escB c = [92, b] ∧ ∀ r, unesc (92 :: b :: r) = (c, 2)) ∨
    (∃ h l, escB c = [92, 120, h, l] ∧ hexTwo h l = some c) := by
  intro c
  by_cases h1 : c = 34 ∨ c = 92
  · refine .inr (.inl ⟨c, by simp [escB, h1], fun r => by simp [unesc, h1]⟩)
  by_cases h2 : c = 10
  · subst h2; exact .inr (.inl ⟨110, by decide, fun r => by simp [unesc]⟩)
  by_cases h3 : c = 9
  · subst h3; exact .inr (.inl ⟨116, by decide, fun r => by simp [unesc]⟩)
  by_cases h4 : c = 13
  · subst h4; exact .inr (.inl ⟨114, by decide, fun r => by simp [unesc]⟩)
  by_cases h5 : c < 32 ∨ 126 < c
  · refine .inr (.inr ⟨hexDig (c >>> 4), hexDig (c &&& 15), by simp [escB, h1, h2, h3, h4, h5], ?_⟩)
    exact forall_u8 (P := fun c => hexTwo (hexDig (c >>> 4)) (hexDig (c &&& 15)) = some c) (by decide +kernel) c
  · refine .inl ⟨by simp [escB, h1, h2, h3, h4, h5], ?_⟩
    simp only [not_or] at h1 h5
    exact ⟨h1.1, h1.2, h5.1, h5.2⟩

theorem scan_esc (c : UInt8) (r : List UInt8) (i : Nat) (acc : List UInt8) : scan (escB c ++ r) 0 i acc = scan r 0 (i + (escB c).length) (acc ++ [c]) := by
  rcases esc_cases c with ⟨h, h1, h2, h3, h4⟩ | ⟨b, h, hu⟩ | ⟨x, y, h, hu⟩
  · rw [h]; simp [scan, h1, h2, h3, h4]
  · rw [h]
    have := hu r
    simp only [List.cons_append, List.nil_append, List.length_cons, List.length_nil]
    rw [scan]
    simp [this, scan]
  · rw [h]
    have h2 : unesc (92 :: 120 :: x :: y :: r) = (c, 4) := by simp [unesc, hu]
    simp only [List.cons_append, List.nil_append, List.length_cons, List.length_nil]
    rw [scan]
    simp [h2, scan]

theorem scan_quote : ∀ (s : List UInt8) (r : List UInt8) (i : Nat) (acc : List UInt8), scan (s.flatMap escB ++ r) 0 i acc = scan r 0 (i + (s.flatMap escB).length) (acc ++ s)
  | [], r, i, acc => by simp
  | c :: s, r, i, acc => by
    rw [List.flatMap_cons, List.append_assoc, scan_esc, scan_quote s r]
    simp [Nat.add_assoc]

theorem esc_len (c : UInt8) : 1 ≤ (escB c).length ∧ (escB c).length ≤ 4 := by
  rcases esc_cases c with ⟨h, _⟩ | ⟨b, h, hu⟩ | ⟨x, y, h, hu⟩ <;> rw [h] <;> simp

theorem flat_len : ∀ s : List UInt8, s.length ≤ (s.flatMap escB).length ∧ (s.flatMap escB).length ≤ 4 * s.length
  | [] => by simp
  | c :: s => by
    have := flat_len s; have := esc_len c
    simp only [List.flatMap_cons, List.length_append, List.length_cons]; omega

theorem quoteL_length (s : List UInt8) : (quoteL s).length = (s.flatMap escB).length + 2 := by
  unfold quoteL
  rw [List.length_cons, List.length_append]; rfl
theorem quote_len (s : List UInt8) : s.length + 2 ≤ (quoteL s).length ∧ (quoteL s).length ≤ 4 * s.length + 2 := by
  have := flat_len s
  rw [quoteL_length]; omega

theorem unq_quote (s : List UInt8) (h : (quoteL s).length ≤ 65536) : unqL (quoteL s) = (s, 0, 0) := by
  unfold unqL
  rw [if_neg (by omega)]
  show (if (34 : UInt8) = 34 then scan (s.flatMap escB ++ [34]) 0 1 [] else _) = _
  rw [if_pos rfl, scan_quote]; simp [scan]

theorem esc_print : ∀ c : UInt8, ∀ x ∈ escB c, 32 ≤ x ∧ x ≤ 126 :=
  forall_u8 (P := fun c => ∀ x ∈ escB c, 32 ≤ x ∧ x ≤ 126) (by decide +kernel)

theorem quote_print (s : List UInt8) : ∀ x ∈ quoteL s, 32 ≤ x ∧ x ≤ 126 := by
  intro x hx
  simp only [quoteL, List.mem_cons, List.mem_append, List.mem_flatMap, List.not_mem_nil, or_false] at hx
  rcases hx with rfl | ⟨c, _, h⟩ | rfl
  · decide
  · exact esc_print c x h
  · decide

theorem ident_quote (s : List UInt8) : identB (quoteL s) = false := by
  unfold identB
  split
  · rfl
  · simp only [quoteL]; rw [if_neg (by decide)]; simp [idTail, letterB]

theorem unlabel_label (s : List UInt8) (h : (quoteL s).length ≤ 65536) : unlabelL (labelL s) = (s, 0, 0) := by
  unfold unlabelL labelL
  by_cases hi : identB s = true
  · simp [hi]
  · simp [hi, ident_quote, unq_quote s h]

theorem label_same (s : List UInt8) : (labelL s = s) = (identB s = true) := by
  unfold labelL
  by_cases hi : identB s = true
  · simp [hi]
  · simp only [hi]
    simp only [Bool.false_eq_true, ite_false, eq_iff_iff, iff_false]
    intro h
    have := quote_len s
    rw [h] at this; omega

theorem quote_inj {a b : List UInt8} (ha : (quoteL a).length ≤ 65536) (h : quoteL a = quoteL b) : a = b := by
  have h1 := unq_quote a ha
  have h2 := unq_quote b (by rw [← h]; exact ha)
  rw [h] at h1; rw [h1] at h2; exact (Prod.mk.inj h2).1
theorem label_inj {a b : List UInt8} (ha : (quoteL a).length ≤ 65536) (hb : (quoteL b).length ≤ 65536) (h : labelL a = labelL b) : a = b := by
  have h1 := unlabel_label a ha
  have h2 := unlabel_label b hb
  rw [h] at h1; rw [h1] at h2; exact (Prod.mk.inj h2).1

theorem quote_join (a b : List UInt8) : quoteL (a ++ b) = (quoteL a).take ((quoteL a).length - 1) ++ (quoteL b).drop 1 := by
  have h : (quoteL a).take ((quoteL a).length - 1) = 34 :: a.flatMap escB := by
    unfold quoteL
    rw [← List.cons_append, List.length_append]
    simp
  rw [h]; simp [quoteL]

theorem unq_more (s more : List UInt8) (h : (quoteL s ++ more).length ≤ 65536) (hm : more ≠ []) : unqL (quoteL s ++ more) = ([], 8, (quoteL s).length) := by
  unfold unqL
  rw [if_neg (by omega)]
  have e : quoteL s ++ more = 34 :: (s.flatMap escB ++ (34 :: more)) := by simp [quoteL]
  rw [e]
  show (if (34 : UInt8) = 34 then scan (s.flatMap escB ++ (34 :: more)) 0 1 [] else _) = _
  rw [if_pos rfl, scan_quote]
  obtain ⟨m, ms, rfl⟩ := List.exists_cons_of_ne_nil hm
  simp [scan, quoteL]; omega

/-- a cut of the escaped text: the scan ends with the error at the end or at the backslash of the cut escape -/
theorem scan_cut : ∀ (s : List UInt8) (m i : Nat) (acc : List UInt8), m ≤ (s.flatMap escB).length →
    ∃ at_, scan ((s.flatMap escB).take m) 0 i acc = ([], 8, i + at_) ∧ at_ ≤ m ∧ (at_ = m ∨ ((s.flatMap escB)[at_]? = some 92 ∧ m ≤ at_ + 3))
  | [], m, i, acc, h => ⟨0, by simp [scan], Nat.zero_le _, .inl (by simp at h; exact h.symm)⟩
  | c :: s, m, i, acc, h => by
    rw [List.flatMap_cons] at h ⊢
    by_cases hm : (escB c).length ≤ m
    · obtain ⟨a, ha, hb, hc⟩ := scan_cut s (m - (escB c).length) (i + (escB c).length) (acc ++ [c]) (by rw [List.length_append] at h; omega)
      refine ⟨(escB c).length + a, ?_, by omega, ?_⟩
      · rw [List.take_append, List.take_of_length_le hm, scan_esc, ha]; simp [Nat.add_assoc]
      · rcases hc with hc | ⟨hc, hd⟩
        · exact .inl (by omega)
        · refine .inr ⟨?_, by omega⟩
          rw [List.getElem?_append_right (by omega)]; simpa using hc
    · have hlen := esc_len c
      rw [List.take_append_of_le_length (by omega)]
      by_cases h0 : m = 0
      · subst h0; exact ⟨0, by simp [scan], Nat.le_refl _, .inl rfl⟩
      · refine ⟨0, ?_, by omega, .inr ?_⟩
        · rcases esc_cases c with ⟨h, _⟩ | ⟨b, h, _⟩ | ⟨x, y, h, _⟩
          · rw [h] at hm; simp at hm; omega
          · rw [h] at hm ⊢
            obtain rfl : m = 1 := by simp at hm; omega
            simp [scan, unesc]
          · rw [h] at hm ⊢
            simp at hm
            have : m = 1 ∨ m = 2 ∨ m = 3 := by omega
            rcases this with rfl | rfl | rfl <;> simp [scan, unesc]
        · rcases esc_cases c with ⟨h, _⟩ | ⟨b, h, _⟩ | ⟨x, y, h, _⟩
          · rw [h] at hm; simp at hm; omega
          · rw [h] at hm ⊢; simp at hm ⊢; omega
          · rw [h] at hm ⊢; simp at hm ⊢; omega

theorem unq_cut (s : List UInt8) (k : Nat) (hk : k < (quoteL s).length) (hl : (quoteL s).length ≤ 65536) :
    ∃ at_, unqL ((quoteL s).take k) = ([], 8, at_) ∧ at_ ≤ k ∧ (at_ = k ∨ (0 < k ∧ (quoteL s)[at_]? = some 92 ∧ k ≤ at_ + 3)) := by
  cases k with
  | zero => exact ⟨0, by simp [unqL], Nat.le_refl _, .inl rfl⟩
  | succ k =>
    have hk' : k ≤ (s.flatMap escB).length := by rw [quoteL_length] at hk; omega
    obtain ⟨a, ha, hb, hc⟩ := scan_cut s k 1 [] hk'
    refine ⟨1 + a, ?_, by omega, ?_⟩
    · unfold unqL
      rw [if_neg (by rw [List.length_take]; omega)]
      simp only [quoteL, List.take_succ_cons, if_true]
      rw [List.take_append_of_le_length hk', ha]
    · rcases hc with rfl | ⟨hc, hd⟩
      · exact .inl (by omega)
      · refine .inr ⟨by omega, ?_, by omega⟩
        have hlt : a < (s.flatMap escB).length := by
          rcases Nat.lt_or_ge a (s.flatMap escB).length with h | h
          · exact h
          · rw [List.getElem?_eq_none h] at hc; cases hc
        simp only [quoteL]
        rw [Nat.add_comm, List.getElem?_cons_succ, List.getElem?_append_left hlt, hc]

/-- plain bytes -/
theorem scan_plain (c : UInt8) (h1 : c ≠ 34) (h2 : c ≠ 92) (h3 : ¬ c < 32) (h4 : ¬ 126 < c) : ∀ (n : Nat) (r : List UInt8) (i : Nat) (acc : List UInt8),
    scan (List.replicate n c ++ r) 0 i acc = scan r 0 (i + n) (acc ++ List.replicate n c)
  | 0, r, i, acc => by simp
  | n + 1, r, i, acc => by
    rw [List.replicate_succ, List.cons_append, scan.eq_def]
    simp only []
    rw [if_neg h1, if_neg h2, if_neg (by simp [h3, h4]), scan_plain c h1 h2 h3 h4 n]
    rw [show i + 1 + n = i + (n + 1) by omega]; simp
theorem unq_plain (c : UInt8) (h1 : c ≠ 34) (h2 : c ≠ 92) (h3 : ¬ c < 32) (h4 : ¬ 126 < c) (n : Nat) (hn : n + 2 ≤ 65536) :
    unqL (34 :: (List.replicate n c ++ [34])) = (List.replicate n c, 0, 0) := by
  unfold unqL
  rw [if_neg (by simp; omega)]
  simp only [if_true]
  rw [scan_plain c h1 h2 h3 h4]; simp [scan]
end Go.Proofs.YtadbilonialjnaaGreatDoor
