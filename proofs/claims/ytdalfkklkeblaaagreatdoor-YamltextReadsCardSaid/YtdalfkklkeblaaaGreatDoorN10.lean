import Derived.Test.YtdalfkklkeblaaaGreatDoorN09
import Derived.Test.YtdalfkklkeblaaaGreatDoorN02
import Derived.Lib.Case
import Derived.Test.YtdalfkklkeblaaaGreatDoorShelf
import Derived.Test.YtdalfkklkeblaaaGreatDoorN01
import Derived.IntWalk
import Derived.Lib.ConvBytes
import Derived.Lib.SmallJoins
import Derived.Deep.DeepCutAuto
import Derived.Deep.CutBlock
namespace Go.Proofs.YtdalfkklkeblaaaGreatDoor
set_option linter.unusedSimpArgs false
set_option linter.unusedVariables false
section
theorem own_zero {d : Dat} (h : ownE d = 0) : plainB d = true ∧ badNum d = false ∧ ascM d.mem = true := by
 unfold ownE at h
 by_cases h1 : plainB d = false
 · rw [if_pos h1] at h; cases h
 · rw [if_neg h1] at h
   by_cases h2 : badNum d = true
   · rw [if_pos h2] at h; cases h
   · rw [if_neg h2] at h
     by_cases h3 : ascM d.mem = false
     · rw [if_pos h3] at h; cases h
     · exact ⟨by simpa using h1, by simpa using h2, by simpa using h3⟩
theorem plain_iff {d : Dat} : plainB d = true ↔ (1 ≤ d.k ∧ d.k ≤ 6) ∧ (d.k = 2 ∨ d.k = 3 ∨ d.n = 0) ∧ (d.k = 4 ∨ d.s = []) ∧ (d.k = 5 ∨ d.its = []) ∧ (d.k = 6 ∨ d.mem = []) := by
 unfold plainB
 simp [Bool.and_eq_true, and_assoc, or_assoc, List.isEmpty_iff]
end
section
mutual
def limD : Dat → Bool
 | .mk _ _ s its mem => decide (s.length ≤ 1000000) && decide (its.length ≤ 1000000) && decide (mem.length ≤ 1000000) && limI its && limM mem
termination_by structural d => d
def limI : List Dat → Bool
 | [] => true
 | x :: r => limD x && limI r
termination_by structural d => d
def limM : List (List UInt8 × Dat) → Bool
 | [] => true
 | (l, x) :: r => decide (l.length ≤ 1000000) && limD x && limM r
termination_by structural d => d
end
theorem limI_all {its : List Dat} : limI its = true ↔ ∀ x ∈ its, limD x = true := by
 induction its with
 | nil => rw [limI]; simp
 | cons x r ih => rw [limI, Bool.and_eq_true, ih]; simp
theorem limM_all {mem : List (List UInt8 × Dat)} : limM mem = true ↔ ∀ p ∈ mem, p.1.length ≤ 1000000 ∧ limD p.2 = true := by
 induction mem with
 | nil => rw [limM]; simp
 | cons p r ih =>
   obtain ⟨l, x⟩ := p
   rw [limM, Bool.and_eq_true, Bool.and_eq_true, ih]
   constructor
   · rintro ⟨⟨h1, h2⟩, h3⟩ q hq
     rcases List.mem_cons.1 hq with rfl | hq
     · exact ⟨by simpa using h1, h2⟩
     · exact h3 q hq
   · intro h
     have h0 := h (l, x) (List.mem_cons_self ..)
     exact ⟨⟨by simpa using h0.1, h0.2⟩, fun q hq => h q (List.mem_cons_of_mem _ hq)⟩
theorem lim_iff {d : Dat} : limD d = true ↔ d.s.length ≤ 1000000 ∧ d.its.length ≤ 1000000 ∧ d.mem.length ≤ 1000000 ∧ (∀ x ∈ d.its, limD x = true) ∧ ∀ p ∈ d.mem, p.1.length ≤ 1000000 ∧ limD p.2 = true := by
 rw [← limI_all, ← limM_all]
 cases d with
 | mk k n s its mem => rw [limD]; simp only [Bool.and_eq_true, decide_eq_true_eq, and_assoc]; rfl
mutual
def trD : Dat → Nat
 | .mk _ _ _ its mem => 1 + trI its + trM mem
termination_by structural d => d
def trI : List Dat → Nat
 | [] => 0
 | x :: r => trD x + trI r
termination_by structural d => d
def trM : List (List UInt8 × Dat) → Nat
 | [] => 0
 | (_, x) :: r => trD x + trM r
termination_by structural d => d
end
theorem trD_eq (d : Dat) : trD d = 1 + trI d.its + trM d.mem := by
 cases d with | mk k n s its mem => rw [trD]; rfl
theorem trI_len : ∀ its : List Dat, its.length ≤ trI its
 | [] => by rw [trI]; exact Nat.le_refl _
 | x :: r => by
   have := trI_len r
   have h := trD_eq x
   rw [trI, List.length_cons]; omega
theorem trM_len : ∀ mem : List (List UInt8 × Dat), mem.length ≤ trM mem
 | [] => by rw [trM]; exact Nat.le_refl _
 | (l, x) :: r => by
   have := trM_len r
   have h := trD_eq x
   rw [trM, List.length_cons]; omega
theorem trI_mem {x : Dat} : ∀ {its : List Dat}, x ∈ its → trD x ≤ trI its
 | y :: r, h => by
   rw [trI]
   rcases List.mem_cons.1 h with rfl | h
   · omega
   · have := trI_mem h; omega
theorem trM_mem {p : List UInt8 × Dat} : ∀ {mem : List (List UInt8 × Dat)}, p ∈ mem → trD p.2 ≤ trM mem
 | (l, y) :: r, h => by
   rw [trM]
   rcases List.mem_cons.1 h with rfl | h
   · simp only; omega
   · have := trM_mem h; omega
theorem sz_true : ∀ (n : Nat),
   (∀ (d : Dat) (m : Int), SizeOf.sizeOf d < n → (szD d m = trD d ∨ m < szD d m) ∧ (szD d m ≤ m + 1 ∨ szD d m = 1) ∧ 1 ≤ szD d m)
 | 0 => fun _ _ h => absurd h (Nat.not_lt_zero _)
 | n + 1 => by
   intro d m hn
   have ih := sz_true n
   have hI : ∀ (its : List Dat) (k : Int), 1 ≤ k → (∀ x ∈ its, SizeOf.sizeOf x < n) → (szI its m k = k + trI its ∨ m < szI its m k) ∧ (szI its m k ≤ m + 1 ∨ szI its m k = k) ∧ k ≤ szI its m k := by
     intro its
     induction its with
     | nil => intro k h1 _; rw [szI, trI]; omega
     | cons x r ihr =>
       intro k h1 h2
       rw [szI, trI]
       by_cases hk : k ≤ m
       · rw [if_pos hk]
         obtain ⟨a1, a2, a3⟩ := ih x (m - k) (h2 x (List.mem_cons_self ..))
         obtain ⟨b1, b2, b3⟩ := ihr (k + szD x (m - k)) (by omega) fun y hy => h2 y (List.mem_cons_of_mem _ hy)
         omega
       · rw [if_neg hk]; omega
   have hM : ∀ (mem : List (List UInt8 × Dat)) (k : Int), 1 ≤ k → (∀ p ∈ mem, SizeOf.sizeOf p.2 < n) → (szM mem m k = k + trM mem ∨ m < szM mem m k) ∧ (szM mem m k ≤ m + 1 ∨ szM mem m k = k) ∧ k ≤ szM mem m k := by
     intro mem
     induction mem with
     | nil => intro k h1 _; rw [szM, trM]; omega
     | cons p r ihr =>
       obtain ⟨l, x⟩ := p
       intro k h1 h2
       rw [szM, trM]
       by_cases hk : k ≤ m
       · rw [if_pos hk]
         obtain ⟨a1, a2, a3⟩ := ih x (m - k) (h2 (l, x) (List.mem_cons_self ..))
         obtain ⟨b1, b2, b3⟩ := ihr (k + szD x (m - k)) (by omega) fun y hy => h2 y (List.mem_cons_of_mem _ hy)
         omega
       · rw [if_neg hk]; omega
   have h1 := hI d.its 1 (by omega) fun x hx => by have := dat_it hx; omega
   have h2 := hM d.mem (szI d.its m 1) (by omega) fun p hp => by have := dat_mg hp; omega
   rw [szD_eq, trD_eq]
   omega
theorem sz_small {d : Dat} (h : szD d 40 ≤ 40) : trD d ≤ 40 := by
 have := sz_true (SizeOf.sizeOf d + 1) d 40 (Nat.lt_succ_self _)
 omega
theorem shI_all {its : List Dat} : shI its = true ↔ ∀ x ∈ its, shD x = true := by
 induction its with
 | nil => rw [shI]; simp
 | cons x r ih => rw [shI, Bool.and_eq_true, ih]; simp
theorem shM_all {mem : List (List UInt8 × Dat)} : shM mem = true ↔ ∀ p ∈ mem, p.1.length ≤ 80 ∧ shD p.2 = true := by
 induction mem with
 | nil => rw [shM]; simp
 | cons p r ih =>
   obtain ⟨l, x⟩ := p
   rw [shM, Bool.and_eq_true, Bool.and_eq_true, ih]
   constructor
   · rintro ⟨⟨h1, h2⟩, h3⟩ q hq
     rcases List.mem_cons.1 hq with rfl | hq
     · exact ⟨by simpa using h1, h2⟩
     · exact h3 q hq
   · intro h
     have h0 := h (l, x) (List.mem_cons_self ..)
     exact ⟨⟨by simpa using h0.1, h0.2⟩, fun q hq => h q (List.mem_cons_of_mem _ hq)⟩
theorem lim_of : ∀ (n : Nat) (d : Dat), SizeOf.sizeOf d < n → trD d ≤ 1000000 → shD d = true → limD d = true
 | 0, _, h, _, _ => absurd h (Nat.not_lt_zero _)
 | n + 1, d, hn, ht, hs => by
   rw [shD_eq, Bool.and_eq_true, Bool.and_eq_true, decide_eq_true_eq] at hs
   have he := trD_eq d
   have hi := trI_len d.its
   have hm := trM_len d.mem
   refine lim_iff.2 ⟨by omega, by omega, by omega, fun x hx => ?_, fun p hp => ?_⟩
   · have := trI_mem hx
     exact lim_of n x (by have := dat_it hx; omega) (by omega) (shI_all.1 hs.1.2 x hx)
   · have := trM_mem hp
     obtain ⟨h1, h2⟩ := shM_all.1 hs.2 p hp
     exact ⟨by omega, lim_of n p.2 (by have := dat_mg hp; omega) (by omega) h2⟩
theorem small_lim {d : Dat} (h : smallD d = true) : limD d = true := by
 unfold smallD at h
 rw [Bool.and_eq_true, decide_eq_true_eq] at h
 exact lim_of _ d (Nat.lt_succ_self _) (by have := sz_small h.1; omega) h.2
theorem leaf_iff {d : Dat} : leafB d = true ↔ chk d 1 = 0 ∧ d.its = [] ∧ d.mem = [] := by
 unfold leafB
 rw [Bool.and_eq_true, Bool.and_eq_true, decide_eq_true_eq, List.isEmpty_iff, List.isEmpty_iff, and_assoc]
end
section
end
section
def kids (d : Dat) : List Dat := d.its ++ d.mem.map fun p => p.2
theorem chkI_app : ∀ (a b : List Dat) (lv : Nat), chkI (a ++ b) lv = if chkI a lv = 0 then chkI b lv else chkI a lv
 | [], b, lv => by rw [List.nil_append, chkI, if_pos rfl]
 | x :: a, b, lv => by
   rw [List.cons_append, chkI, chkI, chkI_app a b lv]
   by_cases h : chk x lv = 0
   · rw [if_pos h, if_pos h]
   · rw [if_neg h, if_neg h, if_neg h]
theorem chkM_map : ∀ (m : List (List UInt8 × Dat)) (lv : Nat), chkM m lv = chkI (m.map fun p => p.2) lv
 | [], lv => by rw [chkM, List.map_nil, chkI]
 | (l, x) :: m, lv => by rw [chkM, List.map_cons, chkI, chkM_map m lv]
theorem chk_kids (d : Dat) (lv : Nat) : chk d lv = if 16 < lv then 9 else if ownE d = 0 then chkI (kids d) (lv + 1) else ownE d := by
 rw [chk_eq, kids, chkI_app, chkM_map]
theorem kid_lt {d x : Dat} (h : x ∈ kids d) : SizeOf.sizeOf x < SizeOf.sizeOf d := by
 rcases List.mem_append.1 h with h | h
 · exact dat_it h
 · obtain ⟨p, hp, rfl⟩ := List.mem_map.1 h
   exact dat_mg hp
theorem kids_len (d : Dat) : (kids d).length = d.its.length + d.mem.length := by unfold kids; simp
theorem kid_lim {d x : Dat} (hl : limD d = true) (h : x ∈ kids d) : limD x = true := by
 obtain ⟨-, -, -, h1, h2⟩ := lim_iff.1 hl
 rcases List.mem_append.1 h with h | h
 · exact h1 x h
 · obtain ⟨p, hp, rfl⟩ := List.mem_map.1 h
   exact (h2 p hp).2
theorem lim_len {d : Dat} (hl : limD d = true) : d.its.length ≤ 1000000 ∧ d.mem.length ≤ 1000000 ∧ d.s.length ≤ 1000000 := by
 obtain ⟨h0, h1, h2, -, -⟩ := lim_iff.1 hl
 exact ⟨h1, h2, h0⟩
theorem chkI_step {L : List Dat} {lv i : Nat} (h : i < L.length) : chkI (L.drop i) lv = if chk L[i] lv = 0 then chkI (L.drop (i + 1)) lv else chk L[i] lv := by
 rw [List.drop_eq_getElem_cons h, chkI]
theorem chkI_done {L : List Dat} {lv i : Nat} (h : L.length ≤ i) : chkI (L.drop i) lv = 0 := by
 rw [List.drop_of_length_le h, chkI]
end
section
def leafT (d : Dat) : List UInt8 :=
 if d.k = 1 then [110, 117, 108, 108] else if d.k = 2 then (if d.n = 1 then [116, 114, 117, 101] else [102, 97, 108, 115, 101])
 else if d.k = 3 then textI d.n else if d.k = 4 then quoteL d.s else if d.k = 5 then [91, 93] else [123, 125]
theorem parse_vld {s : List UInt8} (h : (parseI s).2 = 0) : vld (parseI s).1 = true ∧ textI (parseI s).1 = s := by
 by_cases hx : ∃ v, vld v = true ∧ textI v = s
 · obtain ⟨v, hv, rfl⟩ := hx
   rw [parseI_text v hv]; exact ⟨hv, rfl⟩
 · rw [parseI_no s fun v hv e => hx ⟨v, hv, e⟩] at h
   cases h
section
variable (pp : List UInt8 → List Stp × Nat × Nat)
variable {pp}
end
end
section
def lowB (c : UInt8) : UInt8 := if 65 ≤ c && c ≤ 90 then c + 32 else c
def lowL (s : List UInt8) : List UInt8 := s.map lowB
def ywords : List (List UInt8) := [[121, 101, 115], [110, 111], [111, 110], [111, 102, 102], [110, 117, 108, 108], [116, 114, 117, 101], [102, 97, 108, 115, 101]]
def plainY (s : List UInt8) : Bool := identB s && !(byt s 0 == 35) && !ywords.contains (lowL s)
def strY (s : List UInt8) : List UInt8 := if plainY s then s else quoteL s
def goodB (c : UInt8) : Bool := letterB c || c == 95 || digitB c
theorem tail_good {s : List UInt8} (h : idTail s = true) : ∃ c t, s = c :: t ∧ letterB c = true ∧ ∀ x ∈ t, goodB x = true := by
 cases s with
 | nil => cases h
 | cons c t =>
   unfold idTail at h
   rw [Bool.and_eq_true, List.all_cons, Bool.and_eq_true] at h
   exact ⟨c, t, rfl, h.1, fun x hx => List.all_eq_true.1 h.2.2 x hx⟩
theorem letter_good {c : UInt8} (h : letterB c = true) : goodB c = true := by unfold goodB; rw [h]; rfl
theorem ident_good {s : List UInt8} (h : identB s = true) : ∃ c t, s = c :: t ∧ (letterB c = true ∨ c = 95 ∨ c = 35) ∧ ∀ x ∈ t, goodB x = true := by
 unfold identB at h
 split at h
 · cases h
 · cases s with
   | nil => cases h
   | cons c t =>
     simp only at h
     split at h
     · rename_i hc
       obtain ⟨d, r, rfl, h1, h2⟩ := tail_good h
       refine ⟨c, d :: r, rfl, by rcases hc with h | h <;> simp [h], fun x hx => ?_⟩
       rcases List.mem_cons.1 hx with rfl | hx
       · exact letter_good h1
       · exact h2 x hx
     · obtain ⟨d, r, e, h1, h2⟩ := tail_good h
       injection e with e1 e2
       subst e1; subst e2
       exact ⟨c, t, rfl, .inl h1, h2⟩
theorem plain_good {s : List UInt8} (h : plainY s = true) : ∃ c t, s = c :: t ∧ (letterB c = true ∨ c = 95) ∧ ∀ x ∈ t, goodB x = true := by
 unfold plainY at h
 rw [Bool.and_eq_true, Bool.and_eq_true] at h
 obtain ⟨c, t, rfl, h1, h2⟩ := ident_good h.1.1
 refine ⟨c, t, rfl, ?_, h2⟩
 rcases h1 with h1 | h1 | h1
 · exact .inl h1
 · exact .inr h1
 · subst h1; exact absurd h.1.2 (by show ¬ ((!((35 : UInt8) == 35)) = true); decide)
theorem plain_ident {s : List UInt8} (h : plainY s = true) : identB s = true := by
 unfold plainY at h
 rw [Bool.and_eq_true, Bool.and_eq_true] at h
 exact h.1.1
theorem plain_word {s w : List UInt8} (h : plainY s = true) (hw : w ∈ ywords) : s ≠ w := by
 intro e
 subst e
 unfold plainY at h
 rw [Bool.and_eq_true, Bool.not_eq_true'] at h
 have h2 := h.2
 have : ∀ w ∈ ywords, ywords.contains (lowL w) = true := by decide +kernel
 rw [this s hw] at h2; cases h2
theorem good_no : ∀ c : UInt8, goodB c = true → c ≠ 10 ∧ c ≠ 32 ∧ c ≠ 34 ∧ c ≠ 35 ∧ c ≠ 45 ∧ c ≠ 58 ∧ c ≠ 91 ∧ c ≠ 93 ∧ c ≠ 123 ∧ c ≠ 125 ∧ c ≠ 46 :=
 forall_u8 (by decide +kernel)
theorem head_no : ∀ c : UInt8, letterB c = true ∨ c = 95 → goodB c = true ∧ ¬ (48 ≤ c.toNat ∧ c.toNat ≤ 57) :=
 forall_u8 (by decide +kernel)
theorem plain_bytes {s : List UInt8} (h : plainY s = true) : ∀ x ∈ s, goodB x = true := by
 obtain ⟨c, t, rfl, h1, h2⟩ := plain_good h
 intro x hx
 rcases List.mem_cons.1 hx with rfl | hx
 · exact (head_no _ h1).1
 · exact h2 x hx
theorem plain_ne {s : List UInt8} (h : plainY s = true) : s ≠ [] := by
 obtain ⟨c, t, rfl, -⟩ := plain_good h
 exact List.cons_ne_nil _ _
theorem plain_head {s : List UInt8} (h : plainY s = true) : byt s 0 ≠ 34 ∧ byt s 0 ≠ 35 ∧ byt s 0 ≠ 45 ∧ byt s 0 ≠ 32 := by
 obtain ⟨c, t, rfl, h1, -⟩ := plain_good h
 have h3 := good_no c (head_no c h1).1
 exact ⟨h3.2.2.1, h3.2.2.2.1, h3.2.2.2.2.1, h3.2.1⟩
theorem quote_ne (s : List UInt8) : quoteL s ≠ s := by
 intro e
 have := quote_len s
 rw [e] at this; omega
theorem str_same {s : List UInt8} : strY s = s ↔ plainY s = true := by
 unfold strY
 split
 · rename_i h; exact ⟨fun _ => h, fun _ => rfl⟩
 · rename_i h; exact ⟨fun e => absurd e (quote_ne s), fun e => absurd e h⟩
theorem str_plain {s : List UInt8} (h : plainY s = true) : strY s = s := str_same.2 h
theorem str_quote {s : List UInt8} (h : plainY s = false) : strY s = quoteL s := by unfold strY; rw [if_neg (by rw [h]; decide)]
theorem str_len (s : List UInt8) : (strY s).length ≤ 4 * s.length + 2 := by
 unfold strY
 split
 · omega
 · exact (quote_len s).2
theorem str_ne (s : List UInt8) : strY s ≠ [] := by
 cases h : plainY s with
 | true => rw [str_plain h]; exact plain_ne h
 | false => rw [str_quote h]; exact List.cons_ne_nil _ _
theorem str_head (s : List UInt8) : byt (strY s) 0 ≠ 35 ∧ byt (strY s) 0 ≠ 45 ∧ byt (strY s) 0 ≠ 32 := by
 cases h : plainY s with
 | true => rw [str_plain h]; exact (plain_head h).2
 | false => rw [str_quote h]; exact ⟨by show (34 : UInt8) ≠ 35; decide, by show (34 : UInt8) ≠ 45; decide, by show (34 : UInt8) ≠ 32; decide⟩
theorem str_line (s : List UInt8) : ∀ x ∈ strY s, x ≠ 10 := by
 intro x hx e
 subst e
 cases h : plainY s with
 | true => rw [str_plain h] at hx; exact (good_no _ (plain_bytes h _ hx)).1 rfl
 | false => rw [str_quote h] at hx; exact absurd (quote_print s _ hx).1 (by decide)
theorem textI_head {v : Int} (h : vld v = true) : ∃ c m, textI v = c :: m ∧ (c = 45 ∨ dgt c) := by
 rw [textI_val v h]
 split
 · exact ⟨45, _, rfl, .inl rfl⟩
 · obtain ⟨c, m, e, hc⟩ := head_dec (v.natAbs / 10000) (fracL (v.natAbs % 10000))
   exact ⟨c, m, by rw [List.nil_append]; exact e, .inr hc⟩
theorem parseI_plain {s : List UInt8} (h : plainY s = true) : parseI s = (0, 8) := by
 refine parseI_no s fun v hv e => ?_
 obtain ⟨c, m, e2, hc⟩ := textI_head hv
 obtain ⟨d, t, rfl, h1, -⟩ := plain_good h
 rw [e2] at e
 injection e with e
 subst e
 have h2 := head_no c h1
 rcases hc with rfl | hc
 · exact absurd h2.1 (by decide)
 · exact h2.2 hc
theorem parseI_head {s : List UInt8} (h : ¬ (byt s 0 = 45 ∨ dgt (byt s 0))) : parseI s = (0, 8) := by
 refine parseI_no s fun v hv e => ?_
 obtain ⟨c, m, e2, hc⟩ := textI_head hv
 rw [← e, e2] at h
 exact h hc
theorem textI_line {v : Int} (h : vld v = true) : ∀ x ∈ textI v, x ≠ 10 ∧ x ≠ 58 := by
 have hd : ∀ x : UInt8, dgt x → x ≠ 10 ∧ x ≠ 58 := fun x hx => ⟨fun e => by subst e; exact absurd hx.1 (by decide), fun e => by subst e; exact absurd hx.2 (by decide)⟩
 intro x hx
 rw [textI_val v h, List.mem_append, List.mem_append] at hx
 rcases hx with hx | hx | hx
 · split at hx
   · rw [List.mem_singleton.1 hx]; decide
   · cases hx
 · exact hd x (dec_dgt _ x hx)
 · unfold fracL at hx
   split at hx
   · cases hx
   · rcases List.mem_cons.1 hx with rfl | hx
     · decide
     · obtain ⟨k, -, -, -, -, h4⟩ := frac_parts (v.natAbs % 10000) (by omega)
       exact hd x (h4 x hx)
def shortY (d : Dat) : Option (List UInt8) :=
 if d.k = 4 then some (strY d.s) else if 0 < d.its.length + d.mem.length then none else some (leafT d)
def scalarY (d : Dat) : List UInt8 :=
 if chk d 1 ≠ 0 ∨ d.k = 5 ∨ d.k = 6 then [63] else (shortY d).getD []
def valueY (s : List UInt8) : Option Dat :=
 if s = [] then none
 else if s = [110, 117, 108, 108] then some (.mk 1 0 [] [] [])
 else if s = [116, 114, 117, 101] then some (.mk 2 1 [] [] [])
 else if s = [102, 97, 108, 115, 101] then some (.mk 2 0 [] [] [])
 else if s = [91, 93] then some (.mk 5 0 [] [] [])
 else if s = [123, 125] then some (.mk 6 0 [] [] [])
 else if (parseI s).2 = 0 then some (.mk 3 (parseI s).1 [] [] [])
 else if byt s 0 = 34 then (if (unqL s).2.1 = 0 ∧ strY (unqL s).1 = s then some (.mk 4 0 (unqL s).1 [] []) else none)
 else if strY s = s then some (.mk 4 0 s [] [])
 else none
theorem value_plain {s : List UInt8} (h : plainY s = true) : valueY s = some (.mk 4 0 s [] []) := by
 have hb := plain_bytes h
 unfold valueY
 rw [if_neg (plain_ne h), if_neg (plain_word h (by decide)), if_neg (plain_word h (by decide)), if_neg (plain_word h (by decide)), if_neg, if_neg, if_neg (by rw [parseI_plain h]; decide), if_neg (plain_head h).1, if_pos (str_plain h)]
 · intro e; exact absurd (hb 123 (by rw [e]; exact List.mem_cons_self ..)) (by decide)
 · intro e; exact absurd (hb 91 (by rw [e]; exact List.mem_cons_self ..)) (by decide)
theorem quote_word {s w : List UInt8} (h : byt w 0 ≠ 34) : quoteL s ≠ w := by
 intro e
 rw [← e] at h
 exact h rfl
theorem quote_num (s : List UInt8) : (parseI (quoteL s)).2 ≠ 0 := by
 rw [parseI_head (show ¬ (byt (quoteL s) 0 = 45 ∨ dgt (byt (quoteL s) 0)) from by
   show ¬ ((34 : UInt8) = 45 ∨ dgt 34)
   unfold dgt; decide)]
 decide
theorem value_quote (s : List UInt8) (hl : (quoteL s).length ≤ 65536) : valueY (quoteL s) = if plainY s = false then some (.mk 4 0 s [] []) else none := by
 unfold valueY
 rw [if_neg (show quoteL s ≠ [] from List.cons_ne_nil _ _), if_neg (quote_word (by decide)), if_neg (quote_word (by decide)), if_neg (quote_word (by decide)), if_neg (quote_word (by decide)), if_neg (quote_word (by decide)), if_neg (quote_num s), if_pos (show byt (quoteL s) 0 = 34 from rfl), unq_quote s hl]
 cases h : plainY s with
 | true =>
   rw [if_neg, if_neg (by decide)]
   rintro ⟨-, e⟩
   rw [str_plain h] at e
   exact quote_ne s e.symm
 | false => rw [if_pos ⟨rfl, str_quote h⟩, if_pos rfl]
theorem value_str (s : List UInt8) (hl : 4 * s.length + 2 ≤ 65536) : valueY (strY s) = some (.mk 4 0 s [] []) := by
 cases h : plainY s with
 | true => rw [str_plain h]; exact value_plain h
 | false => rw [str_quote h, value_quote s (by have := (quote_len s).2; omega), if_pos h]
theorem value_num {v : Int} (h : vld v = true) : valueY (textI v) = some (.mk 3 v [] [] []) := by
 obtain ⟨c, m, e, hc⟩ := textI_head h
 have hw : ∀ w : List UInt8, ¬ (byt w 0 = 45 ∨ dgt (byt w 0)) → textI v ≠ w := by
   intro w hw e2
   rw [← e2, e] at hw
   exact hw hc
 unfold valueY
 rw [if_neg (by rw [e]; exact List.cons_ne_nil _ _), if_neg (hw _ (by unfold dgt; decide)), if_neg (hw _ (by unfold dgt; decide)), if_neg (hw _ (by unfold dgt; decide)), if_neg (hw _ (by unfold dgt; decide)), if_neg (hw _ (by unfold dgt; decide)), parseI_text v h, if_pos rfl]
end
section
open Go.RowKit
theorem low_eq : ∀ c : UInt8, Lib.lowerB c = lowB c := forall_u8 (by decide +kernel)
theorem ident_byte : ∀ c : UInt8, (letterB c = true ∨ c = 95 ∨ c = 35) ∨ goodB c = true → c.toNat < 128 := forall_u8 (by decide +kernel)
theorem ident_ascii {s : List UInt8} (h : identB s = true) : ∀ c ∈ s, c.toNat < 128 := by
 obtain ⟨c, t, rfl, h1, h2⟩ := ident_good h
 intro x hx
 rcases List.mem_cons.1 hx with rfl | hx
 · exact ident_byte _ (.inl h1)
 · exact ident_byte _ (.inr (h2 x hx))
theorem low_any (l : List UInt8) (hl : l.length ≤ 1000000) (ha : ∀ c ∈ l, c.toNat < 128) (w : World) : Calls Tryz.prog 73 #[.string (S l)] w fun e w' => e = .returned (.string (S (lowL l))) ∧ Below w.heap.size w w' := by
 refine (Tryz.strings_ToLower_ascii (S l) w (by rw [S_size]; omega) (fun j b hb => by rw [S_data] at hb; exact ha b (List.mem_of_getElem? hb))).mono ?_
 rintro e w' ⟨rfl, hb⟩
 refine ⟨?_, hb⟩
 rw [S_data]
 have : Lib.toLowerA l = lowL l := by
   unfold Lib.toLowerA lowL
   exact List.map_congr_left fun c _ => low_eq c
 rw [this]; rfl
theorem ywords_at (w : World) (t : TypeId) : WordsAt (w.alloc (.cells #[.string ⟨#[121, 101, 115]⟩, .string ⟨#[110, 111]⟩, .string ⟨#[111, 110]⟩, .string ⟨#[111, 102, 102]⟩, .string ⟨#[110, 117, 108, 108]⟩, .string ⟨#[116, 114, 117, 101]⟩, .string ⟨#[102, 97, 108, 115, 101]⟩] t)) w.heap.size ywords := by
 intro j hj
 have hj' : j < 7 := hj
 rw [World.cell?_alloc_mark]
 match j, hj' with
 | 0, _ => rfl
 | 1, _ => rfl
 | 2, _ => rfl
 | 3, _ => rfl
 | 4, _ => rfl
 | 5, _ => rfl
 | 6, _ => rfl
set_option maxRecDepth 100000 in
set_option maxHeartbeats 4000000 in
theorem str_any (l : List UInt8) (hl : l.length ≤ 1000000) (w : World) : Calls Tryz.prog 51 #[.string (S l)] w fun e w' => e = .returned (.string (S (strY l))) ∧ Below w.heap.size w w' := by
 have hW := ywords_at w 9
 have hB := (Below.refl w.heap.size w).alloc (Nat.le_refl _) (.cells #[.string ⟨#[121, 101, 115]⟩, .string ⟨#[110, 111]⟩, .string ⟨#[111, 110]⟩, .string ⟨#[111, 102, 102]⟩, .string ⟨#[110, 117, 108, 108]⟩, .string ⟨#[116, 114, 117, 101]⟩, .string ⟨#[102, 97, 108, 115, 101]⟩] 9)
 have hlt : w.heap.size < (w.alloc (.cells #[.string ⟨#[121, 101, 115]⟩, .string ⟨#[110, 111]⟩, .string ⟨#[111, 110]⟩, .string ⟨#[111, 102, 102]⟩, .string ⟨#[110, 117, 108, 108]⟩, .string ⟨#[116, 114, 117, 101]⟩, .string ⟨#[102, 97, 108, 115, 101]⟩] 9)).heap.size := by simp
 have HS := Lib.hid (show strY l = if (identB l && !(byt l 0 == 35) && !ywords.contains (lowL l)) = true then l else quoteL l from rfl)
 generalize strY l = r at HS ⊢
 go_enter Tryz.func51, Tryz.ntmps51
 go_upto_region 2 with fail
 generalize w.alloc (.cells #[.string ⟨#[121, 101, 115]⟩, .string ⟨#[110, 111]⟩, .string ⟨#[111, 110]⟩, .string ⟨#[111, 102, 102]⟩, .string ⟨#[110, 117, 108, 108]⟩, .string ⟨#[116, 114, 117, 101]⟩, .string ⟨#[102, 97, 108, 115, 101]⟩] 9) = W at hW hB hlt ⊢
 have HW := Lib.hid hW
 have HB := Lib.hid hB
 clear hW hB
 go_wp2_with fail
 refine (Ident_any l hl _).mono ?_
 rintro e w1 ⟨rfl, hb⟩
 have HB1 := Lib.hid (HB.out.trans (hb.mono HB.out.size))
 have HW1 := Lib.hid (show WordsAt w1 w.heap.size ywords from fun j hj => (hb.cell (p := ⟨w.heap.size, j, none⟩) hlt).trans (HW.out j hj))
 have hlt1 := Nat.lt_of_lt_of_le hlt hb.size
 clear hb HB HW hlt
 cases hi : identB l with
 | false =>
   have HR := Lib.hid (show r = quoteL l by rw [HS.out, hi]; rfl)
   clear HS hi
   go_wp2_with fail
   refine (quote_any l hl _).mono ?_
   rintro e w2 ⟨rfl, hb⟩
   have HB2 := Lib.hid (HB1.out.trans (hb.mono HB1.out.size))
   clear hb
   go_wp2_with fail
   go_ret
   exact ⟨by rw [HR.out]; rfl, HB2.out⟩
 | true =>
   have h0 : 0 < l.length := by
     obtain ⟨c, t, e, -⟩ := ident_good hi
     rw [e]; simp
   have h0' : (0 : Int) < (l.length : Int) := by omega
   have HA := Lib.hid (ident_ascii hi)
   have HS2 := Lib.hid (show r = if (!(byt l 0 == 35) && !ywords.contains (lowL l)) = true then l else quoteL l by rw [HS.out, hi]; rfl)
   clear HS hi
   by_cases h35 : byt l 0 = 35
   · have T1 : (((byt l 0).toNat : Int) == 35) = true := by rw [h35]; rfl
     have HR := Lib.hid (show r = quoteL l by rw [HS2.out, h35]; rfl)
     clear HS2 h35
     go_wp2_with fail
     refine (quote_any l hl _).mono ?_
     rintro e w2 ⟨rfl, hb⟩
     have HB2 := Lib.hid (HB1.out.trans (hb.mono HB1.out.size))
     clear hb
     go_wp2_with fail
     go_ret
     exact ⟨by rw [HR.out]; rfl, HB2.out⟩
   · have T1 : (((byt l 0).toNat : Int) == 35) = false := u8_ne h35
     have HS3 := Lib.hid (show r = if (!ywords.contains (lowL l)) = true then l else quoteL l by rw [HS2.out, beq_eq_false_iff_ne.2 h35]; rfl)
     clear HS2 h35
     go_wp2_with fail
     refine (low_any l hl HA.out _).mono ?_
     rintro e w2 ⟨rfl, hb⟩
     have HB2 := Lib.hid (HB1.out.trans (hb.mono HB1.out.size))
     have HW2 := Lib.hid (show WordsAt w2 w.heap.size ywords from fun j hj => (hb.cell (p := ⟨w.heap.size, j, none⟩) hlt1).trans (HW1.out j hj))
     clear hb HB1 HW1 hlt1
     go_wp2_with fail
     refine (Contains_any w.heap.size 7 ywords (lowL l) _ (by decide) HW2.out).mono ?_
     rintro e w3 ⟨rfl, rfl⟩
     generalize ywords.contains (lowL l) = b at HS3 ⊢
     rcases Bool.eq_false_or_eq_true b with rfl | rfl
     · have HR := Lib.hid (show r = quoteL l from HS3.out)
       go_wp2_with fail
       refine (quote_any l hl _).mono ?_
       rintro e w4 ⟨rfl, hb⟩
       have HB3 := Lib.hid (HB2.out.trans (hb.mono HB2.out.size))
       clear hb
       go_wp2_with fail
       go_ret
       exact ⟨by rw [HR.out]; rfl, HB3.out⟩
     · have HR := Lib.hid (show r = l from HS3.out)
       go_wp2_with fail
       go_ret
       exact ⟨by rw [HR.out]; rfl, HB2.out⟩
end
section
open Go.RowKit
def LwS (w : World) (l : List UInt8) (k : Nat) (W : World) : Prop :=
 (∀ j, j < l.length → W.cell? ⟨w.heap.size, j, none⟩ = some (.int .u8 ((if j < k then lowB (byt l j) else byt l j).toNat : Int)) ∧ W.frozen? ⟨w.heap.size, j, none⟩ = false) ∧ w.heap.size < W.heap.size ∧ Below w.heap.size w W
theorem LwS.new (w : World) (l : List UInt8) (e : TypeId) : LwS w l 0 (Lib.bytesWorld w e (S l)) := by
 refine ⟨fun j hj => ⟨?_, ?_⟩, by rw [Lib.bytesWorld_size]; omega, Joins.below_bytesWorld _ w _ _ (Nat.le_refl _)⟩
 · rw [Lib.bytesWorld_cell w e (S l) j (by rw [S_size]; exact hj), S_data, if_neg (Nat.not_lt_zero _)]; rfl
 · unfold World.frozen?
   rw [show (⟨w.heap.size, j, none⟩ : Addr).block = w.heap.size from rfl, Lib.bytesWorld_at_new]
   have hs : l.length ≤ (Lib.bytesCells w e (S l)).size := by
     have : (S l).size = l.length := S_size l
     simp [Lib.bytesCells]
     show l.length ≤ (S l).size + _
     omega
   simp only
   have : ¬ (Lib.bytesCells w e (S l)).size ≤ j := by omega
   simp [this]
theorem LwS.set {w W : World} {l : List UInt8} {k : Nat} (h : LwS w l k W) (hk : k < l.length) : LwS w l (k + 1) (W.setCell ⟨w.heap.size, k, none⟩ (.int .u8 ((lowB (byt l k)).toNat : Int))) := by
 obtain ⟨h1, h2, h3⟩ := h
 refine ⟨fun j hj => ⟨?_, ?_⟩, by show _ < (W.heap.modify _ _).size; simpa using h2, h3.setCell (Nat.le_refl _) _⟩
 · by_cases e : j = k
   · subst e
     rw [World.cell?_setCell_same _ _ _ (h1 j hk).1, if_pos (Nat.lt_succ_self _)]
   · rw [World.cell?_setCell_other _ _ _ _ (by intro e2; injection e2 with _ e2 _; exact e e2.symm), (h1 j hj).1]
     by_cases hjk : j < k
     · rw [if_pos hjk, if_pos (by omega)]
     · rw [if_neg hjk, if_neg (by omega)]
 · rw [World.frozen?_setCell]; exact (h1 j hj).2
theorem LwS.skip {w W : World} {l : List UInt8} {k : Nat} (h : LwS w l k W) (hk : lowB (byt l k) = byt l k) : LwS w l (k + 1) W := by
 refine ⟨fun j hj => ⟨?_, (h.1 j hj).2⟩, h.2⟩
 rw [(h.1 j hj).1]
 by_cases e : j = k
 · subst e
   rw [if_neg (Nat.lt_irrefl _), if_pos (Nat.lt_succ_self _), hk]
 · by_cases hjk : j < k
   · rw [if_pos hjk, if_pos (by omega)]
   · rw [if_neg hjk, if_neg (by omega)]
theorem low_len (l : List UInt8) : (lowL l).length = l.length := by simp [lowL]
theorem low_up : ∀ c : UInt8, 65 ≤ c.toNat ∧ c.toNat ≤ 90 → lowB c = c + 32 ∧ (c.toNat + 32) % 256 = (lowB c).toNat := forall_u8 (by decide +kernel)
theorem low_no : ∀ c : UInt8, ¬ (65 ≤ c.toNat ∧ c.toNat ≤ 90) → lowB c = c := forall_u8 (by decide +kernel)
set_option maxRecDepth 100000 in
set_option maxHeartbeats 4000000 in
theorem refLower_any (l : List UInt8) (hl : l.length ≤ 1000000) (w : World) : Calls Tryz.prog 59 #[.string (S l)] w fun e w' => e = .returned (.string (S (lowL l))) ∧ Below w.heap.size w w' := by
 have hcv := Lib.run_convert_string_bytes (P := Tryz.prog) w 9 96 5 (S l) (u := .string) Tryz.underlying9 Tryz.underlying96 Tryz.underlying5
 rw [S_size] at hcv
 have hS := LwS.new w l 5
 generalize Lib.bytesWorld w 5 (S l) = W at hcv hS
 have HS := Lib.hid hS
 clear hS
 go_enter Tryz.func59, Tryz.ntmps59
 go_wp2_with fail
 go_loopw [9] (fun x wr => ∃ k : Nat, x = .int .i64 (k : Int) ∧ k ≤ l.length ∧ Hid (LwS w l k wr)) (fun x _ => l.length - (intOf x).toNat)
 case atStart => exact ⟨0, rfl, Nat.zero_le _, HS⟩
 case round =>
   clear HS hcv
   obtain ⟨k, rfl, hk, HS⟩ := hrel
   by_cases hlt : k < l.length
   · have c0 := (HS.out.1 k hlt).1
     have f0 := (HS.out.1 k hlt).2
     rw [if_neg (Nat.lt_irrefl _)] at c0
     have hbl := HS.out.2.1
     by_cases hu : 65 ≤ (byt l k).toNat ∧ (byt l k).toNat ≤ 90
     · have u1 : (65 : Int) ≤ ((byt l k).toNat : Int) := by omega
       have u2 : ((byt l k).toNat : Int) ≤ 90 := by omega
       have HU := Lib.hid (low_up _ hu)
       have w1' : IntKind.u8.wrap (((byt l k).toNat : Int) + 32) = ((lowB (byt l k)).toNat : Int) := by
         have := HU.out.2
         rw [IntWalk.u8_in _ (by omega)]
         omega
       clear hu
       go_wp2_with fail
       go_roundw
       case rel => exact ⟨k + 1, by go_num, hlt, Lib.hid (HS.out.set hlt)⟩
       case measure => simp [intOf]; omega
     · have HN := Lib.hid (low_no _ hu)
       rcases Nat.lt_or_ge (byt l k).toNat 65 with h1 | h1
       · have u1 : ¬ (65 : Int) ≤ ((byt l k).toNat : Int) := by omega
         clear hu
         go_wp2_with fail
         go_roundw
         case rel => exact ⟨k + 1, by go_num, hlt, Lib.hid (HS.out.skip HN.out)⟩
         case measure => simp [intOf]; omega
       · have u1 : (65 : Int) ≤ ((byt l k).toNat : Int) := by omega
         have u2 : ¬ ((byt l k).toNat : Int) ≤ 90 := by omega
         clear hu
         go_wp2_with fail
         go_roundw
         case rel => exact ⟨k + 1, by go_num, hlt, Lib.hid (HS.out.skip HN.out)⟩
         case measure => simp [intOf]; omega
   · have hcv2 := fun cap => conv_at (P := Tryz.prog) wr 96 9 5 ⟨w.heap.size, 0, none⟩ cap (lowL l) Tryz.underlying96 Tryz.underlying5 Tryz.underlying9 (fun j u hj => by
       have hjl : j < l.length := by
         have := (List.getElem?_eq_some_iff.1 hj).1
         simpa [bcells, low_len] using this
       have h1 := (HS.out.1 j hjl).1
       rw [if_pos (by omega)] at h1
       rw [Lib.add_plain, Nat.zero_add, h1]
       simp [bcells, lowL, byt, List.getD, hjl] at hj ⊢
       exact hj)
     rw [low_len] at hcv2
     have HB := Lib.hid HS.out.2.2
     clear HS
     go_wp2_with fail
     go_ret
     exact ⟨rfl, HB.out⟩
set_option maxRecDepth 100000 in
set_option maxHeartbeats 4000000 in
theorem refStr_any (l : List UInt8) (hl : l.length ≤ 1000000) (w : World) : Calls Tryz.prog 36 #[.string (S l)] w fun e w' => e = .returned (.string (S (strY l))) ∧ Below w.heap.size w w' := by
 have HS := Lib.hid (show strY l = if (identB l && !(byt l 0 == 35) && !ywords.contains (lowL l)) = true then l else quoteL l from rfl)
 generalize strY l = r at HS ⊢
 go_enter Tryz.func36, Tryz.ntmps36
 go_upto_region 1 with fail
 go_cut [3] (fun b wx => b = .bool (identB l && !(byt l 0 == 35)) ∧ Hid (Below w.heap.size w wx))
 case first =>
   go_wp2_with fail
   refine (refIdent_any l hl _).mono ?_
   rintro e w1 ⟨rfl, hb⟩
   have HB1 := Lib.hid hb
   clear hb
   cases hi : identB l with
   | false =>
     have HI := Lib.hid hi
     clear hi
     go_wp2_with fail
     go_meet
     exact ⟨by rw [HI.out]; rfl, HB1⟩
   | true =>
     have HI := Lib.hid hi
     have h0 : 0 < l.length := by
       obtain ⟨c, t, e, -⟩ := ident_good hi
       rw [e]; simp
     have h0' : (0 : Int) < (l.length : Int) := by omega
     by_cases h35 : byt l 0 = 35
     · have T1 : (((byt l 0).toNat : Int) == 35) = true := by rw [h35]; rfl
       have T2 : (((byt l 0).toNat : Int) != 35) = false := by rw [h35]; rfl
       have HE := Lib.hid (show (!(byt l 0 == 35)) = false by rw [h35]; rfl)
       clear h35 hi
       go_wp2_with fail
       go_meet
       exact ⟨by rw [HI.out, HE.out]; rfl, HB1⟩
     · have T1 : (((byt l 0).toNat : Int) == 35) = false := u8_ne h35
       have T2 : (((byt l 0).toNat : Int) != 35) = true := by
         show (!(((byt l 0).toNat : Int) == 35)) = true
         rw [T1]; rfl
       have HE := Lib.hid (show (!(byt l 0 == 35)) = true by rw [beq_eq_false_iff_ne.2 h35]; rfl)
       clear h35 hi
       go_wp2_with fail
       go_meet
       exact ⟨by rw [HI.out, HE.out]; rfl, HB1⟩
 case rest =>
   obtain ⟨rfl, HB⟩ := hcut
   generalize (identB l && !(byt l 0 == 35)) = b0 at HS ⊢
   have hW := ywords_at wc 9
   have hb2 := (Below.refl wc.heap.size wc).alloc (Nat.le_refl _) (.cells #[.string ⟨#[121, 101, 115]⟩, .string ⟨#[110, 111]⟩, .string ⟨#[111, 110]⟩, .string ⟨#[111, 102, 102]⟩, .string ⟨#[110, 117, 108, 108]⟩, .string ⟨#[116, 114, 117, 101]⟩, .string ⟨#[102, 97, 108, 115, 101]⟩] 9)
   have hlt : wc.heap.size < (wc.alloc (.cells #[.string ⟨#[121, 101, 115]⟩, .string ⟨#[110, 111]⟩, .string ⟨#[111, 110]⟩, .string ⟨#[111, 102, 102]⟩, .string ⟨#[110, 117, 108, 108]⟩, .string ⟨#[116, 114, 117, 101]⟩, .string ⟨#[102, 97, 108, 115, 101]⟩] 9)).heap.size := by simp
   go_upto_region 3 with fail
   generalize wc.alloc (.cells #[.string ⟨#[121, 101, 115]⟩, .string ⟨#[110, 111]⟩, .string ⟨#[111, 110]⟩, .string ⟨#[111, 102, 102]⟩, .string ⟨#[110, 117, 108, 108]⟩, .string ⟨#[116, 114, 117, 101]⟩, .string ⟨#[102, 97, 108, 115, 101]⟩] 9) = W at hW hb2 hlt ⊢
   have HW := Lib.hid hW
   have HB2 := Lib.hid (HB.out.trans (hb2.mono HB.out.size))
   clear hW hb2 HB
   go_loopw [3, 15] (fun b x wr => ∃ k : Nat, b = .bool (b0 && !(ywords.take k).contains (lowL l)) ∧ x = .int .i64 (k : Int) ∧ k ≤ 7 ∧ Hid (Below W.heap.size W wr)) (fun _ x _ => 7 - (intOf x).toNat)
   case atStart => exact ⟨0, by simp, rfl, by omega, Lib.hid (Below.refl _ _)⟩
   case round =>
     obtain ⟨k, rfl, rfl, hk, HK⟩ := hrel
     by_cases hlt7 : k < 7
     · have c0 := (HK.out.cell (p := ⟨wc.heap.size, k, none⟩) hlt).trans (HW.out k hlt7)
       have HC := Lib.hid (show (ywords.take (k + 1)).contains (lowL l) = ((ywords.take k).contains (lowL l) || (lowL l == wd ywords k)) by
         rw [List.take_succ_eq_append_getElem (show k < ywords.length from hlt7), List.contains_append, wd_get ywords k hlt7]
         simp only [List.contains_cons, List.contains_nil, Bool.or_false]
         rfl)
       generalize wd ywords k = wk at c0 HC
       generalize (ywords.take k).contains (lowL l) = bk at HC
       rcases Bool.eq_false_or_eq_true (b0 && !bk) with hbb | hbb
       · rw [hbb]
         have HC2 := Lib.hid (show (b0 && !(bk || (lowL l == wk))) = !(lowL l == wk) by
           rw [Bool.and_eq_true, Bool.not_eq_true'] at hbb
           rw [hbb.1, hbb.2]; simp)
         clear hbb
         go_wp2_with fail
         refine (refLower_any l hl _).mono ?_
         rintro e w3 ⟨rfl, hb⟩
         have HK3 := Lib.hid (HK.out.trans (hb.mono HK.out.size))
         clear hb
         rcases Bool.eq_false_or_eq_true (lowL l == wk) with he | he
         · have T1 : (lowL l != wk) = false := by show (!(lowL l == wk)) = false; rw [he]; rfl
           go_wp2_with fail
           go_roundw
           case rel => exact ⟨k + 1, by rw [HC.out, HC2.out, he]; rfl, by go_num, hlt7, HK3⟩
           case measure => simp [intOf]; omega
         · have T1 : (lowL l != wk) = true := by show (!(lowL l == wk)) = true; rw [he]; rfl
           go_wp2_with fail
           go_roundw
           case rel => exact ⟨k + 1, by rw [HC.out, HC2.out, he]; rfl, by go_num, hlt7, HK3⟩
           case measure => simp [intOf]; omega
       · rw [hbb]
         have HC2 := Lib.hid (show (b0 && !(bk || (lowL l == wk))) = false by
           cases b0 <;> cases bk <;> simp_all)
         clear hbb
         go_wp2_with fail
         go_roundw
         case rel => exact ⟨k + 1, by rw [HC.out, HC2.out], by go_num, hlt7, HK⟩
         case measure => simp [intOf]; omega
     · have h7 : k = 7 := by omega
       subst h7
       have e7 : ywords.take 7 = ywords := rfl
       rw [e7]
       have HB3 := Lib.hid (HB2.out.trans (HK.out.mono HB2.out.size))
       clear HK
       rcases Bool.eq_false_or_eq_true (b0 && !ywords.contains (lowL l)) with hbb | hbb
       · have HR := Lib.hid (show r = l by rw [HS.out, if_pos hbb])
         rw [hbb]
         clear hbb
         go_wp2_with fail
         go_ret
         exact ⟨by rw [HR.out]; rfl, HB3.out⟩
       · have HR := Lib.hid (show r = quoteL l by rw [HS.out, if_neg (by rw [hbb]; decide)])
         rw [hbb]
         clear hbb
         go_wp2_with fail
         refine (refQuote_any l hl _).mono ?_
         rintro e w4 ⟨rfl, hb⟩
         have HB4 := Lib.hid (HB3.out.trans (hb.mono HB3.out.size))
         clear hb
         go_wp2_with fail
         go_ret
         exact ⟨by rw [HR.out]; rfl, HB4.out⟩
end
section
def qscan : List UInt8 → Nat → Nat
 | [], _ => 0
 | [c], i => if c = 34 then i + 1 else 0
 | c :: d :: r, i => if c = 34 then i + 1 else if c = 92 then qscan r (i + 2) else qscan (d :: r) (i + 1)
def quotedY (s : List UInt8) : Nat := qscan (s.drop 1) 1
theorem qscan_one {c : UInt8} (h1 : c ≠ 34) (h2 : c ≠ 92) (r : List UInt8) (i : Nat) : qscan (c :: r) i = qscan r (i + 1) := by
 cases r with
 | nil => simp [qscan, h1]
 | cons d r => rw [qscan, if_neg h1, if_neg h2]
theorem qscan_two (b : UInt8) (r : List UInt8) (i : Nat) : qscan (92 :: b :: r) i = qscan r (i + 2) := by rw [qscan, if_neg (by decide), if_pos rfl]
theorem hex_no : ∀ c : UInt8, hexDig (c >>> 4) ≠ 34 ∧ hexDig (c >>> 4) ≠ 92 ∧ hexDig (c &&& 15) ≠ 34 ∧ hexDig (c &&& 15) ≠ 92 := forall_u8 (by decide +kernel)
theorem qscan_esc (c : UInt8) (r : List UInt8) (i : Nat) : qscan (escB c ++ r) i = qscan r (i + (escB c).length) := by
 unfold escB
 by_cases h1 : c = 34 ∨ c = 92
 · rw [if_pos h1]; exact qscan_two _ _ _
 · rw [if_neg h1]
   by_cases h2 : c = 10
   · rw [if_pos h2]; exact qscan_two _ _ _
   · rw [if_neg h2]
     by_cases h3 : c = 9
     · rw [if_pos h3]; exact qscan_two _ _ _
     · rw [if_neg h3]
       by_cases h4 : c = 13
       · rw [if_pos h4]; exact qscan_two _ _ _
       · rw [if_neg h4]
         by_cases h5 : c < 32 ∨ 126 < c
         · rw [if_pos h5]
           obtain ⟨a1, a2, a3, a4⟩ := hex_no c
           show qscan (92 :: 120 :: hexDig (c >>> 4) :: hexDig (c &&& 15) :: r) i = qscan r (i + 4)
           rw [qscan_two, qscan_one a1 a2, qscan_one a3 a4]
         · rw [if_neg h5]
           exact qscan_one (fun e => h1 (.inl e)) (fun e => h1 (.inr e)) _ _
theorem qscan_quote : ∀ (s r : List UInt8) (i : Nat), qscan (s.flatMap escB ++ 34 :: r) i = i + (s.flatMap escB).length + 1
 | [], r, i => by
   cases r with
   | nil => rw [List.flatMap_nil, List.nil_append, qscan, if_pos rfl]; rfl
   | cons d r => rw [List.flatMap_nil, List.nil_append, qscan, if_pos rfl]; rfl
 | c :: s, r, i => by
   rw [List.flatMap_cons, List.append_assoc, qscan_esc, qscan_quote s r, List.length_append]; omega
theorem quoted_quote (s r : List UInt8) : quotedY (quoteL s ++ r) = (quoteL s).length := by
 unfold quotedY
 rw [quoteL_length]
 have e : (quoteL s ++ r).drop 1 = s.flatMap escB ++ 34 :: r := by
   unfold quoteL
   rw [List.cons_append, List.drop_succ_cons, List.drop_zero, List.append_assoc]; rfl
 rw [e, qscan_quote]; omega
def textV (t : List UInt8) : List UInt8 := if (unqL t).2.1 = 0 then (unqL t).1 else t
def textR (t : List UInt8) : Option (List UInt8) := if strY (textV t) = t then some (textV t) else none
def labY (t : List UInt8) : Option (List UInt8) :=
 match valueY t with
 | some d => if d.k = 4 then some d.s else none
 | none => none
theorem unq_bad {t : List UInt8} (h : byt t 0 ≠ 34) : (unqL t).2.1 ≠ 0 := by
 unfold unqL
 split
 · simp
 · cases t with
   | nil => simp
   | cons c r =>
     have : c ≠ 34 := h
     simp [this]
theorem textR_iff {t v : List UInt8} (hl : t.length ≤ 65536) : textR t = some v ↔ strY v = t := by
 constructor
 · intro h
   unfold textR at h
   split at h
   · rename_i h1; injection h with h; rw [← h]; exact h1
   · cases h
 · intro h
   unfold textR textV
   cases hp : plainY v with
   | true =>
     rw [str_plain hp] at h
     subst h
     rw [if_neg (unq_bad (plain_head hp).1), if_pos (str_plain hp)]
   | false =>
     rw [str_quote hp] at h
     subst h
     rw [unq_quote v hl]
     exact if_pos (str_quote hp)
theorem labY_iff {t v : List UInt8} (hl : t.length ≤ 65536) : labY t = some v ↔ strY v = t := by
 constructor
 · intro h
   unfold labY valueY at h
   split at h
   · rename_i d hd
     split at hd
     · cases hd
     · split at hd
       · injection hd with hd; subst hd; cases h
       · split at hd
         · injection hd with hd; subst hd; cases h
         · split at hd
           · injection hd with hd; subst hd; cases h
           · split at hd
             · injection hd with hd; subst hd; cases h
             · split at hd
               · injection hd with hd; subst hd; cases h
               · split at hd
                 · injection hd with hd; subst hd; cases h
                 · split at hd
                   · split at hd
                     · rename_i h1; injection hd with hd; subst hd
                       have h : some (unqL t).1 = some v := h
                       injection h with h
                       rw [← h]; exact h1.2
                     · cases hd
                   · split at hd
                     · rename_i h1; injection hd with hd; subst hd
                       have h : some t = some v := h
                       injection h with h
                       rw [← h]; exact h1
                     · cases hd
   · cases h
 · intro h
   unfold labY
   cases hp : plainY v with
   | true =>
     rw [str_plain hp] at h
     subst h
     rw [value_plain hp]; rfl
   | false =>
     rw [str_quote hp] at h
     subst h
     rw [value_quote v hl, if_pos hp]; rfl
theorem labY_text {t : List UInt8} (hl : t.length ≤ 65536) : labY t = textR t := by
 cases h : textR t with
 | some v => exact (labY_iff hl).2 ((textR_iff hl).1 h)
 | none =>
   cases h2 : labY t with
   | none => rfl
   | some v => rw [(textR_iff hl).2 ((labY_iff hl).1 h2)] at h; cases h
def colonY (s : List UInt8) : Nat := (s.takeWhile fun c => c != 58).length
def labelEnd (s : List UInt8) : Nat := if byt s 0 = 34 then quotedY s else colonY s
def labelAt (s : List UInt8) : Option (List UInt8 × List UInt8) :=
 if labelEnd s < 1 ∨ s.length ≤ labelEnd s ∨ byt s (labelEnd s) ≠ 58 then none else (labY (s.take (labelEnd s))).map fun v => (v, s.drop (labelEnd s + 1))
theorem colon_app {a r : List UInt8} (h : ∀ x ∈ a, x ≠ 58) : colonY (a ++ 58 :: r) = a.length := by
 unfold colonY
 rw [List.takeWhile_append_of_pos (fun x hx => by simpa using h x hx), List.takeWhile_cons_of_neg (by decide), List.append_nil]
theorem label_end (v r : List UInt8) : labelEnd (strY v ++ 58 :: r) = (strY v).length := by
 unfold labelEnd
 cases hp : plainY v with
 | true =>
   rw [str_plain hp]
   have hb : byt (v ++ 58 :: r) 0 = byt v 0 := by
     cases v with
     | nil => exact absurd rfl (plain_ne hp)
     | cons c t => rfl
   rw [if_neg (by rw [hb]; exact (plain_head hp).1), colon_app fun x hx => (good_no x (plain_bytes hp x hx)).2.2.2.2.2.1]
 | false => rw [str_quote hp, if_pos (show byt (quoteL v ++ 58 :: r) 0 = 34 from rfl), quoted_quote]
theorem byt_mid (a r : List UInt8) (c : UInt8) : byt (a ++ c :: r) a.length = c := by simp [byt, List.getD]
theorem label_at (v r : List UInt8) (hl : (strY v).length ≤ 65536) : labelAt (strY v ++ 58 :: r) = some (v, r) := by
 have h0 : 0 < (strY v).length := List.length_pos_iff.2 (str_ne v)
 unfold labelAt
 rw [label_end, byt_mid, if_neg (by rw [List.length_append, List.length_cons]; intro h; rcases h with h | h | h; omega; omega; exact h rfl), List.take_left, (labY_iff hl).2 rfl]
 simp
def headF (s : List UInt8) : Nat → Nat → Option (List UInt8 × List UInt8)
 | 0, _ => none
 | f + 1, k => if byt s k = 58 then (match textR (s.take k) with | some v => some (v, s.drop (k + 1)) | none => headF s f (k + 1)) else headF s f (k + 1)
def headR (s : List UInt8) : Option (List UInt8 × List UInt8) := headF s s.length 0
theorem headF_none (s : List UInt8) : ∀ (f k : Nat), (∀ j, k ≤ j → j < k + f → byt s j = 58 → textR (s.take j) = none) → headF s f k = none
 | 0, _, _ => rfl
 | f + 1, k, h => by
   rw [headF]
   have ih := headF_none s f (k + 1) fun j h1 h2 h3 => h j (by omega) (by omega) h3
   by_cases hb : byt s k = 58
   · rw [if_pos hb, h k (Nat.le_refl _) (by omega) hb]; exact ih
   · rw [if_neg hb]; exact ih
theorem headF_some (s : List UInt8) {n : Nat} {v : List UInt8} (hb : byt s n = 58) (ht : textR (s.take n) = some v) : ∀ (f k : Nat), k ≤ n → n < k + f → (∀ j, k ≤ j → j < n → byt s j = 58 → textR (s.take j) = none) → headF s f k = some (v, s.drop (n + 1))
 | 0, _, _, h, _ => by omega
 | f + 1, k, h1, h2, h => by
   rw [headF]
   rcases Nat.lt_or_ge k n with hk | hk
   · have ih := headF_some s hb ht f (k + 1) hk (by omega) fun j h1 h2 h3 => h j (by omega) h2 h3
     by_cases hc : byt s k = 58
     · rw [if_pos hc, h k (Nat.le_refl _) hk hc]; exact ih
     · rw [if_neg hc]; exact ih
   · obtain rfl : k = n := by omega
     rw [if_pos hb, ht]
theorem split_at {s : List UInt8} {j : Nat} (hj : j < s.length) (hb : byt s j = 58) : s = s.take j ++ 58 :: s.drop (j + 1) := by
 have : s[j] = 58 := by simpa [byt, List.getD, hj] using hb
 conv => lhs; rw [← List.take_append_drop j s, List.drop_eq_getElem_cons hj, this]
theorem end_of {s v : List UInt8} {j : Nat} (hj : j < s.length) (hb : byt s j = 58) (h : strY v = s.take j) : labelEnd s = j := by
 have h1 := split_at hj hb
 rw [← h] at h1
 rw [h1, label_end, h, List.length_take]; omega
theorem head_div {s : List UInt8} (hl : s.length ≤ 65536) : headR s = labelAt s := by
 have htl : ∀ j, (s.take j).length ≤ 65536 := fun j => by rw [List.length_take]; omega
 have key : ∀ j, j < s.length → byt s j = 58 → ∀ v, textR (s.take j) = some v → labelEnd s = j := fun j hj hb v hv => end_of hj hb ((textR_iff (htl j)).1 hv)
 unfold labelAt
 by_cases hc : labelEnd s < 1 ∨ s.length ≤ labelEnd s ∨ byt s (labelEnd s) ≠ 58
 · rw [if_pos hc]
   refine headF_none s _ _ fun j _ h2 h3 => ?_
   cases ht : textR (s.take j) with
   | none => rfl
   | some v =>
     have e := key j (by omega) h3 v ht
     rw [e] at hc
     rcases hc with h | h | h
     · have hj0 : j = 0 := by omega
       subst hj0
       have := (textR_iff (htl 0)).1 ht
       rw [List.take_zero] at this
       exact absurd this (str_ne v)
     · omega
     · exact absurd h3 h
 · rw [if_neg hc]
   have h2 : labelEnd s < s.length := Nat.lt_of_not_le fun h => hc (.inr (.inl h))
   have h3 : byt s (labelEnd s) = 58 := Classical.byContradiction fun h => hc (.inr (.inr h))
   rw [labY_text (htl _)]
   cases ht : textR (s.take (labelEnd s)) with
   | none =>
     refine headF_none s _ _ fun j _ h4 h5 => ?_
     cases hv : textR (s.take j) with
     | none => rfl
     | some v =>
       have e := key j (by omega) h5 v hv
       rw [e, hv] at ht; cases ht
   | some v =>
     refine headF_some s h3 ht _ _ (Nat.zero_le _) (by omega) fun j _ h4 h5 => ?_
     cases hv : textR (s.take j) with
     | none => rfl
     | some u =>
       have e := key j (by omega) h5 u hv
       omega
def tailY (r : List UInt8) : Option (Option Dat) :=
 if r = [] then some none else
 match valueY (r.drop 1) with
 | some d => if byt r 0 = 32 then some (some d) else none
 | none => none
def divY (s : List UInt8) : Option (Bool × List UInt8 × Option Dat) :=
 if byt s 0 = 45 then (tailY (s.drop 1)).map fun d => (true, [], d)
 else match labelAt s with
   | none => none
   | some p => (tailY p.2).map fun d => (false, p.1, d)
theorem tail_value {t : List UInt8} {d : Dat} (h : valueY t = some d) : tailY (32 :: t) = some (some d) := by
 unfold tailY
 rw [if_neg (List.cons_ne_nil _ _)]
 show (match valueY t with | some d => if byt (32 :: t) 0 = 32 then some (some d) else none | none => none) = _
 rw [h]
 exact if_pos rfl
theorem div_item {t : List UInt8} {d : Dat} (h : valueY t = some d) : divY (45 :: 32 :: t) = some (true, [], some d) := by
 unfold divY
 rw [if_pos (show byt (45 :: 32 :: t) 0 = 45 from rfl)]
 show (tailY (32 :: t)).map _ = _
 rw [tail_value h]; rfl
theorem div_item0 : divY [45] = some (true, [], none) := rfl
theorem byt_app_head {a r : List UInt8} (h : a ≠ []) : byt (a ++ r) 0 = byt a 0 := by
 cases a with
 | nil => exact absurd rfl h
 | cons c t => rfl
theorem div_mem {l t : List UInt8} {d : Dat} (hl : (strY l).length ≤ 65536) (h : valueY t = some d) : divY (strY l ++ 58 :: 32 :: t) = some (false, l, some d) := by
 unfold divY
 rw [if_neg (by rw [byt_app_head (str_ne l)]; exact (str_head l).2.1), label_at l _ hl]
 show (tailY (32 :: t)).map _ = _
 rw [tail_value h]; rfl
theorem div_mem0 {l : List UInt8} (hl : (strY l).length ≤ 65536) : divY (strY l ++ [58]) = some (false, l, none) := by
 unfold divY
 rw [if_neg (by rw [byt_app_head (str_ne l)]; exact (str_head l).2.1), label_at l _ hl]
 rfl
end
section
structure Ln where
 ind : Nat
 txt : List UInt8
 no : Nat
deriving DecidableEq
def pieces (s : List UInt8) : List (List UInt8) := if (splitC 10 s).getLast? = some [] then (splitC 10 s).dropLast else splitC 10 s
def lineOf (x : List UInt8) (i : Nat) : Option Ln :=
 if x.drop (x.takeWhile fun c => c == 32).length = [] ∨ byt (x.drop (x.takeWhile fun c => c == 32).length) 0 = 35 then none
 else some ⟨(x.takeWhile fun c => c == 32).length, x.drop (x.takeWhile fun c => c == 32).length, i⟩
def linesN : List (List UInt8) → Nat → List Ln
 | [], _ => []
 | x :: r, i => (lineOf x (i + 1)).toList ++ linesN r (i + 1)
def linesY (s : List UInt8) : List Ln := linesN (pieces s) 0
def orY (w : Option Dat) (r : List Ln) (e : Except (Nat × Nat) (Dat × List Ln)) : Except (Nat × Nat) (Dat × List Ln) :=
 match w with
 | some d => .ok (d, r)
 | none => e
def blkP (many : Nat) : Nat → Nat → Int → List Dat → List (List UInt8 × Dat) → List Ln → Except (Nat × Nat) (Dat × List Ln)
 | 0, _, _, _, _, _ => .error (0, 0)
 | _ + 1, _, k, its, mem, [] => if k = 0 then .error (19, many + 1) else .ok (.mk k 0 [] its mem, [])
 | f + 1, i, k, its, mem, x :: r =>
   if x.ind < i ∧ k ≠ 0 then .ok (.mk k 0 [] its mem, x :: r)
   else if x.ind ≠ i then .error (19, x.no)
   else match divY x.txt with
   | none => .error (19, x.no)
   | some (item, l, w) =>
     if k ≠ 0 ∧ item ≠ decide (k = 5) then .error (19, x.no)
     else if item = false ∧ l ∈ mem.map (fun p => p.1) then .error (6, x.no)
     else match orY w r (blkP many f (i + 2) 0 [] [] r) with
       | .error e => .error e
       | .ok (d, r') => if item = true then blkP many f i 5 (its ++ [d]) mem r' else blkP many f i 6 its (mem ++ [(l, d)]) r'
theorem blkP_end (many : Nat) : ∀ (f i : Nat) (k : Int) (its : List Dat) (mem : List (List UInt8 × Dat)) (ls : List Ln) (d : Dat) (r : List Ln), blkP many f i k its mem ls = .ok (d, r) → r <:+ ls
 | 0, _, _, _, _, _, _, _, h => by rw [blkP] at h; cases h
 | f + 1, i, k, its, mem, [], d, r, h => by
   rw [blkP] at h
   split at h
   · cases h
   · injection h with h; injection h with _ h; rw [← h]; exact List.suffix_refl _
 | f + 1, i, k, its, mem, x :: s, d, r, h => by
   rw [blkP] at h
   split at h
   · injection h with h; injection h with _ h; rw [← h]; exact List.suffix_refl _
   · split at h
     · cases h
     · split at h
       · cases h
       · split at h
         · cases h
         · split at h
           · cases h
           · split at h
             · cases h
             · rename_i d' r' hw
               have hs : r' <:+ s := by
                 unfold orY at hw
                 split at hw
                 · injection hw with hw; injection hw with _ hw; rw [← hw]; exact List.suffix_refl _
                 · exact blkP_end many f _ _ _ _ _ _ _ hw
               have h2 : r <:+ r' := by
                 split at h
                 · exact blkP_end many f _ _ _ _ _ _ _ h
                 · exact blkP_end many f _ _ _ _ _ _ _ h
               exact h2.trans (hs.trans (List.suffix_cons x s))
theorem blkP_fuel (many : Nat) : ∀ (f g i : Nat) (k : Int) (its : List Dat) (mem : List (List UInt8 × Dat)) (ls : List Ln), ls.length < f → ls.length < g → blkP many f i k its mem ls = blkP many g i k its mem ls
 | 0, _, _, _, _, _, _, h, _ => absurd h (Nat.not_lt_zero _)
 | _ + 1, 0, _, _, _, _, _, _, h => absurd h (Nat.not_lt_zero _)
 | f + 1, g + 1, i, k, its, mem, [], _, _ => by rw [blkP, blkP]
 | f + 1, g + 1, i, k, its, mem, x :: s, h1, h2 => by
   rw [List.length_cons] at h1 h2
   rw [blkP, blkP]
   split
   · rfl
   · split
     · rfl
     · cases divY x.txt with
       | none => rfl
       | some p =>
         obtain ⟨item, l, w⟩ := p
         simp only
         split
         · rfl
         · split
           · rfl
           · have hw : orY w s (blkP many f (i + 2) 0 [] [] s) = orY w s (blkP many g (i + 2) 0 [] [] s) := by
               cases w with
               | some d => rfl
               | none => exact blkP_fuel many f g (i + 2) 0 [] [] s (by omega) (by omega)
             rw [← hw]
             cases hx : orY w s (blkP many f (i + 2) 0 [] [] s) with
             | error e => rfl
             | ok q =>
               obtain ⟨d, r'⟩ := q
               have hl : r'.length ≤ s.length := by
                 cases w with
                 | some d => simp only [orY] at hx; injection hx with hx; injection hx with _ hx; rw [← hx]; exact Nat.le_refl _
                 | none => exact (blkP_end many f _ _ _ _ _ _ _ hx).length_le
               simp only
               split
               · exact blkP_fuel many f g _ _ _ _ _ (by omega) (by omega)
               · exact blkP_fuel many f g _ _ _ _ _ (by omega) (by omega)
def blkR (many i : Nat) (k : Int) (its : List Dat) (mem : List (List UInt8 × Dat)) (ls : List Ln) : Except (Nat × Nat) (Dat × List Ln) := blkP many (ls.length + 1) i k its mem ls
theorem blkR_nil (many i : Nat) (k : Int) (its : List Dat) (mem : List (List UInt8 × Dat)) : blkR many i k its mem [] = if k = 0 then .error (19, many + 1) else .ok (.mk k 0 [] its mem, []) := by unfold blkR; rw [List.length_nil, blkP]
theorem blkR_end {many i : Nat} {k : Int} {its : List Dat} {mem : List (List UInt8 × Dat)} {ls : List Ln} {d : Dat} {r : List Ln} (h : blkR many i k its mem ls = .ok (d, r)) : r <:+ ls := blkP_end many _ _ _ _ _ _ _ _ h
theorem blkR_cons (many i : Nat) (k : Int) (its : List Dat) (mem : List (List UInt8 × Dat)) (x : Ln) (r : List Ln) : blkR many i k its mem (x :: r) =
   if x.ind < i ∧ k ≠ 0 then .ok (.mk k 0 [] its mem, x :: r)
   else if x.ind ≠ i then .error (19, x.no)
   else match divY x.txt with
   | none => .error (19, x.no)
   | some (item, l, w) =>
     if k ≠ 0 ∧ item ≠ decide (k = 5) then .error (19, x.no)
     else if item = false ∧ l ∈ mem.map (fun p => p.1) then .error (6, x.no)
     else match orY w r (blkR many (i + 2) 0 [] [] r) with
       | .error e => .error e
       | .ok (d, r') => if item = true then blkR many i 5 (its ++ [d]) mem r' else blkR many i 6 its (mem ++ [(l, d)]) r' := by
 unfold blkR
 rw [List.length_cons, blkP]
 split
 · rfl
 · split
   · rfl
   · cases divY x.txt with
     | none => rfl
     | some p =>
       obtain ⟨item, l, w⟩ := p
       simp only
       split
       · rfl
       · split
         · rfl
         · cases hx : orY w r (blkP many (r.length + 1) (i + 2) 0 [] [] r) with
           | error e => rfl
           | ok q =>
             obtain ⟨d, r'⟩ := q
             have hl : r'.length ≤ r.length := by
               cases w with
               | some d => simp only [orY] at hx; injection hx with hx; injection hx with _ hx; rw [← hx]; exact Nat.le_refl _
               | none => exact (blkP_end many _ _ _ _ _ _ _ _ hx).length_le
             simp only
             split
             · exact blkP_fuel many _ _ _ _ _ _ _ (by omega) (by omega)
             · exact blkP_fuel many _ _ _ _ _ _ _ (by omega) (by omega)
def allY (ls : List Ln) (many : Nat) : Except (Nat × Nat) Dat :=
 match ls with
 | x :: r => if x.ind = 0 then (match valueY x.txt with
     | some d => (match r with | y :: _ => .error (19, y.no) | [] => .ok d)
     | none => (blkR many 0 0 [] [] ls).map fun p => p.1) else (blkR many 0 0 [] [] ls).map fun p => p.1
 | [] => (blkR many 0 0 [] [] ls).map fun p => p.1
def insM (m : List UInt8 × Dat) : List (List UInt8 × Dat) → List (List UInt8 × Dat)
 | [] => [m]
 | p :: r => if Op.bytesLess m.1 p.1 = true then m :: p :: r else p :: insM m r
def sortM (l : List (List UInt8 × Dat)) : List (List UInt8 × Dat) := l.foldl (fun a m => insM m a) []
mutual
def srtD : Dat → Dat
 | .mk k n s its mem => .mk k n s (srtI its) (sortM (srtM mem))
termination_by structural d => d
def srtI : List Dat → List Dat
 | [] => []
 | x :: r => srtD x :: srtI r
termination_by structural d => d
def srtM : List (List UInt8 × Dat) → List (List UInt8 × Dat)
 | [] => []
 | (l, x) :: r => (l, srtD x) :: srtM r
termination_by structural d => d
end
def parseY (s : List UInt8) : Dat × Nat × Nat :=
 if 65536 < s.length then (dat0, 2, 0) else
 match allY (linesY s) (pieces s).length with
 | .error e => (dat0, e.1, e.2)
 | .ok d => if chk (srtD d) 1 = 0 then (srtD d, 0, 0) else (dat0, chk (srtD d) 1, 0)
mutual
def lnD : Dat → Nat → List (Nat × List UInt8)
 | .mk _ _ _ its mem, i => lnI its i ++ lnM mem i
termination_by structural d => d
def lnI : List Dat → Nat → List (Nat × List UInt8)
 | [], _ => []
 | x :: r, i => (match shortY x with | some t => [(i, 45 :: 32 :: t)] | none => (i, [45]) :: lnD x (i + 2)) ++ lnI r i
termination_by structural d => d
def lnM : List (List UInt8 × Dat) → Nat → List (Nat × List UInt8)
 | [], _ => []
 | (l, x) :: r, i => (match shortY x with | some t => [(i, strY l ++ 58 :: 32 :: t)] | none => (i, strY l ++ [58]) :: lnD x (i + 2)) ++ lnM r i
termination_by structural d => d
end
theorem lnD_eq (d : Dat) (i : Nat) : lnD d i = lnI d.its i ++ lnM d.mem i := by cases d with | mk k n s its mem => rw [lnD]; rfl
def oneLn (p : Nat × List UInt8) : List UInt8 := List.replicate p.1 32 ++ p.2 ++ [10]
def joinLn (l : List (Nat × List UInt8)) : List UInt8 := l.flatMap oneLn
def textY (d : Dat) : List UInt8 × Nat :=
 if chk d 1 = 0 then ((match shortY d with | some t => t ++ [10] | none => joinLn (lnD d 0)), 0) else ([], chk d 1)
end
section
theorem own_parts {d : Dat} (h : ownE d = 0) : plainB d = true ∧ badNum d = false ∧ ascM d.mem = true := by
 unfold ownE at h
 split at h
 · cases h
 · rename_i h1
   split at h
   · cases h
   · rename_i h2
     split at h
     · cases h
     · rename_i h3
       exact ⟨by simpa using h1, by simpa using h2, by simpa using h3⟩
theorem shI_iff : ∀ {l : List Dat}, shI l = true ↔ ∀ x ∈ l, shD x = true
 | [] => by simp [shI]
 | x :: r => by rw [shI, Bool.and_eq_true, shI_iff (l := r)]; simp
theorem shM_iff : ∀ {l : List (List UInt8 × Dat)}, shM l = true ↔ ∀ p ∈ l, p.1.length ≤ 80 ∧ shD p.2 = true
 | [] => by simp [shM]
 | (a, x) :: r => by
   rw [shM, Bool.and_eq_true, Bool.and_eq_true, decide_eq_true_eq, shM_iff (l := r)]
   constructor
   · rintro ⟨h1, h2⟩ p hp
     rcases List.mem_cons.1 hp with rfl | hp
     · exact h1
     · exact h2 p hp
   · intro h
     exact ⟨h _ (List.mem_cons_self ..), fun p hp => h p (List.mem_cons_of_mem _ hp)⟩
theorem sh_iff {d : Dat} : shD d = true ↔ d.s.length ≤ 80 ∧ (∀ x ∈ d.its, shD x = true) ∧ ∀ p ∈ d.mem, p.1.length ≤ 80 ∧ shD p.2 = true := by
 rw [shD_eq, Bool.and_eq_true, Bool.and_eq_true, decide_eq_true_eq, shI_iff, shM_iff, and_assoc]
theorem dat_eta (d : Dat) : d = .mk d.k d.n d.s d.its d.mem := by cases d; rfl
theorem str_fits {s : List UInt8} (h : s.length ≤ 80) : (strY s).length ≤ 65536 ∧ 4 * s.length + 2 ≤ 65536 := by have := str_len s; omega
theorem short_value {d : Dat} {t : List UInt8} (ho : ownE d = 0) (hs : d.s.length ≤ 80) (h : shortY d = some t) : valueY t = some d := by
 obtain ⟨hp, hb, -⟩ := own_parts ho
 obtain ⟨⟨k1, k6⟩, hn, hss, hi, hm⟩ := plain_iff.1 hp
 unfold shortY at h
 by_cases h4 : d.k = 4
 · rw [if_pos h4] at h
   injection h with h
   subst h
   rw [value_str _ (str_fits hs).2]
   have e1 : d.n = 0 := by rcases hn with h | h | h <;> omega
   have e2 : d.its = [] := by rcases hi with h | h; omega; exact h
   have e3 : d.mem = [] := by rcases hm with h | h; omega; exact h
   conv => rhs; rw [dat_eta d, h4, e1, e2, e3]
 · rw [if_neg h4] at h
   split at h
   · cases h
   · rename_i h0
     injection h with h
     have e2 : d.its = [] := List.length_eq_zero_iff.1 (by omega)
     have e3 : d.mem = [] := List.length_eq_zero_iff.1 (by omega)
     have e1 : d.s = [] := by rcases hss with h | h; omega; exact h
     subst h
     have hk : d.k = 1 ∨ d.k = 2 ∨ d.k = 3 ∨ d.k = 5 ∨ d.k = 6 := by omega
     have he : ∀ k n, d.k = k → d.n = n → d = .mk k n [] [] [] := fun k n a b => by conv => lhs; rw [dat_eta d, e1, e2, e3, a, b]
     unfold leafT
     rcases hk with hk | hk | hk | hk | hk
     · rw [if_pos hk, he 1 0 hk (by rcases hn with h | h | h <;> omega)]; rfl
     · rw [if_neg (by omega), if_pos hk]
       have h01 : d.n = 0 ∨ d.n = 1 := by
         unfold badNum at hb
         rw [hk] at hb
         simp at hb
         omega
       rcases h01 with h0 | h1
       · rw [if_neg (by omega), he 2 0 hk h0]; rfl
       · rw [if_pos h1, he 2 1 hk h1]; rfl
     · rw [if_neg (by omega), if_neg (by omega), if_pos hk]
       have hv : vld d.n = true := by
         unfold badNum at hb
         rw [hk] at hb
         simpa using hb
       rw [value_num hv]
       exact congrArg some (he 3 d.n hk rfl).symm
     · rw [if_neg (by omega), if_neg (by omega), if_neg (by omega), if_neg (by omega), if_pos hk, he 5 0 hk (by rcases hn with h | h | h <;> omega)]; rfl
     · rw [if_neg (by omega), if_neg (by omega), if_neg (by omega), if_neg (by omega), if_neg (by omega), he 6 0 hk (by rcases hn with h | h | h <;> omega)]; rfl
def strip (ls : List Ln) : List (Nat × List UInt8) := ls.map fun x => (x.ind, x.txt)
def itmY (x : Dat) (i : Nat) : List (Nat × List UInt8) := match shortY x with | some t => [(i, 45 :: 32 :: t)] | none => (i, [45]) :: lnD x (i + 2)
def memY (p : List UInt8 × Dat) (i : Nat) : List (Nat × List UInt8) := match shortY p.2 with | some t => [(i, strY p.1 ++ 58 :: 32 :: t)] | none => (i, strY p.1 ++ [58]) :: lnD p.2 (i + 2)
theorem lnI_cons (x : Dat) (r : List Dat) (i : Nat) : lnI (x :: r) i = itmY x i ++ lnI r i := by rw [lnI]; rfl
theorem lnM_cons (p : List UInt8 × Dat) (r : List (List UInt8 × Dat)) (i : Nat) : lnM (p :: r) i = memY p i ++ lnM r i := by obtain ⟨l, x⟩ := p; rw [lnM]; rfl
def stops (r : List Ln) (j : Nat) : Prop := ∀ y, r.head? = some y → y.ind < j
theorem stops.mono {r : List Ln} {j j' : Nat} (h : stops r j) (hj : j ≤ j') : stops r j' := fun y hy => Nat.lt_of_lt_of_le (h y hy) hj
structure RdY (many : Nat) (x : Dat) : Prop where
 short : ∀ t, shortY x = some t → valueY t = some x
 block : shortY x = none → ∀ (i : Nat) (ls rest : List Ln), strip ls = lnD x i → stops rest i → blkR many i 0 [] [] (ls ++ rest) = .ok (x, rest)
theorem strip_cons {ls : List Ln} {p : Nat × List UInt8} {r : List (Nat × List UInt8)} (h : strip ls = p :: r) : ∃ y l, ls = y :: l ∧ y.ind = p.1 ∧ y.txt = p.2 ∧ strip l = r := by
 cases ls with
 | nil => cases h
 | cons y l =>
   unfold strip at h
   rw [List.map_cons] at h
   injection h with h1 h2
   exact ⟨y, l, rfl, by rw [← h1], by rw [← h1], h2⟩
theorem strip_app {ls : List Ln} {a b : List (Nat × List UInt8)} (h : strip ls = a ++ b) : ∃ l1 l2, ls = l1 ++ l2 ∧ strip l1 = a ∧ strip l2 = b := by
 obtain ⟨l1, l2, e, h1, h2⟩ := List.map_eq_append_iff.1 h
 exact ⟨l1, l2, e, h1, h2⟩
theorem blk_div {many i : Nat} {k : Int} {its : List Dat} {mem : List (List UInt8 × Dat)} {x : Ln} {r : List Ln} {item : Bool} {l : List UInt8} {w : Option Dat} (hi : x.ind = i) (hd : divY x.txt = some (item, l, w))
   (hk : k = 0 ∨ item = decide (k = 5)) (hl : item = true ∨ l ∉ mem.map (fun p => p.1)) :
   blkR many i k its mem (x :: r) = match orY w r (blkR many (i + 2) 0 [] [] r) with
     | .error e => .error e
     | .ok (d, r') => if item = true then blkR many i 5 (its ++ [d]) mem r' else blkR many i 6 its (mem ++ [(l, d)]) r' := by
 rw [blkR_cons, if_neg (by omega), if_neg (by omega), hd]
 simp only
 have c1 : ¬ (k ≠ 0 ∧ item ≠ decide (k = 5)) := by
   rintro ⟨h1, h2⟩
   rcases hk with h | h
   · exact h1 h
   · exact h2 h
 have c2 : ¬ (item = false ∧ l ∈ mem.map (fun p => p.1)) := by
   rintro ⟨h1, h2⟩
   rcases hl with h | h
   · rw [h] at h1; cases h1
   · exact h h2
 rw [if_neg c1, if_neg c2]
 try rfl
theorem stepI {many i : Nat} {k : Int} {its : List Dat} {x : Dat} (h : RdY many x) {ls rest : List Ln} (hs : strip ls = itmY x i) (hr : stops rest (i + 1)) (hk : k = 0 ∨ k = 5) (mem : List (List UInt8 × Dat)) :
   blkR many i k its mem (ls ++ rest) = blkR many i 5 (its ++ [x]) mem rest := by
 have hk' : k = 0 ∨ true = decide (k = 5) := by rcases hk with h | h; exact .inl h; exact .inr (by rw [h]; rfl)
 unfold itmY at hs
 cases ht : shortY x with
 | some t =>
   rw [ht] at hs
   obtain ⟨y, l, rfl, h1, h2, h3⟩ := strip_cons hs
   obtain rfl : l = [] := List.map_eq_nil_iff.1 h3
   rw [List.singleton_append, blk_div h1 (by rw [h2]; exact div_item (h.short t ht)) hk' (.inl rfl)]
   rfl
 | none =>
   rw [ht] at hs
   obtain ⟨y, l, rfl, h1, h2, h3⟩ := strip_cons hs
   rw [List.cons_append, blk_div h1 (by rw [h2]; exact div_item0) hk' (.inl rfl)]
   simp only [orY]
   rw [h.block ht _ _ _ h3 (hr.mono (by omega))]
   rfl
theorem stepM {many i : Nat} {k : Int} {its : List Dat} {mem : List (List UInt8 × Dat)} {p : List UInt8 × Dat} (h : RdY many p.2) (hf : (strY p.1).length ≤ 65536) (hn : p.1 ∉ mem.map fun p => p.1) {ls rest : List Ln} (hs : strip ls = memY p i) (hr : stops rest (i + 1)) (hk : k = 0 ∨ k = 6) :
   blkR many i k its mem (ls ++ rest) = blkR many i 6 its (mem ++ [p]) rest := by
 have hk' : k = 0 ∨ false = decide (k = 5) := by rcases hk with h | h; exact .inl h; exact .inr (by rw [h]; rfl)
 obtain ⟨lab, x⟩ := p
 simp only at h hf hn
 unfold memY at hs
 simp only at hs
 cases ht : shortY x with
 | some t =>
   rw [ht] at hs
   obtain ⟨y, l, rfl, h1, h2, h3⟩ := strip_cons hs
   obtain rfl : l = [] := List.map_eq_nil_iff.1 h3
   rw [List.singleton_append, blk_div h1 (by rw [h2]; exact div_mem hf (h.short t ht)) hk' (.inr hn)]
   rfl
 | none =>
   rw [ht] at hs
   obtain ⟨y, l, rfl, h1, h2, h3⟩ := strip_cons hs
   rw [List.cons_append, blk_div h1 (by rw [h2]; exact div_mem0 hf) hk' (.inr hn)]
   simp only [orY]
   rw [h.block ht _ _ _ h3 (hr.mono (by omega))]
   rfl
theorem ent_head {l : List (Nat × List UInt8)} {ls : List Ln} {i : Nat} (hs : strip ls = l) (hl : l = [] ∨ ∃ t r, l = (i, t) :: r) {rest : List Ln} (hr : stops rest (i + 1)) : stops (ls ++ rest) (i + 1) := by
 intro y hy
 rcases hl with rfl | ⟨t, r, rfl⟩
 · obtain rfl : ls = [] := List.map_eq_nil_iff.1 hs
   exact hr y hy
 · obtain ⟨z, l, rfl, h1, -⟩ := strip_cons hs
   rw [List.cons_append, List.head?_cons] at hy
   injection hy with hy
   subst hy
   simp only at h1
   omega
theorem lnI_head (l : List Dat) (i : Nat) : lnI l i = [] ∨ ∃ t r, lnI l i = (i, t) :: r := by
 cases l with
 | nil => exact .inl (by rw [lnI])
 | cons x r =>
   right
   rw [lnI_cons]
   unfold itmY
   cases shortY x with
   | some t => exact ⟨_, _, rfl⟩
   | none => exact ⟨_, _, rfl⟩
theorem lnM_head (l : List (List UInt8 × Dat)) (i : Nat) : lnM l i = [] ∨ ∃ t r, lnM l i = (i, t) :: r := by
 cases l with
 | nil => exact .inl (by rw [lnM])
 | cons x r =>
   right
   rw [lnM_cons]
   unfold memY
   cases shortY x.2 with
   | some t => exact ⟨_, _, rfl⟩
   | none => exact ⟨_, _, rfl⟩
theorem readI {many i : Nat} : ∀ (l : List Dat) (k : Int) (its : List Dat) (ls rest : List Ln), (∀ x ∈ l, RdY many x) → (k = 0 ∧ l ≠ [] ∨ k = 5) → strip ls = lnI l i → stops rest (i + 1) → blkR many i k its [] (ls ++ rest) = blkR many i 5 (its ++ l) [] rest
 | [], k, its, ls, rest, _, hk, hs, _ => by
   rw [lnI] at hs
   obtain rfl : ls = [] := List.map_eq_nil_iff.1 hs
   rcases hk with ⟨-, h⟩ | rfl
   · exact absurd rfl h
   · rw [List.nil_append, List.append_nil]
 | x :: r, k, its, ls, rest, h, hk, hs, hr => by
   rw [lnI_cons] at hs
   obtain ⟨l1, l2, rfl, h1, h2⟩ := strip_app hs
   have h3 := ent_head h2 (lnI_head r i) hr
   rw [List.append_assoc, stepI (h x (List.mem_cons_self ..)) h1 h3 (by rcases hk with ⟨h, -⟩ | h; exact .inl h; exact .inr h)]
   rw [readI r 5 (its ++ [x]) l2 rest (fun y hy => h y (List.mem_cons_of_mem _ hy)) (.inr rfl) h2 hr, List.append_assoc]; rfl
theorem readM {many i : Nat} : ∀ (l : List (List UInt8 × Dat)) (k : Int) (mem : List (List UInt8 × Dat)) (ls rest : List Ln), (∀ p ∈ l, RdY many p.2 ∧ (strY p.1).length ≤ 65536) → ((mem ++ l).map fun p => p.1).Nodup → (k = 0 ∧ l ≠ [] ∨ k = 6) → strip ls = lnM l i → stops rest (i + 1) → blkR many i k [] mem (ls ++ rest) = blkR many i 6 [] (mem ++ l) rest
 | [], k, mem, ls, rest, _, _, hk, hs, _ => by
   rw [lnM] at hs
   obtain rfl : ls = [] := List.map_eq_nil_iff.1 hs
   rcases hk with ⟨-, h⟩ | rfl
   · exact absurd rfl h
   · rw [List.nil_append, List.append_nil]
 | p :: r, k, mem, ls, rest, h, hn, hk, hs, hr => by
   rw [lnM_cons] at hs
   obtain ⟨l1, l2, rfl, h1, h2⟩ := strip_app hs
   have h3 := ent_head h2 (lnM_head r i) hr
   obtain ⟨h4, h5⟩ := h p (List.mem_cons_self ..)
   have hn2 : p.1 ∉ mem.map fun p => p.1 := by
     intro hm
     rw [List.map_append, List.map_cons] at hn
     exact (List.nodup_append.1 hn).2.2 _ hm _ (List.mem_cons_self ..) rfl
   rw [List.append_assoc, stepM h4 h5 hn2 h1 h3 (by rcases hk with ⟨h, -⟩ | h; exact .inl h; exact .inr h)]
   rw [readM r 6 (mem ++ [p]) l2 rest (fun y hy => h y (List.mem_cons_of_mem _ hy)) (by rw [List.append_assoc]; exact hn) (.inr rfl) h2 hr, List.append_assoc]; rfl
theorem blk_stop {many i : Nat} {k : Int} {its : List Dat} {mem : List (List UInt8 × Dat)} {rest : List Ln} (hk : k ≠ 0) (hr : stops rest i) : blkR many i k its mem rest = .ok (.mk k 0 [] its mem, rest) := by
 cases rest with
 | nil => rw [blkR_nil, if_neg hk]
 | cons y r => rw [blkR_cons, if_pos ⟨hr y rfl, hk⟩]
theorem asc_nodup : ∀ {l : List (List UInt8 × Dat)}, ascM l = true → (l.map fun p => p.1).Nodup
 | [], _ => List.nodup_nil
 | x :: r, h => by
   rw [ascM_cons] at h
   rw [List.map_cons, List.nodup_cons]
   refine ⟨?_, asc_nodup h.2⟩
   intro hm
   obtain ⟨y, hy, e⟩ := List.mem_map.1 hm
   have := h.1 y hy
   rw [e, less_irr] at this
   cases this
theorem rdY_of (many : Nat) : ∀ (n : Nat) (d : Dat) (lv : Nat), SizeOf.sizeOf d < n → chk d lv = 0 → shD d = true → RdY many d
 | 0, _, _, h, _, _ => absurd h (Nat.not_lt_zero _)
 | n + 1, d, lv, hn, hc, hs => by
   obtain ⟨-, ho, hci, hcm⟩ := chk_zero.1 hc
   obtain ⟨s1, s2, s3⟩ := sh_iff.1 hs
   have hI : ∀ x ∈ d.its, RdY many x := fun x hx => rdY_of many n x (lv + 1) (by have := dat_it hx; omega) (hci x hx) (s2 x hx)
   have hM : ∀ p ∈ d.mem, RdY many p.2 ∧ (strY p.1).length ≤ 65536 := fun p hp => ⟨rdY_of many n p.2 (lv + 1) (by have := dat_mg hp; omega) (hcm p hp) (s3 p hp).2, (str_fits (s3 p hp).1).1⟩
   refine ⟨fun t ht => short_value ho s1 ht, fun hsh i ls rest hl hr => ?_⟩
   obtain ⟨hp, -, ha⟩ := own_parts ho
   obtain ⟨⟨k1, k6⟩, hn0, hss, hit, hme⟩ := plain_iff.1 hp
   have hne : d.k ≠ 4 ∧ 0 < d.its.length + d.mem.length := by
     unfold shortY at hsh
     split at hsh
     · cases hsh
     · rename_i h4
       split at hsh
       · rename_i h5; exact ⟨h4, h5⟩
       · cases hsh
   rw [lnD_eq] at hl
   by_cases h5 : d.k = 5
   · have e3 : d.mem = [] := by rcases hme with h | h; omega; exact h
     have e4 : d.its ≠ [] := by intro e; rw [e, e3] at hne; exact absurd hne.2 (by decide)
     rw [e3, show lnM [] i = [] from by rw [lnM], List.append_nil] at hl
     rw [readI d.its 0 [] ls rest hI (.inl ⟨rfl, e4⟩) hl (hr.mono (by omega)), blk_stop (by decide) hr, List.nil_append]
     have e1 : d.n = 0 := by rcases hn0 with h | h | h <;> omega
     have e2 : d.s = [] := by rcases hss with h | h; omega; exact h
     conv => rhs; rw [dat_eta d, h5, e1, e2, e3]
   · have e3 : d.its = [] := by rcases hit with h | h; omega; exact h
     have e4 : d.mem ≠ [] := by intro e; rw [e, e3] at hne; exact absurd hne.2 (by decide)
     have h6 : d.k = 6 := by rcases hme with h | h; exact h; exact absurd h e4
     rw [e3, show lnI [] i = [] from by rw [lnI], List.nil_append] at hl
     rw [readM d.mem 0 [] ls rest hM (by rw [List.nil_append]; exact asc_nodup ha) (.inl ⟨rfl, e4⟩) hl (hr.mono (by omega)), blk_stop (by decide) hr, List.nil_append]
     have e1 : d.n = 0 := by rcases hn0 with h | h | h <;> omega
     have e2 : d.s = [] := by rcases hss with h | h; omega; exact h
     conv => rhs; rw [dat_eta d, h6, e1, e2, e3]
end
section
def noLF (x : List UInt8) : Prop := ∀ c ∈ x, c ≠ 10
theorem split_join : ∀ (ps : List (List UInt8)) (t : List UInt8), (∀ p ∈ ps, noLF p) → noLF t → splitC 10 (ps.flatMap (fun p => p ++ [10]) ++ t) = ps ++ [t]
 | [], t, _, ht => splitC_one 10 t ht
 | p :: r, t, h, ht => by
   rw [List.flatMap_cons, List.append_assoc, List.append_assoc, List.singleton_append, splitC_app 10 p _ (h p (List.mem_cons_self ..)), split_join r t (fun q hq => h q (List.mem_cons_of_mem _ hq)) ht]
   rfl
theorem pieces_join (ps : List (List UInt8)) (h : ∀ p ∈ ps, noLF p) : pieces (ps.flatMap fun p => p ++ [10]) = ps := by
 have e := split_join ps [] h (fun c hc => by simp at hc)
 rw [List.append_nil] at e
 unfold pieces
 rw [e, if_pos (by simp), List.dropLast_concat]
theorem pieces_open (ps : List (List UInt8)) (t : List UInt8) (h : ∀ p ∈ ps, noLF p) (ht : noLF t) (h0 : t ≠ []) : pieces (ps.flatMap (fun p => p ++ [10]) ++ t) = ps ++ [t] := by
 unfold pieces
 rw [split_join ps t h ht, if_neg (by simp [h0])]
def lnOf (x : List UInt8) : Option (Nat × List UInt8) :=
 if x.drop (x.takeWhile fun c => c == 32).length = [] ∨ byt (x.drop (x.takeWhile fun c => c == 32).length) 0 = 35 then none
 else some ((x.takeWhile fun c => c == 32).length, x.drop (x.takeWhile fun c => c == 32).length)
theorem lineOf_ln (x : List UInt8) (i : Nat) : (lineOf x i).map (fun y => (y.ind, y.txt)) = lnOf x := by
 unfold lineOf lnOf
 split <;> rfl
theorem strip_lines : ∀ (ps : List (List UInt8)) (i : Nat), strip (linesN ps i) = ps.filterMap lnOf
 | [], _ => rfl
 | x :: r, i => by
   rw [linesN]
   unfold strip
   rw [List.map_append]
   have ih := strip_lines r (i + 1)
   unfold strip at ih
   rw [ih, List.filterMap_cons, ← lineOf_ln x (i + 1)]
   cases lineOf x (i + 1) <;> rfl
theorem take_pad (n : Nat) {t : List UInt8} (h : byt t 0 ≠ 32 ∨ t = []) : ((List.replicate n 32 ++ t).takeWhile fun c => c == 32) = List.replicate n 32 := by
 rw [List.takeWhile_append_of_pos (fun x hx => by rw [List.eq_of_mem_replicate hx]; rfl)]
 have : t.takeWhile (fun c => c == 32) = [] := by
   cases t with
   | nil => rfl
   | cons c r =>
     rcases h with h | h
     · have h' : c ≠ 32 := h
       exact List.takeWhile_cons_of_neg (by simpa using h')
     · cases h
 rw [this, List.append_nil]
theorem ln_pad (n : Nat) {t : List UInt8} (h0 : t ≠ []) (h1 : byt t 0 ≠ 32) (h2 : byt t 0 ≠ 35) : lnOf (List.replicate n 32 ++ t) = some (n, t) := by
 unfold lnOf
 rw [take_pad n (.inl h1), List.length_replicate]
 have e : (List.replicate n 32 ++ t).drop n = t := by
   conv => lhs; arg 1; rw [← List.length_replicate (n := n) (a := (32 : UInt8))]
   exact List.drop_left
 rw [e, if_neg (by rintro (h | h); exact h0 h; exact h2 h)]
theorem ln_blank (n : Nat) : lnOf (List.replicate n 32) = none := by
 unfold lnOf
 have h := take_pad n (t := []) (.inr rfl)
 rw [List.append_nil] at h
 rw [h, List.length_replicate, if_pos (.inl (List.drop_of_length_le (by simp)))]
theorem ln_note (n : Nat) (t : List UInt8) : lnOf (List.replicate n 32 ++ 35 :: t) = none := by
 unfold lnOf
 rw [take_pad n (.inl (by show (35 : UInt8) ≠ 32; decide)), List.length_replicate]
 have e : (List.replicate n 32 ++ 35 :: t).drop n = 35 :: t := by
   conv => lhs; arg 1; rw [← List.length_replicate (n := n) (a := (32 : UInt8))]
   exact List.drop_left
 rw [e, if_pos (.inr rfl)]
def goodLn (p : Nat × List UInt8) : Prop := p.2 ≠ [] ∧ byt p.2 0 ≠ 32 ∧ byt p.2 0 ≠ 35 ∧ noLF p.2
theorem leaf_line {d : Dat} (ho : ownE d = 0) : noLF (leafT d) := by
 obtain ⟨hp, hb, -⟩ := own_parts ho
 have key : ∀ l : List UInt8, (l.all fun c => c != 10) = true → noLF l := fun l h c hc => by simpa using List.all_eq_true.1 h c hc
 unfold leafT
 split
 · exact key _ rfl
 · split
   · split
     · exact key _ rfl
     · exact key _ rfl
   · split
     · rename_i h3
       intro c hc
       have hv : vld d.n = true := by
         unfold badNum at hb
         rw [h3] at hb
         simpa using hb
       exact (textI_line hv c hc).1
     · split
       · intro c hc e
         subst e
         exact absurd (quote_print d.s _ hc).1 (by decide)
       · split
         · exact key _ rfl
         · exact key _ rfl
theorem short_line {d : Dat} {t : List UInt8} (ho : ownE d = 0) (h : shortY d = some t) : noLF t := by
 unfold shortY at h
 split at h
 · injection h with h; subst h; exact str_line d.s
 · split at h
   · cases h
   · injection h with h; subst h; exact leaf_line ho
theorem short_head {d : Dat} {t : List UInt8} (ho : ownE d = 0) (h : shortY d = some t) : t ≠ [] ∧ byt t 0 ≠ 32 ∧ byt t 0 ≠ 35 := by
 obtain ⟨hp, hb, -⟩ := own_parts ho
 unfold shortY at h
 split at h
 · injection h with h; subst h; exact ⟨str_ne d.s, (str_head d.s).2.2, (str_head d.s).1⟩
 · rename_i h4
   split at h
   · cases h
   · injection h with h; subst h
     unfold leafT
     split
     · exact ⟨by decide, by decide, by decide⟩
     · split
       · split
         · exact ⟨by decide, by decide, by decide⟩
         · exact ⟨by decide, by decide, by decide⟩
       · split
         · rename_i h3
           have hv : vld d.n = true := by
             unfold badNum at hb
             rw [h3] at hb
             simpa using hb
           obtain ⟨c, m, e, hc⟩ := textI_head hv
           rw [e]
           refine ⟨List.cons_ne_nil _ _, ?_, ?_⟩
           · intro (e2 : c = 32); subst e2; revert hc; unfold dgt; decide
           · intro (e2 : c = 35); subst e2; revert hc; unfold dgt; decide
         · split
           · exact ⟨by decide, by decide, by decide⟩
           · exact ⟨by decide, by decide, by decide⟩
theorem noLF_app {a b : List UInt8} (ha : noLF a) (hb : noLF b) : noLF (a ++ b) := fun c hc => by
 rcases List.mem_append.1 hc with h | h
 · exact ha c h
 · exact hb c h
theorem noLF_cons {a : UInt8} {b : List UInt8} (ha : a ≠ 10) (hb : noLF b) : noLF (a :: b) := fun c hc => by
 rcases List.mem_cons.1 hc with h | h
 · rw [h]; exact ha
 · exact hb c h
theorem noLF_nil : noLF [] := fun c hc => by simp at hc
theorem mem_head {l r : List UInt8} : strY l ++ r ≠ [] ∧ byt (strY l ++ r) 0 ≠ 32 ∧ byt (strY l ++ r) 0 ≠ 35 := by
 have h := str_head l
 rw [← byt_app_head (r := r) (str_ne l)] at h
 exact ⟨fun e => str_ne l (List.append_eq_nil_iff.1 e).1, h.2.2, h.1⟩
theorem lnD_good : ∀ (n : Nat) (d : Dat) (lv i : Nat), SizeOf.sizeOf d < n → chk d lv = 0 → ∀ p ∈ lnD d i, goodLn p
 | 0, _, _, _, h, _ => absurd h (Nat.not_lt_zero _)
 | n + 1, d, lv, i, hn, hc => by
   obtain ⟨-, -, hci, hcm⟩ := chk_zero.1 hc
   have hI : ∀ (l : List Dat), (∀ x ∈ l, x ∈ d.its) → ∀ p ∈ lnI l i, goodLn p := by
     intro l
     induction l with
     | nil => intro _ p hp; rw [lnI] at hp; simp at hp
     | cons x r ih =>
       intro hl p hp
       rw [lnI_cons] at hp
       have hx := hl x (List.mem_cons_self ..)
       have ho := (chk_zero.1 (hci x hx)).2.1
       rcases List.mem_append.1 hp with hp | hp
       · unfold itmY at hp
         cases ht : shortY x with
         | some t =>
           rw [ht] at hp
           rw [List.mem_singleton.1 hp]
           exact ⟨List.cons_ne_nil _ _, by show (45 : UInt8) ≠ 32; decide, by show (45 : UInt8) ≠ 35; decide, noLF_cons (by decide) (noLF_cons (by decide) (short_line ho ht))⟩
         | none =>
           rw [ht] at hp
           rcases List.mem_cons.1 hp with rfl | hp
           · exact ⟨List.cons_ne_nil _ _, by show (45 : UInt8) ≠ 32; decide, by show (45 : UInt8) ≠ 35; decide, noLF_cons (by decide) noLF_nil⟩
           · exact lnD_good n x (lv + 1) (i + 2) (by have := dat_it hx; omega) (hci x hx) p hp
       · exact ih (fun y hy => hl y (List.mem_cons_of_mem _ hy)) p hp
   have hM : ∀ (l : List (List UInt8 × Dat)), (∀ x ∈ l, x ∈ d.mem) → ∀ p ∈ lnM l i, goodLn p := by
     intro l
     induction l with
     | nil => intro _ p hp; rw [lnM] at hp; simp at hp
     | cons x r ih =>
       intro hl p hp
       rw [lnM_cons] at hp
       have hx := hl x (List.mem_cons_self ..)
       have ho := (chk_zero.1 (hcm x hx)).2.1
       rcases List.mem_append.1 hp with hp | hp
       · unfold memY at hp
         cases ht : shortY x.2 with
         | some t =>
           rw [ht] at hp
           rw [List.mem_singleton.1 hp]
           exact ⟨mem_head.1, mem_head.2.1, mem_head.2.2, noLF_app (str_line _) (noLF_cons (by decide) (noLF_cons (by decide) (short_line ho ht)))⟩
         | none =>
           rw [ht] at hp
           rcases List.mem_cons.1 hp with rfl | hp
           · exact ⟨mem_head.1, mem_head.2.1, mem_head.2.2, noLF_app (str_line _) (noLF_cons (by decide) noLF_nil)⟩
           · exact lnD_good n x.2 (lv + 1) (i + 2) (by have := dat_mg hx; omega) (hcm x hx) p hp
       · exact ih (fun y hy => hl y (List.mem_cons_of_mem _ hy)) p hp
   intro p hp
   rw [lnD_eq] at hp
   rcases List.mem_append.1 hp with hp | hp
   · exact hI d.its (fun x hx => hx) p hp
   · exact hM d.mem (fun x hx => hx) p hp
def padLn (p : Nat × List UInt8) : List UInt8 := List.replicate p.1 32 ++ p.2
theorem join_pad (l : List (Nat × List UInt8)) : joinLn l = (l.map padLn).flatMap fun p => p ++ [10] := by
 unfold joinLn
 rw [List.flatMap_map]; rfl
theorem pad_line {p : Nat × List UInt8} (h : goodLn p) : noLF (padLn p) := noLF_app (fun c hc => by rw [List.eq_of_mem_replicate hc]; decide) h.2.2.2
theorem pad_ln {p : Nat × List UInt8} (h : goodLn p) : lnOf (padLn p) = some p := ln_pad p.1 h.1 h.2.1 h.2.2.1
theorem filter_pad : ∀ {l : List (Nat × List UInt8)}, (∀ p ∈ l, goodLn p) → (l.map padLn).filterMap lnOf = l
 | [], _ => rfl
 | p :: r, h => by
   rw [List.map_cons, List.filterMap_cons, pad_ln (h p (List.mem_cons_self ..)), filter_pad fun q hq => h q (List.mem_cons_of_mem _ hq)]
theorem lines_join {l : List (Nat × List UInt8)} (h : ∀ p ∈ l, goodLn p) : pieces (joinLn l) = l.map padLn ∧ strip (linesY (joinLn l)) = l := by
 have e : pieces (joinLn l) = l.map padLn := by
   rw [join_pad]
   refine pieces_join _ fun p hp => ?_
   obtain ⟨q, hq, rfl⟩ := List.mem_map.1 hp
   exact pad_line (h q hq)
 refine ⟨e, ?_⟩
 unfold linesY
 rw [strip_lines, e, filter_pad h]
def ascP (l : List (List UInt8 × Dat)) : Prop := l.Pairwise fun a b => Op.bytesLess a.1 b.1 = true
theorem asc_iff : ∀ {l : List (List UInt8 × Dat)}, ascM l = true ↔ ascP l
 | [] => by simp [ascM, ascP]
 | x :: r => by
   unfold ascP
   rw [ascM_cons, List.pairwise_cons]
   have ih := asc_iff (l := r)
   unfold ascP at ih
   rw [ih]
theorem less_flip {a b : List UInt8} (h : Op.bytesLess a b = true) : Op.bytesLess b a = false := by
 cases hb : Op.bytesLess b a with
 | false => rfl
 | true => have := less_trans h hb; rw [less_irr] at this; cases this
theorem ins_end {m : List UInt8 × Dat} : ∀ {l : List (List UInt8 × Dat)}, (∀ p ∈ l, Op.bytesLess p.1 m.1 = true) → insM m l = l ++ [m]
 | [], _ => rfl
 | p :: r, h => by
   rw [insM, if_neg (by rw [less_flip (h p (List.mem_cons_self ..))]; decide), ins_end fun q hq => h q (List.mem_cons_of_mem _ hq)]; rfl
theorem sort_asc_to : ∀ (l a : List (List UInt8 × Dat)), ascP (a ++ l) → l.foldl (fun a m => insM m a) a = a ++ l
 | [], a, _ => by rw [List.append_nil]; rfl
 | m :: r, a, h => by
   rw [List.foldl_cons, ins_end, sort_asc_to r (a ++ [m])]
   · rw [List.append_assoc]; rfl
   · rw [List.append_assoc]; exact h
   · intro p hp
     exact (List.pairwise_append.1 h).2.2 p hp m (List.mem_cons_self ..)
theorem sort_asc {l : List (List UInt8 × Dat)} (h : ascP l) : sortM l = l := by
 unfold sortM
 rw [sort_asc_to l [] (by rw [List.nil_append]; exact h), List.nil_append]
theorem srtI_map : ∀ (l : List Dat), srtI l = l.map srtD
 | [] => by rw [srtI]; rfl
 | x :: r => by rw [srtI, srtI_map r]; rfl
theorem srtM_map : ∀ (l : List (List UInt8 × Dat)), srtM l = l.map fun p => (p.1, srtD p.2)
 | [] => by rw [srtM]; rfl
 | (a, x) :: r => by rw [srtM, srtM_map r]; rfl
theorem srtD_eq (d : Dat) : srtD d = .mk d.k d.n d.s (d.its.map srtD) (sortM (d.mem.map fun p => (p.1, srtD p.2))) := by
 cases d with
 | mk k n s its mem => rw [srtD, srtI_map, srtM_map]; rfl
theorem srt_valid : ∀ (n : Nat) (d : Dat) (lv : Nat), SizeOf.sizeOf d < n → chk d lv = 0 → srtD d = d
 | 0, _, _, h, _ => absurd h (Nat.not_lt_zero _)
 | n + 1, d, lv, hn, hc => by
   obtain ⟨-, ho, hci, hcm⟩ := chk_zero.1 hc
   have e1 : d.its.map srtD = d.its := by
     conv => rhs; rw [← List.map_id d.its]
     exact List.map_congr_left fun x hx => srt_valid n x (lv + 1) (by have := dat_it hx; omega) (hci x hx)
   have e2 : (d.mem.map fun p => (p.1, srtD p.2)) = d.mem := by
     conv => rhs; rw [← List.map_id d.mem]
     exact List.map_congr_left fun p hp => Prod.ext rfl (srt_valid n p.2 (lv + 1) (by have := dat_mg hp; omega) (hcm p hp))
   rw [srtD_eq, e1, e2, sort_asc (asc_iff.1 (own_parts ho).2.2)]
   exact (dat_eta d).symm
end
section
theorem small_iff {d : Dat} (h : smallD d = true) : limD d = true ∧ trD d ≤ 40 := by
 refine ⟨small_lim h, ?_⟩
 unfold smallD at h
 rw [Bool.and_eq_true, decide_eq_true_eq] at h
 exact sz_small h.1
end
section
theorem text_second {v : Int} (h : vld v = true) {m : List UInt8} (e : textI v = 45 :: m) : ∃ c r, m = c :: r ∧ dgt c := by
 rw [textI_val v h] at e
 obtain ⟨c, r, e2, hc⟩ := head_dec (v.natAbs / 10000) (fracL (v.natAbs % 10000))
 rw [e2] at e
 split at e
 · injection e with _ e
   exact ⟨c, r, e.symm, hc⟩
 · rw [List.nil_append] at e
   injection e with e _
   subst e
   exact absurd hc.1 (by decide)
theorem item_value (s : List UInt8) : valueY (45 :: s) = none ∨ ∃ c r, s = c :: r ∧ dgt c := by
 by_cases hc : ∃ c r, s = c :: r ∧ dgt c
 · exact .inr hc
 left
 unfold valueY
 rw [if_neg (List.cons_ne_nil _ _), if_neg (by simp), if_neg (by simp), if_neg (by simp), if_neg (by simp), if_neg (by simp), if_neg, if_neg (by show ¬ (45 : UInt8) = 34; decide), if_neg]
 · rw [str_same]
   intro h
   exact (plain_head h).2.2.1 rfl
 · rw [parseI_no (45 :: s) fun v hv e => hc (text_second hv e)]
   decide
theorem colon_value {l r : List UInt8} (hl : (strY l ++ 58 :: r).length ≤ 65536) : valueY (strY l ++ 58 :: r) = none := by
 have hm : (58 : UInt8) ∈ strY l ++ 58 :: r := List.mem_append_right _ (List.mem_cons_self ..)
 have hw : ∀ w : List UInt8, (58 : UInt8) ∉ w → strY l ++ 58 :: r ≠ w := fun w h e => h (e ▸ hm)
 unfold valueY
 rw [if_neg (hw _ (by decide)), if_neg (hw _ (by decide)), if_neg (hw _ (by decide)), if_neg (hw _ (by decide)), if_neg (hw _ (by decide)), if_neg (hw _ (by decide)), if_neg]
 · cases hp : plainY l with
   | true =>
     rw [str_plain hp] at hm ⊢
     rw [if_neg (by rw [byt_app_head (plain_ne hp)]; exact (plain_head hp).1), if_neg]
     rw [str_same]
     intro h
     exact (good_no _ (plain_bytes h _ hm)).2.2.2.2.2.1 rfl
   | false =>
     rw [str_quote hp] at hl ⊢
     rw [if_pos (show byt (quoteL l ++ 58 :: r) 0 = 34 from rfl), unq_more l _ hl (List.cons_ne_nil _ _), if_neg]
     rintro ⟨h, -⟩
     cases h
 · rw [parseI_no _ fun v hv e => (textI_line hv 58 (e ▸ hm)).2 rfl]
   decide
theorem itm_value {x : Dat} {i : Nat} : ∀ p r, itmY x i = p :: r → valueY p.2 = none := by
 intro p r h
 unfold itmY at h
 split at h
 · injection h with h _
   subst h
   rcases item_value (32 :: _) with h | ⟨c, r, e, hc⟩
   · exact h
   · injection e with e _
     subst e
     exact absurd hc.1 (by decide)
 · injection h with h _
   subst h
   rcases item_value [] with h | ⟨c, r, e, hc⟩
   · exact h
   · cases e
theorem mem_value {x : List UInt8 × Dat} {i : Nat} : ∀ p r, memY x i = p :: r → p.2.length ≤ 65536 → valueY p.2 = none := by
 intro p r h hl
 unfold memY at h
 split at h
 · injection h with h _
   subst h
   exact colon_value hl
 · injection h with h _
   subst h
   exact colon_value hl
theorem lnD_first {d : Dat} {i : Nat} {p : Nat × List UInt8} {r : List (Nat × List UInt8)} (h : lnD d i = p :: r) : p.1 = i ∧ (p.2.length ≤ 65536 → valueY p.2 = none) := by
 rw [lnD_eq] at h
 cases hi : d.its with
 | cons x s =>
   rw [hi, lnI_cons] at h
   have hh : ∃ t q, itmY x i = (i, t) :: q := by
     unfold itmY
     cases shortY x with
     | some t => exact ⟨_, _, rfl⟩
     | none => exact ⟨_, _, rfl⟩
   obtain ⟨t, q, e⟩ := hh
   rw [e] at h
   simp only [List.cons_append] at h
   injection h with h _
   subst h
   exact ⟨rfl, fun _ => itm_value _ _ e⟩
 | nil =>
   rw [hi, show lnI [] i = [] from by rw [lnI], List.nil_append] at h
   cases hm : d.mem with
   | nil => rw [hm, show lnM [] i = [] from by rw [lnM]] at h; cases h
   | cons x s =>
     rw [hm, lnM_cons] at h
     have hh : ∃ t q, memY x i = (i, t) :: q := by
       unfold memY
       cases shortY x.2 with
       | some t => exact ⟨_, _, rfl⟩
       | none => exact ⟨_, _, rfl⟩
     obtain ⟨t, q, e⟩ := hh
     rw [e] at h
     simp only [List.cons_append] at h
     injection h with h _
     subst h
     exact ⟨rfl, fun hl => mem_value _ _ e hl⟩
def docLn (d : Dat) : List (Nat × List UInt8) := match shortY d with | some t => [(0, t)] | none => lnD d 0
theorem text_doc (d : Dat) (h : chk d 1 = 0) : textY d = (joinLn (docLn d), 0) := by
 unfold textY docLn
 rw [if_pos h]
 cases shortY d with
 | some t => simp [joinLn, oneLn]
 | none => rfl
theorem doc_good {d : Dat} (h : chk d 1 = 0) : ∀ p ∈ docLn d, goodLn p := by
 have ho := (chk_zero.1 h).2.1
 unfold docLn
 cases ht : shortY d with
 | some t =>
   intro p hp
   rw [List.mem_singleton.1 hp]
   obtain ⟨h1, h2, h3⟩ := short_head ho ht
   exact ⟨h1, h2, h3, short_line ho ht⟩
 | none => exact lnD_good _ d 1 0 (Nat.lt_succ_self _) h
theorem doc_ne {d : Dat} (h : chk d 1 = 0) : docLn d ≠ [] := by
 unfold docLn
 cases ht : shortY d with
 | some t => exact List.cons_ne_nil _ _
 | none =>
   intro e
   simp only at e
   have hne : 0 < d.its.length + d.mem.length := by
     unfold shortY at ht
     split at ht
     · cases ht
     · split at ht
       · assumption
       · cases ht
   rw [lnD_eq] at e
   obtain ⟨e1, e2⟩ := List.append_eq_nil_iff.1 e
   cases hi : d.its with
   | cons x s =>
     rw [hi, lnI_cons] at e1
     have := (List.append_eq_nil_iff.1 e1).1
     unfold itmY at this
     split at this <;> cases this
   | nil =>
     cases hm : d.mem with
     | cons x s =>
       rw [hm, lnM_cons] at e2
       have := (List.append_eq_nil_iff.1 e2).1
       unfold memY at this
       split at this <;> cases this
     | nil => rw [hi, hm] at hne; exact absurd hne (by decide)
theorem all_doc {d : Dat} {ls : List Ln} (many : Nat) (h : chk d 1 = 0) (hs : shD d = true) (hl : strip ls = docLn d) (hf : ∀ p ∈ docLn d, p.2.length ≤ 65536) : allY ls many = .ok d := by
 have hr := rdY_of many _ d 1 (Nat.lt_succ_self _) h hs
 unfold docLn at hl hf
 cases ht : shortY d with
 | some t =>
   rw [ht] at hl
   obtain ⟨y, l, rfl, h1, h2, h3⟩ := strip_cons hl
   obtain rfl : l = [] := List.map_eq_nil_iff.1 h3
   unfold allY
   simp only
   rw [if_pos h1, h2, hr.short t ht]
 | none =>
   rw [ht] at hl hf
   simp only at hl hf
   have hb := hr.block ht 0 ls [] hl (fun y hy => by cases hy)
   rw [List.append_nil] at hb
   cases ls with
   | nil =>
     have := doc_ne h
     unfold docLn at this
     rw [ht] at this
     exact absurd hl.symm this
   | cons x r =>
     obtain ⟨y, l, e, h1, h2, -⟩ := strip_cons (show strip (x :: r) = (x.ind, x.txt) :: strip r from rfl)
     have hfst := lnD_first (hl.symm.trans (show strip (x :: r) = (x.ind, x.txt) :: strip r from rfl))
     have hx : (x.ind, x.txt) ∈ lnD d 0 := by rw [← hl]; exact List.mem_cons_self ..
     unfold allY
     simp only
     rw [if_pos hfst.1, hfst.2 (hf _ hx)]
     simp only
     rw [hb]; rfl
theorem parse_doc {d : Dat} {s : List UInt8} (h : chk d 1 = 0) (hs : shD d = true) (hl : strip (linesY s) = docLn d) (hf : ∀ p ∈ docLn d, p.2.length ≤ 65536) (h6 : s.length ≤ 65536) : parseY s = (d, 0, 0) := by
 unfold parseY
 rw [if_neg (by omega), all_doc _ h hs hl hf]
 simp only
 rw [srt_valid _ d 1 (Nat.lt_succ_self _) h, if_pos h]
theorem short_len {d : Dat} {t : List UInt8} (hs : d.s.length ≤ 80) (h : shortY d = some t) : t.length ≤ 322 := by
 unfold shortY at h
 split at h
 · injection h with h; subst h; have := str_len d.s; omega
 · split at h
   · cases h
   · injection h with h; subst h
     rename_i h4 _
     unfold leafT
     split
     · decide
     · split
       · split
         · decide
         · decide
       · split
         · have := textI_len d.n; omega
         · split <;> decide
theorem itm_len {x : Dat} {i : Nat} (hs : shD x = true) (hb : ∀ p ∈ lnD x (i + 2), p.1 ≤ 40 ∧ p.2.length ≤ 646) (hi : i ≤ 40) : ∀ p ∈ itmY x i, p.1 ≤ 40 ∧ p.2.length ≤ 646 := by
 intro p hp
 unfold itmY at hp
 cases ht : shortY x with
 | some t =>
   rw [ht] at hp
   rw [List.mem_singleton.1 hp]
   have := short_len (sh_iff.1 hs).1 ht
   exact ⟨hi, by simp only [List.length_cons]; omega⟩
 | none =>
   rw [ht] at hp
   rcases List.mem_cons.1 hp with rfl | hp
   · exact ⟨hi, by simp⟩
   · exact hb p hp
theorem mem_len {x : List UInt8 × Dat} {i : Nat} (h8 : x.1.length ≤ 80) (hs : shD x.2 = true) (hb : ∀ p ∈ lnD x.2 (i + 2), p.1 ≤ 40 ∧ p.2.length ≤ 646) (hi : i ≤ 40) : ∀ p ∈ memY x i, p.1 ≤ 40 ∧ p.2.length ≤ 646 := by
 intro p hp
 have h1 := str_len x.1
 unfold memY at hp
 cases ht : shortY x.2 with
 | some t =>
   rw [ht] at hp
   rw [List.mem_singleton.1 hp]
   have := short_len (sh_iff.1 hs).1 ht
   exact ⟨hi, by simp only [List.length_append, List.length_cons]; omega⟩
 | none =>
   rw [ht] at hp
   rcases List.mem_cons.1 hp with rfl | hp
   · exact ⟨hi, by simp only [List.length_append, List.length_cons, List.length_nil]; omega⟩
   · exact hb p hp
theorem lnD_lens : ∀ (n : Nat) (d : Dat) (lv i : Nat), SizeOf.sizeOf d < n → chk d lv = 0 → shD d = true → i + 2 * (16 - lv) ≤ 40 → ∀ p ∈ lnD d i, p.1 ≤ 40 ∧ p.2.length ≤ 646
 | 0, _, _, _, h, _, _, _ => absurd h (Nat.not_lt_zero _)
 | n + 1, d, lv, i, hn, hc, hs, hi => by
   obtain ⟨h16, -, hci, hcm⟩ := chk_zero.1 hc
   obtain ⟨-, s2, s3⟩ := sh_iff.1 hs
   have sub : ∀ x, chk x (lv + 1) = 0 → shD x = true → SizeOf.sizeOf x < n → ∀ p ∈ lnD x (i + 2), p.1 ≤ 40 ∧ p.2.length ≤ 646 := fun x h1 h2 h3 => lnD_lens n x (lv + 1) (i + 2) h3 h1 h2 (by have := (chk_zero.1 h1).1; omega)
   have hI : ∀ (l : List Dat), (∀ x ∈ l, x ∈ d.its) → ∀ p ∈ lnI l i, p.1 ≤ 40 ∧ p.2.length ≤ 646 := by
     intro l
     induction l with
     | nil => intro _ p hp; rw [lnI] at hp; simp at hp
     | cons x r ih =>
       intro hl p hp
       rw [lnI_cons] at hp
       have hx := hl x (List.mem_cons_self ..)
       rcases List.mem_append.1 hp with hp | hp
       · exact itm_len (s2 x hx) (sub x (hci x hx) (s2 x hx) (by have := dat_it hx; omega)) (by omega) p hp
       · exact ih (fun y hy => hl y (List.mem_cons_of_mem _ hy)) p hp
   have hM : ∀ (l : List (List UInt8 × Dat)), (∀ x ∈ l, x ∈ d.mem) → ∀ p ∈ lnM l i, p.1 ≤ 40 ∧ p.2.length ≤ 646 := by
     intro l
     induction l with
     | nil => intro _ p hp; rw [lnM] at hp; simp at hp
     | cons x r ih =>
       intro hl p hp
       rw [lnM_cons] at hp
       have hx := hl x (List.mem_cons_self ..)
       rcases List.mem_append.1 hp with hp | hp
       · exact mem_len (s3 x hx).1 (s3 x hx).2 (sub x.2 (hcm x hx) (s3 x hx).2 (by have := dat_mg hx; omega)) (by omega) p hp
       · exact ih (fun y hy => hl y (List.mem_cons_of_mem _ hy)) p hp
   intro p hp
   rw [lnD_eq] at hp
   rcases List.mem_append.1 hp with hp | hp
   · exact hI d.its (fun x hx => hx) p hp
   · exact hM d.mem (fun x hx => hx) p hp
theorem lnD_count : ∀ (n : Nat) (d : Dat) (i : Nat), SizeOf.sizeOf d < n → (lnD d i).length + 1 ≤ trD d
 | 0, _, _, h => absurd h (Nat.not_lt_zero _)
 | n + 1, d, i, hn => by
   have hI : ∀ (l : List Dat), (∀ x ∈ l, SizeOf.sizeOf x < n) → (lnI l i).length ≤ trI l := by
     intro l
     induction l with
     | nil => intro _; rw [lnI]; exact Nat.zero_le _
     | cons x r ih =>
       intro h
       have h1 := ih fun y hy => h y (List.mem_cons_of_mem _ hy)
       have h2 := lnD_count n x (i + 2) (h x (List.mem_cons_self ..))
       rw [lnI_cons, List.length_append, trI]
       have h3 : (itmY x i).length ≤ trD x := by
         unfold itmY
         cases shortY x with
         | some t => simp only [List.length_singleton]; omega
         | none => simp only [List.length_cons]; omega
       omega
   have hM : ∀ (l : List (List UInt8 × Dat)), (∀ x ∈ l, SizeOf.sizeOf x.2 < n) → (lnM l i).length ≤ trM l := by
     intro l
     induction l with
     | nil => intro _; rw [lnM]; exact Nat.zero_le _
     | cons x r ih =>
       intro h
       obtain ⟨a, x⟩ := x
       have h1 := ih fun y hy => h y (List.mem_cons_of_mem _ hy)
       have h2 := lnD_count n x (i + 2) (h (a, x) (List.mem_cons_self ..))
       rw [lnM_cons, List.length_append, trM]
       have h3 : (memY (a, x) i).length ≤ trD x := by
         unfold memY
         simp only
         cases shortY x with
         | some t => simp only [List.length_singleton]; omega
         | none => simp only [List.length_cons]; omega
       omega
   rw [lnD_eq, trD_eq, List.length_append]
   have h1 := hI d.its fun x hx => by have := dat_it hx; omega
   have h2 := hM d.mem fun x hx => by have := dat_mg hx; omega
   omega
theorem join_len {B : Nat} : ∀ (l : List (Nat × List UInt8)), (∀ p ∈ l, p.1 + p.2.length + 1 ≤ B) → (joinLn l).length ≤ l.length * B
 | [], _ => Nat.zero_le _
 | p :: r, h => by
   have h1 := join_len r fun q hq => h q (List.mem_cons_of_mem _ hq)
   have h2 := h p (List.mem_cons_self ..)
   have e : (joinLn (p :: r)).length = (p.1 + p.2.length + 1) + (joinLn r).length := by
     show (oneLn p ++ joinLn r).length = _
     unfold oneLn
     simp only [List.length_append, List.length_replicate, List.length_singleton]
   rw [e, List.length_cons, Nat.succ_mul]; omega
theorem small_sh {d : Dat} (h : smallD d = true) : shD d = true := by
 unfold smallD at h
 rw [Bool.and_eq_true] at h
 exact h.2
theorem doc_lens {d : Dat} (h : chk d 1 = 0) (hs : smallD d = true) : (docLn d).length ≤ 40 ∧ ∀ p ∈ docLn d, p.1 ≤ 40 ∧ p.2.length ≤ 646 := by
 have hsh := small_sh hs
 unfold docLn
 cases ht : shortY d with
 | some t =>
   refine ⟨by simp, fun p hp => ?_⟩
   rw [List.mem_singleton.1 hp]
   have := short_len (sh_iff.1 hsh).1 ht
   exact ⟨by simp, by simp only; omega⟩
 | none =>
   have h1 := lnD_count _ d 0 (Nat.lt_succ_self _)
   have h2 := (small_iff hs).2
   exact ⟨by simp only; omega, lnD_lens _ d 1 0 (Nat.lt_succ_self _) h hsh (by omega)⟩
theorem doc_len {d : Dat} (h : chk d 1 = 0) (hs : smallD d = true) : (joinLn (docLn d)).length ≤ 27480 := by
 obtain ⟨h1, h2⟩ := doc_lens h hs
 have h3 := join_len (B := 687) (docLn d) fun p hp => by have := h2 p hp; omega
 have : (docLn d).length * 687 ≤ 40 * 687 := Nat.mul_le_mul_right _ h1
 omega
theorem parse_text {d : Dat} (h : chk d 1 = 0) (hs : smallD d = true) : parseY (textY d).1 = (d, 0, 0) := by
 rw [text_doc d h]
 have h2 := (doc_lens h hs).2
 exact parse_doc h (small_sh hs) (lines_join (doc_good h)).2 (fun p hp => by have := h2 p hp; omega) (by have := doc_len h hs; simp only; omega)
end
section
theorem ins_perm (m : List UInt8 × Dat) : ∀ (l : List (List UInt8 × Dat)), (insM m l).Perm (m :: l)
 | [] => List.Perm.refl _
 | p :: r => by
   rw [insM]
   split
   · exact List.Perm.refl _
   · exact ((ins_perm m r).cons p).trans (List.Perm.swap m p r)
theorem fold_perm : ∀ (l a : List (List UInt8 × Dat)), (l.foldl (fun a m => insM m a) a).Perm (a ++ l)
 | [], a => by rw [List.append_nil]; exact List.Perm.refl _
 | m :: r, a => by
   rw [List.foldl_cons]
   refine (fold_perm r (insM m a)).trans ?_
   refine ((ins_perm m a).append_right r).trans ?_
   exact List.perm_middle.symm
theorem sort_perm (l : List (List UInt8 × Dat)) : (sortM l).Perm l := by
 have := fold_perm l []
 rw [List.nil_append] at this
 exact this
theorem ins_asc {m : List UInt8 × Dat} : ∀ {l : List (List UInt8 × Dat)}, ascP l → (∀ p ∈ l, p.1 ≠ m.1) → ascP (insM m l)
 | [], _, _ => List.pairwise_singleton ..
 | p :: r, h, hn => by
   obtain ⟨h1, h2⟩ := List.pairwise_cons.1 h
   rw [insM]
   split
   · rename_i hl
     refine List.pairwise_cons.2 ⟨fun q hq => ?_, h⟩
     rcases List.mem_cons.1 hq with rfl | hq
     · exact hl
     · exact less_trans hl (h1 q hq)
   · rename_i hl
     have hpm : Op.bytesLess p.1 m.1 = true := less_total (fun e => hn p (List.mem_cons_self ..) e.symm) (by simpa using hl)
     refine List.pairwise_cons.2 ⟨fun q hq => ?_, ins_asc h2 fun q hq => hn q (List.mem_cons_of_mem _ hq)⟩
     rcases List.mem_cons.1 ((ins_perm m r).mem_iff.1 hq) with rfl | hq
     · exact hpm
     · exact h1 q hq
theorem fold_asc : ∀ (l a : List (List UInt8 × Dat)), ascP a → ((a ++ l).map fun p => p.1).Nodup → ascP (l.foldl (fun a m => insM m a) a)
 | [], a, h, _ => h
 | m :: r, a, h, hn => by
   rw [List.foldl_cons]
   have hn2 : ((m :: a ++ r).map fun p => p.1).Nodup := (List.Perm.map _ (List.perm_middle (a := m) (l₁ := a) (l₂ := r))).nodup_iff.1 hn
   refine fold_asc r (insM m a) (ins_asc h fun p hp e => ?_) ?_
   · rw [List.cons_append, List.map_cons, List.nodup_cons] at hn2
     exact hn2.1 (by rw [← e]; exact List.mem_map_of_mem (List.mem_append_left _ hp))
   · exact (List.Perm.map _ ((ins_perm m a).append_right r)).nodup_iff.2 hn2
theorem asc_sort {l : List (List UInt8 × Dat)} (h : (l.map fun p => p.1).Nodup) : ascP (sortM l) := fold_asc l [] List.Pairwise.nil h
theorem asc_one : ∀ {a b : List (List UInt8 × Dat)}, ascP a → ascP b → a.Perm b → a = b
 | [], [], _, _, _ => rfl
 | [], y :: b, _, _, h => absurd h.symm.eq_nil (List.cons_ne_nil _ _)
 | x :: a, [], _, _, h => absurd h.eq_nil (List.cons_ne_nil _ _)
 | x :: a, y :: b, ha, hb, h => by
   obtain ⟨ha1, ha2⟩ := List.pairwise_cons.1 ha
   obtain ⟨hb1, hb2⟩ := List.pairwise_cons.1 hb
   have e : x = y := by
     rcases List.mem_cons.1 (h.mem_iff.1 (List.mem_cons_self ..)) with e | e
     · exact e
     · rcases List.mem_cons.1 (h.mem_iff.2 (List.mem_cons_self ..)) with e2 | e2
       · exact e2.symm
       · have h1 := less_trans (hb1 x e) (ha1 y e2)
         rw [less_irr] at h1; cases h1
   subst e
   rw [asc_one ha2 hb2 (List.Perm.cons_inv h)]
theorem sort_is {l s : List (List UInt8 × Dat)} (hp : s.Perm l) (hs : ascP s) : sortM l = s := by
 have hn : (s.map fun p => p.1).Nodup := asc_nodup (asc_iff.2 hs)
 exact asc_one (asc_sort ((List.Perm.map _ hp).nodup_iff.1 hn)) hs ((sort_perm l).trans hp.symm)
theorem dat_six {d : Dat} (h : chk d 1 = 0) (hk : d.k = 6) : d = .mk 6 0 [] [] d.mem ∧ ascP d.mem ∧ (∀ p ∈ d.mem, chk p.2 2 = 0) := by
 obtain ⟨-, ho, -, hcm⟩ := chk_zero.1 h
 obtain ⟨hp, -, ha⟩ := own_parts ho
 obtain ⟨-, hn0, hss, hit, -⟩ := plain_iff.1 hp
 have e1 : d.n = 0 := by rcases hn0 with h | h | h <;> omega
 have e2 : d.s = [] := by rcases hss with h | h; omega; exact h
 have e3 : d.its = [] := by rcases hit with h | h; omega; exact h
 exact ⟨by conv => lhs; rw [dat_eta d, hk, e1, e2, e3], asc_iff.1 ha, hcm⟩
def oneM (p : List UInt8 × Dat) : Dat := .mk 6 0 [] [] [p]
theorem one_chk {p : List UInt8 × Dat} (h : chk p.2 2 = 0) : chk (oneM p) 1 = 0 := by
 refine chk_zero.2 ⟨by decide, ?_, by intro x hx; simp [oneM, Dat.its] at hx, ?_⟩
 · unfold ownE
   have h1 : plainB (oneM p) = true := plain_iff.2 ⟨⟨show (1 : Int) ≤ 6 by decide, show (6 : Int) ≤ 6 by decide⟩, .inr (.inr rfl), .inr rfl, .inr rfl, .inl rfl⟩
   have h2 : badNum (oneM p) = false := rfl
   have h3 : ascM (oneM p).mem = true := by show ascM [p] = true; simp [ascM]
   rw [if_neg (by rw [h1]; decide), if_neg (by rw [h2]; decide), if_neg (by rw [h3]; decide)]
 · intro x hx
   obtain rfl : x = p := by simpa [oneM, Dat.mem] using hx
   exact h
theorem one_text {p : List UInt8 × Dat} (h : chk p.2 2 = 0) : textY (oneM p) = (joinLn (memY p 0), 0) := by
 rw [text_doc _ (one_chk h)]
 have e : docLn (oneM p) = memY p 0 := by
   show (match shortY (oneM p) with | some t => [(0, t)] | none => lnD (oneM p) 0) = _
   have : shortY (oneM p) = none := rfl
   rw [this, lnD_eq]
   show lnI [] 0 ++ lnM [p] 0 = _
   rw [show lnI [] 0 = [] from by rw [lnI], lnM_cons, show lnM [] 0 = [] from by rw [lnM], List.append_nil, List.nil_append]
 rw [e]
theorem join_app (a b : List (Nat × List UInt8)) : joinLn (a ++ b) = joinLn a ++ joinLn b := by unfold joinLn; rw [List.flatMap_append]
theorem lnM_flatG : ∀ (l : List (List UInt8 × Dat)) (i : Nat), lnM l i = l.flatMap fun p => memY p i
 | [], i => by rw [lnM]; rfl
 | p :: r, i => by rw [lnM_cons, lnM_flatG r i]; rfl
theorem doc_six {d : Dat} (h : chk d 1 = 0) (hk : d.k = 6) (hm : d.mem ≠ []) : docLn d = lnM d.mem 0 := by
 obtain ⟨e, -, -⟩ := dat_six h hk
 have hs : shortY d = none := by
   unfold shortY
   rw [if_neg (by omega), if_pos (by have := List.length_pos_iff.2 hm; omega)]
 unfold docLn
 rw [hs]
 simp only
 rw [lnD_eq, e]
 show lnI [] 0 ++ lnM d.mem 0 = _
 rw [show lnI [] 0 = [] from by rw [lnI], List.nil_append]
 rfl
theorem text_six {d : Dat} (h : chk d 1 = 0) (hk : d.k = 6) (hm : d.mem ≠ []) : textY d = (d.mem.flatMap fun p => (textY (oneM p)).1, 0) := by
 obtain ⟨-, -, hc⟩ := dat_six h hk
 rw [text_doc d h, doc_six h hk hm, lnM_flatG]
 have : ∀ l : List (List UInt8 × Dat), (∀ p ∈ l, chk p.2 2 = 0) → joinLn (l.flatMap fun p => memY p 0) = l.flatMap fun p => (textY (oneM p)).1 := by
   intro l
   induction l with
   | nil => intro _; rfl
   | cons p r ih =>
     intro h
     rw [List.flatMap_cons, List.flatMap_cons, join_app, ih fun q hq => h q (List.mem_cons_of_mem _ hq), one_text (h p (List.mem_cons_self ..))]
 rw [this d.mem hc]
theorem mem_good {p : List UInt8 × Dat} (h : chk p.2 2 = 0) : ∀ q ∈ memY p 0, goodLn q := by
 intro q hq
 refine lnD_good _ (oneM p) 1 0 (Nat.lt_succ_self _) (one_chk h) q ?_
 rw [lnD_eq]
 refine List.mem_append_right _ ?_
 show q ∈ lnM [p] 0
 rw [lnM_cons]
 exact List.mem_append_left _ hq
theorem memY_ne (p : List UInt8 × Dat) (i : Nat) : ∃ t r, memY p i = (i, t) :: r := by
 unfold memY
 cases shortY p.2 with
 | some t => exact ⟨_, _, rfl⟩
 | none => exact ⟨_, _, rfl⟩
theorem small_mem {d : Dat} {p : List UInt8 × Dat} (hs : shD d = true) (hp : p ∈ d.mem) : p.1.length ≤ 80 ∧ shD p.2 = true := (sh_iff.1 hs).2.2 p hp
theorem parse_any_order {d : Dat} {l : List (List UInt8 × Dat)} (h : chk d 1 = 0) (hs : smallD d = true) (hk : d.k = 6) (hm : d.mem ≠ []) (hp : l.Perm d.mem) : parseY (l.flatMap fun p => (textY (oneM p)).1) = (d, 0, 0) := by
 obtain ⟨e, ha, hc⟩ := dat_six h hk
 have hsh := small_sh hs
 have hcl : ∀ p ∈ l, chk p.2 2 = 0 := fun p hp2 => hc p (hp.mem_iff.1 hp2)
 have e2 : (l.flatMap fun p => (textY (oneM p)).1) = joinLn (lnM l 0) := by
   rw [lnM_flatG]
   clear hp
   induction l with
   | nil => rfl
   | cons p r ih =>
     rw [List.flatMap_cons, List.flatMap_cons, join_app, ih fun q hq => hcl q (List.mem_cons_of_mem _ hq), one_text (hcl p (List.mem_cons_self ..))]
 have hlp : (lnM l 0).Perm (lnM d.mem 0) := by rw [lnM_flatG, lnM_flatG]; exact List.Perm.flatMap_right _ hp
 have hdl := doc_lens h hs
 rw [doc_six h hk hm] at hdl
 have hgood : ∀ q ∈ lnM l 0, goodLn q := fun q hq => by
   rw [lnM_flatG, List.mem_flatMap] at hq
   obtain ⟨p, hp2, hq⟩ := hq
   exact mem_good (hcl p hp2) q hq
 have hlen : ∀ q ∈ lnM l 0, q.1 ≤ 40 ∧ q.2.length ≤ 646 := fun q hq => hdl.2 q (hlp.mem_iff.1 hq)
 have hl := (lines_join hgood).2
 have hln : l ≠ [] := fun e => hm (by rw [e] at hp; exact hp.symm.eq_nil)
 have hsz : (joinLn (lnM l 0)).length ≤ 65536 := by
   have h3 := join_len (B := 687) (lnM l 0) fun p hp => by have := hlen p hp; omega
   have h4 : (lnM l 0).length ≤ 40 := by rw [hlp.length_eq]; exact hdl.1
   have : (lnM l 0).length * 687 ≤ 40 * 687 := Nat.mul_le_mul_right _ h4
   omega
 rw [e2]
 unfold parseY
 rw [if_neg (by omega)]
 have hall : ∀ many, allY (linesY (joinLn (lnM l 0))) many = .ok (.mk 6 0 [] [] l) := by
   intro many
   have hr : blkR many 0 0 [] [] (linesY (joinLn (lnM l 0))) = .ok (.mk 6 0 [] [] l, []) := by
     have h0 := readM (many := many) (i := 0) l 0 [] (linesY (joinLn (lnM l 0))) [] (fun p hp2 => ⟨rdY_of many _ p.2 2 (Nat.lt_succ_self _) (hcl p hp2) (small_mem hsh (hp.mem_iff.1 hp2)).2, (str_fits (small_mem hsh (hp.mem_iff.1 hp2)).1).1⟩)
       (by rw [List.nil_append]; exact (List.Perm.map _ hp).nodup_iff.2 (asc_nodup (asc_iff.2 ha))) (.inl ⟨rfl, hln⟩) hl (fun y hy => by cases hy)
     rw [List.append_nil, List.nil_append] at h0
     rw [h0]
     exact blk_stop (by decide) (fun y hy => by cases hy)
   cases hls : linesY (joinLn (lnM l 0)) with
   | nil =>
     rw [hls] at hl
     cases l with
     | nil => exact absurd rfl hln
     | cons p r =>
       obtain ⟨t, q, e3⟩ := memY_ne p 0
       rw [lnM_cons, e3] at hl
       cases hl
   | cons x r =>
     rw [hls] at hr hl
     have hfst : (x.ind, x.txt) ∈ lnM l 0 := by rw [← hl]; exact List.mem_cons_self ..
     cases l with
     | nil => exact absurd rfl hln
     | cons p q =>
       obtain ⟨t, u, e3⟩ := memY_ne p 0
       have hl2 := hl
       rw [lnM_cons, e3] at hl2
       obtain ⟨y, ls2, e4, h1, h2, -⟩ := strip_cons hl2
       injection e4 with e4 _
       subst e4
       unfold allY
       simp only
       have h2' : x.txt = t := h2
       have h9 : x.txt.length ≤ 646 := (hlen _ hfst).2
       rw [h2'] at h9
       rw [if_pos h1, h2', show valueY t = none from mem_value _ _ e3 (by show t.length ≤ 65536; omega)]
       simp only
       rw [hr]; rfl
 rw [hall]
 simp only
 have es : srtD (.mk 6 0 [] [] l) = d := by
   rw [srtD_eq]
   show Dat.mk 6 0 [] [] (sortM (l.map fun p => (p.1, srtD p.2))) = d
   have e5 : (l.map fun p => (p.1, srtD p.2)) = l := by
     conv => rhs; rw [← List.map_id l]
     exact List.map_congr_left fun p hp2 => Prod.ext rfl (srt_valid _ p.2 2 (Nat.lt_succ_self _) (hcl p hp2))
   rw [e5, sort_is hp.symm ha]
   exact e.symm
 rw [es, if_pos h]
end
end Go.Proofs.YtdalfkklkeblaaaGreatDoor
