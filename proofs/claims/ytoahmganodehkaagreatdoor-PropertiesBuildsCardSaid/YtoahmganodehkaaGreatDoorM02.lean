/- The text of properties: plain: leaves, lines, what is read. No program in sight. -/
import Derived.Test.YtoahmganodehkaaGreatDoorM01
import Derived.Lib.IndexMore
import Derived.Lib.ItoaMem
import Derived.Handy
import Derived.LoopTactic
import Derived.Outline
import Derived.BigQuiet
import Derived.Laws.Cover1
import Derived.Deep.RegionHeld3
import Derived.Deep.DeepCutAuto
import Derived.Deep.CutBlock
import Derived.Deep.QuietTactic
import Derived.Test.YtoahmganodehkaaGreatDoorChecked
import Derived.Laws.AppendOwn
import Derived.Maps.AppendAt
import Derived.WalkSpells
namespace Go.Proofs.YtoahmganodehkaaGreatDoor
set_option linter.unusedSimpArgs false
set_option linter.unusedVariables false
section

/-- the text of a leaf -/
def leafT (d : Dat) : List UInt8 :=
  if d.k = 1 then [110, 117, 108, 108] else if d.k = 2 then (if d.n = 1 then [116, 114, 117, 101] else [102, 97, 108, 115, 101])
  else if d.k = 3 then textI d.n else if d.k = 4 then quoteL d.s else if d.k = 5 then [91, 93] else [123, 125]
/-- the leaf with a text -/
def scalarP (s : List UInt8) : Option Dat :=
  if s = [110, 117, 108, 108] then some (.mk 1 0 [] [] [])
  else if s = [116, 114, 117, 101] then some (.mk 2 1 [] [] [])
  else if s = [102, 97, 108, 115, 101] then some (.mk 2 0 [] [] [])
  else if s = [91, 93] then some (.mk 5 0 [] [] [])
  else if s = [123, 125] then some (.mk 6 0 [] [] [])
  else if (parseI s).2 = 0 then some (.mk 3 (parseI s).1 [] [] [])
  else if (unqL s).2.1 = 0 ∧ quoteL (unqL s).1 = s then some (.mk 4 0 (unqL s).1 [] [])
  else none
theorem leaf_own {k n : Int} {s : List UInt8} (h : ownE (.mk k n s [] []) = 0) : leafB (.mk k n s [] []) = true :=
  leaf_iff.2 ⟨chk_zero.2 ⟨by decide, h, by intro x hx; simp [Dat.its] at hx, by intro x hx; simp [Dat.mem] at hx⟩, rfl, rfl⟩
theorem parse_vld {s : List UInt8} (h : (parseI s).2 = 0) : vld (parseI s).1 = true ∧ textI (parseI s).1 = s := by
  by_cases hx : ∃ v, vld v = true ∧ textI v = s
  · obtain ⟨v, hv, rfl⟩ := hx
    rw [parseI_text v hv]; exact ⟨hv, rfl⟩
  · rw [parseI_no s fun v hv e => hx ⟨v, hv, e⟩] at h
    cases h
theorem scalar_some {s : List UInt8} {d : Dat} (h : scalarP s = some d) : leafT d = s ∧ leafB d = true ∧ d.s.length ≤ s.length := by
  unfold scalarP at h
  split at h
  · next e => injection h with h; subst h; exact ⟨e.symm, leaf_own (by decide), Nat.zero_le _⟩
  · split at h
    · next e => injection h with h; subst h; exact ⟨e.symm, leaf_own (by decide), Nat.zero_le _⟩
    · split at h
      · next e => injection h with h; subst h; exact ⟨e.symm, leaf_own (by decide), Nat.zero_le _⟩
      · split at h
        · next e => injection h with h; subst h; exact ⟨e.symm, leaf_own (by decide), Nat.zero_le _⟩
        · split at h
          · next e => injection h with h; subst h; exact ⟨e.symm, leaf_own (by decide), Nat.zero_le _⟩
          · split at h
            · next e =>
              obtain ⟨h1, h2⟩ := parse_vld e
              injection h with h; subst h
              refine ⟨h2, leaf_own ?_, Nat.zero_le _⟩
              unfold ownE
              have p1 : plainB (.mk 3 (parseI s).1 [] [] []) = true := plain_iff.2 ⟨⟨show (1 : Int) ≤ 3 by decide, show (3 : Int) ≤ 6 by decide⟩, .inr (.inl rfl), .inr rfl, .inr rfl, .inr rfl⟩
              have p2 : badNum (.mk 3 (parseI s).1 [] [] []) = false := by
                unfold badNum
                show ((decide ((3 : Int) = 2) && _ && _) || (decide ((3 : Int) = 3) && !vld (parseI s).1)) = false
                rw [h1]; simp
              rw [if_neg (by rw [p1]; decide), if_neg (by rw [p2]; decide)]; rfl
            · split at h
              · next e =>
                injection h with h; subst h
                refine ⟨e.2, leaf_own ?_, ?_⟩
                · unfold ownE
                  have p1 : plainB (.mk 4 0 (unqL s).1 [] []) = true := plain_iff.2 ⟨⟨show (1 : Int) ≤ 4 by decide, show (4 : Int) ≤ 6 by decide⟩, .inr (.inr rfl), .inl rfl, .inr rfl, .inr rfl⟩
                  have p2 : badNum (.mk 4 0 (unqL s).1 [] []) = false := rfl
                  rw [if_neg (by rw [p1]; decide), if_neg (by rw [p2]; decide)]; rfl
                · have := (quote_len (unqL s).1).1
                  rw [e.2] at this
                  show (unqL s).1.length ≤ s.length
                  omega
              · cases h

section
variable (pp : List UInt8 → List Stp × Nat × Nat)
/-- the first place where a scalar stands behind ' = ' -/
def scanE (s : List UInt8) : Nat → Nat → Option (Nat × Dat)
  | 0, _ => none
  | f + 1, i => if i + 3 ≤ s.length then (if sl s i (i + 3) = [32, 61, 32] then (match scalarP (s.drop (i + 3)) with | some d => some (i, d) | none => scanE s f (i + 1)) else scanE s f (i + 1)) else none
/-- the entry of a line -/
def entryP (s : List UInt8) : Option Ent :=
  match scanE s (s.length + 1) 0 with
  | none => none
  | some (i, d) => if (pp (s.take i)).2.1 = 0 then some ((pp (s.take i)).1, d) else none
def skipB (l : List UInt8) : Bool := l.isEmpty || [47, 47].isPrefixOf l
def linesP : List (List UInt8) → Nat → Except Nat (List Ent)
  | [], _ => .ok []
  | l :: r, n => if skipB l = true then linesP r (n + 1) else
    match entryP pp l with
    | none => .error n
    | some e => match linesP r (n + 1) with
      | .error k => .error k
      | .ok L => .ok (e :: L)
/-- what Parse answers -/
def parseD (s : List UInt8) : Dat × Nat × Nat :=
  if 65536 < s.length then (dat0, 2, 0)
  else match linesP pp (splitC 10 s) 1 with
    | .error n => (dat0, 19, n)
    | .ok L => ((buildD L).1, (buildD L).2, 0)
/-- the line of an entry -/
def lineT (e : Ent) : List UInt8 := textS e.1 ++ [32, 61, 32] ++ leafT e.2
def linesT (L : List Ent) : List UInt8 := L.flatMap fun e => lineT e ++ [10]
/-- what Text answers -/
def textD (d : Dat) : List UInt8 × Nat := if (flatD d).2 = 0 then (linesT (flatD d).1, 0) else ([], (flatD d).2)
/-- what is asked of the reading of paths -/
def PpOk : Prop := ∀ s, s.length ≤ 65536 → (pp s).2.1 = 0 → okL (pp s).1 = true ∧ textS (pp s).1 = s ∧ ∀ x ∈ (pp s).1, x.lab.length ≤ s.length
variable {pp}
theorem scanE_some {s : List UInt8} : ∀ {f i j : Nat} {d : Dat}, scanE s f i = some (j, d) → j + 3 ≤ s.length ∧ sl s j (j + 3) = [32, 61, 32] ∧ scalarP (s.drop (j + 3)) = some d
  | 0, _, _, _, h => by cases h
  | f + 1, i, j, d, h => by
    rw [scanE] at h
    by_cases h1 : i + 3 ≤ s.length
    · rw [if_pos h1] at h
      by_cases h2 : sl s i (i + 3) = [32, 61, 32]
      · rw [if_pos h2] at h
        cases h3 : scalarP (s.drop (i + 3)) with
        | some d' =>
          rw [h3] at h
          injection h with h; injection h with ha hb
          subst ha; subst hb
          exact ⟨h1, h2, h3⟩
        | none => rw [h3] at h; exact scanE_some h
      · rw [if_neg h2] at h; exact scanE_some h
    · rw [if_neg h1] at h; cases h
theorem entry_some (hp : PpOk pp) {s : List UInt8} {e : Ent} (hs : s.length ≤ 65536) (h : entryP pp s = some e) : lineT e = s ∧ okL e.1 = true ∧ leafB e.2 = true ∧ e.2.s.length ≤ s.length ∧ ∀ x ∈ e.1, x.lab.length ≤ s.length := by
  unfold entryP at h
  cases hx : scanE s (s.length + 1) 0 with
  | none => rw [hx] at h; cases h
  | some r =>
    obtain ⟨i, d⟩ := r
    rw [hx] at h
    simp only at h
    obtain ⟨h1, h2, h3⟩ := scanE_some hx
    by_cases h4 : (pp (s.take i)).2.1 = 0
    · rw [if_pos h4] at h
      injection h with h
      subst h
      have hti : (s.take i).length ≤ i := List.length_take_le ..
      obtain ⟨q1, q2, q3⟩ := hp (s.take i) (by omega) h4
      obtain ⟨r1, r2, r3⟩ := scalar_some h3
      rw [List.length_drop] at r3
      refine ⟨?_, q1, r2, by simp only; omega, fun x hx => by have := q3 x hx; omega⟩
      unfold lineT
      simp only
      rw [q2, r1, ← h2]
      have e1 : s.take i ++ sl s i (i + 3) = s.take (i + 3) := by
        unfold sl
        rw [show i + 3 - i = 3 by omega, ← List.take_add]
      rw [e1, List.take_append_drop]
    · rw [if_neg h4] at h; cases h
/-- a line that is read, and that is not ignored -/
def goodL (l : List UInt8) (e : Ent) : Prop := skipB l = false ∧ entryP pp l = some e
theorem linesP_some : ∀ {ls : List (List UInt8)} {n : Nat} {L : List Ent}, linesP pp ls n = .ok L → ∃ gs : List (List UInt8), gs.length = L.length ∧ gs.Sublist ls ∧ ∀ p ∈ gs.zip L, goodL (pp := pp) p.1 p.2
  | [], n, L, h => by
    rw [linesP] at h; injection h with h; subst h
    exact ⟨[], rfl, List.Sublist.refl _, fun p hp => by simp at hp⟩
  | l :: r, n, L, h => by
    rw [linesP] at h
    by_cases hs : skipB l = true
    · rw [if_pos hs] at h
      obtain ⟨gs, h1, h2, h3⟩ := linesP_some h
      exact ⟨gs, h1, h2.cons _, h3⟩
    · rw [if_neg hs] at h
      cases he : entryP pp l with
      | none => rw [he] at h; cases h
      | some e =>
        rw [he] at h
        simp only at h
        cases hr : linesP pp r (n + 1) with
        | error k => rw [hr] at h; cases h
        | ok M =>
          rw [hr] at h
          injection h with h
          subst h
          obtain ⟨gs, h1, h2, h3⟩ := linesP_some hr
          refine ⟨l :: gs, by simp [h1], h2.cons_cons _, fun p hp => ?_⟩
          rw [List.zip_cons_cons] at hp
          rcases List.mem_cons.1 hp with rfl | hp
          · exact ⟨by simpa using hs, he⟩
          · exact h3 p hp
theorem linesP_go : ∀ (L : List Ent) (n : Nat) (tail : List (List UInt8)), (∀ e ∈ L, goodL (pp := pp) (lineT e) e) → (∀ l ∈ tail, skipB l = true) → linesP pp (L.map lineT ++ tail) n = .ok L
  | [], n, tail, _, ht => by
    rw [List.map_nil, List.nil_append]
    induction tail generalizing n with
    | nil => rfl
    | cons a t ih =>
      rw [linesP, if_pos (ht a (List.mem_cons_self ..))]
      exact ih (n + 1) fun l hl => ht l (List.mem_cons_of_mem _ hl)
  | e :: L, n, tail, h, ht => by
    obtain ⟨h1, h2⟩ := h e (List.mem_cons_self ..)
    rw [List.map_cons, List.cons_append, linesP, if_neg (by rw [h1]; decide), h2]
    simp only
    rw [linesP_go L (n + 1) tail (fun x hx => h x (List.mem_cons_of_mem _ hx)) ht]
theorem linesP_shift : ∀ (ls : List (List UInt8)) (n m : Nat) (L : List Ent), linesP pp ls n = .ok L → linesP pp ls m = .ok L
  | [], n, m, L, h => h
  | l :: r, n, m, L, h => by
    rw [linesP] at h ⊢
    by_cases hs : skipB l = true
    · rw [if_pos hs] at h ⊢
      exact linesP_shift r _ _ L h
    · rw [if_neg hs] at h ⊢
      cases he : entryP pp l with
      | none => rw [he] at h; cases h
      | some e =>
        rw [he] at h
        simp only at h ⊢
        cases hr : linesP pp r (n + 1) with
        | error k => rw [hr] at h; cases h
        | ok M => rw [hr] at h; rw [linesP_shift r (n + 1) (m + 1) M hr]; exact h
theorem linesP_more : ∀ (ls : List (List UInt8)) (n : Nat) (L : List Ent) (tail : List (List UInt8)), linesP pp ls n = .ok L → (∀ l ∈ tail, skipB l = true) → linesP pp (ls ++ tail) n = .ok L
  | [], n, L, tail, h, ht => by
    rw [linesP] at h; injection h with h; subst h
    exact linesP_go [] n tail (by simp) ht
  | l :: r, n, L, tail, h, ht => by
    rw [List.cons_append, linesP]
    rw [linesP] at h
    by_cases hs : skipB l = true
    · rw [if_pos hs] at h ⊢
      exact linesP_more r _ L tail h ht
    · rw [if_neg hs] at h ⊢
      cases he : entryP pp l with
      | none => rw [he] at h; cases h
      | some e =>
        rw [he] at h
        simp only at h ⊢
        cases hr : linesP pp r (n + 1) with
        | error k => rw [hr] at h; cases h
        | ok M => rw [hr] at h; rw [linesP_more r (n + 1) M tail hr ht]; exact h
theorem splitC_cat (c : UInt8) : ∀ (a b : List UInt8), splitC c (a ++ c :: b) = splitC c a ++ splitC c b
  | [], b => by
    have h : splitC c (c :: b) = [] :: splitC c b := by simp [splitC]
    rw [List.nil_append, h]; rfl
  | x :: a, b => by
    rw [List.cons_append, splitC, splitC_cat c a b, splitC]
    by_cases h : x = c
    · rw [if_pos h, if_pos h]; rfl
    · rw [if_neg h, if_neg h]
      cases hs : splitC c a with
      | nil => exact absurd hs (splitC_ne c a)
      | cons p ps => rfl
theorem splitC_no (c : UInt8) : ∀ (a : List UInt8), ∀ l ∈ splitC c a, ∀ x ∈ l, x ≠ c
  | [], l, hl => by rw [splitC] at hl; simp at hl; subst hl; simp
  | b :: a, l, hl => by
    rw [splitC] at hl
    by_cases h : b = c
    · rw [if_pos h] at hl
      rcases List.mem_cons.1 hl with rfl | hl
      · simp
      · exact splitC_no c a l hl
    · rw [if_neg h] at hl
      cases hs : splitC c a with
      | nil => exact absurd hs (splitC_ne c a)
      | cons p ps =>
        rw [hs] at hl
        simp only at hl
        rcases List.mem_cons.1 hl with rfl | hl
        · intro x hx
          rcases List.mem_cons.1 hx with rfl | hx
          · exact h
          · exact splitC_no c a p (by rw [hs]; exact List.mem_cons_self ..) x hx
        · exact splitC_no c a l (by rw [hs]; exact List.mem_cons_of_mem _ hl)
theorem splitC_sum (c : UInt8) : ∀ (a : List UInt8), ((splitC c a).map fun l => l.length + 1).sum = a.length + 1
  | [] => rfl
  | b :: a => by
    have ih := splitC_sum c a
    rw [splitC]
    by_cases h : b = c
    · rw [if_pos h, List.map_cons, List.sum_cons, ih]; simp; omega
    · rw [if_neg h]
      cases hs : splitC c a with
      | nil => exact absurd hs (splitC_ne c a)
      | cons p ps =>
        rw [hs, List.map_cons, List.sum_cons] at ih
        simp only [List.map_cons, List.sum_cons, List.length_cons]
        omega
theorem splitC_lines : ∀ (L : List Ent), (∀ e ∈ L, ∀ x ∈ lineT e, x ≠ 10) → splitC 10 (linesT L) = L.map lineT ++ [[]]
  | [], _ => rfl
  | e :: L, h => by
    have : linesT (e :: L) = lineT e ++ 10 :: linesT L := by unfold linesT; rw [List.flatMap_cons]; simp
    rw [this, splitC_app 10 _ _ (h e (List.mem_cons_self ..)), splitC_lines L fun x hx => h x (List.mem_cons_of_mem _ hx)]
    rfl
theorem linesT_sum (L : List Ent) : (linesT L).length = (L.map fun e => (lineT e).length + 1).sum := by
  unfold linesT
  induction L with
  | nil => rfl
  | cons e r ih => rw [List.flatMap_cons, List.length_append, ih]; simp
theorem sum_perm {α : Type} {f : α → Nat} {a b : List α} (h : a.Perm b) : (a.map f).sum = (b.map f).sum := by
  induction h with
  | nil => rfl
  | cons x _ ih => simp [ih]
  | swap x y l => simp; omega
  | trans _ _ ih1 ih2 => exact ih1.trans ih2
theorem sum_sub {f : List UInt8 → Nat} {a b : List (List UInt8)} (h : a.Sublist b) : (a.map f).sum ≤ (b.map f).sum := by
  induction h with
  | slnil => exact Nat.le_refl _
  | cons x _ ih => simp; omega
  | cons_cons x _ ih => simp; omega
theorem zip_lines (hp : PpOk pp) : ∀ (gs : List (List UInt8)) (L : List Ent), gs.length = L.length → (∀ p ∈ gs.zip L, goodL (pp := pp) p.1 p.2) → (∀ l ∈ gs, l.length ≤ 65536) → L.map lineT = gs
  | [], [], _, _, _ => rfl
  | [], _ :: _, h, _, _ => by simp at h
  | _ :: _, [], h, _, _ => by simp at h
  | g :: gs, e :: L, h, hg, hl => by
    have h1 := hg (g, e) (by rw [List.zip_cons_cons]; exact List.mem_cons_self ..)
    have := (entry_some hp (hl g (List.mem_cons_self ..)) h1.2).1
    rw [List.map_cons, zip_lines hp gs L (by simpa using h) (fun p hq => hg p (by rw [List.zip_cons_cons]; exact List.mem_cons_of_mem _ hq)) fun l hq => hl l (List.mem_cons_of_mem _ hq), this]
/-- THE LAW OF THE LINES -/
theorem lines_law (hp : PpOk pp) {s : List UInt8} {a : Dat} (hs : s.length ≤ 600) (h : parseD pp s = (a, 0, 0)) :
    parseD pp ([47, 47, 32, 102, 105, 114, 115, 116, 32, 61, 32, 49, 10, 10] ++ s ++ [10, 47, 47, 10]) = (a, 0, 0) ∧ textD a = (linesT (entsD a), 0) ∧ parseD pp (linesT (entsD a)) = (a, 0, 0) ∧ (linesT (entsD a)).length ≤ 601 ∧ limD a = true := by
  unfold parseD at h
  rw [if_neg (by omega)] at h
  cases hl : linesP pp (splitC 10 s) 1 with
  | error n => rw [hl] at h; injection h with _ h; injection h with h; cases h
  | ok L =>
    rw [hl] at h
    simp only at h
    have hb : buildD L = (a, 0) := by
      injection h with h1 h2; injection h2 with h2 _
      exact Prod.ext h1 h2
    obtain ⟨gs, g1, g2, g3⟩ := linesP_some hl
    have hgl : ∀ l ∈ gs, l.length ≤ 600 := fun l hq => Nat.le_trans (splitC_mem_len 10 s l (g2.mem hq)) hs
    have hgm := zip_lines hp gs L g1 g3 fun l hq => Nat.le_trans (hgl l hq) (by decide)
    have hLe : ∀ e ∈ L, ∃ l ∈ gs, goodL (pp := pp) l e := by
      intro e he
      obtain ⟨i, hi, rfl⟩ := List.getElem_of_mem he
      have hi2 : i < gs.length := by omega
      refine ⟨gs[i], List.getElem_mem hi2, ?_⟩
      have hz : i < (gs.zip L).length := by rw [List.length_zip]; omega
      have := g3 (gs.zip L)[i] (List.getElem_mem hz)
      rw [List.getElem_zip] at this
      exact this
    have hgood : ∀ e ∈ L, goodL (pp := pp) (lineT e) e ∧ (∀ x ∈ lineT e, x ≠ 10) ∧ limD e.2 = true ∧ ∀ x ∈ e.1, x.lab.length ≤ 1000000 := by
      intro e he
      obtain ⟨l, hm, hg⟩ := hLe e he
      have hlen := hgl l hm
      obtain ⟨e1, e2, e3, e4, e5⟩ := entry_some hp (by omega) hg.2
      rw [e1]
      refine ⟨hg, splitC_no 10 s l (g2.mem hm), ?_, fun x hx => by have := e5 x hx; omega⟩
      obtain ⟨-, l2, l3⟩ := leaf_iff.1 e3
      exact lim_iff.2 ⟨by omega, by rw [l2]; exact Nat.zero_le _, by rw [l3]; exact Nat.zero_le _, by rw [l2]; simp, by rw [l3]; simp⟩
    have hsum := splitC_sum 10 s
    have hLl : L.length ≤ 601 := by
      have h1 := g2.length_le
      have h2 : ∀ xs : List (List UInt8), xs.length ≤ (xs.map fun l => l.length + 1).sum := by
        intro xs
        induction xs with
        | nil => exact Nat.le_refl _
        | cons x t ih => simp; omega
      have := h2 (splitC 10 s)
      omega
    obtain ⟨f1, f2, f3, f4, f5⟩ := flat_build hb (fun e he => (hgood e he).2.2) (by omega)
    have hml : (L.map fun e => (lineT e).length + 1) = (gs.map fun l => l.length + 1) := by
      rw [← hgm, List.map_map]; rfl
    have hlen : (linesT (entsD a)).length ≤ 601 := by
      rw [linesT_sum, sum_perm f1, hml]
      have := sum_sub (f := fun l => l.length + 1) g2
      omega
    refine ⟨?_, ?_, ?_, hlen, f4⟩
    · unfold parseD
      rw [if_neg (by simp; omega)]
      have e1 : [47, 47, 32, 102, 105, 114, 115, 116, 32, 61, 32, 49, 10, 10] ++ s ++ [10, 47, 47, 10] = [47, 47, 32, 102, 105, 114, 115, 116, 32, 61, 32, 49] ++ 10 :: ([] ++ 10 :: (s ++ 10 :: ([47, 47] ++ 10 :: []))) := by simp
      rw [e1, splitC_cat, splitC_cat, splitC_cat, splitC_cat]
      have h2 := linesP_more (splitC 10 s) 3 L [[47, 47], []] (linesP_shift _ 1 3 L hl) (by decide)
      have h3 : linesP pp (splitC 10 [47, 47, 32, 102, 105, 114, 115, 116, 32, 61, 32, 49] ++ (splitC 10 [] ++ (splitC 10 s ++ (splitC 10 [47, 47] ++ splitC 10 [])))) 1 = .ok L := by
        show linesP pp ([47, 47, 32, 102, 105, 114, 115, 116, 32, 61, 32, 49] :: [] :: (splitC 10 s ++ [[47, 47], []])) 1 = .ok L
        rw [linesP, if_pos (by decide), linesP, if_pos (by decide)]
        exact h2
      rw [h3]
      simp only [hb]
    · have hfl : flatD a = (entsD a, 0) := by unfold flatD; rw [if_neg (by rw [f2]; decide), if_neg (by rw [f3]; decide)]
      unfold textD
      rw [hfl]; rfl
    · unfold parseD
      rw [if_neg (by omega)]
      have hne : ∀ e ∈ entsD a, goodL (pp := pp) (lineT e) e ∧ ∀ x ∈ lineT e, x ≠ 10 := fun e he => ⟨(hgood e (f1.mem_iff.1 he)).1, (hgood e (f1.mem_iff.1 he)).2.1⟩
      rw [splitC_lines _ fun e he => (hne e he).2]
      rw [linesP_go (entsD a) 1 [[]] (fun e he => (hne e he).1) (by decide)]
      simp only [build_flat f2 f3 f4 (List.Perm.refl _)]
end
end
section
open Go.RowKit

def btw : List UInt8 := [32, 61, 32]
theorem occ_sl (s : List UInt8) (a j : Nat) : Lib.occAt (s.drop a) btw j = true ↔ sl s (a + j) (a + j + 3) = btw := by
  unfold Lib.occAt sl
  rw [List.drop_drop, show a + j + 3 - (a + j) = 3 by omega, List.isPrefixOf_iff_prefix, List.prefix_iff_eq_take]
  exact ⟨fun h => h.symm, fun h => h.symm⟩
theorem scanE_no (s : List UInt8) : ∀ (f a : Nat), (∀ j, Lib.occAt (s.drop a) btw j = false) → scanE s f a = none
  | 0, _, _ => rfl
  | f + 1, a, h => by
    rw [scanE]
    by_cases h1 : a + 3 ≤ s.length
    · rw [if_pos h1, if_neg, scanE_no s f (a + 1)]
      · intro j
        cases h2 : Lib.occAt (s.drop (a + 1)) btw j with
        | false => rfl
        | true =>
          have h3 := (occ_sl s (a + 1) j).1 h2
          have h4 := h (1 + j)
          rw [show a + 1 + j = a + (1 + j) by omega] at h3
          rw [(occ_sl s a (1 + j)).2 h3] at h4
          cases h4
      · intro h2
        have h4 := h 0
        rw [(occ_sl s a 0).2 h2] at h4
        cases h4
    · rw [if_neg h1]
theorem scanE_skip (s : List UInt8) : ∀ (n f a : Nat), (∀ j, j < n → Lib.occAt (s.drop a) btw j = false) → a + n + 3 ≤ s.length → scanE s (f + n) a = scanE s f (a + n)
  | 0, _, _, _, _ => rfl
  | n + 1, f, a, h, hl => by
    rw [show f + (n + 1) = f + n + 1 by omega, scanE, if_pos (by omega), if_neg, scanE_skip s n f (a + 1) ?_ (by omega), show a + 1 + n = a + (n + 1) by omega]
    · intro j hj
      cases h2 : Lib.occAt (s.drop (a + 1)) btw j with
      | false => rfl
      | true =>
        have h3 := (occ_sl s (a + 1) j).1 h2
        have h4 := h (1 + j) (by omega)
        rw [show a + 1 + j = a + (1 + j) by omega] at h3
        rw [(occ_sl s a (1 + j)).2 h3] at h4
        cases h4
    · intro h2
      have h4 := h 0 (by omega)
      rw [(occ_sl s a 0).2 h2] at h4
      cases h4
/-- one look for ' = ' from a on -/
theorem scan_look (s : List UInt8) (a : Nat) (ha : a ≤ s.length) :
    (Lib.index (s.drop a) btw = -1 ∧ scanE s (s.length + 1 - a) a = none) ∨
    ∃ n : Nat, Lib.index (s.drop a) btw = (n : Int) ∧ a + n + 3 ≤ s.length ∧ scanE s (s.length + 1 - a) a = (match scalarP (s.drop (a + n + 3)) with | some d => some (a + n, d) | none => scanE s (s.length + 1 - (a + n + 1)) (a + n + 1)) := by
  rcases Lib.index_spec (s.drop a) btw with ⟨h1, h2⟩ | ⟨n, h1, h2, h3, h4⟩
  · refine .inl ⟨h1, scanE_no s _ a fun j => ?_⟩
    rcases Nat.lt_or_ge (s.drop a).length j with hj | hj
    · cases h5 : Lib.occAt (s.drop a) btw j with
      | false => rfl
      | true =>
        unfold Lib.occAt at h5
        rw [List.drop_of_length_le (Nat.le_of_lt hj)] at h5
        cases h5
    · exact h2 j hj
  · have h5 := (occ_sl s a n).1 h3
    have h6 : a + n + 3 ≤ s.length := by
      have := congrArg List.length h5
      unfold sl at this
      rw [List.length_take, List.length_drop] at this
      change _ = 3 at this
      omega
    refine .inr ⟨n, h1, h6, ?_⟩
    have e1 : s.length + 1 - a = (s.length - a - n + 1 - 1) + 1 + n := by omega
    rw [e1, scanE_skip s n _ a (fun j hj => h4 j hj) h6, scanE, if_pos h6, if_pos (show sl s (a + n) (a + n + 3) = [32, 61, 32] from h5)]
    rw [show s.length - a - n + 1 - 1 = s.length + 1 - (a + n + 1) by omega]
    try (cases scalarP (s.drop (a + n + 3)) <;> rfl)
end
section
open Go.RowKit

/-- block B holds these cells -/
def Blk (W : World) (B : Nat) (cs : Array Value) (t : TypeId) : Prop := W.heap[B]? = some (.cells cs t (0, 0))
theorem Blk.lt {W : World} {B : Nat} {cs : Array Value} {t : TypeId} (h : Blk W B cs t) : B < W.heap.size := (Array.getElem?_eq_some_iff.1 h).1
theorem Blk.cell {W : World} {B : Nat} {cs : Array Value} {t : TypeId} (h : Blk W B cs t) (i : Nat) : W.cell? ⟨B, i, none⟩ = cs[i]? := by simp [World.cell?, show W.heap[B]? = _ from h]
theorem Blk.frozen {W : World} {B : Nat} {cs : Array Value} {t : TypeId} (h : Blk W B cs t) (i : Nat) : W.frozen? ⟨B, i, none⟩ = false := by simp [World.frozen?, show W.heap[B]? = _ from h]
theorem Blk.new (W : World) (cs : Array Value) (t : TypeId) : Blk (W.alloc (.cells cs t)) W.heap.size cs t := heap_alloc_new W _
theorem Blk.below {W W' : World} {B : Nat} {cs : Array Value} {t : TypeId} (h : Blk W B cs t) (hb : Below W.heap.size W W') : Blk W' B cs t := (hb.block B h.lt).trans h
theorem Blk.underB {W W' : World} {B N : Nat} {cs : Array Value} {t : TypeId} (h : Blk W B cs t) (hb : Below N W W') (hN : B < N) : Blk W' B cs t := (hb.block B hN).trans h
theorem Blk.kept {W W' : World} {row : Option Nat} {B : Nat} {cs : Array Value} {t : TypeId} (h : Blk W B cs t) (hg : W.grownBy W' row) (hne : some B ≠ row) : Blk W' B cs t := (hg.block B h.lt hne).trans h
/-- a call behind a new block: the block stands, and what lay below -/
theorem below_new {w w1 : World} {cs : Array Value} {t : TypeId} (hb : Below (w.alloc (.cells cs t)).heap.size (w.alloc (.cells cs t)) w1) : Blk w1 w.heap.size cs t ∧ Below w.heap.size w w1 :=
  ⟨(Blk.new w cs t).below hb, ((Below.refl _ _).alloc (Nat.le_refl _) _).trans (hb.mono (by simp))⟩
theorem bcell {W w1 : World} (hb : Below W.heap.size W w1) : (∀ b o, b < W.heap.size → w1.cell? ⟨b, o, none⟩ = W.cell? ⟨b, o, none⟩) ∧ (∀ b o, b < W.heap.size → w1.frozen? ⟨b, o, none⟩ = W.frozen? ⟨b, o, none⟩) :=
  ⟨fun b o h => hb.cell (p := ⟨b, o, none⟩) h, fun b o h => hb.frozen (p := ⟨b, o, none⟩) h⟩
theorem Blk.set {W : World} {B : Nat} {cs : Array Value} {t : TypeId} (h : Blk W B cs t) (i : Nat) (v : Value) : Blk (W.setCell ⟨B, i, none⟩ v) B (cs.setIfInBounds i v) t := by
  have hl := h.lt
  unfold Blk at h ⊢
  simp only [World.setCell, Array.getElem?_modify, if_true, h, Option.map_some]
  rfl
theorem Blk.set_other {W : World} {B B' : Nat} {cs : Array Value} {t : TypeId} (h : Blk W B cs t) (i : Nat) (v : Value) (hne : B' ≠ B) : Blk (W.setCell ⟨B', i, none⟩ v) B cs t := by
  unfold Blk at h ⊢
  simp only [World.setCell, Array.getElem?_modify, if_neg hne, h]
theorem Blk.alloc {W : World} {B : Nat} {cs : Array Value} {t : TypeId} (h : Blk W B cs t) (o : Obj) : Blk (W.alloc o) B cs t := by
  have hl := h.lt
  unfold Blk at h ⊢
  simp only [World.alloc]
  rw [Array.getElem?_push_lt hl]; rw [Array.getElem?_eq_getElem hl] at h; exact h
theorem Blk.drew {W : World} {B : Nat} {cs : Array Value} {t : TypeId} (h : Blk W B cs t) : Blk W.drew B cs t := h
theorem below_drew {B : Nat} {a w : World} (h : Below B a w) : Below B a w.drew := below_drewN h 1
end
section
open Go.RowKit

/-- the five cells of data -/
structure DCell (W : World) (B o : Nat) (d : Dat) (vi vm : Value) : Prop where
  c0 : W.cell? ⟨B, o, none⟩ = some (.int .i64 d.k)
  c1 : W.cell? ⟨B, o + 1, none⟩ = some (.int .i64 d.n)
  c2 : W.cell? ⟨B, o + 2, none⟩ = some (.string (S d.s))
  c3 : W.cell? ⟨B, o + 3, none⟩ = some vi
  c4 : W.cell? ⟨B, o + 4, none⟩ = some vm
theorem DCell.below {W W' : World} {B o : Nat} {d : Dat} {vi vm : Value} (h : DCell W B o d vi vm) (hb : Below W.heap.size W W') (hB : B < W.heap.size) : DCell W' B o d vi vm :=
  ⟨(hb.cell (p := ⟨B, o, none⟩) hB).trans h.c0, (hb.cell (p := ⟨B, o + 1, none⟩) hB).trans h.c1, (hb.cell (p := ⟨B, o + 2, none⟩) hB).trans h.c2, (hb.cell (p := ⟨B, o + 3, none⟩) hB).trans h.c3, (hb.cell (p := ⟨B, o + 4, none⟩) hB).trans h.c4⟩
/-- the two slices of data hold its items and members, in blocks of which ok is said -/
inductive Rep (W : World) (ok : Nat → Prop) : Dat → Value → Value → Prop
  | mk {d : Dat} (p q : Option Addr) (cap caq B o B' o' : Nat) (vi vm ui um : Nat → Value)
    (hl : d.its.length ≤ maxLen ∧ d.mem.length ≤ maxLen)
    (hp : 0 < d.its.length → p = some ⟨B, o, none⟩ ∧ d.its.length ≤ cap ∧ B < W.heap.size ∧ ok B)
    (hc : ∀ (j : Nat) (h : j < d.its.length), DCell W B (o + j * 5) d.its[j] (vi j) (vm j))
    (hr : ∀ (j : Nat) (h : j < d.its.length), Rep W ok d.its[j] (vi j) (vm j))
    (hq : 0 < d.mem.length → q = some ⟨B', o', none⟩ ∧ d.mem.length ≤ caq ∧ B' < W.heap.size ∧ ok B')
    (hd : ∀ (j : Nat) (h : j < d.mem.length), W.cell? ⟨B', o' + j * 6, none⟩ = some (.string (S d.mem[j].1)) ∧ DCell W B' (o' + j * 6 + 1) d.mem[j].2 (ui j) (um j))
    (hs : ∀ (j : Nat) (h : j < d.mem.length), Rep W ok d.mem[j].2 (ui j) (um j)) :
    Rep W ok d (.slice p d.its.length cap) (.slice q d.mem.length caq)
theorem Rep.under {W W' : World} {ok : Nat → Prop} (hb : Below W.heap.size W W') {d : Dat} {vi vm : Value} (h : Rep W ok d vi vm) : Rep W' ok d vi vm := by
  induction h with
  | mk p q cap caq B o B' o' vi vm ui um hl hp hc hr hq hd hs ihr ihs =>
    refine .mk p q cap caq B o B' o' vi vm ui um hl (fun h => ?_) (fun j h => ?_) ihr (fun h => ?_) (fun j h => ?_) ihs
    · obtain ⟨h1, h2, h3, h4⟩ := hp h; exact ⟨h1, h2, Nat.lt_of_lt_of_le h3 hb.size, h4⟩
    · exact (hc j h).below hb (hp (by omega)).2.2.1
    · obtain ⟨h1, h2, h3, h4⟩ := hq h; exact ⟨h1, h2, Nat.lt_of_lt_of_le h3 hb.size, h4⟩
    · obtain ⟨-, -, h3, -⟩ := hq (by omega)
      exact ⟨(hb.cell (p := ⟨B', o' + j * 6, none⟩) h3).trans (hd j h).1, (hd j h).2.below hb h3⟩
theorem Rep.mono {W : World} {ok ok' : Nat → Prop} (hk : ∀ B, B < W.heap.size → ok B → ok' B) {d : Dat} {vi vm : Value} (h : Rep W ok d vi vm) : Rep W ok' d vi vm := by
  induction h with
  | mk p q cap caq B o B' o' vi vm ui um hl hp hc hr hq hd hs ihr ihs =>
    refine .mk p q cap caq B o B' o' vi vm ui um hl (fun h => ?_) hc ihr (fun h => ?_) hd ihs
    · obtain ⟨h1, h2, h3, h4⟩ := hp h; exact ⟨h1, h2, h3, hk B h3 h4⟩
    · obtain ⟨h1, h2, h3, h4⟩ := hq h; exact ⟨h1, h2, h3, hk B' h3 h4⟩
theorem grown_cell {W W' : World} {row : Option Nat} (hg : W.grownBy W' row) {B : Nat} (hB : B < W.heap.size) (hne : some B ≠ row) (o : Nat) : W'.cell? ⟨B, o, none⟩ = W.cell? ⟨B, o, none⟩ := World.cell?_of_block (hg.block B hB hne)
/-- a row that grows, and new blocks: data that lies elsewhere stands -/
theorem Rep.grown {W W' : World} {row : Option Nat} {ok : Nat → Prop} (hg : W.grownBy W' row) (hk : ∀ B, ok B → some B ≠ row) {d : Dat} {vi vm : Value} (h : Rep W ok d vi vm) : Rep W' ok d vi vm := by
  induction h with
  | mk p q cap caq B o B' o' vi vm ui um hl hp hc hr hq hd hs ihr ihs =>
    refine .mk p q cap caq B o B' o' vi vm ui um hl (fun h => ?_) (fun j h => ?_) ihr (fun h => ?_) (fun j h => ?_) ihs
    · obtain ⟨h1, h2, h3, h4⟩ := hp h; exact ⟨h1, h2, Nat.lt_of_lt_of_le h3 hg.size, h4⟩
    · obtain ⟨-, -, h3, h4⟩ := hp (by omega)
      have k := grown_cell hg h3 (hk B h4)
      have c := hc j h
      exact ⟨(k _).trans c.c0, (k _).trans c.c1, (k _).trans c.c2, (k _).trans c.c3, (k _).trans c.c4⟩
    · obtain ⟨h1, h2, h3, h4⟩ := hq h; exact ⟨h1, h2, Nat.lt_of_lt_of_le h3 hg.size, h4⟩
    · obtain ⟨-, -, h3, h4⟩ := hq (by omega)
      have k := grown_cell hg h3 (hk B' h4)
      have c := (hd j h).2
      exact ⟨(k _).trans (hd j h).1, (k _).trans c.c0, (k _).trans c.c1, (k _).trans c.c2, (k _).trans c.c3, (k _).trans c.c4⟩
/-- data as a value -/
def dv (d : Dat) (vi vm : Value) : Value := .agg #[.int .i64 d.k, .int .i64 d.n, .string (S d.s), vi, vm]
theorem Rep.items {W : World} {ok : Nat → Prop} {d : Dat} {vi vm : Value} (h : Rep W ok d vi vm) : ∃ p cap, vi = .slice p d.its.length cap ∧ d.its.length ≤ maxLen ∧
    ∀ (j : Nat) (h : j < d.its.length), ∃ B o xi xm, p = some ⟨B, o, none⟩ ∧ d.its.length ≤ cap ∧ B < W.heap.size ∧ DCell W B (o + j * 5) d.its[j] xi xm ∧ Rep W ok d.its[j] xi xm := by
  cases h with
  | mk p q cap caq B o B' o' vi vm ui um hl hp hc hr hq hd hs =>
    refine ⟨p, cap, rfl, hl.1, fun j h => ?_⟩
    obtain ⟨h1, h2, h3, -⟩ := hp (by omega)
    exact ⟨B, o, _, _, h1, h2, h3, hc j h, hr j h⟩
theorem Rep.members {W : World} {ok : Nat → Prop} {d : Dat} {vi vm : Value} (h : Rep W ok d vi vm) : ∃ q caq, vm = .slice q d.mem.length caq ∧ d.mem.length ≤ maxLen ∧
    ∀ (j : Nat) (h : j < d.mem.length), ∃ B o xi xm, q = some ⟨B, o, none⟩ ∧ d.mem.length ≤ caq ∧ B < W.heap.size ∧ W.cell? ⟨B, o + j * 6, none⟩ = some (.string (S d.mem[j].1)) ∧ DCell W B (o + j * 6 + 1) d.mem[j].2 xi xm ∧ Rep W ok d.mem[j].2 xi xm := by
  cases h with
  | mk p q cap caq B o B' o' vi vm ui um hl hp hc hr hq hd hs =>
    refine ⟨q, caq, rfl, hl.2, fun j h => ?_⟩
    obtain ⟨h1, h2, h3, -⟩ := hq (by omega)
    exact ⟨B', o', _, _, h1, h2, h3, (hd j h).1, (hd j h).2, hs j h⟩
/-- data without parts -/
theorem rep_leaf (W : World) (ok : Nat → Prop) {d : Dat} (hi : d.its = []) (hm : d.mem = []) (p q : Option Addr) (cap caq : Nat) : Rep W ok d (.slice p 0 cap) (.slice q 0 caq) := by
  have h := Rep.mk (W := W) (ok := ok) (d := d) p q cap caq 0 0 0 0 (fun _ => .nilFunc) (fun _ => .nilFunc) (fun _ => .nilFunc) (fun _ => .nilFunc) (by rw [hi, hm]; exact ⟨Nat.zero_le _, Nat.zero_le _⟩) (by rw [hi]; intro h; simp at h) (by rw [hi]; intro j h; simp at h) (by rw [hi]; intro j h; simp at h) (by rw [hm]; intro h; simp at h) (by rw [hm]; intro j h; simp at h) (by rw [hm]; intro j h; simp at h)
  rw [hi, hm] at h
  exact h
/-! data that the call makes: a row of items, a row of members -/
def cells5 (t : Dat × Value × Value) : List Value := [.int .i64 t.1.k, .int .i64 t.1.n, .string (S t.1.s), t.2.1, t.2.2]
def flat5 (T : List (Dat × Value × Value)) : List Value := T.flatMap cells5
def cells6 (t : List UInt8 × Dat × Value × Value) : List Value := .string (S t.1) :: cells5 t.2
def flat6 (T : List (List UInt8 × Dat × Value × Value)) : List Value := T.flatMap cells6
theorem flat5_snoc (T : List (Dat × Value × Value)) (t : Dat × Value × Value) : flat5 (T ++ [t]) = flat5 T ++ cells5 t := by unfold flat5; simp
theorem flat6_snoc (T : List (List UInt8 × Dat × Value × Value)) (t : List UInt8 × Dat × Value × Value) : flat6 (T ++ [t]) = flat6 T ++ cells6 t := by unfold flat6; simp
theorem flat5_get : ∀ (T : List (Dat × Value × Value)) (j : Nat) (h : j < T.length) (i : Nat), i < 5 → (flat5 T)[j * 5 + i]? = (cells5 T[j])[i]?
  | t :: r, 0, _, i, hi => by
    unfold flat5
    rw [List.flatMap_cons, Nat.zero_mul, Nat.zero_add, List.getElem?_append_left (by simp [cells5]; omega)]; rfl
  | t :: r, j + 1, h, i, hi => by
    have := flat5_get r j (by simpa using h) i hi
    unfold flat5 at *
    rw [List.flatMap_cons, List.getElem?_append_right (by simp [cells5]; omega), show (j + 1) * 5 + i - (cells5 t).length = j * 5 + i by simp [cells5]; omega, this]; rfl
theorem flat6_get : ∀ (T : List (List UInt8 × Dat × Value × Value)) (j : Nat) (h : j < T.length) (i : Nat), i < 6 → (flat6 T)[j * 6 + i]? = (cells6 T[j])[i]?
  | t :: r, 0, _, i, hi => by
    unfold flat6
    rw [List.flatMap_cons, Nat.zero_mul, Nat.zero_add, List.getElem?_append_left (by simp [cells6, cells5]; omega)]; rfl
  | t :: r, j + 1, h, i, hi => by
    have := flat6_get r j (by simpa using h) i hi
    unfold flat6 at *
    rw [List.flatMap_cons, List.getElem?_append_right (by simp [cells6, cells5]; omega), show (j + 1) * 6 + i - (cells6 t).length = j * 6 + i by simp [cells6, cells5]; omega, this]; rfl
/-- an owned row: nil and empty, or at the head of a block -/
theorem own_head {W : World} {base : Nat} {e : TypeId} {s : Nat} {v : Value} {k : Nat} {xs : List Value} (h : W.ownsRow base e s v k xs) : (v = .slice none 0 0 ∧ k = 0) ∨ ∃ g cap, v = .slice (some ⟨g, 0, none⟩) k cap ∧ base ≤ g ∧ k ≤ cap ∧ g < W.heap.size ∧ v.ownBlock = some g := by
  rcases h.2 with h2 | ⟨g, cap, cur, rfl, hb, hg, hc, -⟩
  · exact .inl h2
  · exact .inr ⟨g, cap, rfl, hb, hc, (Array.getElem?_eq_some_iff.1 hg).1, by simp [Value.ownBlock]⟩
/-- the rows that the call made are data -/
theorem rep_own {W : World} {base : Nat} {e f : TypeId} {ok : Nat → Prop} {k n : Int} {s : List UInt8} {vi vm : Value} {T : List (Dat × Value × Value)} {U : List (List UInt8 × Dat × Value × Value)}
    (hi : W.ownsRow base e 5 vi T.length (flat5 T)) (hm : W.ownsRow base f 6 vm U.length (flat6 U)) (hl : T.length ≤ maxLen ∧ U.length ≤ maxLen) (hok : ∀ B, base ≤ B → ok B)
    (ht : ∀ t ∈ T, Rep W ok t.1 t.2.1 t.2.2) (hu : ∀ t ∈ U, Rep W ok t.2.1 t.2.2.1 t.2.2.2) :
    Rep W ok (.mk k n s (T.map fun t => t.1) (U.map fun t => (t.1, t.2.1))) vi vm := by
  have ci : ∃ p cap B, vi = .slice p T.length cap ∧ (0 < T.length → p = some ⟨B, 0, none⟩ ∧ T.length ≤ cap ∧ B < W.heap.size ∧ ok B) ∧ ∀ (j : Nat) (h : j < T.length), DCell W B (0 + j * 5) T[j].1 T[j].2.1 T[j].2.2 := by
    rcases own_head hi with ⟨rfl, h0⟩ | ⟨g, cap, rfl, hb, hc, hg, -⟩
    · exact ⟨none, 0, 0, by rw [h0], by omega, fun j h => by omega⟩
    · refine ⟨_, cap, g, rfl, fun _ => ⟨rfl, hc, hg, hok g hb⟩, fun j h => ?_⟩
      have c0 := hi.cells (g := g) rfl (j * 5 + 0) _ (flat5_get T j h 0 (by omega))
      have c1 := hi.cells (g := g) rfl (j * 5 + 1) _ (flat5_get T j h 1 (by omega))
      have c2 := hi.cells (g := g) rfl (j * 5 + 2) _ (flat5_get T j h 2 (by omega))
      have c3 := hi.cells (g := g) rfl (j * 5 + 3) _ (flat5_get T j h 3 (by omega))
      have c4 := hi.cells (g := g) rfl (j * 5 + 4) _ (flat5_get T j h 4 (by omega))
      rw [Lib.add_plain, Nat.zero_add] at c0 c1 c2 c3 c4
      rw [Nat.zero_add]
      exact ⟨c0, c1, c2, c3, c4⟩
  have cm : ∃ p cap B, vm = .slice p U.length cap ∧ (0 < U.length → p = some ⟨B, 0, none⟩ ∧ U.length ≤ cap ∧ B < W.heap.size ∧ ok B) ∧ ∀ (j : Nat) (h : j < U.length), W.cell? ⟨B, 0 + j * 6, none⟩ = some (.string (S U[j].1)) ∧ DCell W B (0 + j * 6 + 1) U[j].2.1 U[j].2.2.1 U[j].2.2.2 := by
    rcases own_head hm with ⟨rfl, h0⟩ | ⟨g, cap, rfl, hb, hc, hg, -⟩
    · exact ⟨none, 0, 0, by rw [h0], by omega, fun j h => by omega⟩
    · refine ⟨_, cap, g, rfl, fun _ => ⟨rfl, hc, hg, hok g hb⟩, fun j h => ?_⟩
      have c0 := hm.cells (g := g) rfl (j * 6 + 0) _ (flat6_get U j h 0 (by omega))
      have c1 := hm.cells (g := g) rfl (j * 6 + 1) _ (flat6_get U j h 1 (by omega))
      have c2 := hm.cells (g := g) rfl (j * 6 + 2) _ (flat6_get U j h 2 (by omega))
      have c3 := hm.cells (g := g) rfl (j * 6 + 3) _ (flat6_get U j h 3 (by omega))
      have c4 := hm.cells (g := g) rfl (j * 6 + 4) _ (flat6_get U j h 4 (by omega))
      have c5 := hm.cells (g := g) rfl (j * 6 + 5) _ (flat6_get U j h 5 (by omega))
      rw [Lib.add_plain, Nat.zero_add] at c0 c1 c2 c3 c4 c5
      rw [Nat.zero_add]
      exact ⟨c0, c1, c2, c3, c4, c5⟩
  obtain ⟨p, cap, B, rfl, p1, p2⟩ := ci
  obtain ⟨q, caq, B', rfl, q1, q2⟩ := cm
  have h := Rep.mk (W := W) (ok := ok) (d := .mk k n s (T.map fun t => t.1) (U.map fun t => (t.1, t.2.1))) p q cap caq B 0 B' 0 (fun j => (T.getD j (dat0, .nilFunc, .nilFunc)).2.1) (fun j => (T.getD j (dat0, .nilFunc, .nilFunc)).2.2) (fun j => (U.getD j ([], dat0, .nilFunc, .nilFunc)).2.2.1) (fun j => (U.getD j ([], dat0, .nilFunc, .nilFunc)).2.2.2)
    (by simp only [Dat.its, Dat.mem, List.length_map]; exact hl) (by simp only [Dat.its, List.length_map]; exact p1)
    (fun j h => by
      simp only [Dat.its, List.length_map] at h
      simp only [Dat.its, List.getElem_map, List.getD, List.getElem?_eq_getElem h, Option.getD_some]
      exact p2 j h)
    (fun j h => by
      simp only [Dat.its, List.length_map] at h
      simp only [Dat.its, List.getElem_map, List.getD, List.getElem?_eq_getElem h, Option.getD_some]
      exact ht _ (List.getElem_mem h))
    (by simp only [Dat.mem, List.length_map]; exact q1)
    (fun j h => by
      simp only [Dat.mem, List.length_map] at h
      simp only [Dat.mem, List.getElem_map, List.getD, List.getElem?_eq_getElem h, Option.getD_some]
      exact q2 j h)
    (fun j h => by
      simp only [Dat.mem, List.length_map] at h
      simp only [Dat.mem, List.getElem_map, List.getD, List.getElem?_eq_getElem h, Option.getD_some]
      exact hu _ (List.getElem_mem h))
  simp only [Dat.its, Dat.mem, List.length_map] at h
  exact h
end
section
open Go.RowKit

/-- the parts of data, as the program has them in a slot -/
abbrev dval (k n : Int) (s : List UInt8) (p : Option Addr) (a cap : Nat) (q : Option Addr) (b caq : Nat) : Value := .agg #[.int .i64 k, .int .i64 n, .string (S s), .slice p a cap, .slice q b caq]
def onlyV (k n : Int) (s : List UInt8) (a b : Nat) : Bool :=
  decide (1 ≤ k) && decide (k ≤ 6) && (decide (k = 2) || decide (k = 3) || decide (n = 0)) && (decide (k = 4) || decide (s = [])) && (decide (k = 5) || decide (a = 0)) && (decide (k = 6) || decide (b = 0))
theorem plain_only (d : Dat) : plainB d = onlyV d.k d.n d.s d.its.length d.mem.length := by
  unfold plainB onlyV
  have h1 : d.its.isEmpty = decide (d.its.length = 0) := by cases d.its <;> simp
  have h2 : d.mem.isEmpty = decide (d.mem.length = 0) := by cases d.mem <;> simp
  first | rw [h1, h2]
theorem six_ways (k : Int) : k = 1 ∨ k = 2 ∨ k = 3 ∨ k = 4 ∨ k = 5 ∨ k = 6 ∨ ((k == 1) = false ∧ (k == 2) = false ∧ (k == 3) = false ∧ (k == 4) = false ∧ (k == 5) = false ∧ (k == 6) = false) := by
  simp only [beq_eq_false_iff_ne]; omega
theorem onlyV_none {k : Int} (h : (k == 1) = false ∧ (k == 2) = false ∧ (k == 3) = false ∧ (k == 4) = false ∧ (k == 5) = false ∧ (k == 6) = false) (n : Int) (s : List UInt8) (a b : Nat) : onlyV k n s a b = false := by
  simp only [beq_eq_false_iff_ne] at h
  unfold onlyV
  by_cases h1 : 1 ≤ k
  · rw [decide_eq_false (show ¬ k ≤ 6 by omega)]; simp only [Bool.and_false, Bool.false_and]
  · rw [decide_eq_false h1]; simp
theorem onlyV_eq (k n : Int) (s : List UInt8) (a b : Nat) (h : 1 ≤ k ∧ k ≤ 6) : onlyV k n s a b = ((decide (k = 2) || decide (k = 3) || (n == 0)) && (decide (k = 4) || s.isEmpty) && (decide (k = 5) || ((a : Int) == 0)) && (decide (k = 6) || ((b : Int) == 0))) := by
  unfold onlyV
  rw [decide_eq_true h.1, decide_eq_true h.2]
  have e1 : decide (n = 0) = (n == 0) := by rw [Bool.eq_iff_iff]; simp
  have e2 : decide (s = []) = s.isEmpty := by cases s <;> simp
  have e3 : decide (a = 0) = ((a : Int) == 0) := by rw [Bool.eq_iff_iff]; simp
  have e4 : decide (b = 0) = ((b : Int) == 0) := by rw [Bool.eq_iff_iff]; simp
  rw [e1, e2, e3, e4]; simp only [Bool.true_and]
theorem three_ways (a b c : Bool) : a = false ∨ (a = true ∧ b = false) ∨ (a = true ∧ b = true ∧ c = false) ∨ (a = true ∧ b = true ∧ c = true) := by
  cases a <;> cases b <;> cases c <;> simp
theorem four_ways (a b c d : Bool) : a = false ∨ (a = true ∧ b = false) ∨ (a = true ∧ b = true ∧ c = false) ∨ (a = true ∧ b = true ∧ c = true ∧ d = false) ∨ (a = true ∧ b = true ∧ c = true ∧ d = true) := by
  cases a <;> cases b <;> cases c <;> cases d <;> simp
set_option maxRecDepth 100000 in
set_option maxHeartbeats 2000000 in
theorem only_none (k n : Int) (s : List UInt8) (p q : Option Addr) (a cap b caq : Nat) (w : World) (h : (k == 1) = false ∧ (k == 2) = false ∧ (k == 3) = false ∧ (k == 4) = false ∧ (k == 5) = false ∧ (k == 6) = false) : Calls Tryz.prog 147 #[dval k n s p a cap q b caq] w fun e w' => e = .returned (.bool (onlyV k n s a b)) ∧ Below w.heap.size w w' := by
  obtain ⟨r, hr⟩ : ∃ r, onlyV k n s a b = r := ⟨_, rfl⟩
  rw [hr]
  have HR := Lib.hid (hr.symm.trans (onlyV_none h n s a b))
  clear hr
  obtain ⟨h1, h2, h3, h4, h5, h6⟩ := h
  all_goals
    go_enter Tryz.func147, Tryz.ntmps147
    go_upto_region 1 with fail
    go_quiet (fail)
    go_wp2_with fail
    go_ret
    exact ⟨by rw [HR.out]; rfl, below_drewN ((Below.refl _ _).alloc (Nat.le_refl _) _) _⟩
set_option maxRecDepth 100000 in
set_option maxHeartbeats 2000000 in
theorem only_1 (n : Int) (s : List UInt8) (p q : Option Addr) (a cap b caq : Nat) (w : World) : Calls Tryz.prog 147 #[dval 1 n s p a cap q b caq] w fun e w' => e = .returned (.bool (onlyV 1 n s a b)) ∧ Below w.heap.size w w' := by
  obtain ⟨r, hr⟩ : ∃ r, onlyV 1 n s a b = r := ⟨_, rfl⟩
  rw [hr]
  rw [onlyV_eq _ _ _ _ _ (by omega)] at hr
  have HR := Lib.hid hr
  clear hr
  rcases four_ways (n == 0) s.isEmpty ((a : Int) == 0) ((b : Int) == 0) with t1 | ⟨t1, t2⟩ | ⟨t1, t2, t3⟩ | ⟨t1, t2, t3, t4⟩ | ⟨t1, t2, t3, t4⟩
  all_goals
    go_enter Tryz.func147, Tryz.ntmps147
    go_upto_region 1 with fail
    go_quiet (fail)
    go_wp2_with fail
    go_ret
    exact ⟨by rw [← HR.out]; (try rw [t1]); (try rw [t2]); (try rw [t3]); (try rw [t4]); rfl, below_drewN ((Below.refl _ _).alloc (Nat.le_refl _) _) _⟩
set_option maxRecDepth 100000 in
set_option maxHeartbeats 2000000 in
theorem only_2 (n : Int) (s : List UInt8) (p q : Option Addr) (a cap b caq : Nat) (w : World) : Calls Tryz.prog 147 #[dval 2 n s p a cap q b caq] w fun e w' => e = .returned (.bool (onlyV 2 n s a b)) ∧ Below w.heap.size w w' := by
  obtain ⟨r, hr⟩ : ∃ r, onlyV 2 n s a b = r := ⟨_, rfl⟩
  rw [hr]
  rw [onlyV_eq _ _ _ _ _ (by omega)] at hr
  have HR := Lib.hid hr
  clear hr
  rcases three_ways s.isEmpty ((a : Int) == 0) ((b : Int) == 0) with t1 | ⟨t1, t2⟩ | ⟨t1, t2, t3⟩ | ⟨t1, t2, t3⟩
  all_goals
    go_enter Tryz.func147, Tryz.ntmps147
    go_upto_region 1 with fail
    go_quiet (fail)
    go_wp2_with fail
    go_ret
    exact ⟨by rw [← HR.out]; (try rw [t1]); (try rw [t2]); (try rw [t3]); (try rw [t4]); rfl, below_drewN ((Below.refl _ _).alloc (Nat.le_refl _) _) _⟩
set_option maxRecDepth 100000 in
set_option maxHeartbeats 2000000 in
theorem only_3 (n : Int) (s : List UInt8) (p q : Option Addr) (a cap b caq : Nat) (w : World) : Calls Tryz.prog 147 #[dval 3 n s p a cap q b caq] w fun e w' => e = .returned (.bool (onlyV 3 n s a b)) ∧ Below w.heap.size w w' := by
  obtain ⟨r, hr⟩ : ∃ r, onlyV 3 n s a b = r := ⟨_, rfl⟩
  rw [hr]
  rw [onlyV_eq _ _ _ _ _ (by omega)] at hr
  have HR := Lib.hid hr
  clear hr
  rcases three_ways s.isEmpty ((a : Int) == 0) ((b : Int) == 0) with t1 | ⟨t1, t2⟩ | ⟨t1, t2, t3⟩ | ⟨t1, t2, t3⟩
  all_goals
    go_enter Tryz.func147, Tryz.ntmps147
    go_upto_region 1 with fail
    go_quiet (fail)
    go_wp2_with fail
    go_ret
    exact ⟨by rw [← HR.out]; (try rw [t1]); (try rw [t2]); (try rw [t3]); (try rw [t4]); rfl, below_drewN ((Below.refl _ _).alloc (Nat.le_refl _) _) _⟩
set_option maxRecDepth 100000 in
set_option maxHeartbeats 2000000 in
theorem only_4 (n : Int) (s : List UInt8) (p q : Option Addr) (a cap b caq : Nat) (w : World) : Calls Tryz.prog 147 #[dval 4 n s p a cap q b caq] w fun e w' => e = .returned (.bool (onlyV 4 n s a b)) ∧ Below w.heap.size w w' := by
  obtain ⟨r, hr⟩ : ∃ r, onlyV 4 n s a b = r := ⟨_, rfl⟩
  rw [hr]
  rw [onlyV_eq _ _ _ _ _ (by omega)] at hr
  have HR := Lib.hid hr
  clear hr
  rcases three_ways (n == 0) ((a : Int) == 0) ((b : Int) == 0) with t1 | ⟨t1, t2⟩ | ⟨t1, t2, t3⟩ | ⟨t1, t2, t3⟩
  all_goals
    go_enter Tryz.func147, Tryz.ntmps147
    go_upto_region 1 with fail
    go_quiet (fail)
    go_wp2_with fail
    go_ret
    exact ⟨by rw [← HR.out]; (try rw [t1]); (try rw [t2]); (try rw [t3]); (try rw [t4]); rfl, below_drewN ((Below.refl _ _).alloc (Nat.le_refl _) _) _⟩
set_option maxRecDepth 100000 in
set_option maxHeartbeats 2000000 in
theorem only_5 (n : Int) (s : List UInt8) (p q : Option Addr) (a cap b caq : Nat) (w : World) : Calls Tryz.prog 147 #[dval 5 n s p a cap q b caq] w fun e w' => e = .returned (.bool (onlyV 5 n s a b)) ∧ Below w.heap.size w w' := by
  obtain ⟨r, hr⟩ : ∃ r, onlyV 5 n s a b = r := ⟨_, rfl⟩
  rw [hr]
  rw [onlyV_eq _ _ _ _ _ (by omega)] at hr
  have HR := Lib.hid hr
  clear hr
  rcases three_ways (n == 0) s.isEmpty ((b : Int) == 0) with t1 | ⟨t1, t2⟩ | ⟨t1, t2, t3⟩ | ⟨t1, t2, t3⟩
  all_goals
    go_enter Tryz.func147, Tryz.ntmps147
    go_upto_region 1 with fail
    go_quiet (fail)
    go_wp2_with fail
    go_ret
    exact ⟨by rw [← HR.out]; (try rw [t1]); (try rw [t2]); (try rw [t3]); (try rw [t4]); rfl, below_drewN ((Below.refl _ _).alloc (Nat.le_refl _) _) _⟩
set_option maxRecDepth 100000 in
set_option maxHeartbeats 2000000 in
theorem only_6 (n : Int) (s : List UInt8) (p q : Option Addr) (a cap b caq : Nat) (w : World) : Calls Tryz.prog 147 #[dval 6 n s p a cap q b caq] w fun e w' => e = .returned (.bool (onlyV 6 n s a b)) ∧ Below w.heap.size w w' := by
  obtain ⟨r, hr⟩ : ∃ r, onlyV 6 n s a b = r := ⟨_, rfl⟩
  rw [hr]
  rw [onlyV_eq _ _ _ _ _ (by omega)] at hr
  have HR := Lib.hid hr
  clear hr
  rcases three_ways (n == 0) s.isEmpty ((a : Int) == 0) with t1 | ⟨t1, t2⟩ | ⟨t1, t2, t3⟩ | ⟨t1, t2, t3⟩
  all_goals
    go_enter Tryz.func147, Tryz.ntmps147
    go_upto_region 1 with fail
    go_quiet (fail)
    go_wp2_with fail
    go_ret
    exact ⟨by rw [← HR.out]; (try rw [t1]); (try rw [t2]); (try rw [t3]); (try rw [t4]); rfl, below_drewN ((Below.refl _ _).alloc (Nat.le_refl _) _) _⟩
theorem only_any (k n : Int) (s : List UInt8) (p q : Option Addr) (a cap b caq : Nat) (w : World) : Calls Tryz.prog 147 #[dval k n s p a cap q b caq] w fun e w' => e = .returned (.bool (onlyV k n s a b)) ∧ Below w.heap.size w w' := by
  rcases six_ways k with rfl | rfl | rfl | rfl | rfl | rfl | h
  · exact only_1 n s p q a cap b caq w
  · exact only_2 n s p q a cap b caq w
  · exact only_3 n s p q a cap b caq w
  · exact only_4 n s p q a cap b caq w
  · exact only_5 n s p q a cap b caq w
  · exact only_6 n s p q a cap b caq w
  · exact only_none k n s p q a cap b caq w h
end
section
open Go.RowKit

/-- whether a number is in the range -/
theorem dVld_any (u : Int) (w : World) : Calls Tryz.prog 132 #[.int .i64 u] w fun e w' => e = .returned (.bool (vld u)) ∧ w = w' := by
  have HN := Lib.hid (show vld u = (decide (-1000000000000000 ≤ u) && decide (u ≤ 1000000000000000)) from rfl)
  generalize vld u = b at HN
  by_cases h1 : -1000000000000000 ≤ u
  all_goals
    go_enter Tryz.func132, Tryz.ntmps132
    go_wp2_with fail
    go_ret
    exact ⟨congrArg (fun b => Ending.returned (.bool b)) (by rw [HN.out, Bool.eq_iff_iff]; simp; omega), rfl⟩
theorem dRefVld_any (u : Int) (w : World) : Calls Tryz.prog 118 #[.int .i64 u] w fun e w' => e = .returned (.bool (vld u)) ∧ w = w' := by
  have HN := Lib.hid (show vld u = (decide (-1000000000000000 ≤ u) && decide (u ≤ 1000000000000000)) from rfl)
  generalize vld u = b at HN
  by_cases h1 : -1000000000000000 ≤ u
  all_goals
    go_enter Tryz.func118, Tryz.ntmps118
    go_wp2_with fail
    go_ret
    exact ⟨congrArg (fun b => Ending.returned (.bool b)) (by rw [HN.out, Bool.eq_iff_iff]; simp; omega), rfl⟩
/-- data in a block of the call's own -/
def boxD (d : Dat) (vi vm : Value) : Array Value := #[.int .i64 d.k, .int .i64 d.n, .string (S d.s), vi, vm]
/-- the labels from place i on ascend -/
def ascF (m : List (List UInt8 × Dat)) (i : Nat) : Bool := ascM (m.drop i)
theorem ascM_two (x y : List UInt8 × Dat) (r : List (List UInt8 × Dat)) : ascM (x :: y :: r) = (Op.bytesLess x.1 y.1 && ascM (y :: r)) := by rw [ascM]
theorem ascF_step {m : List (List UInt8 × Dat)} {i : Nat} (h : i + 1 < m.length) : ascF m i = (Op.bytesLess (m[i]'(by omega)).1 m[i + 1].1 && ascF m (i + 1)) := by
  unfold ascF
  rw [List.drop_eq_getElem_cons (show i < m.length by omega), List.drop_eq_getElem_cons h, ascM_two]
theorem ascF_end {m : List (List UInt8 × Dat)} {i : Nat} (h : m.length ≤ i + 1) : ascF m i = true := by
  unfold ascF
  rcases Nat.lt_or_ge i m.length with h1 | h1
  · rw [List.drop_eq_getElem_cons h1, List.drop_of_length_le h]; simp [ascM]
  · rw [List.drop_of_length_le h1]; rfl
def badV (k n : Int) : Bool := ((k == 2) && !(n == 0) && !(n == 1)) || ((k == 3) && !vld n)
theorem badNum_eq (d : Dat) : badNum d = badV d.k d.n := by
  unfold badNum badV
  have e (a b : Int) : decide (a = b) = (a == b) := by rw [Bool.eq_iff_iff]; simp
  rw [e, e, e, e]
theorem bad_ways (k n : Int) : ((k == 2) = true ∧ (n != 0) = false ∧ (k == 3) = false ∧ badV k n = false) ∨ ((k == 2) = true ∧ (n != 0) = true ∧ (n != 1) = false ∧ (k == 3) = false ∧ badV k n = false) ∨ ((k == 2) = true ∧ (n != 0) = true ∧ (n != 1) = true ∧ badV k n = true) ∨ ((k == 2) = false ∧ (k == 3) = true ∧ badV k n = !vld n) ∨ ((k == 2) = false ∧ (k == 3) = false ∧ badV k n = false) := by
  unfold badV
  by_cases h2 : k = 2
  · subst h2
    by_cases h0 : n = 0
    · subst h0; simp
    · by_cases h1 : n = 1
      · subst h1; simp
      · simp [h0, h1]
  · by_cases h3 : k = 3
    · subst h3; simp
    · simp [h2, h3]
/-- the state of a check: data in a block, and what was there before -/
def CkS (N : Nat) (w : World) (d : Dat) (vi vm : Value) (W : World) : Prop := Blk W N (boxD d vi vm) 26 ∧ Below N w W
theorem CkS.cells {N : Nat} {w W : World} {d : Dat} {vi vm : Value} (h : CkS N w d vi vm W) :
    W.cell? ⟨N, 0, none⟩ = some (.int .i64 d.k) ∧ W.cell? ⟨N, 1, none⟩ = some (.int .i64 d.n) ∧ W.cell? ⟨N, 2, none⟩ = some (.string (S d.s)) ∧ W.cell? ⟨N, 3, none⟩ = some vi ∧ W.cell? ⟨N, 4, none⟩ = some vm ∧ N < W.heap.size :=
  ⟨h.1.cell 0, h.1.cell 1, h.1.cell 2, h.1.cell 3, h.1.cell 4, h.1.lt⟩
theorem CkS.below {N : Nat} {w W W' : World} {d : Dat} {vi vm : Value} (h : CkS N w d vi vm W) (hb : Below W.heap.size W W') : CkS N w d vi vm W' :=
  ⟨h.1.below hb, h.2.trans (hb.mono (Nat.le_of_lt h.1.lt))⟩
theorem CkS.new (w : World) (d : Dat) (vi vm : Value) : CkS w.heap.size w d vi vm (w.alloc (.cells (boxD d vi vm) 26)) := ⟨Blk.new w _ _, (Below.refl _ _).alloc (Nat.le_refl _) _⟩
theorem CkS.drewN {N : Nat} {w W : World} {d : Dat} {vi vm : Value} (h : CkS N w d vi vm W) (n : Nat) : CkS N w d vi vm (W.drewN n) := ⟨h.1, below_drewN h.2 n⟩
end
section

/-- the parts of data -/
def kids (d : Dat) : List Dat := d.its ++ d.mem.map fun p => p.2
theorem chkI_app : ∀ (a b : List Dat) (lv : Nat), chkI (a ++ b) lv = if chkI a lv = 0 then chkI b lv else chkI a lv
  | [], b, lv => by rw [List.nil_append, chkI, if_pos rfl]
  | x :: a, b, lv => by
    rw [List.cons_append, chkI, chkI, chkI_app a b lv]
    by_cases h : chk x lv = 0
    · rw [if_pos h, if_pos h]
    · rw [if_neg h, if_neg h, if_neg h]
theorem chkM_map : ∀ (m : List (List UInt8 × Dat)) (lv : Nat), chkM m lv = chkI (m.map fun p => p.2) lv
  | [], lv => by rw [chkM, List.map_nil, chkI]
  | (l, x) :: m, lv => by rw [chkM, List.map_cons, chkI, chkM_map m lv]
theorem chk_kids (d : Dat) (lv : Nat) : chk d lv = if 16 < lv then 9 else if ownE d = 0 then chkI (kids d) (lv + 1) else ownE d := by
  rw [chk_eq, kids, chkI_app, chkM_map]
theorem kid_lt {d x : Dat} (h : x ∈ kids d) : SizeOf.sizeOf x < SizeOf.sizeOf d := by
  rcases List.mem_append.1 h with h | h
  · exact dat_it h
  · obtain ⟨p, hp, rfl⟩ := List.mem_map.1 h
    exact dat_mg hp
theorem kids_len (d : Dat) : (kids d).length = d.its.length + d.mem.length := by unfold kids; simp
theorem kid_lim {d x : Dat} (hl : limD d = true) (h : x ∈ kids d) : limD x = true := by
  obtain ⟨-, -, -, h1, h2⟩ := lim_iff.1 hl
  rcases List.mem_append.1 h with h | h
  · exact h1 x h
  · obtain ⟨p, hp, rfl⟩ := List.mem_map.1 h
    exact (h2 p hp).2
theorem lim_len {d : Dat} (hl : limD d = true) : d.its.length ≤ 1000000 ∧ d.mem.length ≤ 1000000 ∧ d.s.length ≤ 1000000 := by
  obtain ⟨h0, h1, h2, -, -⟩ := lim_iff.1 hl
  exact ⟨h1, h2, h0⟩
theorem chkI_step {L : List Dat} {lv i : Nat} (h : i < L.length) : chkI (L.drop i) lv = if chk L[i] lv = 0 then chkI (L.drop (i + 1)) lv else chk L[i] lv := by
  rw [List.drop_eq_getElem_cons h, chkI]
theorem chkI_done {L : List Dat} {lv i : Nat} (h : L.length ≤ i) : chkI (L.drop i) lv = 0 := by
  rw [List.drop_of_length_le h, chkI]
end
section
open Go.RowKit

/-- items that the call made -/
theorem own5 {W : World} {base : Nat} {e : TypeId} {v : Value} {T : List (Dat × Value × Value)} (h : W.ownsRow base e 5 v T.length (flat5 T)) :
    ∃ p cap B, v = .slice p T.length cap ∧ ∀ (j : Nat) (_ : j < T.length), p = some ⟨B, 0, none⟩ ∧ T.length ≤ cap ∧ base ≤ B ∧ B < W.heap.size ∧ DCell W B (j * 5) T[j].1 T[j].2.1 T[j].2.2 := by
  rcases own_head h with ⟨rfl, h0⟩ | ⟨g, cap, rfl, hb, hc, hg, -⟩
  · exact ⟨none, 0, 0, by rw [h0], fun j h => by omega⟩
  · refine ⟨_, cap, g, rfl, fun j h' => ⟨rfl, hc, hb, hg, ?_⟩⟩
    have c0 := h.cells (g := g) rfl (j * 5 + 0) _ (flat5_get T j h' 0 (by omega))
    have c1 := h.cells (g := g) rfl (j * 5 + 1) _ (flat5_get T j h' 1 (by omega))
    have c2 := h.cells (g := g) rfl (j * 5 + 2) _ (flat5_get T j h' 2 (by omega))
    have c3 := h.cells (g := g) rfl (j * 5 + 3) _ (flat5_get T j h' 3 (by omega))
    have c4 := h.cells (g := g) rfl (j * 5 + 4) _ (flat5_get T j h' 4 (by omega))
    rw [Lib.add_plain, Nat.zero_add] at c0 c1 c2 c3 c4
    exact ⟨c0, c1, c2, c3, c4⟩
/-- steps in memory, in a block of which ok is said -/
def SlK (W : World) (ok : Nat → Prop) (v : Value) (L : List Stp) : Prop :=
  ∃ p cap B o, v = .slice p L.length cap ∧ (0 < L.length → p = some ⟨B, o, none⟩ ∧ L.length ≤ cap ∧ B < W.heap.size ∧ ok B) ∧
    ∀ (j : Nat) (h : j < L.length), W.cell? ⟨B, o + j * 2, none⟩ = some (.string (S L[j].lab)) ∧ W.cell? ⟨B, o + j * 2 + 1, none⟩ = some (.int .i64 L[j].idx)
theorem SlK.kept {W W' : World} {ok ok' : Nat → Prop} {v : Value} {L : List Stp} (h : SlK W ok v L) (hs : W.heap.size ≤ W'.heap.size) (hk : ∀ B, B < W.heap.size → ok B → ok' B ∧ ∀ o, W'.cell? ⟨B, o, none⟩ = W.cell? ⟨B, o, none⟩) : SlK W' ok' v L := by
  obtain ⟨p, cap, B, o, rfl, hp, hc⟩ := h
  refine ⟨p, cap, B, o, rfl, fun h0 => ?_, fun j h => ?_⟩
  · obtain ⟨h1, h2, h3, h4⟩ := hp h0
    exact ⟨h1, h2, Nat.lt_of_lt_of_le h3 hs, (hk B h3 h4).1⟩
  · obtain ⟨h1, h2, h3, h4⟩ := hp (by omega)
    have k := (hk B h3 h4).2
    exact ⟨(k _).trans (hc j h).1, (k _).trans (hc j h).2⟩
theorem SlK.under {W W' : World} {ok : Nat → Prop} {v : Value} {L : List Stp} (h : SlK W ok v L) (hb : Below W.heap.size W W') : SlK W' ok v L :=
  h.kept hb.size fun B hB hk => ⟨hk, fun o => hb.cell (p := ⟨B, o, none⟩) hB⟩
theorem SlK.mono {W : World} {ok ok' : Nat → Prop} {v : Value} {L : List Stp} (h : SlK W ok v L) (hk : ∀ B, B < W.heap.size → ok B → ok' B) : SlK W ok' v L :=
  h.kept (Nat.le_refl _) fun B hB h => ⟨hk B hB h, fun _ => rfl⟩
theorem SlK.grown {W W' : World} {row : Option Nat} {ok : Nat → Prop} {v : Value} {L : List Stp} (h : SlK W ok v L) (hg : W.grownBy W' row) (hk : ∀ B, ok B → some B ≠ row) : SlK W' ok v L :=
  h.kept hg.size fun B hB h => ⟨h, fun o => grown_cell hg hB (hk B h) o⟩
theorem SlK.tail {W : World} {ok : Nat → Prop} {p : Option Addr} {cap : Nat} {x : Stp} {L : List Stp} (h : SlK W ok (.slice p (L.length + 1) cap) (x :: L)) :
    ∃ B o, p = some ⟨B, o, none⟩ ∧ L.length + 1 ≤ cap ∧ B < W.heap.size ∧ ok B ∧ W.cell? ⟨B, o, none⟩ = some (.string (S x.lab)) ∧ W.cell? ⟨B, o + 1, none⟩ = some (.int .i64 x.idx) ∧
      (∀ cap', L.length ≤ cap' → SlK W ok (.slice (some ⟨B, o + 2, none⟩) L.length cap') L) := by
  obtain ⟨p', cap', B, o, e, hp, hc⟩ := h
  injection e with e1 e2 e3
  subst e1; subst e3
  obtain ⟨h1, h2, h3, h4⟩ := hp (by simp)
  have h0 := hc 0 (by simp)
  rw [Nat.zero_mul, Nat.add_zero] at h0
  refine ⟨B, o, h1, h2, h3, h4, h0.1, h0.2, fun cap' hcap => ⟨_, _, B, o + 2, rfl, fun _ => ⟨rfl, hcap, h3, h4⟩, fun j h => ?_⟩⟩
  have := hc (j + 1) (by simp; omega)
  rw [show o + (j + 1) * 2 = o + 2 + j * 2 by omega] at this
  exact this
/-- entries in memory -/
def EntR (W : World) (ok : Nat → Prop) (v : Value) (L : List Ent) : Prop :=
  ∃ p cap B o, v = .slice p L.length cap ∧ (0 < L.length → p = some ⟨B, o, none⟩ ∧ L.length ≤ cap ∧ B < W.heap.size ∧ ok B) ∧
    ∀ (j : Nat) (h : j < L.length), ∃ pv vi vm, W.cell? ⟨B, o + j * 6, none⟩ = some pv ∧ DCell W B (o + j * 6 + 1) L[j].2 vi vm ∧ SlK W ok pv L[j].1 ∧ Rep W ok L[j].2 vi vm
theorem DCell.kept {W W' : World} {B o : Nat} {d : Dat} {vi vm : Value} (h : DCell W B o d vi vm) (k : ∀ o, W'.cell? ⟨B, o, none⟩ = W.cell? ⟨B, o, none⟩) : DCell W' B o d vi vm :=
  ⟨(k _).trans h.c0, (k _).trans h.c1, (k _).trans h.c2, (k _).trans h.c3, (k _).trans h.c4⟩
theorem Rep.kept {W W' : World} {ok ok' : Nat → Prop} (hs : W.heap.size ≤ W'.heap.size) (hk : ∀ B, B < W.heap.size → ok B → ok' B ∧ ∀ o, W'.cell? ⟨B, o, none⟩ = W.cell? ⟨B, o, none⟩) {d : Dat} {vi vm : Value} (h : Rep W ok d vi vm) : Rep W' ok' d vi vm := by
  induction h with
  | mk p q cap caq B o B' o' vi vm ui um hl hp hc hr hq hd hs' ihr ihs =>
    refine .mk p q cap caq B o B' o' vi vm ui um hl (fun h => ?_) (fun j h => ?_) ihr (fun h => ?_) (fun j h => ?_) ihs
    · obtain ⟨h1, h2, h3, h4⟩ := hp h; exact ⟨h1, h2, Nat.lt_of_lt_of_le h3 hs, (hk B h3 h4).1⟩
    · obtain ⟨-, -, h3, h4⟩ := hp (by omega)
      exact (hc j h).kept (hk B h3 h4).2
    · obtain ⟨h1, h2, h3, h4⟩ := hq h; exact ⟨h1, h2, Nat.lt_of_lt_of_le h3 hs, (hk B' h3 h4).1⟩
    · obtain ⟨-, -, h3, h4⟩ := hq (by omega)
      have k := (hk B' h3 h4).2
      exact ⟨(k _).trans (hd j h).1, (hd j h).2.kept k⟩
theorem EntR.kept {W W' : World} {ok ok' : Nat → Prop} {v : Value} {L : List Ent} (h : EntR W ok v L) (hs : W.heap.size ≤ W'.heap.size) (hk : ∀ B, B < W.heap.size → ok B → ok' B ∧ ∀ o, W'.cell? ⟨B, o, none⟩ = W.cell? ⟨B, o, none⟩) : EntR W' ok' v L := by
  obtain ⟨p, cap, B, o, rfl, hp, hc⟩ := h
  refine ⟨p, cap, B, o, rfl, fun h0 => ?_, fun j h => ?_⟩
  · obtain ⟨h1, h2, h3, h4⟩ := hp h0
    exact ⟨h1, h2, Nat.lt_of_lt_of_le h3 hs, (hk B h3 h4).1⟩
  · obtain ⟨h1, h2, h3, h4⟩ := hp (by omega)
    have k := (hk B h3 h4).2
    obtain ⟨pv, vi, vm, c0, c1, c2, c3⟩ := hc j h
    exact ⟨pv, vi, vm, (k _).trans c0, c1.kept k, c2.kept hs hk, c3.kept hs hk⟩
theorem EntR.under {W W' : World} {ok : Nat → Prop} {v : Value} {L : List Ent} (h : EntR W ok v L) (hb : Below W.heap.size W W') : EntR W' ok v L :=
  h.kept hb.size fun B hB hk => ⟨hk, fun o => hb.cell (p := ⟨B, o, none⟩) hB⟩
theorem EntR.mono {W : World} {ok ok' : Nat → Prop} {v : Value} {L : List Ent} (h : EntR W ok v L) (hk : ∀ B, B < W.heap.size → ok B → ok' B) : EntR W ok' v L :=
  h.kept (Nat.le_refl _) fun B hB h => ⟨hk B hB h, fun _ => rfl⟩
theorem EntR.grown {W W' : World} {row : Option Nat} {ok : Nat → Prop} {v : Value} {L : List Ent} (h : EntR W ok v L) (hg : W.grownBy W' row) (hk : ∀ B, ok B → some B ≠ row) : EntR W' ok v L :=
  h.kept hg.size fun B hB h => ⟨h, fun o => grown_cell hg hB (hk B h) o⟩
/-- an entry with the values of its slices -/
structure Env where
  path : List Stp
  data : Dat
  pv : Value
  vi : Value
  vm : Value
def Env.e (t : Env) : Ent := (t.path, t.data)
def cellsE (t : Env) : List Value := [t.pv, .int .i64 t.data.k, .int .i64 t.data.n, .string (S t.data.s), t.vi, t.vm]
def flatE (T : List Env) : List Value := T.flatMap cellsE
def Env.good (W : World) (ok : Nat → Prop) (t : Env) : Prop := SlK W ok t.pv t.path ∧ Rep W ok t.data t.vi t.vm
theorem flatE_snoc (T : List Env) (t : Env) : flatE (T ++ [t]) = flatE T ++ cellsE t := by unfold flatE; simp
theorem flatE_len (T : List Env) : (flatE T).length = T.length * 6 := by
  induction T with
  | nil => rfl
  | cons t r ih => unfold flatE at *; rw [List.flatMap_cons, List.length_append, ih]; simp [cellsE]; omega
theorem flatE_get : ∀ (T : List Env) (j : Nat) (h : j < T.length) (i : Nat), i < 6 → (flatE T)[j * 6 + i]? = (cellsE T[j])[i]?
  | t :: r, 0, _, i, hi => by
    unfold flatE
    rw [List.flatMap_cons, Nat.zero_mul, Nat.zero_add, List.getElem?_append_left (by simp [cellsE]; omega)]; rfl
  | t :: r, j + 1, h, i, hi => by
    have := flatE_get r j (by simpa using h) i hi
    unfold flatE at *
    rw [List.flatMap_cons, List.getElem?_append_right (by simp [cellsE]; omega), show (j + 1) * 6 + i - (cellsE t).length = j * 6 + i by simp [cellsE]; omega, this]; rfl
/-- entries that the call made -/
theorem own_ents {W : World} {base : Nat} {e : TypeId} {ok : Nat → Prop} {v : Value} {T : List Env} (h : W.ownsRow base e 6 v T.length (flatE T)) (hok : ∀ B, base ≤ B → ok B) (ht : ∀ t ∈ T, t.good W ok) : EntR W ok v (T.map Env.e) := by
  rcases own_head h with ⟨rfl, h0⟩ | ⟨g, cap, rfl, hb, hc, hg, -⟩
  · exact ⟨none, 0, 0, 0, by simp [h0], fun h => by simp at h; omega, fun j h => by simp at h; omega⟩
  · refine ⟨_, cap, g, 0, by simp, fun _ => ⟨rfl, by simpa using hc, hg, hok g hb⟩, fun j h' => ?_⟩
    simp only [List.length_map] at h'
    have c0 := h.cells (g := g) rfl (j * 6 + 0) _ (flatE_get T j h' 0 (by omega))
    have c1 := h.cells (g := g) rfl (j * 6 + 1) _ (flatE_get T j h' 1 (by omega))
    have c2 := h.cells (g := g) rfl (j * 6 + 2) _ (flatE_get T j h' 2 (by omega))
    have c3 := h.cells (g := g) rfl (j * 6 + 3) _ (flatE_get T j h' 3 (by omega))
    have c4 := h.cells (g := g) rfl (j * 6 + 4) _ (flatE_get T j h' 4 (by omega))
    have c5 := h.cells (g := g) rfl (j * 6 + 5) _ (flatE_get T j h' 5 (by omega))
    rw [Lib.add_plain, Nat.zero_add] at c0 c1 c2 c3 c4 c5
    have hg := ht _ (List.getElem_mem h')
    refine ⟨T[j].pv, T[j].vi, T[j].vm, ?_, ?_, ?_, ?_⟩
    · rw [Nat.zero_add]; exact c0
    · rw [Nat.zero_add, List.getElem_map]; exact ⟨c1, c2, c3, c4, c5⟩
    · rw [List.getElem_map]; exact hg.1
    · rw [List.getElem_map]; exact hg.2
/-- entries in memory, opened -/
theorem EntR.open {W : World} {ok : Nat → Prop} {v : Value} {L : List Ent} (h : EntR W ok v L) : ∃ p cap B o, v = .slice p L.length cap ∧
    ∀ (j : Nat) (_ : j < L.length), ∃ pv vi vm, p = some ⟨B, o, none⟩ ∧ L.length ≤ cap ∧ B < W.heap.size ∧ ok B ∧ W.cell? ⟨B, o + j * 6, none⟩ = some pv ∧ DCell W B (o + j * 6 + 1) L[j].2 vi vm ∧ SlK W ok pv L[j].1 ∧ Rep W ok L[j].2 vi vm := by
  obtain ⟨p, cap, B, o, rfl, hp, hc⟩ := h
  refine ⟨p, cap, B, o, rfl, fun j h => ?_⟩
  obtain ⟨h1, h2, h3, h4⟩ := hp (by omega)
  obtain ⟨pv, vi, vm, c⟩ := hc j h
  exact ⟨pv, vi, vm, h1, h2, h3, h4, c⟩
/-- the entries in memory, with the values -/
theorem EntR.envs {W : World} {ok : Nat → Prop} {v : Value} {L : List Ent} (h : EntR W ok v L) : ∃ (T : List Env) (p : Option Addr) (cap B o : Nat), T.map Env.e = L ∧ v = .slice p T.length cap ∧ (0 < T.length → p = some ⟨B, o, none⟩ ∧ T.length ≤ cap ∧ B < W.heap.size ∧ ok B) ∧
    (∀ t ∈ T, t.good W ok) ∧ (∀ (i : Nat) (u : Value), (flatE T)[i]? = some u → W.cell? ⟨B, o + i, none⟩ = some u) := by
  obtain ⟨p, cap, B, o, rfl, hp, hc⟩ := h
  let F : Nat → Env := fun j => if h : j < L.length then ⟨L[j].1, L[j].2, (hc j h).choose, (hc j h).choose_spec.choose, (hc j h).choose_spec.choose_spec.choose⟩ else ⟨[], dat0, .nilFunc, .nilFunc, .nilFunc⟩
  have hF : ∀ j (h : j < L.length), (F j).e = L[j] ∧ W.cell? ⟨B, o + j * 6, none⟩ = some (F j).pv ∧ DCell W B (o + j * 6 + 1) (F j).data (F j).vi (F j).vm ∧ SlK W ok (F j).pv (F j).path ∧ Rep W ok (F j).data (F j).vi (F j).vm := by
    intro j h
    have e : F j = ⟨L[j].1, L[j].2, (hc j h).choose, (hc j h).choose_spec.choose, (hc j h).choose_spec.choose_spec.choose⟩ := dif_pos h
    rw [e]
    exact ⟨rfl, (hc j h).choose_spec.choose_spec.choose_spec⟩
  have hT : ((List.range L.length).map F).length = L.length := by simp
  refine ⟨(List.range L.length).map F, p, cap, B, o, ?_, by rw [hT], by rw [hT]; exact hp, ?_, ?_⟩
  · apply List.ext_getElem (by simp)
    intro j h1 h2
    simp only [List.getElem_map, List.getElem_range]
    exact (hF j h2).1
  · intro t ht
    obtain ⟨j, hj, rfl⟩ := List.mem_map.1 ht
    exact (hF j (List.mem_range.1 hj)).2.2.2
  · intro i u hu
    have hi : i < L.length * 6 := by
      have := (List.getElem?_eq_some_iff.1 hu).1
      rw [flatE_len, hT] at this; exact this
    have hj : i / 6 < L.length := by omega
    have hm : i % 6 < 6 := Nat.mod_lt _ (by decide)
    have e : i = i / 6 * 6 + i % 6 := by omega
    have hg := flatE_get ((List.range L.length).map F) (i / 6) (by rw [hT]; exact hj) (i % 6) hm
    rw [← e, hu] at hg
    simp only [List.getElem_map, List.getElem_range] at hg
    obtain ⟨-, q0, q1, -, -⟩ := hF (i / 6) hj
    generalize hr : i % 6 = r at hg hm
    rw [hr] at e
    generalize i / 6 = k at *
    subst e
    match r, hm, hg with
    | 0, _, hg => injection hg with hg; rw [hg]; exact q0
    | 1, _, hg => injection hg with hg; rw [hg]; exact q1.c0
    | 2, _, hg => injection hg with hg; rw [hg]; exact q1.c1
    | 3, _, hg => injection hg with hg; rw [hg]; exact q1.c2
    | 4, _, hg => injection hg with hg; rw [hg]; exact q1.c3
    | 5, _, hg => injection hg with hg; rw [hg]; exact q1.c4
end
section
open Go.RowKit

theorem infoDat : (Tryz.prog.info? 26).map (fun i => (i.zero, i.size, i.bytes)) = some (some (.agg #[.int .i64 0, .int .i64 0, .string ⟨#[]⟩, .slice none 0 0, .slice none 0 0]), 5, 80) := by kernel_rfl
set_option maxHeartbeats 1000000 in
theorem cloneDat_any (p : Option Addr) (n c : Nat) (news : List Value) (w : World) (hl : news.length = n * 5) (hn : n ≤ 10000000) (hp : ∀ a, p = some a → ∀ j u, news[j]? = some u → w.cell? (a.add j) = some u) (h0 : p = none → n = 0) (h1 : ∀ u ∈ news, u.oneCell' = true) :
    Calls Tryz.prog 148 #[.slice p n c] w fun e w' => ∃ v', e = .returned v' ∧ w'.ownsRow w.heap.size 26 5 v' n news ∧ Below w.heap.size w w' := by
  obtain ⟨i0, hi, hz0, hz1, hz2⟩ := info_parts infoDat
  have q22 := fun (w : World) (a : Option Addr) (n c n' c' : Nat) => Lib.run_eql_slice_nil (P := Tryz.prog) w _ _ a n c n' c' Tryz.underlying23
  cases p with
  | none =>
    obtain rfl := h0 rfl
    obtain rfl : news = [] := List.length_eq_zero_iff.1 (by omega)
    clear hp h0 h1 hl
    go_enter Tryz.func148, Tryz.ntmps148
    go_wp2_with fail
    go_ret
    exact ⟨_, rfl, World.ownsRow_nil _ _ _ _, Below.refl _ _⟩
  | some a =>
    have HA := Lib.hid (hp a rfl)
    have H1 := Lib.hid h1
    have HL := Lib.hid hl
    clear hp h0 h1 hl
    go_enter Tryz.func148, Tryz.ntmps148
    go_wp2_with (at_builtin; refine wpList_append_own _ rfl _ _ 23 rfl w.heap.size 26 i0 (.agg #[.int .i64 0, .int .i64 0, .string ⟨#[]⟩, .slice none 0 0, .slice none 0 0]) 5 80 Tryz.underlying23 hi hz0 hz1 hz2 rfl (by decide) (.slice (some ⟨w.heap.size, 0, none⟩) 0 0) 0 [] rfl (World.ownsRow_made w #[] 0 (Nat.le_refl _) (Nat.zero_le _) (by simp)) a n c news rfl HL.out (fun j u hj => by obtain ⟨b, o, s⟩ := a; exact Lib.cell?_alloc_some _ (HA.out j u hj)) H1.out (by unfold maxLen; omega) (by omega) (by simp) ?_; intro v' w1 hown hgrow _)
    have HO := Lib.hid hown
    have HG := Lib.hid hgrow
    clear hown hgrow
    go_wp2_with fail
    go_ret
    refine ⟨v', rfl, by simpa using HO.out, ?_⟩
    refine ((Below.refl _ w).alloc (Nat.le_refl _) _).grown HG.out (by simp) ?_
    intro k hk
    simp [Value.ownBlock] at hk
    omega

theorem infoStpA : (Tryz.prog.info? 44).map (fun i => (i.zero, i.size, i.bytes)) = some (some (.agg #[.string ⟨#[]⟩, .int .i64 0]), 2, 24) := by kernel_rfl
set_option maxHeartbeats 1000000 in
theorem cloneStp_any (p : Option Addr) (n c : Nat) (news : List Value) (w : World) (hl : news.length = n * 2) (hn : n ≤ 10000000) (hp : ∀ a, p = some a → ∀ j u, news[j]? = some u → w.cell? (a.add j) = some u) (h0 : p = none → n = 0) (h1 : ∀ u ∈ news, u.oneCell' = true) :
    Calls Tryz.prog 64 #[.slice p n c] w fun e w' => ∃ v', e = .returned v' ∧ w'.ownsRow w.heap.size 44 2 v' n news ∧ Below w.heap.size w w' := by
  obtain ⟨i0, hi, hz0, hz1, hz2⟩ := info_parts infoStpA
  have q22 := fun (w : World) (a : Option Addr) (n c n' c' : Nat) => Lib.run_eql_slice_nil (P := Tryz.prog) w _ _ a n c n' c' Tryz.underlying40
  cases p with
  | none =>
    obtain rfl := h0 rfl
    obtain rfl : news = [] := List.length_eq_zero_iff.1 (by omega)
    clear hp h0 h1 hl
    go_enter Tryz.func64, Tryz.ntmps64
    go_wp2_with fail
    go_ret
    exact ⟨_, rfl, World.ownsRow_nil _ _ _ _, Below.refl _ _⟩
  | some a =>
    have HA := Lib.hid (hp a rfl)
    have H1 := Lib.hid h1
    have HL := Lib.hid hl
    clear hp h0 h1 hl
    go_enter Tryz.func64, Tryz.ntmps64
    go_wp2_with (at_builtin; refine wpList_append_own _ rfl _ _ 40 rfl w.heap.size 44 i0 (.agg #[.string ⟨#[]⟩, .int .i64 0]) 2 24 Tryz.underlying40 hi hz0 hz1 hz2 rfl (by decide) (.slice (some ⟨w.heap.size, 0, none⟩) 0 0) 0 [] rfl (World.ownsRow_made w #[] 0 (Nat.le_refl _) (Nat.zero_le _) (by simp)) a n c news rfl HL.out (fun j u hj => by obtain ⟨b, o, s⟩ := a; exact Lib.cell?_alloc_some _ (HA.out j u hj)) H1.out (by unfold maxLen; omega) (by omega) (by simp) ?_; intro v' w1 hown hgrow _)
    have HO := Lib.hid hown
    have HG := Lib.hid hgrow
    clear hown hgrow
    go_wp2_with fail
    go_ret
    refine ⟨v', rfl, by simpa using HO.out, ?_⟩
    refine ((Below.refl _ w).alloc (Nat.le_refl _) _).grown HG.out (by simp) ?_
    intro k hk
    simp [Value.ownBlock] at hk
    omega

theorem infoEnt : (Tryz.prog.info? 42).map (fun i => (i.zero, i.size, i.bytes)) = some (some (.agg #[.slice none 0 0, .int .i64 0, .int .i64 0, .string ⟨#[]⟩, .slice none 0 0, .slice none 0 0]), 6, 104) := by kernel_rfl
set_option maxHeartbeats 1000000 in
theorem cloneEnt_any (p : Option Addr) (n c : Nat) (news : List Value) (w : World) (hl : news.length = n * 6) (hn : n ≤ 10000000) (hp : ∀ a, p = some a → ∀ j u, news[j]? = some u → w.cell? (a.add j) = some u) (h0 : p = none → n = 0) (h1 : ∀ u ∈ news, u.oneCell' = true) :
    Calls Tryz.prog 68 #[.slice p n c] w fun e w' => ∃ v', e = .returned v' ∧ w'.ownsRow w.heap.size 42 6 v' n news ∧ Below w.heap.size w w' := by
  obtain ⟨i0, hi, hz0, hz1, hz2⟩ := info_parts infoEnt
  have q22 := fun (w : World) (a : Option Addr) (n c n' c' : Nat) => Lib.run_eql_slice_nil (P := Tryz.prog) w _ _ a n c n' c' Tryz.underlying37
  cases p with
  | none =>
    obtain rfl := h0 rfl
    obtain rfl : news = [] := List.length_eq_zero_iff.1 (by omega)
    clear hp h0 h1 hl
    go_enter Tryz.func68, Tryz.ntmps68
    go_wp2_with fail
    go_ret
    exact ⟨_, rfl, World.ownsRow_nil _ _ _ _, Below.refl _ _⟩
  | some a =>
    have HA := Lib.hid (hp a rfl)
    have H1 := Lib.hid h1
    have HL := Lib.hid hl
    clear hp h0 h1 hl
    go_enter Tryz.func68, Tryz.ntmps68
    go_wp2_with (at_builtin; refine wpList_append_own _ rfl _ _ 37 rfl w.heap.size 42 i0 (.agg #[.slice none 0 0, .int .i64 0, .int .i64 0, .string ⟨#[]⟩, .slice none 0 0, .slice none 0 0]) 6 104 Tryz.underlying37 hi hz0 hz1 hz2 rfl (by decide) (.slice (some ⟨w.heap.size, 0, none⟩) 0 0) 0 [] rfl (World.ownsRow_made w #[] 0 (Nat.le_refl _) (Nat.zero_le _) (by simp)) a n c news rfl HL.out (fun j u hj => by obtain ⟨b, o, s⟩ := a; exact Lib.cell?_alloc_some _ (HA.out j u hj)) H1.out (by unfold maxLen; omega) (by omega) (by simp) ?_; intro v' w1 hown hgrow _)
    have HO := Lib.hid hown
    have HG := Lib.hid hgrow
    clear hown hgrow
    go_wp2_with fail
    go_ret
    refine ⟨v', rfl, by simpa using HO.out, ?_⟩
    refine ((Below.refl _ w).alloc (Nat.le_refl _) _).grown HG.out (by simp) ?_
    intro k hk
    simp [Value.ownBlock] at hk
    omega
end
section
open Go.RowKit

theorem own_kind {d : Dat} (h1 : plainB d = false) : ownE d = 11 := by unfold ownE; rw [if_pos h1]
theorem own_range {d : Dat} (h1 : plainB d = true) (h2 : badNum d = true) : ownE d = 1 := by unfold ownE; rw [if_neg (by rw [h1]; decide), if_pos h2]
theorem own_twice {d : Dat} (h1 : plainB d = true) (h2 : badNum d = false) (h3 : ascM d.mem = false) : ownE d = 6 := by unfold ownE; rw [if_neg (by rw [h1]; decide), if_neg (by rw [h2]; decide), if_pos h3]
theorem own_none {d : Dat} (h1 : plainB d = true) (h2 : badNum d = false) (h3 : ascM d.mem = true) : ownE d = 0 := by unfold ownE; rw [if_neg (by rw [h1]; decide), if_neg (by rw [h2]; decide), if_neg (by rw [h3]; decide)]
set_option maxRecDepth 100000 in
set_option maxHeartbeats 4000000 in
theorem ownD_any {d : Dat} {vi vm : Value} {ok : Nat → Prop} {w : World} (hr : Rep w ok d vi vm) :
    Calls Tryz.prog 104 #[.agg #[.int .i64 d.k, .int .i64 d.n, .string (S d.s), vi, vm]] w fun e w' => e = .returned (.int .i64 (ownE d : Int)) ∧ Below w.heap.size w w' := by
    obtain ⟨r, hrr⟩ : ∃ r, ownE d = r := ⟨_, rfl⟩
    rw [hrr]
    have HR := Lib.hid hrr
    clear hrr
    obtain ⟨p, cap, rfl, hil, -⟩ := hr.items
    obtain ⟨q, caq, rfl, hml, hme⟩ := hr.members
    clear hr
    unfold maxLen at hil hml
    have HM := Lib.hid hme
    clear hme
    have hS : CkS w.heap.size w d (.slice p d.its.length cap) (.slice q d.mem.length caq) (w.alloc (.cells #[.int .i64 d.k, .int .i64 d.n, .string (S d.s), .slice p d.its.length cap, .slice q d.mem.length caq] 26)) := CkS.new w d _ _
    go_enter Tryz.func104, Tryz.ntmps104
    go_upto_region 1 with fail
    generalize w.alloc (.cells #[.int .i64 d.k, .int .i64 d.n, .string (S d.s), .slice p d.its.length cap, .slice q d.mem.length caq] 26) = W at hS ⊢
    obtain ⟨c0, c1, c2, c3, c4, hlw⟩ := hS.cells
    have HS := Lib.hid hS
    clear hS
    have HP := Lib.hid (plain_only d)
    go_wp2_with fail
    refine (only_any d.k d.n d.s p q d.its.length cap d.mem.length caq _).mono ?_
    rintro e w1 ⟨rfl, hb⟩
    have HS1 := Lib.hid (HS.out.below hb)
    rw [← HP.out]
    clear hb HS c0 c1 c2 c3 c4 hlw
    obtain ⟨c0, c1, c2, c3, c4, hlw⟩ := HS1.out.cells
    rcases Bool.eq_false_or_eq_true (plainB d) with hpl | hpl
    case inr =>
      rw [hpl]
      have HV := Lib.hid ((own_kind hpl).symm.trans HR.out)
      go_wp2_with fail
      go_ret
      exact ⟨by rw [← HV.out]; rfl, HS1.out.2⟩
    rw [hpl]
    have HPL := Lib.hid hpl
    clear hpl
    go_upto_region 3 with fail
    go_cut [8] (fun v wx => v = .bool (badV d.k d.n) ∧ Hid (CkS w.heap.size w d (.slice p d.its.length cap) (.slice q d.mem.length caq) wx))
    case first =>
      rcases bad_ways d.k d.n with ⟨t1, t2, t3, tv⟩ | ⟨t1, t2, t3, t4, tv⟩ | ⟨t1, t2, t3, tv⟩ | ⟨t1, t2, tv⟩ | ⟨t1, t2, tv⟩
      all_goals
        have TV := Lib.hid tv
        clear tv
        go_wp2_with (go_at_call 132; refine (dVld_any _ _).mono ?_; rintro e w' ⟨rfl, rfl⟩)
        go_meet
        exact ⟨by rw [TV.out], HS1⟩
    case rest =>
      obtain ⟨rfl, HS2⟩ := hcut
      have HB0 := Lib.hid (badNum_eq d)
      clear c0 c1 c2 c3 c4 hlw HS1
      rcases Bool.eq_false_or_eq_true (badV d.k d.n) with hbv | hbv
      · rw [hbv]
        have HV := Lib.hid ((own_range HPL.out (HB0.out.trans hbv)).symm.trans HR.out)
        go_wp2_with fail
        go_ret
        exact ⟨by rw [← HV.out]; rfl, HS2.out.2⟩
      rw [hbv]
      have HBV := Lib.hid (HB0.out.trans hbv)
      clear hbv HB0
      obtain ⟨-, -, -, c3, c4, hlw⟩ := HS2.out.cells
      go_wp2_with fail
      go_loopw [3] (fun x wr => ∃ i : Nat, x = .int .i64 ((i + 1 : Nat) : Int) ∧ (i = 0 ∨ i + 1 ≤ d.mem.length) ∧ Hid (CkS w.heap.size w d (.slice p d.its.length cap) (.slice q d.mem.length caq) wr) ∧ Hid (ascM d.mem = ascF d.mem i)) (fun x _ => d.mem.length + 1 - (intOf x).toNat)
      case atStart => exact ⟨0, rfl, .inl rfl, HS2, Lib.hid rfl⟩
      case round =>
        obtain ⟨i, rfl, hi, HC, HV⟩ := hrel
        by_cases hlt : i + 1 < d.mem.length
        · obtain ⟨B, o, xi, xm, hqq, hcap, hB, hlab, -, -⟩ := HM.out i (by omega)
          obtain ⟨B', o', ui, um, hqq', -, -, hlab', -, -⟩ := HM.out (i + 1) hlt
          have hae : B' = B ∧ o' = o := by rw [hqq] at hqq'; injection hqq' with h; injection h with h1 h2; exact ⟨h1.symm, h2.symm⟩
          obtain ⟨rfl, rfl⟩ := hae
          subst hqq
          have k0 := (HC.out.2.cell (p := ⟨B', o' + i * 6, none⟩) hB).trans hlab
          have k1 := (HC.out.2.cell (p := ⟨B', o' + (i + 1) * 6, none⟩) hB).trans hlab'
          have HV1 := Lib.hid (HV.out.trans (ascF_step hlt))
          clear hqq' hlab hlab' HV
          generalize (d.mem[i]'(by omega)).1 = x at k0 HV1
          generalize d.mem[i + 1].1 = y at k1 HV1
          obtain ⟨-, -, -, c3, c4, hlw⟩ := HC.out.cells
          have b0 : (0 : Int) ≤ ((i + 1 : Nat) : Int) - 1 := by omega
          have b1 : ((i + 1 : Nat) : Int) - 1 < (d.mem.length : Int) := by omega
          have b2 : (((i + 1 : Nat) : Int) - 1).toNat = i := by omega
          go_wp2_with fail
          go_quiet (fail)
          have HC2 := Lib.hid (HC.out.drewN nq)
          rcases Bool.eq_false_or_eq_true (Op.bytesLess x y) with hxy | hxy
          · have HV2 := Lib.hid (show ascM d.mem = ascF d.mem (i + 1) by rw [HV1.out, hxy]; rfl)
            rw [hxy, Bool.not_true]
            go_wp2_with fail
            go_roundw
            case rel => exact ⟨i + 1, by go_num, .inr hlt, HC2, HV2⟩
            case measure => simp [intOf]; omega
          · have HV2 := Lib.hid (show ascM d.mem = false by rw [HV1.out, hxy]; rfl)
            rw [hxy, Bool.not_false]
            have HV3 := Lib.hid ((own_twice HPL.out HBV.out HV2.out).symm.trans HR.out)
            go_wp2_with fail
            go_ret
            exact ⟨by rw [← HV3.out]; rfl, HC2.out.2⟩
        · have HV1 := Lib.hid (HV.out.trans (ascF_end (by omega)))
          clear HV
          have HV2 := Lib.hid ((own_none HPL.out HBV.out HV1.out).symm.trans HR.out)
          obtain ⟨-, -, -, c3, c4, hlw⟩ := HC.out.cells
          go_wp2_with fail
          go_ret
          exact ⟨by rw [← HV2.out]; rfl, HC.out.2⟩
end
section
open Go.RowKit

theorem cells_new5 (w : World) (vs : List Value) (t : TypeId) : ∀ j u, vs[j]? = some u → (w.alloc (.cells vs.toArray t)).cell? ((⟨w.heap.size, 0, none⟩ : Addr).add j) = some u := by
  intro j u h
  rw [Addr.add_lit, Nat.zero_add, (Blk.new w vs.toArray t).cell j]
  simpa using h
theorem cells_new_at {W : World} {arr : Array Value} {vs : List Value} {t : TypeId} {N : Nat} (hN : W.heap.size = N) (ha : arr.toList = vs) : ∀ j u, vs[j]? = some u → (W.alloc (.cells arr t)).cell? ((⟨N, 0, none⟩ : Addr).add j) = some u := by
  subst hN; subst ha
  exact cells_new5 W arr.toList t
theorem own_form5 {W : World} {base : Nat} {e : TypeId} {size : Nat} {v : Value} {n : Nat} {xs : List Value} (h : W.ownsRow base e size v n xs) : ∃ p cap, v = .slice p n cap := by
  rcases h.2 with ⟨hv, h0⟩ | ⟨g, cap, cur, hv, -⟩
  · exact ⟨none, 0, by rw [hv, h0]⟩
  · exact ⟨_, cap, hv⟩
theorem flat5_len (T : List (Dat × Value × Value)) : (flat5 T).length = T.length * 5 := by
  induction T with
  | nil => rfl
  | cons t r ih => unfold flat5 at *; rw [List.flatMap_cons, List.length_append, ih]; simp [cells5]; omega
theorem Rep.one {W : World} {ok : Nat → Prop} {d : Dat} {vi vm : Value} (h : Rep W ok d vi vm) : vi.oneCell' = true ∧ vm.oneCell' = true := by
  cases h with
  | mk => exact ⟨rfl, rfl⟩
theorem flat5_one {W : World} {ok : Nat → Prop} {T : List (Dat × Value × Value)} (h : ∀ t ∈ T, Rep W ok t.1 t.2.1 t.2.2) : ∀ u ∈ flat5 T, u.oneCell' = true := by
  intro u hu
  obtain ⟨t, ht, hu⟩ := List.mem_flatMap.1 hu
  obtain ⟨h1, h2⟩ := (h t ht).one
  simp only [cells5, List.mem_cons, List.not_mem_nil, or_false] at hu
  rcases hu with rfl | rfl | rfl | rfl | rfl
  · rfl
  · rfl
  · rfl
  · exact h1
  · exact h2
/-- the items, with their values -/
theorem Rep.itemsT {W : World} {ok : Nat → Prop} {d : Dat} {vi vm : Value} (h : Rep W ok d vi vm) : ∃ (p : Option Addr) (cap : Nat) (T : List (Dat × Value × Value)), vi = .slice p T.length cap ∧ T.map (fun t => t.1) = d.its ∧ (∀ t ∈ T, Rep W ok t.1 t.2.1 t.2.2) ∧
    (p = none → T.length = 0) ∧ ∀ a, p = some a → ∀ j u, (flat5 T)[j]? = some u → W.cell? (a.add j) = some u := by
  cases h with
  | mk p q cap caq B o B' o' vi vm ui um hl hp hc hr hq hd hs =>
    have hT : (List.ofFn fun j : Fin d.its.length => (d.its[j], vi j, vm j)).length = d.its.length := by simp
    refine ⟨p, cap, List.ofFn fun j : Fin d.its.length => (d.its[j], vi j, vm j), by rw [hT], ?_, ?_, ?_, ?_⟩
    · apply List.ext_getElem (by simp)
      intro j h1 h2
      simp
    · intro t ht
      obtain ⟨j, rfl⟩ := List.mem_ofFn.1 ht
      exact hr j j.2
    · intro hp0
      rw [hT]
      rcases Nat.eq_zero_or_pos d.its.length with h | h
      · exact h
      · obtain ⟨h1, -⟩ := hp h
        rw [hp0] at h1; cases h1
    · intro a ha i u hu
      have hi : i < d.its.length * 5 := by
        have := (List.getElem?_eq_some_iff.1 hu).1
        rw [flat5_len, hT] at this; exact this
      have hj : i / 5 < d.its.length := by omega
      have hm : i % 5 < 5 := Nat.mod_lt _ (by decide)
      have e : i = i / 5 * 5 + i % 5 := by omega
      have hg := flat5_get (List.ofFn fun j : Fin d.its.length => (d.its[j], vi j, vm j)) (i / 5) (by rw [hT]; exact hj) (i % 5) hm
      rw [← e, hu] at hg
      simp only [List.getElem_ofFn] at hg
      obtain ⟨h1, -, -, -⟩ := hp (by omega)
      rw [ha] at h1
      injection h1 with h1
      subst h1
      rw [Lib.add_plain, e]
      have q1 := hc (i / 5) hj
      generalize i % 5 = r at hg hm
      generalize i / 5 = k at *
      rw [← Nat.add_assoc]
      match r, hm, hg with
      | 0, _, hg => injection hg with hg; rw [hg]; exact q1.c0
      | 1, _, hg => injection hg with hg; rw [hg]; exact q1.c1
      | 2, _, hg => injection hg with hg; rw [hg]; exact q1.c2
      | 3, _, hg => injection hg with hg; rw [hg]; exact q1.c3
      | 4, _, hg => injection hg with hg; rw [hg]; exact q1.c4
/-- what children hands back -/
def KidS (w : World) (ok : Nat → Prop) (d : Dat) (e : Ending) (w' : World) : Prop :=
  ∃ v T, e = .returned v ∧ w'.ownsRow (w.heap.size + 1) 26 5 v T.length (flat5 T) ∧ T.map (fun t => t.1) = kids d ∧ (∀ t ∈ T, Rep w ok t.1 t.2.1 t.2.2) ∧ Below w.heap.size w w'
theorem below_own {N B : Nat} {w a b : World} {e : TypeId} {s n : Nat} {v : Value} {xs : List Value} (h : Below N w a) (ho : a.ownsRow B e s v n xs) (hg : a.grownBy b v.ownBlock) (hB : N ≤ B) (ha : N ≤ a.heap.size) : Below N w b := by
  refine h.grown hg ha ?_
  intro k hk
  rcases own_head ho with ⟨rfl, -⟩ | ⟨g, cap, rfl, hb, -, -, ek⟩
  · simp [Value.ownBlock] at hk
  · rw [ek] at hk; injection hk with hk; omega
theorem ck_own {N B : Nat} {w a b : World} {d : Dat} {vi vm : Value} {e : TypeId} {s n : Nat} {v : Value} {xs : List Value} (h : CkS N w d vi vm a) (ho : a.ownsRow B e s v n xs) (hg : a.grownBy b v.ownBlock) (hB : N < B) : CkS N w d vi vm b := by
  refine ⟨h.1.kept hg ?_, below_own h.2 ho hg (by omega) (Nat.le_of_lt h.1.lt)⟩
  intro hk
  rcases own_head ho with ⟨rfl, -⟩ | ⟨g, cap, rfl, hb, -, -, ek⟩
  · simp [Value.ownBlock] at hk
  · rw [ek] at hk; injection hk with hk; omega
theorem CkS.alloc {N : Nat} {w W : World} {d : Dat} {vi vm : Value} (h : CkS N w d vi vm W) (o : Obj) : CkS N w d vi vm (W.alloc o) := h.below ((Below.refl _ _).alloc (Nat.le_refl _) _)
theorem take_kid {d : Dat} {i : Nat} (h : i < d.mem.length) : (d.mem.take (i + 1)).map (fun p => p.2) = (d.mem.take i).map (fun p => p.2) ++ [d.mem[i].2] := by
  rw [List.take_succ_eq_append_getElem h, List.map_append]; rfl
set_option maxRecDepth 100000 in
set_option maxHeartbeats 4000000 in
theorem children_any {d : Dat} {vi vm : Value} {ok : Nat → Prop} {w : World} (hr : Rep w ok d vi vm) (hlim : limD d = true) :
    Calls Tryz.prog 105 #[.agg #[.int .i64 d.k, .int .i64 d.n, .string (S d.s), vi, vm]] w (KidS w ok d) := by
  obtain ⟨i0, hi, hz0, hz1, hz2⟩ := info_parts infoDat
  obtain ⟨hl1, hl2, -⟩ := lim_len hlim
  obtain ⟨q, caq, rfl, -, hme⟩ := hr.members
  obtain ⟨p, cap, T, rfl, hT, hrep, h0, hcell⟩ := hr.itemsT
  clear hr hlim
  have hTl : T.length = d.its.length := by rw [← hT]; simp
  have hT1 : T.length ≤ 1000000 := by omega
  have HM := Lib.hid hme
  have HT := Lib.hid (And.intro hT hrep)
  have HC := Lib.hid (And.intro h0 hcell)
  clear hme hT hrep h0 hcell hTl hl1
  go_enter Tryz.func105, Tryz.ntmps105
  go_upto_region 1 with fail
  have hS : CkS w.heap.size w d (.slice p T.length cap) (.slice q d.mem.length caq) (w.alloc (.cells #[.int .i64 d.k, .int .i64 d.n, .string (S d.s), .slice p T.length cap, .slice q d.mem.length caq] 26)) := CkS.new w d _ _
  have HCl := Lib.hid (cloneDat_any p T.length cap (flat5 T) (w.alloc (.cells #[.int .i64 d.k, .int .i64 d.n, .string (S d.s), .slice p T.length cap, .slice q d.mem.length caq] 26)) (flat5_len T) (by omega) (fun a ha j u hu => by obtain ⟨b, o, s⟩ := a; exact Lib.cell?_alloc_some _ (HC.out.2 _ ha j u hu)) HC.out.1 (flat5_one HT.out.2))
  have hsz : (w.alloc (.cells #[.int .i64 d.k, .int .i64 d.n, .string (S d.s), .slice p T.length cap, .slice q d.mem.length caq] 26)).heap.size = w.heap.size + 1 := by simp
  have HZ := Lib.hid hsz
  clear hsz
  generalize w.alloc (.cells #[.int .i64 d.k, .int .i64 d.n, .string (S d.s), .slice p T.length cap, .slice q d.mem.length caq] 26) = W at hS HCl HZ ⊢
  obtain ⟨c0, c1, c2, c3, c4, hlw⟩ := hS.cells
  have HS := Lib.hid hS
  clear hS
  go_wp2_with fail
  refine HCl.out.mono ?_
  rintro e w1 ⟨v, rfl, hown, hb⟩
  have HO := hown
  rw [HZ.out] at HO
  have HO := Lib.hid HO
  have HS1 := Lib.hid (HS.out.below hb)
  clear hown hb HCl
  obtain ⟨d0, d1, d2, d3, d4, dlw⟩ := HS1.out.cells
  clear c0 c1 c2 c3 c4 hlw
  go_wp2_with fail
  obtain ⟨d0, d1, d2, d3, d4, dlw⟩ := HS1.out.cells
  clear HS HC
  go_loopw [3, 12] (fun v x wr => ∃ (i : Nat) (U : List (Dat × Value × Value)), x = .int .i64 (i : Int) ∧ i ≤ d.mem.length ∧ U.length ≤ 1000000 + i ∧ Hid (CkS w.heap.size w d (.slice p T.length cap) (.slice q d.mem.length caq) wr) ∧ Hid (wr.ownsRow (w.heap.size + 1) 26 5 v U.length (flat5 U)) ∧ Hid (U.map (fun t => t.1) = d.its ++ (d.mem.take i).map (fun p => p.2) ∧ ∀ t ∈ U, Rep w ok t.1 t.2.1 t.2.2)) (fun _ x _ => d.mem.length - (intOf x).toNat)
  case atStart => exact ⟨0, T, rfl, Nat.zero_le _, by omega, HS1, HO, Lib.hid ⟨by rw [HT.out.1]; simp, HT.out.2⟩⟩
  case round =>
    clear HO HS1 HT hT1 d0 d1 d2 d3 d4 dlw
    obtain ⟨i, U, rfl, hi', hU, HC, HO, HT⟩ := hrel
    obtain ⟨vp, vc, rfl⟩ := own_form5 HO.out
    by_cases hlt : i < d.mem.length
    · obtain ⟨B, o, xi, xm, rfl, hcap, hB, hlab, hc, hx⟩ := HM.out i hlt
      obtain ⟨k0, k1, k2, k3, k4⟩ := hc.below HC.out.2 hB
      have k5 := (HC.out.2.cell (p := ⟨B, o + i * 6, none⟩) hB).trans hlab
      obtain ⟨p1, cap1, rfl, -, -⟩ := hx.items
      obtain ⟨q1, caq1, rfl, -, -⟩ := hx.members
      have HX := Lib.hid hx
      have HK := Lib.hid (take_kid hlt)
      obtain ⟨-, -, -, -, c4, hlw⟩ := HC.out.cells
      clear hc hx hlab
      generalize d.mem[i] = y at k0 k1 k2 k3 k4 k5 HX HK
      obtain ⟨l, x⟩ := y
      simp only at k0 k1 k2 k3 k4 k5 HX HK
      go_wp2_with (at_builtin; refine wpList_append_own _ rfl _ _ 23 rfl (w.heap.size + 1) 26 i0 (.agg #[.int .i64 0, .int .i64 0, .string ⟨#[]⟩, .slice none 0 0, .slice none 0 0]) 5 80 Tryz.underlying23 hi hz0 hz1 hz2 rfl (by decide) (.slice vp U.length vc) U.length (flat5 U) rfl ((HO.out.alloc _).alloc _) ⟨wr.heap.size + 1, 0, none⟩ 1 1 (cells5 (x, .slice p1 x.its.length cap1, .slice q1 x.mem.length caq1)) rfl rfl (cells_new_at (by simp) rfl) (by simp [cells5, Value.oneCell']) (by unfold maxLen; omega) (by omega) (by simp; omega) ?_; intro v' w2 hown2 hgrow _)
      have HC3 := Lib.hid (ck_own ((HC.out.alloc _).alloc _) ((HO.out.alloc _).alloc _) hgrow (Nat.lt_succ_self _))
      have HO3 := hown2
      rw [← flat5_snoc, show U.length + 1 = (U ++ [(x, Value.slice p1 x.its.length cap1, Value.slice q1 x.mem.length caq1)]).length by simp] at HO3
      have HO3 := Lib.hid HO3
      clear hown2 hgrow
      go_wp2_with fail
      go_roundw
      case rel =>
        · refine ⟨i + 1, U ++ [(x, Value.slice p1 x.its.length cap1, Value.slice q1 x.mem.length caq1)], by go_num, hlt, by simp; omega, HC3, HO3, Lib.hid ⟨?_, ?_⟩⟩
          · rw [HK.out, List.map_append, HT.out.1, List.append_assoc]; rfl
          · intro t ht
            rcases List.mem_append.1 ht with ht | ht
            · exact HT.out.2 t ht
            · rw [List.mem_singleton.1 ht]; exact HX.out
      case measure => simp [intOf]; omega
    · have hil : i = d.mem.length := by omega
      have HK := Lib.hid (show U.map (fun t => t.1) = kids d by rw [HT.out.1, hil, List.take_length]; rfl)
      clear hil
      go_wp2_with fail
      go_ret
      exact ⟨_, U, rfl, HO.out, HK.out, HT.out.2, HC.out.2⟩
set_option maxRecDepth 100000 in
set_option maxHeartbeats 4000000 in
theorem check_any (m : Nat) : ∀ (d : Dat), SizeOf.sizeOf d < m → ∀ (lv : Nat), lv ≤ 17 → ∀ (vi vm : Value) (ok : Nat → Prop) (w : World), limD d = true → Rep w ok d vi vm →
    Calls Tryz.prog 59 #[.agg #[.int .i64 d.k, .int .i64 d.n, .string (S d.s), vi, vm], .int .i64 (lv : Int)] w fun e w' => e = .returned (.int .i64 (chk d lv : Int)) ∧ Below w.heap.size w w' := by
  induction m with
  | zero => intro d h; exact absurd h (Nat.not_lt_zero _)
  | succ m ih =>
    intro d hd lv hlv vi vm ok w hlim hr
    obtain ⟨r, hrr⟩ : ∃ r, chk d lv = r := ⟨_, rfl⟩
    rw [hrr]
    have HR := Lib.hid ((chk_kids d lv).symm.trans hrr)
    have IH := Lib.hid ih
    have HREP := Lib.hid hr
    have HLIM := Lib.hid hlim
    have HD := Lib.hid hd
    clear hrr ih hr hlim hd
    have hS : CkS w.heap.size w d vi vm (w.alloc (.cells #[.int .i64 d.k, .int .i64 d.n, .string (S d.s), vi, vm] 26)) := CkS.new w d _ _
    by_cases h16 : 16 < lv
    · have HV := Lib.hid (show 9 = r by rw [← HR.out, if_pos h16])
      have HS := Lib.hid hS
      clear hS
      go_enter Tryz.func59, Tryz.ntmps59
      go_wp2_with fail
      go_ret
      exact ⟨by rw [← HV.out]; rfl, HS.out.2⟩
    have HR0 := HR.out
    rw [if_neg h16] at HR0
    have HR1 := Lib.hid HR0
    clear HR HR0
    go_enter Tryz.func59, Tryz.ntmps59
    go_upto_region 1 with fail
    generalize w.alloc (.cells #[.int .i64 d.k, .int .i64 d.n, .string (S d.s), vi, vm] 26) = W at hS ⊢
    obtain ⟨c0, c1, c2, c3, c4, hlw⟩ := hS.cells
    have HS := Lib.hid hS
    clear hS
    go_wp2_with fail
    refine (ownD_any (HREP.out.under HS.out.2)).mono ?_
    rintro e w1 ⟨rfl, hb⟩
    have HS1 := Lib.hid (HS.out.below hb)
    clear hb HS c0 c1 c2 c3 c4 hlw
    obtain ⟨c0, c1, c2, c3, c4, hlw⟩ := HS1.out.cells
    rcases Nat.eq_zero_or_pos (ownE d) with ho | ho
    case inr =>
      have HV0 := HR1.out
      rw [if_neg (by omega : ¬ ownE d = 0)] at HV0
      have HV := Lib.hid HV0
      clear HV0
      generalize ownE d = z at ho HV HR1 ⊢
      have ez : ((z : Int) == 0) = false := beq_eq_false_iff_ne.2 (by omega)
      have ez' : ((z : Int) != 0) = true := by simpa using (by omega : ¬ z = 0)
      go_wp2_with fail
      go_ret
      exact ⟨by rw [HV.out]; rfl, HS1.out.2⟩
    have HV0 := HR1.out
    rw [if_pos ho] at HV0
    have HV := Lib.hid (show chkI ((kids d).drop 0) (lv + 1) = r from HV0)
    clear HV0
    rw [ho]
    clear ho HR1
    go_wp2_with fail
    refine (children_any (HREP.out.under HS1.out.2) HLIM.out).mono ?_
    rintro e w2 ⟨v, T, rfl, hown, hT, hrep, hb⟩
    have HS2 := Lib.hid (HS1.out.below hb)
    clear c0 c1 c2 c3 c4 hlw
    obtain ⟨p, cap, B, rfl, hcell⟩ := own5 hown
    have HCE := Lib.hid hcell
    have HT := Lib.hid hT
    have HRP := Lib.hid (fun t ht => (hrep t ht).under hb)
    have hTl : T.length = (kids d).length := by rw [← hT]; simp
    have hTm : T.length ≤ 2000000 := by
      have := lim_len HLIM.out
      rw [hTl, kids_len]; omega
    have HTL := Lib.hid hTl
    clear hown hT hrep hcell hb hTl
    go_wp2_with fail
    go_loopw [19] (fun x wr => ∃ i : Nat, x = .int .i64 (i : Int) ∧ i ≤ T.length ∧ Hid (Below w.heap.size w wr) ∧ Hid (Below w2.heap.size w2 wr) ∧ Hid (chkI ((kids d).drop i) (lv + 1) = r)) (fun x _ => T.length - (intOf x).toNat)
    case atStart => exact ⟨0, rfl, Nat.zero_le _, Lib.hid HS2.out.2, Lib.hid (Below.refl _ _), HV⟩
    case round =>
      obtain ⟨i, rfl, hi, HB, HB2, HV⟩ := hrel
      by_cases hlt : i < T.length
      · obtain ⟨rfl, hcap, hB0, hB, hc⟩ := HCE.out i hlt
        have hik : i < (kids d).length := by have := HTL.out; omega
        have hTi : T[i].1 = (kids d)[i] := by
          have := HT.out
          have h2 : (T.map fun t => t.1)[i]'(by simpa using hlt) = (kids d)[i] := by congr 1
          simpa using h2
        have HV0 := HV.out
        rw [chkI_step hik, ← hTi] at HV0
        have HV1 := Lib.hid HV0
        clear HV0
        have hsz := Nat.lt_of_lt_of_le (kid_lt (List.getElem_mem hik)) (Nat.le_of_lt_succ HD.out)
        rw [← hTi] at hsz
        have HL := Lib.hid hsz
        have hkl := kid_lim HLIM.out (List.getElem_mem hik)
        rw [← hTi] at hkl
        have HKL := Lib.hid hkl
        have HX := Lib.hid ((HRP.out T[i] (List.getElem_mem hlt)).under HB2.out)
        obtain ⟨k0, k1, k2, k3, k4⟩ := hc.below HB2.out hB
        clear hc hTi hsz hkl hik HV
        generalize T[i] = t at k0 k1 k2 k3 k4 HV1 HL HX HKL
        obtain ⟨x, xi, xm⟩ := t
        simp only at k0 k1 k2 k3 k4 HV1 HL HX HKL
        obtain ⟨p1, cap1, rfl, -, -⟩ := HX.out.items
        obtain ⟨q1, caq1, rfl, -, -⟩ := HX.out.members
        go_wp2_with fail
        refine (IH.out x HL.out (lv + 1) (by omega) _ _ ok _ HKL.out (HX.out.under ((Below.refl _ wr).alloc (Nat.le_refl _) _))).mono ?_
        rintro e w3 ⟨rfl, hb⟩
        have HB3 := Lib.hid ((((HB.out.alloc HB.out.size _)).trans (hb.mono (by have := HB.out.size; simp; omega))))
        have HB4 := Lib.hid ((((HB2.out.alloc HB2.out.size _)).trans (hb.mono (by have := HB2.out.size; simp; omega))))
        clear hb
        rcases Nat.eq_zero_or_pos (chk x (lv + 1)) with hl | hl
        · have HV0 := HV1.out
          rw [if_pos hl] at HV0
          have HV2 := Lib.hid HV0
          clear HV0
          rw [hl]
          clear hl
          go_wp2_with fail
          go_roundw
          case rel => exact ⟨i + 1, by go_num, hlt, HB3, HB4, HV2⟩
          case measure => simp [intOf]; omega
        · have HV0 := HV1.out
          rw [if_neg (by omega : ¬ chk x (lv + 1) = 0)] at HV0
          have HV2 := Lib.hid HV0
          clear HV0
          generalize chk x (lv + 1) = z at hl HV2 HV1 ⊢
          have ez : ((z : Int) == 0) = false := beq_eq_false_iff_ne.2 (by omega)
          have ez' : ((z : Int) != 0) = true := by simpa using (by omega : ¬ z = 0)
          go_wp2_with fail
          go_ret
          exact ⟨by rw [HV2.out]; rfl, HB3.out⟩
      · have HV1 := Lib.hid (show 0 = r by rw [← HV.out, chkI_done (by have := HTL.out; omega)])
        clear HV
        go_wp2_with fail
        go_ret
        exact ⟨by rw [← HV1.out]; rfl, HB.out⟩
theorem Check_any {d : Dat} {vi vm : Value} {ok : Nat → Prop} {w : World} (hr : Rep w ok d vi vm) (hlim : limD d = true) : Calls Tryz.prog 33 #[.agg #[.int .i64 d.k, .int .i64 d.n, .string (S d.s), vi, vm]] w fun e w' => e = .returned (.int .i64 (chk d 1 : Int)) ∧ Below w.heap.size w w' := by
  have HW := Lib.hid (fun w' (hb : Below w.heap.size w w') => check_any (SizeOf.sizeOf d + 1) d (Nat.lt_succ_self _) 1 (by omega) vi vm ok w' hlim (hr.under hb))
  clear hr hlim
  have e1 : ((1 : Nat) : Int) = 1 := rfl
  simp only [e1] at HW
  generalize chk d 1 = r at HW ⊢
  go_enter Tryz.func33, Tryz.ntmps33
  go_upto_region 1 with fail
  have hS : CkS w.heap.size w d vi vm (w.alloc (.cells #[.int .i64 d.k, .int .i64 d.n, .string (S d.s), vi, vm] 26)) := CkS.new w d _ _
  generalize w.alloc (.cells #[.int .i64 d.k, .int .i64 d.n, .string (S d.s), vi, vm] 26) = W at hS ⊢
  obtain ⟨c0, c1, c2, c3, c4, hlw⟩ := hS.cells
  have HS0 := Lib.hid hS
  clear hS
  go_wp2_with fail
  refine (HW.out _ HS0.out.2).mono ?_
  rintro e w1 ⟨rfl, hb⟩
  have HB := Lib.hid (HS0.out.below hb).2
  clear hb HS0 c0 c1 c2 c3 c4 hlw
  go_wp2_with fail
  go_ret
  exact ⟨rfl, HB.out⟩
end
section
open Go.RowKit

def dz : Value := .agg #[.int .i64 0, .int .i64 0, .string (S []), .slice none 0 0, .slice none 0 0]
def FindE (w : World) (ok : Nat → Prop) (e : Ending) : Option Dat → Prop
  | none => e = .returned (.tuple #[dz, .bool false])
  | some x => ∃ xi xm, e = .returned (.tuple #[dv x xi xm, .bool true]) ∧ Rep w ok x xi xm
theorem findM_drop {lab : List UInt8} {mem : List (List UInt8 × Dat)} {i : Nat} (h : i < mem.length) : findM lab (mem.drop i) = if mem[i].1 = lab then some mem[i].2 else findM lab (mem.drop (i + 1)) := by
  rw [List.drop_eq_getElem_cons h]
  obtain ⟨l, x⟩ := mem[i]
  rw [findM]
theorem findM_over {lab : List UInt8} {mem : List (List UInt8 × Dat)} {i : Nat} (h : mem.length ≤ i) : findM lab (mem.drop i) = none := by
  rw [List.drop_of_length_le h, findM]
set_option maxRecDepth 100000 in
set_option maxHeartbeats 2000000 in
theorem refFind_any {mem : List (List UInt8 × Dat)} {q : Option Addr} {caq : Nat} {ok : Nat → Prop} {w : World} (hml : mem.length ≤ maxLen)
    (hme : ∀ (j : Nat) (h : j < mem.length), ∃ B o xi xm, q = some ⟨B, o, none⟩ ∧ mem.length ≤ caq ∧ B < w.heap.size ∧ w.cell? ⟨B, o + j * 6, none⟩ = some (.string (S mem[j].1)) ∧ DCell w B (o + j * 6 + 1) mem[j].2 xi xm ∧ Rep w ok mem[j].2 xi xm) (lab : List UInt8) :
    Calls Tryz.prog 79 #[.slice q mem.length caq, .string (S lab)] w fun e w' => FindE w ok e (findM lab mem) ∧ Below w.heap.size w w' := by
  obtain ⟨r, hrr⟩ : ∃ r, findM lab mem = r := ⟨_, rfl⟩
  rw [hrr]
  have HR := Lib.hid (show findM lab (mem.drop 0) = r from hrr)
  clear hrr
  unfold maxLen at hml
  have HM := Lib.hid hme
  clear hme
  go_enter Tryz.func79, Tryz.ntmps79
  go_upto_region 1 with fail
  have hS : CkS w.heap.size w dat0 (.slice none 0 0) (.slice none 0 0) (w.alloc (.cells #[.int .i64 0, .int .i64 0, .string (S []), .slice none 0 0, .slice none 0 0] 26)) := CkS.new w dat0 _ _
  change CkS w.heap.size w dat0 (.slice none 0 0) (.slice none 0 0) (w.alloc (.cells #[.int .i64 0, .int .i64 0, .string ⟨#[]⟩, .slice none 0 0, .slice none 0 0] 26)) at hS
  generalize w.alloc (.cells #[.int .i64 0, .int .i64 0, .string ⟨#[]⟩, .slice none 0 0, .slice none 0 0] 26) = W at hS ⊢
  have HS := Lib.hid hS
  clear hS
  go_wp2_with fail
  go_loopw [6] (fun x wr => ∃ i : Nat, x = .int .i64 (i : Int) ∧ i ≤ mem.length ∧ wr = W ∧ Hid (findM lab (mem.drop i) = r)) (fun x _ => mem.length - (intOf x).toNat)
  case atStart => exact ⟨0, rfl, Nat.zero_le _, rfl, HR⟩
  case round =>
    obtain ⟨i, rfl, hi, rfl, HV⟩ := hrel
    obtain ⟨z0, z1, z2, z3, z4, hlw⟩ := HS.out.cells
    have y0 := HS.out.1.frozen 0
    have y1 := HS.out.1.frozen 1
    have y2 := HS.out.1.frozen 2
    have y3 := HS.out.1.frozen 3
    have y4 := HS.out.1.frozen 4
    by_cases hlt : i < mem.length
    · obtain ⟨B, o, xi, xm, rfl, hcap, hB, hlab, hc, hx⟩ := HM.out i hlt
      obtain ⟨p1, cap1, rfl, -, -⟩ := hx.items
      obtain ⟨q1, caq1, rfl, -, -⟩ := hx.members
      obtain ⟨k0, k1, k2, k3, k4⟩ := hc.below HS.out.2 hB
      have k5 := (HS.out.2.cell (p := ⟨B, o + i * 6, none⟩) hB).trans hlab
      have HX := Lib.hid hx
      have HV1 := Lib.hid ((findM_drop hlt).symm.trans HV.out)
      clear hc hx HV hlab
      generalize mem[i] = y at k0 k1 k2 k3 k4 k5 HX HV1
      obtain ⟨l, x⟩ := y
      simp only at k0 k1 k2 k3 k4 k5 HX HV1
      by_cases hl : l = lab
      · have t1 : (l == lab) = true := by simpa using hl
        have HV2 := Lib.hid (show some x = r by rw [← HV1.out, if_pos hl])
        clear hl
        go_wp2_with fail
        refine bodyPost_ret (v := .tuple #[dv x (.slice p1 x.its.length cap1) (.slice q1 x.mem.length caq1), .bool true]) (by simp [results, Tryz.results79, go_sem, dv, show S [] = ⟨#[]⟩ from rfl, z0, z1, z2, z3, z4, y0, y1, y2, y3, y4, hlw]) rfl ⟨?_, ?_⟩
        · rw [← HV2.out]; exact ⟨_, _, rfl, HX.out⟩
        · exact ((((HS.out.2.setCell (Nat.le_refl _) _).setCell (Nat.le_refl _) _).setCell (Nat.le_refl _) _).setCell (Nat.le_refl _) _).setCell (Nat.le_refl _) _
      · have t1 : (l == lab) = false := by simpa using hl
        have HV2 := Lib.hid (show findM lab (mem.drop (i + 1)) = r by rw [← HV1.out, if_neg hl])
        clear hl
        go_wp2_with fail
        go_roundw
        case rel => exact ⟨i + 1, by go_num, hlt, by first | rfl | trivial, HV2⟩
        case measure => simp [intOf]; omega
    · have HV1 := Lib.hid (show none = r by rw [← HV.out, findM_over (by omega)])
      clear HV
      go_wp2_with fail
      refine bodyPost_ret (v := .tuple #[dz, .bool false]) (by simp [results, Tryz.results79, go_sem, dz, show S [] = ⟨#[]⟩ from rfl, z0, z1, z2, z3, z4, y0, y1, y2, y3, y4, hlw]) rfl ⟨?_, ?_⟩
      · rw [← HV1.out]; exact (rfl : _ = _)
      · exact ((((HS.out.2.setCell (Nat.le_refl _) _).setCell (Nat.le_refl _) _).setCell (Nat.le_refl _) _).setCell (Nat.le_refl _) _).setCell (Nat.le_refl _) _
end
section
open Go.RowKit

theorem insNone_any (p : Option Addr) (cap : Nat) (f : Value) (w : World) : Calls Tryz.prog 195 #[.slice p 0 cap, .int .i64 0, .int .i64 0, f] w fun e w' => e = .returned (.tuple #[]) ∧ w = w' := by
  go_enter Tryz.func195, Tryz.ntmps195
  go_wp2_with fail
  refine wp_loop_rounds 1 ?_
  rw [rounds_succ]
  go_wp2_with fail
  go_end0
  exact ⟨rfl, rfl⟩
theorem stableNone_any (p : Option Addr) (cap : Nat) (f : Value) (w : World) : Calls Tryz.prog 149 #[.slice p 0 cap, .int .i64 0, f] w fun e w' => e = .returned (.tuple #[]) ∧ w = w' := by
  go_enter Tryz.func149, Tryz.ntmps149
  go_wp2_with fail
  refine wp_loop_rounds 1 ?_
  rw [rounds_succ]
  go_wp2_with (go_at_call 195; refine (insNone_any _ _ _ _).mono ?_; rintro e w' ⟨rfl, rfl⟩)
  refine wp_loop_rounds 1 ?_
  rw [rounds_succ]
  go_wp2_with fail
  go_end0
  exact ⟨rfl, rfl⟩
theorem sortNone_any (p : Option Addr) (cap : Nat) (f : Value) (w : World) : Calls Tryz.prog 108 #[.slice p 0 cap, f] w fun e w' => e = .returned (.tuple #[]) ∧ w = w' := by
  go_enter Tryz.func108, Tryz.ntmps108
  go_wp2_with (go_at_call 149; refine (stableNone_any _ _ _ _).mono ?_; rintro e w' ⟨rfl, rfl⟩)
  go_end0
  exact ⟨rfl, rfl⟩
/-- what clean hands back of a leaf -/
def ClnE (w : World) (d : Dat) (e : Ending) (w' : World) : Prop := e = .returned (dv d (.slice none 0 0) (.slice none 0 0)) ∧ Below w.heap.size w w'
theorem dat_leaf {d : Dat} (hi : d.its = []) (hm : d.mem = []) : d = .mk d.k d.n d.s [] [] := by
  obtain ⟨k, n, s, its, mem⟩ := d
  have h1 : its = [] := hi
  have h2 : mem = [] := hm
  subst h1; subst h2; rfl
theorem clean_1 (p q : Option Addr) (cap caq : Nat) (w : World) :
    Calls Tryz.prog 66 #[.agg #[.int .i64 1, .int .i64 0, .string (S []), .slice p 0 cap, .slice q 0 caq], .int .i64 1] w (ClnE w (.mk 1 0 [] [] [])) := by
  go_enter Tryz.func66, Tryz.ntmps66
  go_wp2_with fail
  refine bodyPost_ret (v := dv (.mk 1 0 [] [] []) (.slice none 0 0) (.slice none 0 0)) (by simp [results, Tryz.results66, go_sem, dv, Dat.k, Dat.n, Dat.s, show S [] = ⟨#[]⟩ from rfl]) rfl ⟨rfl, ?_⟩
  go_grown
theorem clean_2 (n : Int) (p q : Option Addr) (cap caq : Nat) (w : World) :
    Calls Tryz.prog 66 #[.agg #[.int .i64 2, .int .i64 n, .string (S []), .slice p 0 cap, .slice q 0 caq], .int .i64 1] w (ClnE w (.mk 2 n [] [] [])) := by
  go_enter Tryz.func66, Tryz.ntmps66
  go_wp2_with fail
  refine bodyPost_ret (v := dv (.mk 2 n [] [] []) (.slice none 0 0) (.slice none 0 0)) (by simp [results, Tryz.results66, go_sem, dv, Dat.k, Dat.n, Dat.s, show S [] = ⟨#[]⟩ from rfl]) rfl ⟨rfl, ?_⟩
  go_grown
theorem clean_3 (n : Int) (p q : Option Addr) (cap caq : Nat) (w : World) :
    Calls Tryz.prog 66 #[.agg #[.int .i64 3, .int .i64 n, .string (S []), .slice p 0 cap, .slice q 0 caq], .int .i64 1] w (ClnE w (.mk 3 n [] [] [])) := by
  go_enter Tryz.func66, Tryz.ntmps66
  go_wp2_with fail
  refine bodyPost_ret (v := dv (.mk 3 n [] [] []) (.slice none 0 0) (.slice none 0 0)) (by simp [results, Tryz.results66, go_sem, dv, Dat.k, Dat.n, Dat.s, show S [] = ⟨#[]⟩ from rfl]) rfl ⟨rfl, ?_⟩
  go_grown
theorem clean_4 (s : List UInt8) (p q : Option Addr) (cap caq : Nat) (w : World) :
    Calls Tryz.prog 66 #[.agg #[.int .i64 4, .int .i64 0, .string (S s), .slice p 0 cap, .slice q 0 caq], .int .i64 1] w (ClnE w (.mk 4 0 s [] [])) := by
  go_enter Tryz.func66, Tryz.ntmps66
  go_wp2_with fail
  refine bodyPost_ret (v := dv (.mk 4 0 s [] []) (.slice none 0 0) (.slice none 0 0)) (by simp [results, Tryz.results66, go_sem, dv, Dat.k, Dat.n, Dat.s, show S [] = ⟨#[]⟩ from rfl]) rfl ⟨rfl, ?_⟩
  go_grown
theorem clean_5 (p q : Option Addr) (cap caq : Nat) (w : World) :
    Calls Tryz.prog 66 #[.agg #[.int .i64 5, .int .i64 0, .string (S []), .slice p 0 cap, .slice q 0 caq], .int .i64 1] w (ClnE w (.mk 5 0 [] [] [])) := by
  go_enter Tryz.func66, Tryz.ntmps66
  go_wp2_with fail
  refine wp_loop_rounds 1 ?_
  rw [rounds_succ]
  go_wp2_with fail
  refine bodyPost_ret (v := dv (.mk 5 0 [] [] []) (.slice none 0 0) (.slice none 0 0)) (by simp [results, Tryz.results66, go_sem, dv, Dat.k, Dat.n, Dat.s, show S [] = ⟨#[]⟩ from rfl]) rfl ⟨rfl, ?_⟩
  go_grown
theorem clean_6 (p q : Option Addr) (cap caq : Nat) (w : World) :
    Calls Tryz.prog 66 #[.agg #[.int .i64 6, .int .i64 0, .string (S []), .slice p 0 cap, .slice q 0 caq], .int .i64 1] w (ClnE w (.mk 6 0 [] [] [])) := by
  go_enter Tryz.func66, Tryz.ntmps66
  go_wp2_with fail
  refine wp_loop_rounds 1 ?_
  rw [rounds_succ]
  go_wp2_with (go_at_call 108; refine (sortNone_any _ _ _ _).mono ?_; rintro e w' ⟨rfl, rfl⟩)
  refine bodyPost_ret (v := dv (.mk 6 0 [] [] []) (.slice none 0 0) (.slice none 0 0)) (by simp [results, Tryz.results66, go_sem, dv, Dat.k, Dat.n, Dat.s, show S [] = ⟨#[]⟩ from rfl]) rfl ⟨rfl, ?_⟩
  go_grown
theorem cleanLeaf_any {d : Dat} {vi vm : Value} {ok : Nat → Prop} {w : World} (hr : Rep w ok d vi vm) (hp : plainB d = true) (hi : d.its = []) (hm : d.mem = []) :
    Calls Tryz.prog 66 #[.agg #[.int .i64 d.k, .int .i64 d.n, .string (S d.s), vi, vm], .int .i64 1] w (ClnE w d) := by
  obtain ⟨p, cap, rfl, -, -⟩ := hr.items
  obtain ⟨q, caq, rfl, -, -⟩ := hr.members
  obtain ⟨⟨h1, h6⟩, h2, h4, -, -⟩ := plain_iff.1 hp
  rw [hi, hm]
  clear hr hp
  have hd := dat_leaf hi hm
  generalize d.k = k at *
  generalize d.n = n at *
  generalize d.s = s at *
  subst hd
  have hk : k = 1 ∨ k = 2 ∨ k = 3 ∨ k = 4 ∨ k = 5 ∨ k = 6 := by omega
  rcases hk with rfl | rfl | rfl | rfl | rfl | rfl
  · obtain rfl : n = 0 := by simpa using h2
    obtain rfl : s = [] := by simpa using h4
    exact clean_1 _ _ _ _ _
  · obtain rfl : s = [] := by simpa using h4
    exact clean_2 _ _ _ _ _ _
  · obtain rfl : s = [] := by simpa using h4
    exact clean_3 _ _ _ _ _ _
  · obtain rfl : n = 0 := by simpa using h2
    exact clean_4 _ _ _ _ _ _
  · obtain rfl : n = 0 := by simpa using h2
    obtain rfl : s = [] := by simpa using h4
    exact clean_5 _ _ _ _ _
  · obtain rfl : n = 0 := by simpa using h2
    obtain rfl : s = [] := by simpa using h4
    exact clean_6 _ _ _ _ _
theorem three_new (w : World) (a b c : Array Value) (t1 t2 t3 : TypeId) : Blk (((w.alloc (.cells a t1)).alloc (.cells b t2)).alloc (.cells c t3)) w.heap.size a t1 ∧ Blk (((w.alloc (.cells a t1)).alloc (.cells b t2)).alloc (.cells c t3)) (w.heap.size + 1) b t2 ∧
    Blk (((w.alloc (.cells a t1)).alloc (.cells b t2)).alloc (.cells c t3)) (w.heap.size + 1 + 1) c t3 ∧ Below w.heap.size w (((w.alloc (.cells a t1)).alloc (.cells b t2)).alloc (.cells c t3)) := by
  refine ⟨((Blk.new w a t1).alloc _).alloc _, ?_, ?_, (((Below.refl _ _).alloc (Nat.le_refl _) _).alloc (by simp) _).alloc (by simp; omega) _⟩
  · have h := (Blk.new (w.alloc (.cells a t1)) b t2).alloc (.cells c t3)
    simpa using h
  · have h := Blk.new ((w.alloc (.cells a t1)).alloc (.cells b t2)) c t3
    simpa using h
def Thr (w : World) (a b c : Array Value) (t1 t2 t3 : TypeId) (W : World) : Prop := Blk W w.heap.size a t1 ∧ Blk W (w.heap.size + 1) b t2 ∧ Blk W (w.heap.size + 1 + 1) c t3 ∧ Below w.heap.size w W
theorem Thr.below {w W W' : World} {a b c : Array Value} {t1 t2 t3 : TypeId} (h : Thr w a b c t1 t2 t3 W) (hb : Below W.heap.size W W') : Thr w a b c t1 t2 t3 W' :=
  ⟨h.1.below hb, h.2.1.below hb, h.2.2.1.below hb, h.2.2.2.trans (hb.mono h.2.2.2.size)⟩
set_option maxRecDepth 100000 in
set_option maxHeartbeats 4000000 in
theorem step_idx {d x : Dat} {vi vm : Value} {ok : Nat → Prop} {w0 w : World} (hb0 : Below w0.heap.size w0 w) (hr : Rep w0 ok d vi vm) (j : Nat) (hj : d.its[j]? = some x) :
    Calls Tryz.prog 65 #[.agg #[.int .i64 d.k, .int .i64 d.n, .string (S d.s), vi, vm], .agg #[.string (S []), .int .i64 (j : Int)]] w fun e w' => FindE w0 ok e (some x) ∧ Below w.heap.size w w' := by
  obtain ⟨p, cap, rfl, hil, hit⟩ := hr.items
  obtain ⟨q, caq, rfl, -, -⟩ := hr.members
  obtain ⟨hlt, hx⟩ := List.getElem?_eq_some_iff.1 hj
  obtain ⟨B, o, xi, xm, rfl, hcap, hB, hc, hrx⟩ := hit j hlt
  rw [hx] at hc hrx
  have hc := hc.below hb0 hB
  have hB := Nat.lt_of_lt_of_le hB hb0.size
  clear hb0
  unfold maxLen at hil
  obtain ⟨p1, cap1, rfl, -, -⟩ := hrx.items
  obtain ⟨q1, caq1, rfl, -, -⟩ := hrx.members
  have HX := Lib.hid hrx
  have hj0 : (j : Int) < (d.its.length : Int) := by omega
  clear hr hit hj hx hrx
  go_enter Tryz.func65, Tryz.ntmps65
  go_upto_region 1 with fail
  have hS := three_new w #[.int .i64 d.k, .int .i64 d.n, .string (S d.s), .slice (some ⟨B, o, none⟩) d.its.length cap, .slice q d.mem.length caq] #[.string (S []), .int .i64 (j : Int)] #[.int .i64 0, .int .i64 0, .string ⟨#[]⟩, .slice none 0 0, .slice none 0 0] 26 44 26
  change Thr w _ _ _ _ _ _ _ at hS
  generalize hW : ((w.alloc (.cells #[.int .i64 d.k, .int .i64 d.n, .string (S d.s), .slice (some ⟨B, o, none⟩) d.its.length cap, .slice q d.mem.length caq] 26)).alloc (.cells #[.string (S []), .int .i64 (j : Int)] 44)).alloc (.cells #[.int .i64 0, .int .i64 0, .string ⟨#[]⟩, .slice none 0 0, .slice none 0 0] 26) = W at hS
  clear hW
  obtain ⟨b0, b1, b2, hb⟩ := hS
  obtain ⟨k0, k1, k2, k3, k4⟩ := hc.below hb hB
  have c3 := b0.cell 3
  have s0 := b1.cell 0
  have s1 := b1.cell 1
  have z0 := b2.cell 0
  have z1 := b2.cell 1
  have z2 := b2.cell 2
  have z3 := b2.cell 3
  have z4 := b2.cell 4
  have y0 := b2.frozen 0
  have y1 := b2.frozen 1
  have y2 := b2.frozen 2
  have y3 := b2.frozen 3
  have y4 := b2.frozen 4
  simp at c3 s0 s1 z0 z1 z2 z3 z4
  have hlw := b2.lt
  have HB := Lib.hid hb
  clear b0 b1 b2 hb hc
  go_wp2_with fail
  refine bodyPost_ret (v := .tuple #[dv x (.slice p1 x.its.length cap1) (.slice q1 x.mem.length caq1), .bool true]) (by simp [results, Tryz.results65, go_sem, dv, show S [] = ⟨#[]⟩ from rfl, z0, z1, z2, z3, z4, y0, y1, y2, y3, y4, hlw]) rfl ⟨⟨_, _, rfl, HX.out⟩, ?_⟩
  exact ((((HB.out.setCell (Nat.le_add_right _ 2) _).setCell (Nat.le_add_right _ 2) _).setCell (Nat.le_add_right _ 2) _).setCell (Nat.le_add_right _ 2) _).setCell (Nat.le_add_right _ 2) _
set_option maxRecDepth 100000 in
set_option maxHeartbeats 4000000 in
theorem step_lab {d x : Dat} {vi vm : Value} {ok : Nat → Prop} {w0 w : World} (hb0 : Below w0.heap.size w0 w) (hr : Rep w0 ok d vi vm) (lab : List UInt8) (idx : Int) (hl : lab.isEmpty = false) (hj : findM lab d.mem = some x) :
    Calls Tryz.prog 65 #[.agg #[.int .i64 d.k, .int .i64 d.n, .string (S d.s), vi, vm], .agg #[.string (S lab), .int .i64 idx]] w fun e w' => FindE w0 ok e (some x) ∧ Below w.heap.size w w' := by
  obtain ⟨p, cap, rfl, -, -⟩ := hr.items
  obtain ⟨q, caq, rfl, hml, hme⟩ := hr.members
  have HR := Lib.hid (show findM lab (d.mem.drop 0) = some x from hj)
  have HM := Lib.hid hme
  have HB0 := Lib.hid hb0
  clear hb0
  unfold maxLen at hml
  clear hr hj hme
  go_enter Tryz.func65, Tryz.ntmps65
  go_upto_region 1 with fail
  have hS := three_new w #[.int .i64 d.k, .int .i64 d.n, .string (S d.s), .slice p d.its.length cap, .slice q d.mem.length caq] #[.string (S lab), .int .i64 idx] #[.int .i64 0, .int .i64 0, .string ⟨#[]⟩, .slice none 0 0, .slice none 0 0] 26 44 26
  change Thr w _ _ _ _ _ _ _ at hS
  generalize hW : ((w.alloc (.cells #[.int .i64 d.k, .int .i64 d.n, .string (S d.s), .slice p d.its.length cap, .slice q d.mem.length caq] 26)).alloc (.cells #[.string (S lab), .int .i64 idx] 44)).alloc (.cells #[.int .i64 0, .int .i64 0, .string ⟨#[]⟩, .slice none 0 0, .slice none 0 0] 26) = W at hS
  clear hW
  obtain ⟨b0, b1, b2, hb⟩ := hS
  have c4 := b0.cell 4
  have s0 := b1.cell 0
  have s1 := b1.cell 1
  simp at c4 s0 s1
  have hlw := b2.lt
  have HS := Lib.hid (show Thr w _ _ _ _ _ _ W from ⟨b0, b1, b2, hb⟩)
  clear b0 b1 b2 hb
  go_wp2_with fail
  go_loopw [39] (fun y wr => ∃ i : Nat, y = .int .i64 (i : Int) ∧ i ≤ d.mem.length ∧ Hid (Thr w #[.int .i64 d.k, .int .i64 d.n, .string (S d.s), .slice p d.its.length cap, .slice q d.mem.length caq] #[.string (S lab), .int .i64 idx] #[.int .i64 0, .int .i64 0, .string ⟨#[]⟩, .slice none 0 0, .slice none 0 0] 26 44 26 wr) ∧ Hid (findM lab (d.mem.drop i) = some x)) (fun y _ => d.mem.length - (intOf y).toNat)
  case atStart => exact ⟨0, rfl, Nat.zero_le _, HS, HR⟩
  case round =>
    clear HS c4 s0 s1 hlw
    obtain ⟨i, rfl, hi, HS, HV⟩ := hrel
    obtain ⟨b0, b1, b2, hb⟩ := HS.out
    have s0 := b1.cell 0
    have z0 := b2.cell 0
    have z1 := b2.cell 1
    have z2 := b2.cell 2
    have z3 := b2.cell 3
    have z4 := b2.cell 4
    have y0 := b2.frozen 0
    have y1 := b2.frozen 1
    have y2 := b2.frozen 2
    have y3 := b2.frozen 3
    have y4 := b2.frozen 4
    simp at s0 z0 z1 z2 z3 z4
    have hlw := b2.lt
    clear b0 b1 b2
    have HB := Lib.hid hb
    clear hb
    by_cases hlt : i < d.mem.length
    · obtain ⟨B, o, xi, xm, rfl, hcap, hB, hlab, hc, hx⟩ := HM.out i hlt
      obtain ⟨p1, cap1, rfl, -, -⟩ := hx.items
      obtain ⟨q1, caq1, rfl, -, -⟩ := hx.members
      obtain ⟨k0, k1, k2, k3, k4⟩ := hc.below (HB0.out.trans (HB.out.mono HB0.out.size)) hB
      have k5 := ((HB0.out.trans (HB.out.mono HB0.out.size)).cell (p := ⟨B, o + i * 6, none⟩) hB).trans hlab
      have hB := Nat.lt_of_lt_of_le hB HB0.out.size
      have HX := Lib.hid hx
      have HV1 := Lib.hid ((findM_drop hlt).symm.trans HV.out)
      clear hc hx HV hlab
      generalize d.mem[i] = y at k0 k1 k2 k3 k4 k5 HX HV1
      obtain ⟨l, y⟩ := y
      simp only at k0 k1 k2 k3 k4 k5 HX HV1
      have hN : Blk (wr.alloc (.cells #[.string (S l), .int .i64 y.k, .int .i64 y.n, .string (S y.s), .slice p1 y.its.length cap1, .slice q1 y.mem.length caq1] 64)) wr.heap.size #[.string (S l), .int .i64 y.k, .int .i64 y.n, .string (S y.s), .slice p1 y.its.length cap1, .slice q1 y.mem.length caq1] 64 := Blk.new wr _ _
      have hS2 := HS.out.below ((Below.refl _ _).alloc (Nat.le_refl _) (.cells #[.string (S l), .int .i64 y.k, .int .i64 y.n, .string (S y.s), .slice p1 y.its.length cap1, .slice q1 y.mem.length caq1] 64))
      clear HS
      go_upto_region 8 with fail
      generalize wr.alloc (.cells #[.string (S l), .int .i64 y.k, .int .i64 y.n, .string (S y.s), .slice p1 y.its.length cap1, .slice q1 y.mem.length caq1] 64) = w9 at hN hS2 ⊢
      clear k0 k1 k2 k3 k4 k5 s0 z0 z1 z2 z3 z4 y0 y1 y2 y3 y4 hlw HB
      have HS2 := Lib.hid hS2
      obtain ⟨b0, b1, b2, hb⟩ := hS2
      have s0 := b1.cell 0
      have z0 := b2.cell 0
      have z1 := b2.cell 1
      have z2 := b2.cell 2
      have z3 := b2.cell 3
      have z4 := b2.cell 4
      have y0 := b2.frozen 0
      have y1 := b2.frozen 1
      have y2 := b2.frozen 2
      have y3 := b2.frozen 3
      have y4 := b2.frozen 4
      have k0 := hN.cell 0
      have k1 := hN.cell 1
      have k2 := hN.cell 2
      have k3 := hN.cell 3
      have k4 := hN.cell 4
      have k5 := hN.cell 5
      simp at s0 z0 z1 z2 z3 z4 k0 k1 k2 k3 k4 k5
      have hlw := b2.lt
      have hNl := hN.lt
      have HB := Lib.hid hb
      clear b0 b1 b2 hN hb
      by_cases hl' : l = lab
      · have t1 : (l == lab) = true := by simpa using hl'
        have HV2 := Lib.hid (show some y = some x by rw [← HV1.out, if_pos hl'])
        clear hl'
        go_wp2_with fail
        refine bodyPost_ret (v := .tuple #[dv y (.slice p1 y.its.length cap1) (.slice q1 y.mem.length caq1), .bool true]) (by simp [results, Tryz.results65, go_sem, dv, show S [] = ⟨#[]⟩ from rfl, z0, z1, z2, z3, z4, y0, y1, y2, y3, y4, hlw]) rfl ⟨?_, ?_⟩
        · rw [← HV2.out]; exact ⟨_, _, rfl, HX.out⟩
        · exact ((((HB.out.setCell (Nat.le_add_right _ 2) _).setCell (Nat.le_add_right _ 2) _).setCell (Nat.le_add_right _ 2) _).setCell (Nat.le_add_right _ 2) _).setCell (Nat.le_add_right _ 2) _
      · have t1 : (l == lab) = false := by simpa using hl'
        have HV2 := Lib.hid (show findM lab (d.mem.drop (i + 1)) = some x by rw [← HV1.out, if_neg hl'])
        clear hl'
        go_wp2_with fail
        go_roundw
        case rel => exact ⟨i + 1, by go_num, hlt, HS2, HV2⟩
        case measure => simp [intOf]; omega
    · exfalso
      have h := HV.out
      rw [findM_over (by omega)] at h
      cases h
end
end Go.Proofs.YtoahmganodehkaaGreatDoor
