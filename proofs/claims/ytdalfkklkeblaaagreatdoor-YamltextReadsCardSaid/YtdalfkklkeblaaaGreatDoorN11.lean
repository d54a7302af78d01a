import Derived.Test.YtdalfkklkeblaaaGreatDoorN10
import Derived.Test.YtdalfkklkeblaaaGreatDoorN01
namespace Go.Proofs.YtdalfkklkeblaaaGreatDoor
set_option linter.unusedSimpArgs false
set_option linter.unusedVariables false
section
def clnF : Nat → Dat → Dat
 | 0, d => .mk d.k 0 [] [] []
 | f + 1, d =>
   if d.k = 2 ∨ d.k = 3 then .mk d.k d.n [] [] []
   else if d.k = 4 then .mk 4 0 d.s [] []
   else if d.k = 5 then .mk 5 0 [] (d.its.map (clnF f)) []
   else if d.k = 6 then .mk 6 0 [] [] (sortM (d.mem.map fun p => (p.1, clnF f p.2)))
   else .mk d.k 0 [] [] []
inductive Neat : Dat → Prop
 | mk {d : Dat} (hp : plainB d = true) (hn : (d.mem.map fun p => p.1).Nodup) (hi : ∀ x ∈ d.its, Neat x) (hm : ∀ p ∈ d.mem, Neat p.2) : Neat d
theorem Neat.plain {d : Dat} (h : Neat d) : plainB d = true := by cases h with | mk h1 h2 h3 h4 => exact h1
theorem Neat.nodup {d : Dat} (h : Neat d) : (d.mem.map fun p => p.1).Nodup := by cases h with | mk h1 h2 h3 h4 => exact h2
theorem Neat.its {d : Dat} (h : Neat d) : ∀ x ∈ d.its, Neat x := by cases h with | mk h1 h2 h3 h4 => exact h3
theorem Neat.mem {d : Dat} (h : Neat d) : ∀ p ∈ d.mem, Neat p.2 := by cases h with | mk h1 h2 h3 h4 => exact h4
theorem neat_leaf {k n : Int} {s : List UInt8} (h : plainB (.mk k n s [] []) = true) : Neat (.mk k n s [] []) := .mk h List.nodup_nil (fun x hx => by cases hx) (fun p hp => by cases hp)
theorem ins_map (f : Dat → Dat) (m : List UInt8 × Dat) : ∀ l : List (List UInt8 × Dat), insM (m.1, f m.2) (l.map fun p => (p.1, f p.2)) = (insM m l).map fun p => (p.1, f p.2)
 | [] => rfl
 | p :: r => by
   rw [List.map_cons, insM, insM]
   simp only
   split
   · rfl
   · rw [List.map_cons, ins_map f m r]
theorem sort_map (f : Dat → Dat) (l : List (List UInt8 × Dat)) : sortM (l.map fun p => (p.1, f p.2)) = (sortM l).map fun p => (p.1, f p.2) := by
 unfold sortM
 have : ∀ (l a : List (List UInt8 × Dat)), (l.map fun p => (p.1, f p.2)).foldl (fun a m => insM m a) (a.map fun p => (p.1, f p.2)) = (l.foldl (fun a m => insM m a) a).map fun p => (p.1, f p.2) := by
   intro l
   induction l with
   | nil => intro a; rfl
   | cons m r ih => intro a; rw [List.map_cons, List.foldl_cons, List.foldl_cons, ins_map, ih]
 exact this l []
theorem asc_map (f : Dat → Dat) (l : List (List UInt8 × Dat)) : ascM (l.map fun p => (p.1, f p.2)) = ascM l := by
 rcases Bool.eq_false_or_eq_true (ascM l) with h | h
 · rw [h, asc_iff]
   have := asc_iff.1 h
   exact List.pairwise_map.2 this
 · rw [h]
   rcases Bool.eq_false_or_eq_true (ascM (l.map fun p => (p.1, f p.2))) with e | e
   · exfalso
     have := List.pairwise_map.1 (asc_iff.1 e)
     have := asc_iff.2 (show ascP l from this)
     rw [h] at this; cases this
   · exact e
theorem own_five (its : List Dat) : ownE (.mk 5 0 [] its []) = 0 := rfl
theorem own_six {mem : List (List UInt8 × Dat)} (h : ascM mem = true) : ownE (.mk 6 0 [] [] mem) = 0 := by
 unfold ownE
 show (if true = false then 11 else if false = true then 1 else if ascM mem = false then 6 else 0) = 0
 rw [h]; rfl
theorem chkI_mapY {f g : Dat → Dat} {lv : Nat} : ∀ {l : List Dat}, (∀ x ∈ l, chk (f x) lv = chk (g x) lv) → chkI (l.map f) lv = chkI (l.map g) lv
 | [], _ => rfl
 | x :: r, h => by
   rw [List.map_cons, List.map_cons, chkI, chkI, h x (List.mem_cons_self ..), chkI_mapY fun y hy => h y (List.mem_cons_of_mem _ hy)]
theorem chkM_mapY {f g : Dat → Dat} {lv : Nat} : ∀ {l : List (List UInt8 × Dat)}, (∀ p ∈ l, chk (f p.2) lv = chk (g p.2) lv) → chkM (l.map fun p => (p.1, f p.2)) lv = chkM (l.map fun p => (p.1, g p.2)) lv
 | [], _ => rfl
 | x :: r, h => by
   rw [List.map_cons, List.map_cons, chkM, chkM, h x (List.mem_cons_self ..), chkM_mapY fun y hy => h y (List.mem_cons_of_mem _ hy)]
theorem cln_leaf {d : Dat} (h : plainB d = true) (h5 : d.k ≠ 5) (h6 : d.k ≠ 6) (f : Nat) : clnF (f + 1) d = d ∧ srtD d = d := by
 obtain ⟨⟨h1, h2⟩, hn, hs, hi, hm⟩ := plain_iff.1 h
 have hi := hi.resolve_left h5
 have hm := hm.resolve_left h6
 obtain ⟨k, n, s, its, mem⟩ := d
 simp only [Dat.k, Dat.n, Dat.s, Dat.its, Dat.mem] at *
 subst hi; subst hm
 refine ⟨?_, by rw [srtD_eq]; rfl⟩
 have e : clnF (f + 1) (.mk k n s [] []) = if k = 2 ∨ k = 3 then .mk k n [] [] [] else if k = 4 then .mk 4 0 s [] [] else if k = 5 then .mk 5 0 [] [] [] else if k = 6 then .mk 6 0 [] [] [] else .mk k 0 [] [] [] := rfl
 rw [e]
 clear e
 by_cases h23 : k = 2 ∨ k = 3
 · rw [if_pos h23]
   rcases hs with rfl | rfl
   · omega
   · rfl
 · rw [if_neg h23]
   have hn0 : n = 0 := by omega
   subst hn0
   by_cases h4 : k = 4
   · rw [if_pos h4, h4]
   · rw [if_neg h4, if_neg h5, if_neg h6]
     have := hs.resolve_left h4
     rw [this]
theorem cln_srt : ∀ (f : Nat) (d : Dat), Neat d → f ≤ 16 → chk (clnF f d) (17 - f) = chk (srtD d) (17 - f) ∧ (chk (srtD d) (17 - f) = 0 → clnF f d = srtD d)
 | 0, d, _, _ => by
   rw [chk_eq, chk_eq, if_pos (by decide), if_pos (by decide)]
   exact ⟨rfl, fun h => by cases h⟩
 | f + 1, d, h, hf => by
   by_cases h5 : d.k = 5
   · obtain ⟨⟨h1, h2⟩, hn, hs, hi, hm⟩ := plain_iff.1 h.plain
     have hm := hm.resolve_left (by omega)
     have hs := hs.resolve_left (by omega)
     have hn0 : d.n = 0 := by omega
     have e1 : clnF (f + 1) d = .mk 5 0 [] (d.its.map (clnF f)) [] := by rw [clnF, if_neg (by omega), if_neg (by omega), if_pos h5]
     have e2 : srtD d = .mk 5 0 [] (d.its.map srtD) [] := by rw [srtD_eq, h5, hn0, hs, hm]; rfl
     rw [e1, e2]
     have ih : ∀ x ∈ d.its, chk (clnF f x) (17 - f) = chk (srtD x) (17 - f) ∧ (chk (srtD x) (17 - f) = 0 → clnF f x = srtD x) := fun x hx => cln_srt f x (h.its x hx) (by omega)
     have hl : 17 - (f + 1) + 1 = 17 - f := by omega
     constructor
     · rw [chk_eq, chk_eq, own_five, own_five, hl]
       show (if 16 < 17 - (f + 1) then 9 else if 0 = 0 then if chkI (d.its.map (clnF f)) (17 - f) = 0 then chkM [] (17 - f) else chkI (d.its.map (clnF f)) (17 - f) else 0) = (if 16 < 17 - (f + 1) then 9 else if 0 = 0 then if chkI (d.its.map srtD) (17 - f) = 0 then chkM [] (17 - f) else chkI (d.its.map srtD) (17 - f) else 0)
       rw [chkI_mapY fun x hx => (ih x hx).1]
     · intro hc
       have := (chk_zero.1 hc).2.2.1
       congr 1
       refine List.map_congr_left fun x hx => (ih x hx).2 ?_
       rw [← hl]
       exact this (srtD x) (List.mem_map_of_mem hx)
   · by_cases h6 : d.k = 6
     · obtain ⟨⟨h1, h2⟩, hn, hs, hi, hm⟩ := plain_iff.1 h.plain
       have hi := hi.resolve_left h5
       have hs := hs.resolve_left (by omega)
       have hn0 : d.n = 0 := by omega
       have e1 : clnF (f + 1) d = .mk 6 0 [] [] ((sortM d.mem).map fun p => (p.1, clnF f p.2)) := by rw [clnF, if_neg (by omega), if_neg (by omega), if_neg h5, if_pos h6, sort_map]
       have e2 : srtD d = .mk 6 0 [] [] ((sortM d.mem).map fun p => (p.1, srtD p.2)) := by rw [srtD_eq, h6, hn0, hs, hi, sort_map]; rfl
       rw [e1, e2]
       have ih : ∀ p ∈ sortM d.mem, chk (clnF f p.2) (17 - f) = chk (srtD p.2) (17 - f) ∧ (chk (srtD p.2) (17 - f) = 0 → clnF f p.2 = srtD p.2) := fun p hp => cln_srt f p.2 (h.mem p ((sort_perm d.mem).mem_iff.1 hp)) (by omega)
       have hl : 17 - (f + 1) + 1 = 17 - f := by omega
       have ha : ascM (sortM d.mem) = true := asc_iff.2 (asc_sort h.nodup)
       constructor
       · rw [chk_eq, chk_eq, own_six (by rw [asc_map]; exact ha), own_six (by rw [asc_map]; exact ha), hl]
         show (if 16 < 17 - (f + 1) then 9 else if 0 = 0 then if chkI [] (17 - f) = 0 then chkM ((sortM d.mem).map fun p => (p.1, clnF f p.2)) (17 - f) else chkI [] (17 - f) else 0) = (if 16 < 17 - (f + 1) then 9 else if 0 = 0 then if chkI [] (17 - f) = 0 then chkM ((sortM d.mem).map fun p => (p.1, srtD p.2)) (17 - f) else chkI [] (17 - f) else 0)
         rw [chkM_mapY fun x hx => (ih x hx).1]
       · intro hc
         have := (chk_zero.1 hc).2.2.2
         congr 1
         refine List.map_congr_left fun p hp => ?_
         rw [(ih p hp).2]
         rw [← hl]
         exact this (p.1, srtD p.2) (List.mem_map.2 ⟨p, hp, rfl⟩)
     · obtain ⟨e1, e2⟩ := cln_leaf h.plain h5 h6 f
       rw [e1, e2]
       exact ⟨rfl, fun _ => rfl⟩
theorem make_srt {d : Dat} (h : Neat d) : chk (clnF 16 d) 1 = chk (srtD d) 1 ∧ (chk (srtD d) 1 = 0 → clnF 16 d = srtD d) := cln_srt 16 d h (Nat.le_refl _)
theorem lim_cln : ∀ (f : Nat) (d : Dat), limD d = true → limD (clnF f d) = true
 | 0, d, _ => by rw [clnF]; exact lim_iff.2 ⟨Nat.zero_le _, Nat.zero_le _, Nat.zero_le _, fun x hx => (by cases hx), fun p hp => (by cases hp)⟩
 | f + 1, d, h => by
   obtain ⟨h1, h2, h3, h4, h5⟩ := lim_iff.1 h
   have hl : ∀ (k n : Int) (s : List UInt8), s.length ≤ 1000000 → limD (.mk k n s [] []) = true := fun k n s hs => lim_iff.2 ⟨hs, Nat.zero_le _, Nat.zero_le _, fun x hx => (by cases hx), fun p hp => (by cases hp)⟩
   rw [clnF]
   split
   · exact hl _ _ _ (Nat.zero_le _)
   · split
     · exact hl _ _ _ h1
     · split
       · refine lim_iff.2 ⟨Nat.zero_le _, by show (d.its.map (clnF f)).length ≤ _; rw [List.length_map]; exact h2, Nat.zero_le _, fun x hx => ?_, fun p hp => by cases hp⟩
         obtain ⟨y, hy, rfl⟩ := List.mem_map.1 (show x ∈ d.its.map (clnF f) from hx)
         exact lim_cln f y (h4 y hy)
       · split
         · rw [sort_map]
           refine lim_iff.2 ⟨Nat.zero_le _, Nat.zero_le _, ?_, fun x hx => (by cases hx), fun p hp => ?_⟩
           · show ((sortM d.mem).map fun p => (p.1, clnF f p.2)).length ≤ _
             rw [List.length_map, (sort_perm d.mem).length_eq]; exact h3
           · obtain ⟨q, hq, rfl⟩ := List.mem_map.1 (show p ∈ (sortM d.mem).map fun p => (p.1, clnF f p.2) from hp)
             have := h5 q ((sort_perm d.mem).mem_iff.1 hq)
             exact ⟨this.1, lim_cln f q.2 this.2⟩
         · exact hl _ _ _ (Nat.zero_le _)
theorem scan_leY : ∀ (l : List UInt8) (k i : Nat) (acc : List UInt8), (scan l k i acc).1.length ≤ acc.length + l.length
 | [], k, _, _ => by cases k <;> simp [scan]
 | _ :: t, k + 1, i, acc => by
   simp only [scan]; have := scan_leY t k i acc; rw [List.length_cons]; omega
 | c :: t, 0, i, acc => by
   simp only [scan]
   split
   · split <;> simp
   · split
     · split
       · simp
       · have := scan_leY t ((unesc (c :: t)).2 - 1) (i + (unesc (c :: t)).2) (acc ++ [(unesc (c :: t)).1])
         simp at this ⊢; omega
     · split
       · simp
       · have := scan_leY t 0 (i + 1) (acc ++ [c])
         simp at this ⊢; omega
theorem unq_lenY (l : List UInt8) : (unqL l).1.length ≤ l.length := by
 unfold unqL
 by_cases h : 65536 < l.length
 · rw [if_pos h]; simp
 · rw [if_neg h]
   cases l with
   | nil => simp
   | cons c t =>
     by_cases hc : c = 34
     · simp only [hc, if_true]; have := scan_leY t 0 1 []; simp at this ⊢; omega
     · simp only [hc, if_false]; simp
def GoodY (d : Dat) : Prop := Neat d ∧ limD d = true
theorem good_leaf {k n : Int} {s : List UInt8} (h : plainB (.mk k n s [] []) = true) (hs : s.length ≤ 1000000) : GoodY (.mk k n s [] []) :=
 ⟨neat_leaf h, lim_iff.2 ⟨hs, Nat.zero_le _, Nat.zero_le _, fun x hx => (by cases hx), fun p hp => (by cases hp)⟩⟩
theorem value_good {s : List UInt8} {d : Dat} (h : valueY s = some d) (hs : s.length ≤ 1000000) : GoodY d ∧ d.s.length ≤ 1000000 := by
 have hul := unq_lenY s
 have ht : ∀ x : List UInt8, x.length ≤ 1000000 → GoodY (.mk 4 0 x [] []) := fun x hx => good_leaf (by simp [plainB, Dat.k, Dat.n, Dat.s, Dat.its, Dat.mem]) hx
 unfold valueY at h
 split at h
 · cases h
 · split at h
   · injection h with h; subst h; exact ⟨good_leaf rfl (Nat.zero_le _), Nat.zero_le _⟩
   · split at h
     · injection h with h; subst h; exact ⟨good_leaf rfl (Nat.zero_le _), Nat.zero_le _⟩
     · split at h
       · injection h with h; subst h; exact ⟨good_leaf rfl (Nat.zero_le _), Nat.zero_le _⟩
       · split at h
         · injection h with h; subst h; exact ⟨good_leaf rfl (Nat.zero_le _), Nat.zero_le _⟩
         · split at h
           · injection h with h; subst h; exact ⟨good_leaf rfl (Nat.zero_le _), Nat.zero_le _⟩
           · split at h
             · injection h with h; subst h; exact ⟨good_leaf rfl (Nat.zero_le _), Nat.zero_le _⟩
             · split at h
               · split at h
                 · injection h with h; subst h; exact ⟨ht _ (by omega), by show (unqL s).1.length ≤ _; omega⟩
                 · cases h
               · split at h
                 · injection h with h; subst h; exact ⟨ht _ hs, hs⟩
                 · cases h
theorem tail_good2 {r : List UInt8} {d : Dat} (h : tailY r = some (some d)) (hr : r.length ≤ 1000000) : GoodY d := by
 unfold tailY at h
 split at h
 · cases h
 · split at h
   · rename_i x hx
     split at h
     · injection h with h; injection h with h; subst h
       exact (value_good hx (by rw [List.length_drop]; omega)).1
     · cases h
   · cases h
theorem lab_lim {t v : List UInt8} (h : labY t = some v) (ht : t.length ≤ 1000000) : v.length ≤ 1000000 := by
 unfold labY at h
 split at h
 · rename_i d hd
   split at h
   · injection h with h; subst h; exact (value_good hd ht).2
   · cases h
 · cases h
theorem labAt_lim {s : List UInt8} {p : List UInt8 × List UInt8} (h : labelAt s = some p) (hs : s.length ≤ 1000000) : p.1.length ≤ 1000000 ∧ p.2.length ≤ 1000000 := by
 unfold labelAt at h
 split at h
 · cases h
 · cases hv : labY (s.take (labelEnd s)) with
   | some v =>
     rw [hv] at h
     injection h with h; subst h
     exact ⟨lab_lim hv (by rw [List.length_take]; omega), by rw [List.length_drop]; omega⟩
   | none => rw [hv] at h; cases h
theorem div_good {s : List UInt8} {item : Bool} {l : List UInt8} {w : Option Dat} (h : divY s = some (item, l, w)) (hs : s.length ≤ 1000000) : l.length ≤ 1000000 ∧ ∀ d, w = some d → GoodY d := by
 unfold divY at h
 split at h
 · cases ht : tailY (s.drop 1) with
   | none => rw [ht] at h; cases h
   | some q =>
     rw [ht] at h
     injection h with h; injection h with h1 h; injection h with h2 h; subst h1; subst h2; subst h
     exact ⟨Nat.zero_le _, fun d hd => by subst hd; exact tail_good2 ht (by rw [List.length_drop]; omega)⟩
 · split at h
   · cases h
   · rename_i p hp
     obtain ⟨l1, l2⟩ := labAt_lim hp hs
     cases ht : tailY p.2 with
     | none => rw [ht] at h; cases h
     | some q =>
       rw [ht] at h
       injection h with h; injection h with h1 h; injection h with h2 h; subst h1; subst h2; subst h
       exact ⟨l1, fun d hd => by subst hd; exact tail_good2 ht l2⟩
def BlkOk (k : Int) (its : List Dat) (mem : List (List UInt8 × Dat)) : Prop :=
 (k = 0 ∧ its = [] ∧ mem = [] ∨ k = 5 ∧ mem = [] ∨ k = 6 ∧ its = []) ∧ (∀ x ∈ its, GoodY x) ∧ (∀ p ∈ mem, p.1.length ≤ 1000000 ∧ GoodY p.2) ∧ (mem.map fun p => p.1).Nodup
theorem BlkOk.start : BlkOk 0 [] [] := ⟨.inl ⟨rfl, rfl, rfl⟩, fun x hx => (by cases hx), fun p hp => (by cases hp), List.nodup_nil⟩
theorem BlkOk.done {k : Int} {its : List Dat} {mem : List (List UInt8 × Dat)} (h : BlkOk k its mem) (h0 : k ≠ 0) (h1 : its.length ≤ 1000000) (h2 : mem.length ≤ 1000000) : GoodY (.mk k 0 [] its mem) := by
 obtain ⟨hk, hi, hm, hn⟩ := h
 refine ⟨.mk ?_ hn (fun x hx => (hi x hx).1) (fun p hp => (hm p hp).2.1), lim_iff.2 ⟨Nat.zero_le _, h1, h2, fun x hx => (hi x hx).2, fun p hp => ⟨(hm p hp).1, (hm p hp).2.2⟩⟩⟩
 rcases hk with ⟨rfl, -⟩ | ⟨rfl, rfl⟩ | ⟨rfl, rfl⟩
 · exact absurd rfl h0
 · simp [plainB, Dat.k, Dat.n, Dat.s, Dat.its, Dat.mem]
 · simp [plainB, Dat.k, Dat.n, Dat.s, Dat.its, Dat.mem]
theorem BlkOk.item {k : Int} {its : List Dat} {mem : List (List UInt8 × Dat)} (h : BlkOk k its mem) (hk : k = 0 ∨ k = 5) {d : Dat} (hd : GoodY d) : BlkOk 5 (its ++ [d]) mem := by
 obtain ⟨hk', hi, hm, hn⟩ := h
 refine ⟨.inr (.inl ⟨rfl, ?_⟩), fun x hx => ?_, hm, hn⟩
 · rcases hk' with ⟨-, -, h⟩ | ⟨-, h⟩ | ⟨h, -⟩
   · exact h
   · exact h
   · omega
 · rcases List.mem_append.1 hx with hx | hx
   · exact hi x hx
   · rw [List.mem_singleton.1 hx]; exact hd
theorem BlkOk.member {k : Int} {its : List Dat} {mem : List (List UInt8 × Dat)} (h : BlkOk k its mem) (hk : k = 0 ∨ k = 6) {l : List UInt8} {d : Dat} (hl : l.length ≤ 1000000) (hd : GoodY d) (hn' : l ∉ mem.map fun p => p.1) : BlkOk 6 its (mem ++ [(l, d)]) := by
 obtain ⟨hk', hi, hm, hn⟩ := h
 refine ⟨.inr (.inr ⟨rfl, ?_⟩), hi, fun p hp => ?_, ?_⟩
 · rcases hk' with ⟨-, h, -⟩ | ⟨h, -⟩ | ⟨-, h⟩
   · exact h
   · omega
   · exact h
 · rcases List.mem_append.1 hp with hp | hp
   · exact hm p hp
   · rw [List.mem_singleton.1 hp]; exact ⟨hl, hd⟩
 · rw [List.map_append, List.nodup_append]
   refine ⟨hn, by simp, fun a ha b hb => ?_⟩
   rw [List.map_singleton, List.mem_singleton] at hb
   intro e
   rw [hb] at e
   rw [e] at ha
   exact hn' ha
theorem blk_good (many : Nat) : ∀ (f i : Nat) (k : Int) (its : List Dat) (mem : List (List UInt8 × Dat)) (ls : List Ln) (d : Dat) (r : List Ln), blkP many f i k its mem ls = .ok (d, r) → BlkOk k its mem → its.length + mem.length + ls.length ≤ 1000000 → (∀ x ∈ ls, x.txt.length ≤ 1000000) → GoodY d
 | 0, _, _, _, _, _, _, _, h, _, _, _ => by rw [blkP] at h; cases h
 | f + 1, i, k, its, mem, [], d, r, h, hb, hl, ht => by
   rw [blkP] at h
   split at h
   · cases h
   · rename_i hk
     injection h with h; injection h with h _; rw [← h]; exact hb.done hk (by omega) (by omega)
 | f + 1, i, k, its, mem, x :: s, d, r, h, hb, hl, ht => by
   rw [List.length_cons] at hl
   rw [blkP] at h
   split at h
   · rename_i hk
     injection h with h; injection h with h _; rw [← h]; exact hb.done hk.2 (by omega) (by omega)
   · split at h
     · cases h
     · split at h
       · cases h
       · rename_i item l w hdv
         obtain ⟨g1, g2⟩ := div_good hdv (ht x (List.mem_cons_self ..))
         split at h
         · cases h
         · rename_i hik
           split at h
           · cases h
           · rename_i hnew
             split at h
             · cases h
             · rename_i d' r' hw
               have hs : GoodY d' ∧ r'.length ≤ s.length ∧ ∀ y ∈ r', y ∈ s := by
                 unfold orY at hw
                 split at hw
                 · rename_i dd
                   injection hw with hw; injection hw with h1 h2
                   subst h1; subst h2
                   exact ⟨g2 _ rfl, Nat.le_refl _, fun y hy => hy⟩
                 · have := blkP_end many f _ _ _ _ _ _ _ hw
                   exact ⟨blk_good many f _ _ _ _ _ _ _ hw BlkOk.start (by simp; omega) (fun y hy => ht y (List.mem_cons_of_mem _ hy)), this.length_le, fun y hy => this.subset hy⟩
               have hko : k = 0 ∨ item = decide (k = 5) := by
                 rcases Classical.em (k = 0) with h0 | h0
                 · exact .inl h0
                 · exact .inr (Classical.byContradiction fun hc => hik ⟨h0, hc⟩)
               have hk3 : k = 0 ∨ k = 5 ∨ k = 6 := by rcases hb.1 with h | h | h <;> omega
               split at h
               · rename_i hit
                 refine blk_good many f _ _ _ _ _ _ _ h (hb.item ?_ hs.1) (by simp; omega) (fun y hy => ht y (List.mem_cons_of_mem _ (hs.2.2 y hy)))
                 rcases hko with h0 | h0
                 · exact .inl h0
                 · rw [hit] at h0; exact .inr (of_decide_eq_true h0.symm)
               · rename_i hit
                 have hit : item = false := by simpa using hit
                 refine blk_good many f _ _ _ _ _ _ _ h (hb.member ?_ g1 hs.1 (fun hm => hnew ⟨hit, hm⟩)) (by simp; omega) (fun y hy => ht y (List.mem_cons_of_mem _ (hs.2.2 y hy)))
                 rcases hko with h0 | h0
                 · exact .inl h0
                 · rw [hit] at h0
                   have := of_decide_eq_false h0.symm
                   omega
theorem blkR_good {many i : Nat} {ls : List Ln} {d : Dat} {r : List Ln} (h : blkR many i 0 [] [] ls = .ok (d, r)) (hl : ls.length ≤ 1000000) (ht : ∀ x ∈ ls, x.txt.length ≤ 1000000) : GoodY d :=
 blk_good many _ _ _ _ _ _ _ _ h BlkOk.start (by simpa using hl) ht
theorem all_good {ls : List Ln} {many : Nat} {d : Dat} (h : allY ls many = .ok d) (hl : ls.length ≤ 1000000) (ht : ∀ x ∈ ls, x.txt.length ≤ 1000000) : GoodY d := by
 have key : (blkR many 0 0 [] [] ls).map (fun p => p.1) = .ok d → GoodY d := by
   intro h
   cases hb : blkR many 0 0 [] [] ls with
   | error e => rw [hb] at h; cases h
   | ok p =>
     obtain ⟨d', r⟩ := p
     rw [hb] at h
     injection h with h
     subst h
     exact blkR_good hb hl ht
 unfold allY at h
 split at h
 · rename_i x r
   split at h
   · split at h
     · rename_i dd hd
       split at h
       · cases h
       · injection h with h; subst h
         exact (value_good hd (ht x (List.mem_cons_self ..))).1
     · exact key h
   · exact key h
 · exact key h
end
section
def valR (s : List UInt8) : Option Dat :=
 if s = [110, 117, 108, 108] then some (.mk 1 0 [] [] [])
 else if s = [102, 97, 108, 115, 101] then some (.mk 2 0 [] [] [])
 else if s = [116, 114, 117, 101] then some (.mk 2 1 [] [] [])
 else if s = [91, 93] then some (.mk 5 0 [] [] [])
 else if s = [123, 125] then some (.mk 6 0 [] [] [])
 else if (parseI s).2 = 0 then some (.mk 3 (parseI s).1 [] [] [])
 else (textR s).map fun v => .mk 4 0 v [] []
theorem text_nil : textR [] = none := by
 unfold textR
 rw [if_neg (str_ne _)]
theorem num_nil : (parseI []).2 ≠ 0 := by
 rw [parseI_head (by show ¬ ((0 : UInt8) = 45 ∨ dgt 0); unfold dgt; decide)]
 decide
theorem value_ref (s : List UInt8) : valueY s = valR s := by
 by_cases h0 : s = []
 · subst h0
   unfold valueY valR
   rw [if_pos rfl, if_neg (by decide), if_neg (by decide), if_neg (by decide), if_neg (by decide), if_neg (by decide), if_neg num_nil, text_nil]; rfl
 · unfold valueY valR
   rw [if_neg h0]
   by_cases h1 : s = [110, 117, 108, 108]
   · rw [if_pos h1, if_pos h1]
   · rw [if_neg h1, if_neg h1]
     by_cases h2 : s = [116, 114, 117, 101]
     · rw [if_pos h2, if_neg (by rw [h2]; decide), if_pos h2]
     · rw [if_neg h2]
       by_cases h3 : s = [102, 97, 108, 115, 101]
       · rw [if_pos h3, if_pos h3]
       · rw [if_neg h3, if_neg h3, if_neg h2]
         by_cases h4 : s = [91, 93]
         · rw [if_pos h4, if_pos h4]
         · rw [if_neg h4, if_neg h4]
           by_cases h5 : s = [123, 125]
           · rw [if_pos h5, if_pos h5]
           · rw [if_neg h5, if_neg h5]
             by_cases h6 : (parseI s).2 = 0
             · rw [if_pos h6, if_pos h6]
             · rw [if_neg h6, if_neg h6]
               unfold textR textV
               by_cases h7 : byt s 0 = 34
               · rw [if_pos h7]
                 by_cases h8 : (unqL s).2.1 = 0
                 · rw [if_pos h8]
                   by_cases h9 : strY (unqL s).1 = s
                   · rw [if_pos ⟨h8, h9⟩, if_pos h9]; rfl
                   · rw [if_neg (fun h => h9 h.2), if_neg h9]; rfl
                 · rw [if_neg h8, if_neg (fun h => h8 h.1), if_neg]; rfl
                   intro h
                   exact (plain_head (str_same.1 h)).1 h7
               · rw [if_neg h7, if_neg (unq_bad h7)]
                 by_cases h9 : strY s = s
                 · rw [if_pos h9, if_pos h9]; rfl
                 · rw [if_neg h9, if_neg h9]; rfl
def kindR (t : List UInt8) : Int := if t = [45] ∨ (1 < t.length ∧ t.take 2 = [45, 32]) then 5 else 6
theorem kindR_or (t : List UInt8) : kindR t = 5 ∨ kindR t = 6 := by unfold kindR; split <;> simp
theorem tail_some {r : List UInt8} {w : Option Dat} (h : tailY r = some w) : r = [] ∨ byt r 0 = 32 := by
 unfold tailY at h
 split at h
 · rename_i h0; exact .inl h0
 · split at h
   · split at h
     · rename_i h1; exact .inr h1
     · cases h
   · cases h
theorem div_item_iff {t : List UInt8} {item : Bool} {l : List UInt8} {w : Option Dat} (h : divY t = some (item, l, w)) : item = decide (byt t 0 = 45) := by
 unfold divY at h
 split at h
 · rename_i h0
   cases ht : tailY (t.drop 1) with
   | none => rw [ht] at h; cases h
   | some q => rw [ht] at h; injection h with h; injection h with h1 h; subst h1; rw [decide_eq_true h0]
 · rename_i h0
   split at h
   · cases h
   · rename_i p hp
     cases ht : tailY p.2 with
     | none => rw [ht] at h; cases h
     | some q => rw [ht] at h; injection h with h; injection h with h1 h; subst h1; rw [decide_eq_false h0]
theorem div_kind {t : List UInt8} {item : Bool} {l : List UInt8} {w : Option Dat} (h : divY t = some (item, l, w)) : item = decide (kindR t = 5) := by
 rw [div_item_iff h]
 by_cases h0 : byt t 0 = 45
 · rw [decide_eq_true h0]
   have hk : kindR t = 5 := by
     unfold kindR
     apply if_pos
     unfold divY at h
     rw [if_pos h0] at h
     cases ht : tailY (t.drop 1) with
     | none => rw [ht] at h; cases h
     | some q =>
       cases t with
       | nil => exact absurd h0 (by decide)
       | cons c r =>
         have hc : c = 45 := h0
         subst hc
         cases r with
         | nil => exact .inl rfl
         | cons b r =>
           rcases tail_some ht with e | e
           · cases e
           · have hb : b = 32 := e
             subst hb
             exact .inr ⟨by simp, rfl⟩
   rw [decide_eq_true hk]
 · rw [decide_eq_false h0]
   have hk : ¬ kindR t = 5 := by
     unfold kindR
     rw [if_neg]
     · decide
     · rintro (e | ⟨-, e⟩)
       · subst e; exact h0 rfl
       · cases t with
         | nil => cases e
         | cons c r => rw [List.take_succ_cons] at e; injection e with e; exact h0 e
   rw [decide_eq_false hk]
theorem blk_kind {many i : Nat} {x : Ln} {r : List Ln} (hx : x.ind = i) : blkR many i 0 [] [] (x :: r) = blkR many i (kindR x.txt) [] [] (x :: r) := by
 rw [blkR_cons, blkR_cons, if_neg (by omega), if_neg (by omega), if_neg (by omega), if_neg (by omega)]
 cases h : divY x.txt with
 | none => rfl
 | some p =>
   obtain ⟨item, l, w⟩ := p
   simp only
   rw [if_neg (show ¬ ((0 : Int) ≠ 0 ∧ item ≠ decide ((0 : Int) = 5)) from fun hh => hh.1 rfl), if_neg (show ¬ (kindR x.txt ≠ 0 ∧ item ≠ decide (kindR x.txt = 5)) from fun hh => hh.2 (div_kind h))]
theorem dash_label {s : List UInt8} (h : byt s 0 = 45) (hl : s.length ≤ 65536) : labelAt s = none := by
 rw [← head_div hl]
 refine headF_none s _ _ fun j _ h2 h3 => ?_
 cases ht : textR (s.take j) with
 | none => rfl
 | some v =>
   have e := (textR_iff (by rw [List.length_take]; omega)).1 ht
   have hj : 0 < j := Nat.pos_of_ne_zero fun h0 => by subst h0; rw [List.take_zero] at e; exact str_ne v e
   have h4 := (str_head v).2.1
   rw [e] at h4
   refine absurd ?_ h4
   cases s with
   | nil => exact absurd h (by decide)
   | cons c r =>
     obtain ⟨j, rfl⟩ := Nat.exists_eq_succ_of_ne_zero (Nat.ne_of_gt hj)
     exact h
theorem blk_over {many i : Nat} {k : Int} {its : List Dat} {mem : List (List UInt8 × Dat)} {x : Ln} {r : List Ln} (h : i < x.ind) : blkR many i k its mem (x :: r) = .error (19, x.no) := by
 rw [blkR_cons, if_neg (by omega), if_pos (by omega)]
def lineR (k : Int) (t : List UInt8) : Option (List UInt8 × List UInt8) :=
 if k = 5 then (if byt t 0 = 45 then some ([], t.drop 1) else none) else labelAt t
theorem blk_line {many i : Nat} {k : Int} {its : List Dat} {mem : List (List UInt8 × Dat)} {x : Ln} {r : List Ln} (hk : k = 5 ∨ k = 6) (hx : x.ind = i) (hl : x.txt.length ≤ 65536) :
   blkR many i k its mem (x :: r) = match lineR k x.txt with
     | none => .error (19, x.no)
     | some (l, more) => match tailY more with
       | none => .error (19, x.no)
       | some w => if k = 6 ∧ l ∈ mem.map (fun p => p.1) then .error (6, x.no)
         else match orY w r (blkR many (i + 2) 0 [] [] r) with
           | .error e => .error e
           | .ok (d, r') => if k = 5 then blkR many i 5 (its ++ [d]) mem r' else blkR many i 6 its (mem ++ [(l, d)]) r' := by
 rw [blkR_cons, if_neg (by omega), if_neg (by omega)]
 unfold lineR divY
 rcases hk with rfl | rfl
 · rw [if_pos rfl]
   by_cases h0 : byt x.txt 0 = 45
   · rw [if_pos h0, if_pos h0]
     simp only
     cases ht : tailY (x.txt.drop 1) with
     | none => rfl
     | some w =>
       simp only [Option.map]
       rw [if_neg (by simp), if_neg (by simp), if_neg (by omega)]
       rfl
   · rw [if_neg h0, if_neg h0]
     cases hp : labelAt x.txt with
     | none => rfl
     | some p =>
       simp only
       cases ht : tailY p.2 with
       | none => rfl
       | some w =>
         simp only [Option.map]
         rw [if_pos (by decide)]
 · rw [if_neg (show ¬ ((6 : Int) = 5) by decide)]
   by_cases h0 : byt x.txt 0 = 45
   · rw [if_pos h0, dash_label h0 hl]
     simp only
     cases ht : tailY (x.txt.drop 1) with
     | none => rfl
     | some w =>
       simp only [Option.map]
       rw [if_pos (by decide)]
   · rw [if_neg h0]
     cases hp : labelAt x.txt with
     | none => rfl
     | some p =>
       simp only
       cases ht : tailY p.2 with
       | none => rfl
       | some w =>
         simp only [Option.map]
         rw [if_neg (by simp)]
         by_cases hm : p.1 ∈ mem.map fun p => p.1
         · rw [if_pos ⟨trivial, hm⟩, if_pos ⟨trivial, hm⟩]
         · rw [if_neg (fun h => hm h.2), if_neg (fun h => hm h.2)]
           rfl
theorem blk_less {many i : Nat} {k : Int} {its : List Dat} {mem : List (List UInt8 × Dat)} {x : Ln} {r : List Ln} (h : x.ind < i) (hk : k ≠ 0) : blkR many i k its mem (x :: r) = .ok (.mk k 0 [] its mem, x :: r) := by
 rw [blkR_cons, if_pos ⟨h, hk⟩]
theorem ins_at {m : List UInt8 × Dat} : ∀ {l : List (List UInt8 × Dat)} {n : Nat}, (∀ p ∈ l.take n, Op.bytesLess m.1 p.1 = false) → (∀ p ∈ l.drop n, Op.bytesLess m.1 p.1 = true) → insM m l = l.take n ++ m :: l.drop n
 | [], n, _, _ => by rw [insM, List.take_nil, List.drop_nil]; rfl
 | p :: r, 0, _, h2 => by
   rw [insM, if_pos (h2 p (List.mem_cons_self ..))]; rfl
 | p :: r, n + 1, h1, h2 => by
   rw [insM, if_neg (by rw [h1 p (by rw [List.take_succ_cons]; exact List.mem_cons_self ..)]; decide), ins_at (l := r) (n := n) (fun q hq => h1 q (by rw [List.take_succ_cons]; exact List.mem_cons_of_mem _ hq)) (fun q hq => h2 q (by rw [List.drop_succ_cons]; exact hq))]
   rfl
theorem ins_from {m : List UInt8 × Dat} {l : List (List UInt8 × Dat)} {n : Nat} (ha : ascP l) (h1 : n = 0 ∨ ∃ p, l[n - 1]? = some p ∧ Op.bytesLess m.1 p.1 = false) (h2 : ∀ p ∈ l.drop n, Op.bytesLess m.1 p.1 = true) : insM m l = l.take n ++ m :: l.drop n := by
 refine ins_at (fun p hp => ?_) h2
 rcases h1 with rfl | ⟨q, hq, hb⟩
 · rw [List.take_zero] at hp; cases hp
 · obtain ⟨j, hj, rfl⟩ := List.mem_iff_getElem.1 hp
   rw [List.length_take] at hj
   rw [List.getElem_take]
   obtain ⟨hn, rfl⟩ := List.getElem?_eq_some_iff.1 hq
   rcases Nat.lt_or_ge j (n - 1) with h | h
   · have h3 := List.pairwise_iff_getElem.1 ha j (n - 1) (by omega) hn h
     cases hm : Op.bytesLess m.1 (l[j]'(by omega)).1 with
     | false => rfl
     | true => rw [less_trans hm h3] at hb; cases hb
   · have e : j = n - 1 := by omega
     subst e; exact hb
theorem sort_snoc (l : List (List UInt8 × Dat)) (m : List UInt8 × Dat) : sortM (l ++ [m]) = insM m (sortM l) := by
 unfold sortM
 rw [List.foldl_append]; rfl
theorem sort_labels (l : List (List UInt8 × Dat)) (a : List UInt8) : a ∈ (sortM l).map (fun p => p.1) ↔ a ∈ l.map fun p => p.1 := ((sort_perm l).map fun p => p.1).mem_iff
theorem srt_labels (l : List (List UInt8 × Dat)) : (l.map fun p => (p.1, srtD p.2)).map (fun p => p.1) = l.map fun p => p.1 := by rw [List.map_map]; rfl
inductive NumY : Dat → Prop
 | mk {d : Dat} (hn : badNum d = false) (hi : ∀ x ∈ d.its, NumY x) (hm : ∀ p ∈ d.mem, NumY p.2) : NumY d
theorem NumY.num {d : Dat} (h : NumY d) : badNum d = false := by cases h with | mk h1 h2 h3 => exact h1
theorem NumY.its {d : Dat} (h : NumY d) : ∀ x ∈ d.its, NumY x := by cases h with | mk h1 h2 h3 => exact h2
theorem NumY.mem {d : Dat} (h : NumY d) : ∀ p ∈ d.mem, NumY p.2 := by cases h with | mk h1 h2 h3 => exact h3
theorem num_leaf {k n : Int} {s : List UInt8} (h : badNum (.mk k n s [] []) = false) : NumY (.mk k n s [] []) := .mk h (fun x hx => by cases hx) (fun p hp => by cases hp)
theorem value_numY {s : List UInt8} {d : Dat} (h : valueY s = some d) : NumY d := by
 rw [value_ref] at h
 unfold valR at h
 split at h
 · injection h with h; subst h; exact num_leaf rfl
 · split at h
   · injection h with h; subst h; exact num_leaf rfl
   · split at h
     · injection h with h; subst h; exact num_leaf rfl
     · split at h
       · injection h with h; subst h; exact num_leaf rfl
       · split at h
         · injection h with h; subst h; exact num_leaf rfl
         · split at h
           · rename_i h6
             injection h with h; subst h
             refine num_leaf ?_
             have hv := (parse_vld h6).1
             simp [badNum, Dat.k, Dat.n, hv]
           · cases ht : textR s with
             | none => rw [ht] at h; cases h
             | some v => rw [ht] at h; injection h with h; subst h; exact num_leaf rfl
theorem tail_numY {r : List UInt8} {d : Dat} (h : tailY r = some (some d)) : NumY d := by
 unfold tailY at h
 split at h
 · cases h
 · split at h
   · rename_i x hx
     split at h
     · injection h with h; injection h with h; subst h; exact value_numY hx
     · cases h
   · cases h
theorem div_numY {s : List UInt8} {item : Bool} {l : List UInt8} {d : Dat} (h : divY s = some (item, l, some d)) : NumY d := by
 unfold divY at h
 split at h
 · cases ht : tailY (s.drop 1) with
   | none => rw [ht] at h; cases h
   | some q => rw [ht] at h; injection h with h; injection h with h1 h; injection h with h2 h; subst h; exact tail_numY ht
 · split at h
   · cases h
   · rename_i p hp
     cases ht : tailY p.2 with
     | none => rw [ht] at h; cases h
     | some q => rw [ht] at h; injection h with h; injection h with h1 h; injection h with h2 h; subst h; exact tail_numY ht
theorem num_list {k : Int} {its : List Dat} {mem : List (List UInt8 × Dat)} (hk : k = 5 ∨ k = 6) (hi : ∀ x ∈ its, NumY x) (hm : ∀ p ∈ mem, NumY p.2) : NumY (.mk k 0 [] its mem) := by
 refine .mk ?_ hi hm
 rcases hk with rfl | rfl <;> rfl
theorem blk_numY (many : Nat) : ∀ (f i : Nat) (k : Int) (its : List Dat) (mem : List (List UInt8 × Dat)) (ls : List Ln) (d : Dat) (r : List Ln), blkP many f i k its mem ls = .ok (d, r) → (k = 0 ∨ k = 5 ∨ k = 6) → (∀ x ∈ its, NumY x) → (∀ p ∈ mem, NumY p.2) → NumY d
 | 0, _, _, _, _, _, _, _, h, _, _, _ => by rw [blkP] at h; cases h
 | f + 1, i, k, its, mem, [], d, r, h, hk, hi, hm => by
   rw [blkP] at h
   split at h
   · cases h
   · injection h with h; injection h with h _; rw [← h]; exact num_list (by omega) hi hm
 | f + 1, i, k, its, mem, x :: s, d, r, h, hk, hi, hm => by
   rw [blkP] at h
   split at h
   · rename_i hk0
     injection h with h; injection h with h _; rw [← h]; exact num_list (by omega) hi hm
   · split at h
     · cases h
     · split at h
       · cases h
       · rename_i item l w hdv
         split at h
         · cases h
         · split at h
           · cases h
           · split at h
             · cases h
             · rename_i d' r' hw
               have hs : NumY d' := by
                 unfold orY at hw
                 split at hw
                 · rename_i dd
                   injection hw with hw; injection hw with h1 h2
                   subst h1
                   exact div_numY hdv
                 · exact blk_numY many f _ _ _ _ _ _ _ hw (.inl rfl) (fun x hx => by cases hx) (fun p hp => by cases hp)
               split at h
               · refine blk_numY many f _ _ _ _ _ _ _ h (.inr (.inl rfl)) (fun y hy => ?_) hm
                 rcases List.mem_append.1 hy with hy | hy
                 · exact hi y hy
                 · rw [List.mem_singleton.1 hy]; exact hs
               · refine blk_numY many f _ _ _ _ _ _ _ h (.inr (.inr rfl)) hi (fun y hy => ?_)
                 rcases List.mem_append.1 hy with hy | hy
                 · exact hm y hy
                 · rw [List.mem_singleton.1 hy]; exact hs
theorem blkR_numY {many i : Nat} {ls : List Ln} {d : Dat} {r : List Ln} (h : blkR many i 0 [] [] ls = .ok (d, r)) : NumY d := blk_numY many _ _ _ _ _ _ _ _ h (.inl rfl) (fun x hx => by cases hx) (fun p hp => by cases hp)
theorem all_numY {ls : List Ln} {many : Nat} {d : Dat} (h : allY ls many = .ok d) : NumY d := by
 have key : (blkR many 0 0 [] [] ls).map (fun p => p.1) = .ok d → NumY d := by
   intro h
   cases hb : blkR many 0 0 [] [] ls with
   | error e => rw [hb] at h; cases h
   | ok p =>
     obtain ⟨d', r⟩ := p
     rw [hb] at h
     injection h with h
     subst h
     exact blkR_numY hb
 unfold allY at h
 split at h
 · split at h
   · split at h
     · rename_i e hv
       split at h
       · cases h
       · injection h with h; subst h; exact value_numY hv
     · exact key h
   · exact key h
 · exact key h
theorem chkI_or {l : List Dat} {lv : Nat} (h : ∀ x ∈ l, chk x lv = 0 ∨ chk x lv = 9) : chkI l lv = 0 ∨ chkI l lv = 9 := by
 induction l with
 | nil => left; rw [chkI]
 | cons x r ih =>
   rw [chkI]
   rcases h x (List.mem_cons_self ..) with e | e
   · rw [if_pos e]; exact ih fun y hy => h y (List.mem_cons_of_mem _ hy)
   · rw [if_neg (by rw [e]; decide)]; exact .inr e
theorem chkM_or {l : List (List UInt8 × Dat)} {lv : Nat} (h : ∀ p ∈ l, chk p.2 lv = 0 ∨ chk p.2 lv = 9) : chkM l lv = 0 ∨ chkM l lv = 9 := by
 induction l with
 | nil => left; rw [chkM]
 | cons x r ih =>
   obtain ⟨a, x⟩ := x
   rw [chkM]
   rcases h (a, x) (List.mem_cons_self ..) with e | e
   · have e : chk x lv = 0 := e
     rw [if_pos e]; exact ih fun y hy => h y (List.mem_cons_of_mem _ hy)
   · have e : chk x lv = 9 := e
     rw [if_neg (by rw [e]; decide)]; exact .inr e
theorem srt_own {d : Dat} (h : Neat d) (hn : NumY d) : ownE (srtD d) = 0 := by
 obtain ⟨h1, h4, h5, h6, h7⟩ := plain_iff.1 h.plain
 have hp : plainB (srtD d) = true := by
   rw [srtD_eq]
   refine plain_iff.2 ⟨h1, h4, h5, ?_, ?_⟩
   · rcases h6 with h | h
     · exact .inl h
     · right; show d.its.map srtD = []; rw [h]; rfl
   · rcases h7 with h | h
     · exact .inl h
     · right; show sortM (d.mem.map fun p => (p.1, srtD p.2)) = []; rw [h]; rfl
 have hb : badNum (srtD d) = false := by rw [srtD_eq]; exact hn.num
 have ha : ascM (srtD d).mem = true := by
   rw [srtD_eq]
   refine asc_iff.2 (asc_sort ?_)
   rw [srt_labels]; exact h.nodup
 unfold ownE
 rw [hp, hb, ha]; rfl
theorem srt_chk (n : Nat) : ∀ (d : Dat), SizeOf.sizeOf d < n → Neat d → NumY d → ∀ lv, chk (srtD d) lv = 0 ∨ chk (srtD d) lv = 9 := by
 induction n with
 | zero => intro d h; exact absurd h (Nat.not_lt_zero _)
 | succ n ih =>
   intro d hd h hn lv
   rw [chk_eq]
   split
   · exact .inr rfl
   · rw [if_pos (srt_own h hn), srtD_eq]
     have hI : chkI (d.its.map srtD) (lv + 1) = 0 ∨ chkI (d.its.map srtD) (lv + 1) = 9 := chkI_or fun x hx => by
       obtain ⟨y, hy, rfl⟩ := List.mem_map.1 hx
       exact ih y (by have := dat_it hy; omega) (h.its y hy) (hn.its y hy) _
     have hM : chkM (sortM (d.mem.map fun p => (p.1, srtD p.2))) (lv + 1) = 0 ∨ chkM (sortM (d.mem.map fun p => (p.1, srtD p.2))) (lv + 1) = 9 := chkM_or fun p hp => by
       obtain ⟨q, hq, rfl⟩ := List.mem_map.1 ((sort_perm _).mem_iff.1 hp)
       exact ih q.2 (by have := dat_mg hq; omega) (h.mem q hq) (hn.mem q hq) _
     have key : ∀ a b : Nat, a = 0 ∨ a = 9 → b = 0 ∨ b = 9 → (if a = 0 then b else a) = 0 ∨ (if a = 0 then b else a) = 9 := by
       intro a b ha hb
       rcases ha with rfl | rfl
       · exact hb
       · exact .inr rfl
     exact key _ _ hI hM
theorem all_chk {ls : List Ln} {many : Nat} {d : Dat} (h : allY ls many = .ok d) (hl : ls.length ≤ 1000000) (ht : ∀ x ∈ ls, x.txt.length ≤ 1000000) : chk (srtD d) 1 = 0 ∨ chk (srtD d) 1 = 9 :=
 srt_chk _ d (Nat.lt_succ_self _) (all_good h hl ht).1 (all_numY h) 1
end
section
theorem linesN_app : ∀ (a b : List (List UInt8)) (i : Nat), linesN (a ++ b) i = linesN a i ++ linesN b (i + a.length)
 | [], b, i => by rw [List.nil_append, List.length_nil, Nat.add_zero]; rfl
 | x :: r, b, i => by
   rw [List.cons_append, linesN, linesN, linesN_app r b (i + 1), List.append_assoc, List.length_cons, show i + (r.length + 1) = i + 1 + r.length by omega]
theorem lineOf_eq (x : List UInt8) (i : Nat) : lineOf x i = (lnOf x).map fun q => ⟨q.1, q.2, i⟩ := by
 unfold lineOf lnOf
 split <;> rfl
theorem lineOf_pad {p : Nat × List UInt8} (h : goodLn p) (i : Nat) : lineOf (padLn p) i = some ⟨p.1, p.2, i⟩ := by
 rw [lineOf_eq, pad_ln h]; rfl
theorem all_mem {many : Nat} {ls : List Ln} {p : List UInt8 × Dat} {q : List (Nat × List UInt8)} (hl : strip ls = memY p 0 ++ q) (hf : ∀ r ∈ memY p 0, r.2.length ≤ 65536) : allY ls many = (blkR many 0 0 [] [] ls).map fun p => p.1 := by
 obtain ⟨t, u, e3⟩ := memY_ne p 0
 rw [e3] at hl
 obtain ⟨y, l, rfl, h1, h2, -⟩ := strip_cons hl
 have h2' : y.txt = t := h2
 have hv : valueY t = none := mem_value _ _ e3 (hf (0, t) (by rw [e3]; exact List.mem_cons_self ..))
 unfold allY
 simp only
 rw [if_pos h1, h2', hv]
theorem mem_div {p : List UInt8 × Dat} (many : Nat) (h : RdY many p.2) (hf : (strY p.1).length ≤ 65536) {t : List UInt8} {r : List (Nat × List UInt8)} {i : Nat} (e : memY p i = (i, t) :: r) : ∃ w, divY t = some (false, p.1, w) := by
 unfold memY at e
 cases ht : shortY p.2 with
 | some u =>
   rw [ht] at e
   injection e with e _
   injection e with _ e
   exact ⟨_, by rw [← e]; exact div_mem hf (h.short u ht)⟩
 | none =>
   rw [ht] at e
   injection e with e _
   injection e with _ e
   exact ⟨_, by rw [← e]; exact div_mem0 hf⟩
theorem lens_mem {d : Dat} (h : chk d 1 = 0) (hs : smallD d = true) (hk : d.k = 6) {p : List UInt8 × Dat} (hp : p ∈ d.mem) : ∀ q ∈ memY p 0, q.1 ≤ 40 ∧ q.2.length ≤ 646 := by
 intro q hq
 have hm : d.mem ≠ [] := fun e => by rw [e] at hp; simp at hp
 have hdl := (doc_lens h hs).2
 rw [doc_six h hk hm, lnM_flatG] at hdl
 exact hdl q (List.mem_flatMap.2 ⟨p, hp, hq⟩)
theorem parse_twice {d : Dat} {p : List UInt8 × Dat} (h : chk d 1 = 0) (hs : smallD d = true) (hk : d.k = 6) (hp : p ∈ d.mem) : parseY ((textY d).1 ++ (textY (oneM p)).1) = (dat0, 6, (pieces (textY d).1).length + 1) := by
 have hm : d.mem ≠ [] := fun e => by rw [e] at hp; simp at hp
 obtain ⟨e, ha, hc⟩ := dat_six h hk
 have hsh := small_sh hs
 have hdl := doc_lens h hs
 have hgd := doc_good h
 have hpp := lens_mem h hs hk hp
 have hgp := mem_good (hc p hp)
 have hpc : (lines_join hgd).1 = (lines_join hgd).1 := rfl
 rw [text_doc d h, one_text (hc p hp)]
 simp only
 rw [(lines_join hgd).1, List.length_map, ← join_app]
 have hgood : ∀ q ∈ docLn d ++ memY p 0, goodLn q := fun q hq => by
   rcases List.mem_append.1 hq with hq | hq
   · exact hgd q hq
   · exact hgp q hq
 have hmc : (memY p 0).length ≤ 40 := by
   have h1 : (memY p 0).length ≤ (docLn d).length := by
     rw [doc_six h hk hm, lnM_flatG]
     obtain ⟨l1, l2, e2⟩ := List.append_of_mem hp
     rw [e2, List.flatMap_append, List.flatMap_cons, List.length_append, List.length_append]
     omega
   exact Nat.le_trans h1 hdl.1
 have hsz : (joinLn (docLn d ++ memY p 0)).length ≤ 65536 := by
   have h3 := join_len (B := 687) (docLn d ++ memY p 0) fun q hq => by
     rcases List.mem_append.1 hq with hq | hq
     · have := hdl.2 q hq; omega
     · have := hpp q hq; omega
   rw [List.length_append] at h3
   have : ((docLn d).length + (memY p 0).length) * 687 ≤ 80 * 687 := Nat.mul_le_mul_right 687 (show (docLn d).length + (memY p 0).length ≤ 80 by omega)
   omega
 obtain ⟨t, u, e3⟩ := memY_ne p 0
 have hls : linesY (joinLn (docLn d ++ memY p 0)) = linesN ((docLn d).map padLn) 0 ++ ⟨0, t, (docLn d).length + 1⟩ :: linesN (u.map padLn) ((docLn d).length + 1) := by
   unfold linesY
   rw [(lines_join hgood).1, List.map_append, linesN_app, e3, List.map_cons, List.length_map, Nat.zero_add, linesN, lineOf_pad (hgp (0, t) (by rw [e3]; exact List.mem_cons_self ..))]
   rfl
 have hst : strip (linesN ((docLn d).map padLn) 0) = docLn d := by rw [strip_lines, filter_pad hgd]
 unfold parseY
 rw [if_neg (by omega)]
 have hall : ∀ many, allY (linesY (joinLn (docLn d ++ memY p 0))) many = .error (6, (docLn d).length + 1) := by
   intro many
   obtain ⟨p0, r0, e0⟩ : ∃ p0 r0, d.mem = p0 :: r0 := by cases hd : d.mem with | nil => exact absurd hd hm | cons a b => exact ⟨a, b, rfl⟩
   have hstr : strip (linesY (joinLn (docLn d ++ memY p 0))) = memY p0 0 ++ (lnM r0 0 ++ memY p 0) := by
     rw [(lines_join hgood).2, doc_six h hk hm, e0, lnM_cons, List.append_assoc]
   rw [all_mem hstr (fun q hq => by have := lens_mem h hs hk (show p0 ∈ d.mem by rw [e0]; exact List.mem_cons_self ..) q hq; omega), hls]
   rw [doc_six h hk hm] at hst
   rw [show (docLn d).map padLn = (lnM d.mem 0).map padLn by rw [doc_six h hk hm]]
   have hr := readM (many := many) (i := 0) d.mem 0 [] (linesN ((lnM d.mem 0).map padLn) 0) (⟨0, t, (docLn d).length + 1⟩ :: linesN (u.map padLn) ((docLn d).length + 1)) (fun p hp2 => ⟨rdY_of many _ p.2 2 (Nat.lt_succ_self _) (hc p hp2) (small_mem hsh hp2).2, (str_fits (small_mem hsh hp2).1).1⟩)
     (by rw [List.nil_append]; exact asc_nodup (asc_iff.2 ha)) (.inl ⟨rfl, hm⟩) hst (fun y hy => by rw [List.head?_cons] at hy; injection hy with hy; subst hy; exact Nat.zero_lt_one)
   rw [hr, List.nil_append]
   obtain ⟨w, hw⟩ := mem_div many (rdY_of many _ p.2 2 (Nat.lt_succ_self _) (hc p hp) (small_mem hsh hp).2) (str_fits (small_mem hsh hp).1).1 e3
   rw [blkR_cons, if_neg (by simp), if_neg (by simp)]
   simp only
   rw [hw]
   simp only
   rw [if_neg (by simp), if_pos ⟨trivial, List.mem_map_of_mem hp⟩]
   rfl
 rw [hall]
def joinP (ps : List (List UInt8)) : List UInt8 := ps.flatMap fun p => p ++ [10]
def preY (note : List UInt8) (n i : Nat) : List (List UInt8) :=
 if (n + i) % 4 = 0 then [[]] else if (n + i) % 4 = 1 then [[32, 32, 32]] else if (n + i) % 4 = 2 then [32 :: 35 :: note] else []
def looseL (note : List UInt8) (n : Nat) : List (List UInt8) → Nat → List (List UInt8)
 | [], _ => []
 | x :: r, i => preY note n i ++ x :: looseL note n r (i + 1)
def looseY (note : List UInt8) (n : Nat) (ps : List (List UInt8)) : List UInt8 :=
 if n % 2 = 1 then (joinP (looseL note n ps 0)).take ((joinP (looseL note n ps 0)).length - 1) else joinP (looseL note n ps 0) ++ 35 :: note
theorem pre_none (note : List UInt8) (n i : Nat) : (preY note n i).filterMap lnOf = [] := by
 have h1 : lnOf [] = none := ln_blank 0
 have h2 : lnOf [32, 32, 32] = none := ln_blank 3
 have h3 : lnOf (32 :: 35 :: note) = none := ln_note 1 note
 unfold preY
 split
 · rw [List.filterMap_cons, h1]; rfl
 · split
   · rw [List.filterMap_cons, h2]; rfl
   · split
     · rw [List.filterMap_cons, h3]; rfl
     · rfl
theorem loose_filter (note : List UInt8) (n : Nat) : ∀ (ps : List (List UInt8)) (i : Nat), (looseL note n ps i).filterMap lnOf = ps.filterMap lnOf
 | [], _ => rfl
 | x :: r, i => by
   rw [looseL, List.filterMap_append, pre_none, List.nil_append, List.filterMap_cons, List.filterMap_cons, loose_filter note n r (i + 1)]
theorem pre_line {note : List UInt8} (hn : noLF note) (n i : Nat) : ∀ p ∈ preY note n i, noLF p ∧ p.length ≤ note.length + 3 := by
 intro p hp
 unfold preY at hp
 split at hp
 · rw [List.mem_singleton.1 hp]; exact ⟨noLF_nil, Nat.zero_le _⟩
 · split at hp
   · rw [List.mem_singleton.1 hp]; exact ⟨noLF_cons (by decide) (noLF_cons (by decide) (noLF_cons (by decide) noLF_nil)), by simp⟩
   · split at hp
     · rw [List.mem_singleton.1 hp]; exact ⟨noLF_cons (by decide) (noLF_cons (by decide) hn), by simp⟩
     · simp at hp
theorem pre_count (note : List UInt8) (n i : Nat) : (preY note n i).length ≤ 1 := by
 unfold preY
 split
 · exact Nat.le_refl _
 · split
   · exact Nat.le_refl _
   · split
     · exact Nat.le_refl _
     · exact Nat.zero_le _
theorem loose_all {note : List UInt8} (hn : noLF note) (n : Nat) {B : Nat} (hB : note.length + 3 ≤ B) : ∀ (ps : List (List UInt8)) (i : Nat), (∀ p ∈ ps, noLF p ∧ p.length ≤ B) → (∀ p ∈ looseL note n ps i, noLF p ∧ p.length ≤ B) ∧ (looseL note n ps i).length ≤ 2 * ps.length
 | [], _, _ => ⟨fun p hp => by simp [looseL] at hp, Nat.le_refl _⟩
 | x :: r, i, h => by
   obtain ⟨h1, h2⟩ := loose_all hn n hB r (i + 1) fun p hp => h p (List.mem_cons_of_mem _ hp)
   rw [looseL]
   constructor
   · intro p hp
     rcases List.mem_append.1 hp with hp | hp
     · have := pre_line hn n i p hp; exact ⟨this.1, by omega⟩
     · rcases List.mem_cons.1 hp with rfl | hp
       · exact h p (List.mem_cons_self ..)
       · exact h1 p hp
   · have := pre_count note n i
     rw [List.length_append, List.length_cons, List.length_cons]; omega
theorem joinP_len {B : Nat} : ∀ (ps : List (List UInt8)), (∀ p ∈ ps, p.length ≤ B) → (joinP ps).length ≤ ps.length * (B + 1)
 | [], _ => Nat.zero_le _
 | p :: r, h => by
   have h1 := joinP_len r fun q hq => h q (List.mem_cons_of_mem _ hq)
   have h2 := h p (List.mem_cons_self ..)
   have e : (joinP (p :: r)).length = p.length + 1 + (joinP r).length := by
     show ((p ++ [10]) ++ joinP r).length = _
     simp only [List.length_append, List.length_singleton]
   rw [e, List.length_cons, Nat.succ_mul]; omega
theorem loose_last (note : List UInt8) (n : Nat) : ∀ (ps : List (List UInt8)) (i : Nat), ps ≠ [] → ∃ L x, looseL note n ps i = L ++ [x] ∧ x ∈ ps
 | [], _, h => absurd rfl h
 | [x], i, _ => ⟨preY note n i, x, by rw [looseL, looseL], List.mem_singleton.2 rfl⟩
 | x :: y :: r, i, _ => by
   obtain ⟨L, z, h1, h2⟩ := loose_last note n (y :: r) (i + 1) (List.cons_ne_nil _ _)
   exact ⟨preY note n i ++ x :: L, z, by rw [looseL, h1]; simp, List.mem_cons_of_mem _ h2⟩
theorem joinP_app (a b : List (List UInt8)) : joinP (a ++ b) = joinP a ++ joinP b := by unfold joinP; rw [List.flatMap_append]
theorem parse_loose {d : Dat} {note : List UInt8} (h : chk d 1 = 0) (hs : smallD d = true) (hn : noLF note) (hl : note.length ≤ 100) (n : Nat) :
   parseY (looseY note n (pieces (textY d).1)) = (d, 0, 0) ∧ joinP (looseL note n (pieces (textY d).1) 0) ≠ [] := by
 have hgd := doc_good h
 have hdl := doc_lens h hs
 have hp : pieces (textY d).1 = (docLn d).map padLn := by rw [text_doc d h]; exact (lines_join hgd).1
 have hne : pieces (textY d).1 ≠ [] := by rw [hp]; intro e; exact doc_ne h (List.map_eq_nil_iff.1 e)
 have hps : ∀ p ∈ pieces (textY d).1, noLF p ∧ p.length ≤ 686 := by
   rw [hp]
   intro p hp
   obtain ⟨q, hq, rfl⟩ := List.mem_map.1 hp
   have := hdl.2 q hq
   exact ⟨pad_line (hgd q hq), by unfold padLn; rw [List.length_append, List.length_replicate]; omega⟩
 have hpe : ∀ p ∈ pieces (textY d).1, p ≠ [] := by
   rw [hp]
   intro p hp e
   obtain ⟨q, hq, rfl⟩ := List.mem_map.1 hp
   exact (hgd q hq).1 (List.append_eq_nil_iff.1 e).2
 have hfl : (pieces (textY d).1).filterMap lnOf = docLn d := by rw [hp, filter_pad hgd]
 have hcnt : (pieces (textY d).1).length ≤ 40 := by rw [hp, List.length_map]; exact hdl.1
 obtain ⟨ha, hb⟩ := loose_all hn n (B := 686) (by omega) _ 0 hps
 obtain ⟨L, x, e1, e2⟩ := loose_last note n _ 0 hne
 have hfilt := loose_filter note n (pieces (textY d).1) 0
 generalize pieces (textY d).1 = ps at hp hne hps hpe hfl hcnt ha hb e1 e2 hfilt ⊢
 have hlen : (joinP (looseL note n ps 0)).length ≤ 80 * 687 := by
   have h1 : (joinP (looseL note n ps 0)).length ≤ (looseL note n ps 0).length * 687 := joinP_len (B := 686) (looseL note n ps 0) fun p hp => (ha p hp).2
   have h2 : (looseL note n ps 0).length ≤ 80 := Nat.le_trans hb (Nat.mul_le_mul_left 2 hcnt)
   exact Nat.le_trans h1 (Nat.mul_le_mul_right 687 h2)
 have hshd := small_sh hs
 have hf : ∀ p ∈ docLn d, p.2.length ≤ 65536 := fun p hp => by have := hdl.2 p hp; omega
 have hx := hpe x e2
 have ha' : ∀ p ∈ L ++ [x], noLF p := by rw [← e1]; exact fun p hp => (ha p hp).1
 constructor
 · unfold looseY
   split
   · have e3 : (joinP (looseL note n ps 0)).take ((joinP (looseL note n ps 0)).length - 1) = joinP L ++ x := by
       rw [e1, joinP_app]
       have e4 : joinP [x] = x ++ [10] := by show (x ++ [10]) ++ [] = _; rw [List.append_nil]
       rw [e4, ← List.append_assoc, List.length_append, List.length_singleton, Nat.add_sub_cancel, List.take_left]
     have hlt : (joinP L ++ x).length ≤ 65536 := by rw [← e3, List.length_take]; omega
     rw [e3]
     refine parse_doc h hshd ?_ hf hlt
     unfold linesY
     have hpc : pieces (joinP L ++ x) = L ++ [x] := pieces_open L x (fun p hp => ha' p (List.mem_append_left _ hp)) (ha' x (List.mem_append_right _ (List.mem_singleton.2 rfl))) hx
     rw [strip_lines, hpc, ← e1, hfilt, hfl]
   · refine parse_doc h hshd ?_ hf (by rw [List.length_append, List.length_cons]; omega)
     unfold linesY
     have hpc : pieces (joinP (looseL note n ps 0) ++ 35 :: note) = looseL note n ps 0 ++ [35 :: note] := pieces_open _ _ (fun p hp => (ha p hp).1) (noLF_cons (by decide) hn) (List.cons_ne_nil _ _)
     have hnn : lnOf (35 :: note) = none := ln_note 0 note
     rw [strip_lines, hpc, List.filterMap_append, hfilt, hfl, List.filterMap_cons, hnn]
     simp
 · rw [e1, joinP_app]
   intro e
   have := (List.append_eq_nil_iff.1 e).2
   exact absurd (List.append_eq_nil_iff.1 (List.append_eq_nil_iff.1 this).1).2 (List.cons_ne_nil _ _)
end
section
def strD (s : List UInt8) : Dat := .mk 4 0 s [] []
theorem str_chk (s : List UInt8) (lv : Nat) (h : lv ≤ 16) : chk (strD s) lv = 0 := by
 refine chk_zero.2 ⟨h, ?_, by intro x hx; simp [strD, Dat.its] at hx, by intro x hx; simp [strD, Dat.mem] at hx⟩
 unfold ownE
 have h1 : plainB (strD s) = true := plain_iff.2 ⟨⟨show (1 : Int) ≤ 4 by decide, show (4 : Int) ≤ 6 by decide⟩, .inr (.inr rfl), .inl rfl, .inr rfl, .inr rfl⟩
 rw [if_neg (by rw [h1]; decide), if_neg (by show ¬ badNum (strD s) = true; simp [badNum, strD, Dat.k]), if_neg (by show ¬ ascM [] = false; decide)]
theorem str_srt (s : List UInt8) : srtD (strD s) = strD s := by rw [srtD_eq]; rfl
theorem scalar_str (s : List UInt8) : scalarY (strD s) = strY s := by
 unfold scalarY
 rw [if_neg (by rw [str_chk s 1 (by decide)]; show ¬ ((0 : Nat) ≠ 0 ∨ (4 : Int) = 5 ∨ (4 : Int) = 6); decide)]
 rfl
theorem lines_one {t : List UInt8} (h0 : t ≠ []) (h1 : byt t 0 ≠ 32) (h2 : byt t 0 ≠ 35) (hl : noLF t) : linesY t = [⟨0, t, 1⟩] ∧ pieces t = [t] := by
 have hp : pieces t = [t] := pieces_open [] t (fun p hp => by simp at hp) hl h0
 refine ⟨?_, hp⟩
 have := lineOf_pad (p := (0, t)) ⟨h0, h1, h2, hl⟩ 1
 unfold linesY
 rw [hp, linesN, linesN]
 have e : padLn (0, t) = t := rfl
 rw [e] at this
 rw [this]; rfl
theorem parse_str (s : List UInt8) (h : s.length ≤ 300) : parseY (strY s) = (strD s, 0, 0) := by
 have hl := str_len s
 obtain ⟨h1, h2⟩ := lines_one (str_ne s) (str_head s).2.2 (str_head s).1 (str_line s)
 unfold parseY
 rw [if_neg (by omega), h1]
 unfold allY
 simp only
 rw [if_pos trivial, value_str s (by omega)]
 simp only
 have e : Dat.mk 4 0 s [] [] = strD s := rfl
 rw [e, str_srt, str_chk s 1 (by decide), if_pos rfl]
theorem parse_two (s : List UInt8) (h : s.length ≤ 300) : parseY (45 :: 32 :: strY s ++ [10] ++ (45 :: 32 :: strY s)) = (.mk 5 0 [] [strD s, strD s] [], 0, 0) := by
 have hl := str_len s
 have hg : goodLn (0, 45 :: 32 :: strY s) := ⟨List.cons_ne_nil _ _, by show (45 : UInt8) ≠ 32; decide, by show (45 : UInt8) ≠ 35; decide, noLF_cons (by decide) (noLF_cons (by decide) (str_line s))⟩
 have hp : pieces (45 :: 32 :: strY s ++ [10] ++ (45 :: 32 :: strY s)) = [45 :: 32 :: strY s, 45 :: 32 :: strY s] := by
   have := pieces_open [45 :: 32 :: strY s] (45 :: 32 :: strY s) (fun p hp => by rw [List.mem_singleton.1 hp]; exact hg.2.2.2) hg.2.2.2 (List.cons_ne_nil _ _)
   rw [List.flatMap_cons, List.flatMap_nil, List.append_nil] at this
   exact this
 have e0 : padLn (0, 45 :: 32 :: strY s) = 45 :: 32 :: strY s := rfl
 have hls : linesY (45 :: 32 :: strY s ++ [10] ++ (45 :: 32 :: strY s)) = [⟨0, 45 :: 32 :: strY s, 1⟩, ⟨0, 45 :: 32 :: strY s, 2⟩] := by
   have a1 := lineOf_pad hg 1
   have a2 := lineOf_pad hg 2
   rw [e0] at a1 a2
   unfold linesY
   rw [hp, linesN, linesN, linesN, a1, a2]; rfl
 have hlen : (45 :: 32 :: strY s ++ [10] ++ (45 :: 32 :: strY s)).length ≤ 65536 := by simp only [List.length_append, List.length_cons, List.length_nil]; omega
 unfold parseY
 rw [if_neg (by omega), hls]
 have hr : RdY 2 (strD s) := ⟨fun t ht => by
   have : t = strY s := by
     have h2 : shortY (strD s) = some (strY s) := rfl
     rw [h2] at ht; injection ht with ht; exact ht.symm
   rw [this, value_str s (by omega)]; rfl, fun hn => by cases (show shortY (strD s) = some (strY s) from rfl).symm.trans hn⟩
 have hall : allY [⟨0, 45 :: 32 :: strY s, 1⟩, ⟨0, 45 :: 32 :: strY s, 2⟩] (pieces (45 :: 32 :: strY s ++ [10] ++ (45 :: 32 :: strY s))).length = .ok (.mk 5 0 [] [strD s, strD s] []) := by
   rw [hp]
   have hi := readI (many := 2) (i := 0) [strD s, strD s] 0 [] [⟨0, 45 :: 32 :: strY s, 1⟩, ⟨0, 45 :: 32 :: strY s, 2⟩] [] (fun x hx => by
     have : x = strD s := by simpa using hx
     rw [this]; exact hr) (.inl ⟨rfl, List.cons_ne_nil _ _⟩) (by rw [lnI, lnI, lnI]; rfl) (fun y hy => by cases hy)
   rw [List.append_nil, List.nil_append] at hi
   unfold allY
   simp only
   rw [if_pos trivial]
   have hv : valueY (45 :: 32 :: strY s) = none := by
     rcases item_value (32 :: strY s) with h | ⟨c, r, e, hc⟩
     · exact h
     · injection e with e _
       subst e
       exact absurd hc.1 (by decide)
   rw [hv]
   simp only
   show (blkR 2 0 0 [] [] [⟨0, 45 :: 32 :: strY s, 1⟩, ⟨0, 45 :: 32 :: strY s, 2⟩]).map _ = _
   rw [hi, blk_stop (by decide) (fun y hy => by cases hy)]
   rfl
 rw [hall]
 simp only
 have es : srtD (.mk 5 0 [] [strD s, strD s] []) = .mk 5 0 [] [strD s, strD s] [] := by
   rw [srtD_eq]
   show Dat.mk 5 0 [] ([strD s, strD s].map srtD) (sortM []) = _
   rw [List.map_cons, List.map_cons, str_srt]; rfl
 have hc : chk (.mk 5 0 [] [strD s, strD s] []) 1 = 0 := by
   refine chk_zero.2 ⟨by decide, by rfl, ?_, by intro x hx; simp [Dat.mem] at hx⟩
   intro x hx
   have : x = strD s := by simpa [Dat.its] using hx
   rw [this]; exact str_chk s 2 (by decide)
 rw [es, if_pos hc]
theorem quote_colon (s : List UInt8) : labelAt (quoteL s) = none := by
 unfold labelAt
 have e : labelEnd (quoteL s) = (quoteL s).length := by
   unfold labelEnd
   rw [if_pos (show byt (quoteL s) 0 = 34 from rfl)]
   have := quoted_quote s []
   rw [List.append_nil] at this
   exact this
 rw [if_pos (.inr (.inl (by rw [e]; exact Nat.le_refl _)))]
theorem quote_line (s : List UInt8) : noLF (quoteL s) := fun c hc e => by subst e; exact absurd (quote_print s _ hc).1 (by decide)
theorem parse_quoted {s : List UInt8} (hp : plainY s = true) (h : s.length ≤ 300) : parseY (quoteL s) = (dat0, 19, 1) ∧ parseY (45 :: 32 :: quoteL s) = (dat0, 19, 1) := by
 have hl := (quote_len s).2
 have hv : valueY (quoteL s) = none := by rw [value_quote s (by omega), hp]; rfl
 constructor
 · obtain ⟨h1, h2⟩ := lines_one (t := quoteL s) (List.cons_ne_nil _ _) (by show (34 : UInt8) ≠ 32; decide) (by show (34 : UInt8) ≠ 35; decide) (quote_line s)
   unfold parseY
   rw [if_neg (by omega), h1]
   unfold allY
   simp only
   rw [if_pos trivial, hv]
   simp only
   have hd : divY (quoteL s) = none := by
     unfold divY
     rw [if_neg (by show ¬ (34 : UInt8) = 45; decide), quote_colon]
   rw [blkR_cons, if_neg (by simp), if_neg (by simp)]
   simp only
   rw [hd]
   rfl
 · obtain ⟨h1, h2⟩ := lines_one (t := 45 :: 32 :: quoteL s) (List.cons_ne_nil _ _) (by show (45 : UInt8) ≠ 32; decide) (by show (45 : UInt8) ≠ 35; decide) (noLF_cons (by decide) (noLF_cons (by decide) (quote_line s)))
   have hlen : (45 :: 32 :: quoteL s).length ≤ 65536 := by simp only [List.length_cons]; omega
   unfold parseY
   rw [if_neg (by omega), h1]
   unfold allY
   simp only
   have hv2 : valueY (45 :: 32 :: quoteL s) = none := by
     rcases item_value (32 :: quoteL s) with h | ⟨c, r, e, hc⟩
     · exact h
     · injection e with e _
       subst e
       exact absurd hc.1 (by decide)
   rw [if_pos trivial, hv2]
   simp only
   have hd : divY (45 :: 32 :: quoteL s) = none := by
     unfold divY
     rw [if_pos (show byt (45 :: 32 :: quoteL s) 0 = 45 from rfl)]
     show (tailY (32 :: quoteL s)).map _ = _
     have ht : tailY (32 :: quoteL s) = none := by
       unfold tailY
       rw [if_neg (List.cons_ne_nil _ _)]
       show (match valueY (quoteL s) with | some d => if byt (32 :: quoteL s) 0 = 32 then some (some d) else none | none => none) = _
       rw [hv]
     rw [ht]; rfl
   rw [blkR_cons, if_neg (by simp), if_neg (by simp)]
   simp only
   rw [hd]
   rfl
end
section
theorem all_rd {d : Dat} {ls : List Ln} {many : Nat} (hr : RdY many d) (hl : strip ls = docLn d) (hne : docLn d ≠ []) (hf : ∀ p ∈ docLn d, p.2.length ≤ 65536) : allY ls many = .ok d := by
 unfold docLn at hl hf hne
 cases ht : shortY d with
 | some t =>
   rw [ht] at hl
   obtain ⟨y, l, rfl, h1, h2, h3⟩ := strip_cons hl
   obtain rfl : l = [] := List.map_eq_nil_iff.1 h3
   unfold allY
   simp only
   rw [if_pos h1, h2, hr.short t ht]
 | none =>
   rw [ht] at hl hf hne
   simp only at hl hf hne
   have hb := hr.block ht 0 ls [] hl (fun y hy => by cases hy)
   rw [List.append_nil] at hb
   cases ls with
   | nil => exact absurd hl.symm hne
   | cons x r =>
     have hfst := lnD_first (hl.symm.trans (show strip (x :: r) = (x.ind, x.txt) :: strip r from rfl))
     have hx : (x.ind, x.txt) ∈ lnD d 0 := by rw [← hl]; exact List.mem_cons_self ..
     unfold allY
     simp only
     rw [if_pos hfst.1, hfst.2 (hf _ hx)]
     simp only
     rw [hb]; rfl
def nestD (st : Bool) : Nat → Dat
 | 0 => if st then .mk 6 0 [] [] [] else .mk 5 0 [] [] []
 | n + 1 => if st then .mk 6 0 [] [] [([97], nestD st n)] else .mk 5 0 [] [nestD st n] []
def begY (st : Bool) : List UInt8 := if st then [97, 58] else [45]
def empY (st : Bool) : List UInt8 := if st then [123, 125] else [91, 93]
def nestL (st : Bool) : Nat → Nat → List (Nat × List UInt8)
 | 0, _ => []
 | 1, i => [(i, begY st ++ 32 :: empY st)]
 | n + 2, i => (i, begY st) :: nestL st (n + 1) (i + 2)
theorem str_a : strY [97] = [97] := by decide +kernel
theorem nest_short (st : Bool) : ∀ n, shortY (nestD st (n + 1)) = none := by
 intro n
 cases st <;> rfl
theorem nest_zero (st : Bool) : shortY (nestD st 0) = some (empY st) := by cases st <;> rfl
theorem nest_lines (st : Bool) : ∀ (n i : Nat), lnD (nestD st (n + 1)) i = nestL st (n + 1) i
 | 0, i => by
   rw [lnD_eq]
   cases st
   · show lnI [nestD false 0] i ++ lnM [] i = _
     rw [lnI_cons, lnI, lnM]
     unfold itmY
     rw [nest_zero]; rfl
   · show lnI [] i ++ lnM [([97], nestD true 0)] i = _
     rw [lnM_cons, lnI, lnM]
     unfold memY
     rw [nest_zero]
     simp only
     rw [str_a]; rfl
 | n + 1, i => by
   rw [lnD_eq]
   cases st
   · show lnI [nestD false (n + 1)] i ++ lnM [] i = _
     rw [lnI_cons, lnI, lnM]
     unfold itmY
     rw [nest_short]
     simp only
     rw [nest_lines false n (i + 2), List.append_nil, List.append_nil]; rfl
   · show lnI [] i ++ lnM [([97], nestD true (n + 1))] i = _
     rw [lnM_cons, lnI, lnM]
     unfold memY
     rw [nest_short]
     simp only
     rw [nest_lines true n (i + 2), List.nil_append, List.append_nil, str_a]; rfl
theorem nest_rd (st : Bool) (many : Nat) : ∀ n, RdY many (nestD st n)
 | 0 => ⟨fun t ht => by
     rw [nest_zero] at ht
     injection ht with ht
     subst ht
     cases st <;> rfl, fun h => by rw [nest_zero] at h; cases h⟩
 | n + 1 => by
   have ih := nest_rd st many n
   refine ⟨fun t ht => (by rw [nest_short] at ht; cases ht), fun _ i ls rest hl hr => ?_⟩
   rw [lnD_eq] at hl
   cases st
   · have hl2 : strip ls = lnI [nestD false n] i := by rw [hl]; show lnI [nestD false n] i ++ lnM [] i = _; rw [lnM, List.append_nil]
     rw [readI [nestD false n] 0 [] ls rest (fun x hx => by rw [List.mem_singleton.1 hx]; exact ih) (.inl ⟨rfl, List.cons_ne_nil _ _⟩) hl2 (hr.mono (by omega)), blk_stop (by decide) hr]
     rfl
   · have hl2 : strip ls = lnM [([97], nestD true n)] i := by rw [hl]; show lnI [] i ++ lnM [([97], nestD true n)] i = _; rw [lnI, List.nil_append]
     rw [readM [([97], nestD true n)] 0 [] ls rest (fun x hx => by rw [List.mem_singleton.1 hx]; exact ⟨ih, by rw [str_a]; decide⟩) (by simp) (.inl ⟨rfl, List.cons_ne_nil _ _⟩) hl2 (hr.mono (by omega)), blk_stop (by decide) hr]
     rfl
theorem nest_srt (st : Bool) : ∀ n, srtD (nestD st n) = nestD st n
 | 0 => by cases st <;> rfl
 | n + 1 => by
   have ih := nest_srt st n
   rw [srtD_eq]
   cases st
   · show Dat.mk 5 0 [] ([nestD false n].map srtD) (sortM []) = _
     rw [List.map_cons, List.map_nil, ih]; rfl
   · show Dat.mk 6 0 [] [] (sortM ([([97], nestD true n)].map fun p => (p.1, srtD p.2))) = _
     rw [List.map_cons, List.map_nil, ih]; rfl
theorem nest_own (st : Bool) : ∀ n, ownE (nestD st n) = 0
 | 0 => by cases st <;> rfl
 | n + 1 => by cases st <;> rfl
theorem nest_chk (st : Bool) : ∀ (n lv : Nat), chk (nestD st n) lv = if lv + n ≤ 16 then 0 else 9
 | 0, lv => by
   rw [chk_eq, nest_own]
   by_cases h : 16 < lv
   · rw [if_pos h, if_neg (by omega)]
   · rw [if_neg h, if_pos rfl]
     cases st
     · show (if chkI [] (lv + 1) = 0 then chkM [] (lv + 1) else chkI [] (lv + 1)) = _
       rw [chkI, chkM, if_pos rfl, if_pos (by omega)]
     · show (if chkI [] (lv + 1) = 0 then chkM [] (lv + 1) else chkI [] (lv + 1)) = _
       rw [chkI, chkM, if_pos rfl, if_pos (by omega)]
 | n + 1, lv => by
   have ih := nest_chk st n (lv + 1)
   rw [chk_eq, nest_own]
   by_cases h : 16 < lv
   · rw [if_pos h, if_neg (by omega)]
   · rw [if_neg h, if_pos rfl]
     have e : lv + 1 + n = lv + (n + 1) := by omega
     rw [e] at ih
     cases st
     · show (if chkI [nestD false n] (lv + 1) = 0 then chkM [] (lv + 1) else chkI [nestD false n] (lv + 1)) = _
       rw [chkI, chkI, chkM, ih]
       split <;> simp_all
     · show (if chkI [] (lv + 1) = 0 then chkM [([97], nestD true n)] (lv + 1) else chkI [] (lv + 1)) = _
       rw [chkI, chkM, chkM, ih, if_pos rfl]
       split <;> simp_all
def nestDoc (st : Bool) (n : Nat) : List (Nat × List UInt8) := match n with | 0 => [(0, empY st)] | n + 1 => nestL st (n + 1) 0
theorem nest_doc (st : Bool) (n : Nat) : docLn (nestD st n) = nestDoc st n := by
 unfold docLn
 cases n with
 | zero => rw [nest_zero]; rfl
 | succ n => rw [nest_short]; exact nest_lines st n 0
theorem nest_one (st : Bool) (i : Nat) : goodLn (i, begY st ++ 32 :: empY st) ∧ (begY st ++ 32 :: empY st).length ≤ 5 := by
 have key : ∀ st, (begY st ++ 32 :: empY st ≠ [] ∧ byt (begY st ++ 32 :: empY st) 0 ≠ 32 ∧ byt (begY st ++ 32 :: empY st) 0 ≠ 35 ∧ ∀ c ∈ begY st ++ 32 :: empY st, c ≠ 10) ∧ (begY st ++ 32 :: empY st).length ≤ 5 := by decide +kernel
 exact key st
theorem nest_beg (st : Bool) (i : Nat) : goodLn (i, begY st) ∧ (begY st).length ≤ 5 := by
 have key : ∀ st, (begY st ≠ [] ∧ byt (begY st) 0 ≠ 32 ∧ byt (begY st) 0 ≠ 35 ∧ ∀ c ∈ begY st, c ≠ 10) ∧ (begY st).length ≤ 5 := by decide +kernel
 exact key st
theorem nest_emp (st : Bool) (i : Nat) : goodLn (i, empY st) ∧ (empY st).length ≤ 5 := by
 have key : ∀ st, (empY st ≠ [] ∧ byt (empY st) 0 ≠ 32 ∧ byt (empY st) 0 ≠ 35 ∧ ∀ c ∈ empY st, c ≠ 10) ∧ (empY st).length ≤ 5 := by decide +kernel
 exact key st
theorem nestL_good (st : Bool) : ∀ (n i : Nat), ∀ p ∈ nestL st n i, goodLn p ∧ p.2.length ≤ 5 ∧ p.1 ≤ i + 2 * n
 | 0, _, p, hp => by simp [nestL] at hp
 | 1, i, p, hp => by
   rw [nestL] at hp
   rw [List.mem_singleton.1 hp]
   exact ⟨(nest_one st i).1, (nest_one st i).2, by simp⟩
 | n + 2, i, p, hp => by
   rw [nestL] at hp
   rcases List.mem_cons.1 hp with rfl | hp
   · exact ⟨(nest_beg st i).1, (nest_beg st i).2, by simp only; omega⟩
   · obtain ⟨h1, h2, h3⟩ := nestL_good st (n + 1) (i + 2) p hp
     exact ⟨h1, h2, by omega⟩
theorem nestL_len (st : Bool) : ∀ (n i : Nat), (nestL st n i).length = n
 | 0, _ => rfl
 | 1, _ => rfl
 | n + 2, i => by rw [nestL, List.length_cons, nestL_len st (n + 1)]
theorem nest_good (st : Bool) (n : Nat) (hn : n < 40) : (∀ p ∈ nestDoc st n, goodLn p ∧ p.2.length ≤ 5 ∧ p.1 ≤ 80) ∧ (nestDoc st n).length ≤ 40 ∧ nestDoc st n ≠ [] := by
 cases n with
 | zero =>
   refine ⟨fun p hp => ?_, by show [(0, empY st)].length ≤ 40; simp, List.cons_ne_nil _ _⟩
   have : p = (0, empY st) := List.mem_singleton.1 hp
   subst this
   exact ⟨(nest_emp st 0).1, (nest_emp st 0).2, by simp⟩
 | succ n =>
   refine ⟨fun p hp => ?_, by show (nestL st (n + 1) 0).length ≤ 40; rw [nestL_len]; omega, ?_⟩
   · obtain ⟨h1, h2, h3⟩ := nestL_good st (n + 1) 0 p hp
     exact ⟨h1, h2, by omega⟩
   · intro e
     have := congrArg List.length e
     have h2 : (nestDoc st (n + 1)).length = n + 1 := nestL_len st (n + 1) 0
     rw [h2] at this
     cases this
def nestT (st : Bool) (n : Nat) : List UInt8 := (joinLn (nestDoc st n)).take ((joinLn (nestDoc st n)).length - 1)
theorem nest_parse (st : Bool) (n : Nat) (hn : n < 40) : parseY (nestT st n) = if n < 16 then (nestD st n, 0, 0) else (dat0, 9, 0) := by
 obtain ⟨hg, hlen, hne⟩ := nest_good st n hn
 obtain ⟨L, p, e⟩ : ∃ L p, nestDoc st n = L ++ [p] := by
   rcases List.eq_nil_or_concat (nestDoc st n) with h | ⟨L, p, h⟩
   · exact absurd h hne
   · exact ⟨L, p, by rw [h, List.concat_eq_append]⟩
 have hgp := hg p (by rw [e]; exact List.mem_append_right _ (List.mem_singleton.2 rfl))
 have hpn : padLn p ≠ [] := fun h => hgp.1.1 (List.append_eq_nil_iff.1 h).2
 have et : nestT st n = joinP (L.map padLn) ++ padLn p := by
   unfold nestT
   rw [e, join_app, join_pad, join_pad]
   show (joinP (L.map padLn) ++ (padLn p ++ [10] ++ [])).take _ = _
   rw [List.append_nil, ← List.append_assoc]
   have e4 : ([p].map padLn).flatMap (fun p => p ++ [10]) = padLn p ++ [10] := by simp
   rw [e4]
   have e5 : (joinP (L.map padLn) ++ (padLn p ++ [10])).length - 1 = (joinP (L.map padLn) ++ padLn p).length := by simp
   show (joinP (L.map padLn) ++ padLn p ++ [10]).take ((joinP (L.map padLn) ++ (padLn p ++ [10])).length - 1) = _
   rw [e5, List.take_left]
 have hpc : pieces (nestT st n) = (nestDoc st n).map padLn := by
   rw [et, e, List.map_append]
   exact pieces_open _ _ (fun q hq => by
     obtain ⟨r, hr, rfl⟩ := List.mem_map.1 hq
     exact pad_line (hg r (by rw [e]; exact List.mem_append_left _ hr)).1) (pad_line hgp.1) hpn
 have hst : strip (linesY (nestT st n)) = docLn (nestD st n) := by
   unfold linesY
   rw [strip_lines, hpc, filter_pad fun p hp => (hg p hp).1, nest_doc]
 have hsz : (nestT st n).length ≤ 65536 := by
   have h3 := join_len (B := 86) (nestDoc st n) fun p hp => by have := hg p hp; omega
   have h4 : (nestDoc st n).length * 86 ≤ 40 * 86 := Nat.mul_le_mul_right 86 hlen
   unfold nestT
   rw [List.length_take]; omega
 unfold parseY
 rw [if_neg (by omega), all_rd (nest_rd st _ n) hst (by rw [nest_doc]; exact hne) (fun p hp => by rw [nest_doc] at hp; have := hg p hp; omega)]
 simp only
 rw [nest_srt, nest_chk]
 by_cases h16 : n < 16
 · rw [if_pos (show 1 + n ≤ 16 by omega), if_pos rfl, if_pos h16]
 · rw [if_neg (show ¬ 1 + n ≤ 16 by omega), if_neg (by decide), if_neg h16]
theorem nest_text (st : Bool) (n : Nat) (hn : n < 16) : textY (nestD st n) = (joinLn (nestDoc st n), 0) := by
 rw [text_doc _ (by rw [nest_chk, if_pos (by omega)]), nest_doc]
end
section
def openT (t : List UInt8) : Prop := t.getLast? = some 58 ∨ t.getLast? = some 45
def openL (L : List (Nat × List UInt8)) : Prop := ∃ q, L.getLast? = some q ∧ openT q.2
theorem last_app {α : Type} {a b : List α} (h : b ≠ []) : (a ++ b).getLast? = b.getLast? := by
 rw [List.getLast?_append]
 cases b with
 | nil => exact absurd rfl h
 | cons x r => simp [List.getLast?_cons]
theorem last_cons {α : Type} {a : α} {b : List α} (h : b ≠ []) : (a :: b).getLast? = b.getLast? := by
 have := last_app (a := [a]) h
 simpa using this
theorem last_mem {α : Type} {l : List α} {x : α} (h : l.getLast? = some x) : x ∈ l := List.mem_of_getLast? h
theorem open_app {a b : List (Nat × List UInt8)} (h : b ≠ []) : openL (a ++ b) ↔ openL b := by unfold openL; rw [last_app h]
theorem open_cons {a : Nat × List UInt8} {b : List (Nat × List UInt8)} (h : b ≠ []) : openL (a :: b) ↔ openL b := by unfold openL; rw [last_cons h]
theorem open_nil : ¬ openL [] := by rintro ⟨q, h, -⟩; cases h
theorem open_one {q : Nat × List UInt8} : openL [q] ↔ openT q.2 := by
 constructor
 · rintro ⟨p, h, h2⟩
   injection h with h; subst h; exact h2
 · exact fun h => ⟨q, rfl, h⟩
theorem openT_app {a b : List UInt8} (h : b ≠ []) : openT (a ++ b) ↔ openT b := by unfold openT; rw [last_app h]
theorem openT_cons {a : UInt8} {b : List UInt8} (h : b ≠ []) : openT (a :: b) ↔ openT b := by unfold openT; rw [last_cons h]
theorem num_shut {v : Int} (h : vld v = true) : ¬ openT (textI v) := by
 have hd : ∀ c ∈ Lib.decDigits (v.natAbs / 10000) ++ fracL (v.natAbs % 10000), c ≠ 58 ∧ c ≠ 45 := by
   intro c hc
   have hg : dgt c ∨ c = 46 := by
     rcases List.mem_append.1 hc with hc | hc
     · exact .inl (dec_dgt _ c hc)
     · unfold fracL at hc
       split at hc
       · cases hc
       · rcases List.mem_cons.1 hc with rfl | hc
         · exact .inr rfl
         · obtain ⟨k, -, -, -, -, h4⟩ := frac_parts (v.natAbs % 10000) (by omega)
           exact .inl (h4 c hc)
   rcases hg with hg | rfl
   · exact ⟨fun e => by subst e; exact absurd hg.2 (by decide), fun e => by subst e; exact absurd hg.1 (by decide)⟩
   · decide
 have hn : Lib.decDigits (v.natAbs / 10000) ++ fracL (v.natAbs % 10000) ≠ [] := by
   obtain ⟨c, m, e, -⟩ := head_dec (v.natAbs / 10000) (fracL (v.natAbs % 10000))
   rw [e]; exact List.cons_ne_nil _ _
 rw [textI_val v h, openT_app hn]
 rintro (h | h)
 · exact (hd _ (last_mem h)).1 rfl
 · exact (hd _ (last_mem h)).2 rfl
theorem str_shut (s : List UInt8) : ¬ openT (strY s) := by
 cases h : plainY s with
 | true =>
   rw [str_plain h]
   rintro (e | e)
   · exact (good_no _ (plain_bytes h _ (last_mem e))).2.2.2.2.2.1 rfl
   · exact (good_no _ (plain_bytes h _ (last_mem e))).2.2.2.2.1 rfl
 | false =>
   rw [str_quote h]
   have : quoteL s = (34 :: s.flatMap escB) ++ [34] := rfl
   rw [this, openT_app (List.cons_ne_nil _ _)]
   rintro (e | e) <;> exact absurd e (by decide)
theorem short_shut {d : Dat} {t : List UInt8} (ho : ownE d = 0) (h : shortY d = some t) : ¬ openT t ∧ t ≠ [] := by
 refine ⟨?_, (short_head ho h).1⟩
 obtain ⟨hp, hb, -⟩ := own_parts ho
 unfold shortY at h
 by_cases h4 : d.k = 4
 · rw [if_pos h4] at h
   injection h with h
   rw [← h]; exact str_shut _
 · rw [if_neg h4] at h
   split at h
   · cases h
   · injection h with h
     rw [← h]
     unfold leafT
     by_cases h1 : d.k = 1
     · rw [if_pos h1]; unfold openT; decide
     · rw [if_neg h1]
       by_cases h2 : d.k = 2
       · rw [if_pos h2]; split <;> (unfold openT; decide)
       · rw [if_neg h2]
         by_cases h3 : d.k = 3
         · rw [if_pos h3]
           refine num_shut ?_
           unfold badNum at hb
           rw [h3] at hb
           simpa using hb
         · rw [if_neg h3, if_neg h4]
           split <;> (unfold openT; decide)
theorem short_kind {d : Dat} (ho : ownE d = 0) (h : shortY d = none) : d.k = 5 ∧ d.mem = [] ∨ d.k = 6 ∧ d.its = [] := by
 obtain ⟨hp, -, -⟩ := own_parts ho
 obtain ⟨-, -, -, hi, hm⟩ := plain_iff.1 hp
 unfold shortY at h
 split at h
 · cases h
 · split at h
   · rename_i h0
     rcases hi with h5 | hi
     · exact .inl ⟨h5, hm.resolve_left (by omega)⟩
     · rcases hm with h6 | hm
       · exact .inr ⟨h6, hi⟩
       · rw [hi, hm] at h0; exact absurd h0 (by decide)
   · cases h
theorem stops_of {l : List Ln} {L q : List (Nat × List UInt8)} {i : Nat} (hL : L = [] ∨ ∃ t r, L = (i, t) :: r) (h : L = strip l ++ q) : stops l (i + 1) := by
 intro y hy
 cases l with
 | nil => cases hy
 | cons z r =>
   injection hy with hy
   subst hy
   rcases hL with rfl | ⟨t, r', rfl⟩
   · cases h
   · unfold strip at h
     rw [List.map_cons, List.cons_append] at h
     injection h with h1 h2
     have : i = z.ind := by injection h1
     omega
def CutP (many i lv : Nat) (d : Dat) : Prop := ∀ (ls : List Ln) (q : List (Nat × List UInt8)), lnD d i = strip ls ++ q → ls ≠ [] →
 (openL (strip ls) → blkR many i 0 [] [] ls = .error (19, many + 1)) ∧ (¬ openL (strip ls) → ∃ d', blkR many i 0 [] [] ls = .ok (d', []) ∧ chk d' lv = 0)
theorem cut_items {many i lv : Nat} : ∀ (l : List Dat) (k : Int) (its : List Dat) (ls : List Ln) (q : List (Nat × List UInt8)), (∀ x ∈ l, RdY many x ∧ chk x (lv + 1) = 0 ∧ (shortY x = none → CutP many (i + 2) (lv + 1) x)) →
   lnI l i = strip ls ++ q → (k = 5 ∨ k = 0 ∧ ls ≠ []) →
   (openL (strip ls) → blkR many i k its [] ls = .error (19, many + 1)) ∧ (¬ openL (strip ls) → ∃ l', (∀ x ∈ l', chk x (lv + 1) = 0) ∧ blkR many i k its [] ls = .ok (.mk 5 0 [] (its ++ l') [], []))
 | l, k, its, [], q, h, e, hk => by
   refine ⟨fun ho => absurd ho open_nil, fun _ => ⟨[], fun x hx => (by cases hx), ?_⟩⟩
   rcases hk with rfl | ⟨-, h⟩
   · rw [blkR_nil, List.append_nil, if_neg (by decide)]
   · exact absurd rfl h
 | [], k, its, y :: ls, q, h, e, hk => by rw [lnI] at e; cases e
 | x :: r, k, its, y :: ls, q, h, e, hk => by
   obtain ⟨hr, hc, hcut⟩ := h x (List.mem_cons_self ..)
   have hk' : k = 0 ∨ true = decide (k = 5) := by rcases hk with h | ⟨h, -⟩; exact .inr (by rw [h]; rfl); exact .inl h
   have hk2 : k = 0 ∨ k = 5 := by rcases hk with h | ⟨h, -⟩; exact .inr h; exact .inl h
   rw [lnI_cons] at e
   have caseA : ∀ c, c ≠ [] → strip (y :: ls) = itmY x i ++ c → lnI r i = c ++ q →
       (openL (strip (y :: ls)) → blkR many i k its [] (y :: ls) = .error (19, many + 1)) ∧ (¬ openL (strip (y :: ls)) → ∃ l', (∀ x ∈ l', chk x (lv + 1) = 0) ∧ blkR many i k its [] (y :: ls) = .ok (.mk 5 0 [] (its ++ l') [], [])) := by
     intro c hc0 e1 e2
     obtain ⟨l1, l2, e3, h1, h2⟩ := strip_app e1
     rw [e1, open_app hc0, e3]
     have hs : stops l2 (i + 1) := stops_of (lnI_head r i) (by rw [h2]; exact e2)
     rw [stepI hr h1 hs hk2]
     obtain ⟨g1, g2⟩ := cut_items r 5 (its ++ [x]) l2 q (fun z hz => h z (List.mem_cons_of_mem _ hz)) (by rw [h2]; exact e2) (.inl rfl)
     rw [h2] at g1 g2
     refine ⟨g1, fun hn => ?_⟩
     obtain ⟨l', g3, g4⟩ := g2 hn
     refine ⟨x :: l', fun z hz => ?_, by rw [g4, List.append_assoc]; rfl⟩
     rcases List.mem_cons.1 hz with rfl | hz
     · exact hc
     · exact g3 z hz
   have caseB : ∀ c, itmY x i = strip (y :: ls) ++ c →
       (openL (strip (y :: ls)) → blkR many i k its [] (y :: ls) = .error (19, many + 1)) ∧ (¬ openL (strip (y :: ls)) → ∃ l', (∀ x ∈ l', chk x (lv + 1) = 0) ∧ blkR many i k its [] (y :: ls) = .ok (.mk 5 0 [] (its ++ l') [], [])) := by
     intro c e1
     unfold itmY at e1
     cases ht : shortY x with
     | some t =>
       rw [ht] at e1
       have e1 : (i, 45 :: 32 :: t) :: [] = (y.ind, y.txt) :: (strip ls ++ c) := e1
       injection e1 with e1 e2
       injection e1 with hi hx
       have hls : ls = [] := List.map_eq_nil_iff.1 (List.append_eq_nil_iff.1 e2.symm).1
       subst hls
       obtain ⟨s1, s2⟩ := short_shut (chk_zero.1 hc).2.1 ht
       have ho : ¬ openL (strip [y]) := by
         show ¬ openL [(y.ind, y.txt)]
         rw [open_one]
         show ¬ openT y.txt
         rw [← hx, openT_cons (List.cons_ne_nil _ _), openT_cons s2]
         exact s1
       refine ⟨fun h => absurd h ho, fun _ => ⟨[x], fun z hz => by rw [List.mem_singleton.1 hz]; exact hc, ?_⟩⟩
       rw [blk_div hi.symm (by rw [← hx]; exact div_item (hr.short t ht)) hk' (.inl rfl)]
       simp only [orY, if_true]
       rw [blkR_nil, if_neg (by decide)]
     | none =>
       rw [ht] at e1
       have e1 : (i, [45]) :: lnD x (i + 2) = (y.ind, y.txt) :: (strip ls ++ c) := e1
       injection e1 with e1 e2
       injection e1 with hi hx
       rw [blk_div hi.symm (by rw [← hx]; exact div_item0) hk' (.inl rfl)]
       show (openL ((y.ind, y.txt) :: strip ls) → _) ∧ (¬ openL ((y.ind, y.txt) :: strip ls) → _)
       simp only [orY, if_true]
       cases ls with
       | nil =>
         rw [blkR_nil, if_pos rfl]
         refine ⟨fun _ => rfl, fun hn => absurd ?_ hn⟩
         show openL [(y.ind, y.txt)]
         rw [open_one]
         show openT y.txt
         rw [← hx]
         exact .inr rfl
       | cons z r' =>
         rw [open_cons (show strip (z :: r') ≠ [] from by unfold strip; simp)]
         obtain ⟨g1, g2⟩ := hcut ht (z :: r') c e2 (List.cons_ne_nil _ _)
         refine ⟨fun h => by rw [g1 h], fun hn => ?_⟩
         obtain ⟨d', g3, g4⟩ := g2 hn
         refine ⟨[d'], fun z hz => by rw [List.mem_singleton.1 hz]; exact g4, ?_⟩
         rw [g3]
         simp only
         rw [blkR_nil, if_neg (by decide)]
   rcases List.append_eq_append_iff.1 e with ⟨c, e1, e2⟩ | ⟨c, e1, e2⟩
   · cases c with
     | nil => exact caseB [] (by rw [List.append_nil] at e1 ⊢; exact e1.symm)
     | cons p c => exact caseA (p :: c) (List.cons_ne_nil _ _) e1 e2
   · exact caseB c e1
theorem cut_members {many i lv : Nat} : ∀ (l : List (List UInt8 × Dat)) (k : Int) (mem : List (List UInt8 × Dat)) (ls : List Ln) (q : List (Nat × List UInt8)), (∀ p ∈ l, (RdY many p.2 ∧ (strY p.1).length ≤ 65536) ∧ chk p.2 (lv + 1) = 0 ∧ (shortY p.2 = none → CutP many (i + 2) (lv + 1) p.2)) →
   ((mem ++ l).map fun p => p.1).Nodup → lnM l i = strip ls ++ q → (k = 6 ∨ k = 0 ∧ ls ≠ []) →
   (openL (strip ls) → blkR many i k [] mem ls = .error (19, many + 1)) ∧ (¬ openL (strip ls) → ∃ l', (∀ p ∈ l', chk p.2 (lv + 1) = 0) ∧ (∃ n, l'.map (fun p => p.1) = (l.map fun p => p.1).take n) ∧ blkR many i k [] mem ls = .ok (.mk 6 0 [] [] (mem ++ l'), []))
 | l, k, mem, [], q, h, hn, e, hk => by
   refine ⟨fun ho => absurd ho open_nil, fun _ => ⟨[], fun x hx => (by cases hx), ⟨0, rfl⟩, ?_⟩⟩
   rcases hk with rfl | ⟨-, h⟩
   · rw [blkR_nil, List.append_nil, if_neg (by decide)]
   · exact absurd rfl h
 | [], k, mem, y :: ls, q, h, hn, e, hk => by rw [lnM] at e; cases e
 | (lab, x) :: r, k, mem, y :: ls, q, h, hn, e, hk => by
   obtain ⟨⟨hr, hf⟩, hc, hcut⟩ := h (lab, x) (List.mem_cons_self ..)
   simp only at hr hf hc hcut
   have hk' : k = 0 ∨ false = decide (k = 5) := by rcases hk with h | ⟨h, -⟩; exact .inr (by rw [h]; rfl); exact .inl h
   have hk2 : k = 0 ∨ k = 6 := by rcases hk with h | ⟨h, -⟩; exact .inr h; exact .inl h
   have hn2 : lab ∉ mem.map fun p => p.1 := by
     intro hm
     rw [List.map_append, List.map_cons] at hn
     exact (List.nodup_append.1 hn).2.2 _ hm _ (List.mem_cons_self ..) rfl
   rw [lnM_cons] at e
   have caseA : ∀ c, c ≠ [] → strip (y :: ls) = memY (lab, x) i ++ c → lnM r i = c ++ q →
       (openL (strip (y :: ls)) → blkR many i k [] mem (y :: ls) = .error (19, many + 1)) ∧ (¬ openL (strip (y :: ls)) → ∃ l', (∀ p ∈ l', chk p.2 (lv + 1) = 0) ∧ (∃ n, l'.map (fun p => p.1) = (((lab, x) :: r).map fun p => p.1).take n) ∧ blkR many i k [] mem (y :: ls) = .ok (.mk 6 0 [] [] (mem ++ l'), [])) := by
     intro c hc0 e1 e2
     obtain ⟨l1, l2, e3, h1, h2⟩ := strip_app e1
     rw [e1, open_app hc0, e3]
     have hs : stops l2 (i + 1) := stops_of (lnM_head r i) (by rw [h2]; exact e2)
     rw [stepM hr hf hn2 h1 hs hk2]
     obtain ⟨g1, g2⟩ := cut_members r 6 (mem ++ [(lab, x)]) l2 q (fun z hz => h z (List.mem_cons_of_mem _ hz)) (by rw [List.append_assoc]; exact hn) (by rw [h2]; exact e2) (.inl rfl)
     rw [h2] at g1 g2
     refine ⟨g1, fun hn => ?_⟩
     obtain ⟨l', g3, ⟨n, g5⟩, g4⟩ := g2 hn
     refine ⟨(lab, x) :: l', fun z hz => ?_, ⟨n + 1, by rw [List.map_cons, List.map_cons, List.take_succ_cons, g5]⟩, by rw [g4, List.append_assoc]; rfl⟩
     rcases List.mem_cons.1 hz with rfl | hz
     · exact hc
     · exact g3 z hz
   have caseB : ∀ c, memY (lab, x) i = strip (y :: ls) ++ c →
       (openL (strip (y :: ls)) → blkR many i k [] mem (y :: ls) = .error (19, many + 1)) ∧ (¬ openL (strip (y :: ls)) → ∃ l', (∀ p ∈ l', chk p.2 (lv + 1) = 0) ∧ (∃ n, l'.map (fun p => p.1) = (((lab, x) :: r).map fun p => p.1).take n) ∧ blkR many i k [] mem (y :: ls) = .ok (.mk 6 0 [] [] (mem ++ l'), [])) := by
     intro c e1
     unfold memY at e1
     simp only at e1
     cases ht : shortY x with
     | some t =>
       rw [ht] at e1
       have e1 : (i, strY lab ++ 58 :: 32 :: t) :: [] = (y.ind, y.txt) :: (strip ls ++ c) := e1
       injection e1 with e1 e2
       injection e1 with hi hx
       have hls : ls = [] := List.map_eq_nil_iff.1 (List.append_eq_nil_iff.1 e2.symm).1
       subst hls
       obtain ⟨s1, s2⟩ := short_shut (chk_zero.1 hc).2.1 ht
       have ho : ¬ openL (strip [y]) := by
         show ¬ openL [(y.ind, y.txt)]
         rw [open_one]
         show ¬ openT y.txt
         rw [← hx, openT_app (List.cons_ne_nil _ _), openT_cons (List.cons_ne_nil _ _), openT_cons s2]
         exact s1
       refine ⟨fun h => absurd h ho, fun _ => ⟨[(lab, x)], fun z hz => by rw [List.mem_singleton.1 hz]; exact hc, ⟨1, by simp⟩, ?_⟩⟩
       rw [blk_div hi.symm (by rw [← hx]; exact div_mem hf (hr.short t ht)) hk' (.inr hn2)]
       simp only [orY]
       rw [if_neg (by decide), blkR_nil, if_neg (by decide)]
     | none =>
       rw [ht] at e1
       have e1 : (i, strY lab ++ [58]) :: lnD x (i + 2) = (y.ind, y.txt) :: (strip ls ++ c) := e1
       injection e1 with e1 e2
       injection e1 with hi hx
       rw [blk_div hi.symm (by rw [← hx]; exact div_mem0 hf) hk' (.inr hn2)]
       show (openL ((y.ind, y.txt) :: strip ls) → _) ∧ (¬ openL ((y.ind, y.txt) :: strip ls) → _)
       simp only [orY]
       cases ls with
       | nil =>
         rw [blkR_nil, if_pos rfl]
         refine ⟨fun _ => rfl, fun hn => absurd ?_ hn⟩
         show openL [(y.ind, y.txt)]
         rw [open_one]
         show openT y.txt
         rw [← hx, openT_app (List.cons_ne_nil _ _)]
         exact .inl rfl
       | cons z r' =>
         rw [open_cons (show strip (z :: r') ≠ [] from by unfold strip; simp)]
         obtain ⟨g1, g2⟩ := hcut ht (z :: r') c e2 (List.cons_ne_nil _ _)
         refine ⟨fun h => by rw [g1 h], fun hn => ?_⟩
         obtain ⟨d', g3, g4⟩ := g2 hn
         refine ⟨[(lab, d')], fun z hz => by rw [List.mem_singleton.1 hz]; exact g4, ⟨1, by simp⟩, ?_⟩
         rw [g3]
         simp only
         rw [if_neg (by decide), blkR_nil, if_neg (by decide)]
   rcases List.append_eq_append_iff.1 e with ⟨c, e1, e2⟩ | ⟨c, e1, e2⟩
   · cases c with
     | nil => exact caseB [] (by rw [List.append_nil] at e1 ⊢; exact e1.symm)
     | cons p c => exact caseA (p :: c) (List.cons_ne_nil _ _) e1 e2
   · exact caseB c e1
theorem asc_labels {l l' : List (List UInt8 × Dat)} {n : Nat} (h : ascM l = true) (e : l'.map (fun p => p.1) = (l.map fun p => p.1).take n) : ascM l' = true := by
 have h1 : (l.map fun p => p.1).Pairwise fun a b => Op.bytesLess a b = true := List.pairwise_map.2 (asc_iff.1 h)
 have h2 := h1.sublist (List.take_sublist n _)
 rw [← e] at h2
 exact asc_iff.2 (List.pairwise_map.1 h2)
theorem cut_blk (many : Nat) : ∀ (n : Nat) (d : Dat) (lv i : Nat), SizeOf.sizeOf d < n → chk d lv = 0 → shD d = true → shortY d = none → CutP many i lv d
 | 0, _, _, _, h, _, _, _ => absurd h (Nat.not_lt_zero _)
 | n + 1, d, lv, i, hn, hc, hs, hsh => by
   obtain ⟨hlv, ho, hci, hcm⟩ := chk_zero.1 hc
   obtain ⟨-, hsi, hsm⟩ := sh_iff.1 hs
   intro ls q e hne
   rw [lnD_eq] at e
   rcases short_kind ho hsh with ⟨h5, hm⟩ | ⟨h6, hi⟩
   · rw [hm] at e
     have e0 : lnM [] i = [] := by rw [lnM]
     rw [e0, List.append_nil] at e
     obtain ⟨g1, g2⟩ := cut_items (many := many) (lv := lv) d.its 0 [] ls q (fun x hx => ⟨rdY_of many _ x (lv + 1) (Nat.lt_succ_self _) (hci x hx) (hsi x hx), hci x hx, fun hx0 => cut_blk many n x (lv + 1) (i + 2) (by have := dat_it hx; omega) (hci x hx) (hsi x hx) hx0⟩) e (.inr ⟨rfl, hne⟩)
     refine ⟨g1, fun hn => ?_⟩
     obtain ⟨l', g3, g4⟩ := g2 hn
     refine ⟨_, g4, chk_zero.2 ⟨hlv, rfl, fun x hx => ?_, fun p hp => by cases hp⟩⟩
     exact g3 x hx
   · rw [hi] at e
     have e0 : lnI [] i = [] := by rw [lnI]
     rw [e0, List.nil_append] at e
     have ha := (own_parts ho).2.2
     obtain ⟨g1, g2⟩ := cut_members (many := many) (lv := lv) d.mem 0 [] ls q (fun p hp => ⟨⟨rdY_of many _ p.2 (lv + 1) (Nat.lt_succ_self _) (hcm p hp) (hsm p hp).2, (str_fits (hsm p hp).1).1⟩, hcm p hp, fun hx0 => cut_blk many n p.2 (lv + 1) (i + 2) (by have := dat_mg hp; omega) (hcm p hp) (hsm p hp).2 hx0⟩) (by simpa using asc_nodup ha) e (.inr ⟨rfl, hne⟩)
     refine ⟨g1, fun hn => ?_⟩
     obtain ⟨l', g3, ⟨m, g5⟩, g4⟩ := g2 hn
     have hl : ascM l' = true := asc_labels ha g5
     refine ⟨_, g4, chk_zero.2 ⟨hlv, ?_, fun x hx => (by cases hx), fun p hp => g3 p hp⟩⟩
     show (if true = false then 11 else if false = true then 1 else if ascM ([] ++ l') = false then 6 else 0) = 0
     rw [List.nil_append, hl]; rfl
theorem parse_cut {d : Dat} (h : chk d 1 = 0) (hs : smallD d = true) (k : Nat) (h0 : 0 < k) (hk : k ≤ (docLn d).length) :
   (openL ((docLn d).take k) → parseY (joinLn ((docLn d).take k)) = (dat0, 19, k + 1)) ∧ (¬ openL ((docLn d).take k) → (parseY (joinLn ((docLn d).take k))).2 = (0, 0)) := by
 have hg := doc_good h
 obtain ⟨hl1, hl2⟩ := doc_lens h hs
 have hg' : ∀ p ∈ (docLn d).take k, goodLn p := fun p hp => hg p (List.mem_of_mem_take hp)
 obtain ⟨hp, hst⟩ := lines_join hg'
 have hlen : (joinLn ((docLn d).take k)).length ≤ 65536 := by
   have := join_len (B := 687) ((docLn d).take k) (fun p hp => by have := hl2 p (List.mem_of_mem_take hp); omega)
   rw [List.length_take] at this
   have h2 : min k (docLn d).length * 687 ≤ 40 * 687 := Nat.mul_le_mul_right _ (by omega)
   omega
 have hmany : (pieces (joinLn ((docLn d).take k))).length = k := by rw [hp, List.length_map, List.length_take]; omega
 have hfit : ∀ p ∈ docLn d, p.2.length ≤ 65536 := fun p hp => by have := hl2 p hp; omega
 unfold parseY
 rw [if_neg (by omega), hmany]
 generalize hls : linesY (joinLn ((docLn d).take k)) = ls at hst
 cases hsh : shortY d with
 | some t =>
   have hdoc : docLn d = [(0, t)] := by unfold docLn; rw [hsh]
   have hk1 : k = 1 := by rw [hdoc] at hk; simp at hk; omega
   subst hk1
   have hall := all_doc (ls := ls) 1 h (small_sh hs) (by rw [hst, hdoc]; rfl) hfit
   obtain ⟨s1, -⟩ := short_shut (chk_zero.1 h).2.1 hsh
   have ho : ¬ openL ((docLn d).take 1) := by
     rw [hdoc]
     show ¬ openL [(0, t)]
     rw [open_one]; exact s1
   refine ⟨fun h => absurd h ho, fun _ => ?_⟩
   rw [hall]
   simp only
   rw [srt_valid _ d 1 (Nat.lt_succ_self _) h, if_pos h]
 | none =>
   have hdoc : docLn d = lnD d 0 := by unfold docLn; rw [hsh]
   have hne : ls ≠ [] := by
     rintro rfl
     have : ((docLn d).take k).length = 0 := by rw [← hst]; rfl
     rw [List.length_take] at this
     omega
   have hcut := cut_blk k _ d 1 0 (Nat.lt_succ_self _) h (small_sh hs) hsh ls ((docLn d).drop k) (by rw [hst, ← hdoc, List.take_append_drop]) hne
   rw [hst] at hcut
   have hall : allY ls k = (blkR k 0 0 [] [] ls).map fun p => p.1 := by
     cases ls with
     | nil => exact absurd rfl hne
     | cons x r =>
       unfold allY
       have e : (docLn d).take k = (x.ind, x.txt) :: strip r := hst.symm
       have e2 : docLn d = (x.ind, x.txt) :: (strip r ++ (docLn d).drop k) := by
         conv => lhs; rw [← List.take_append_drop k (docLn d), e]
         rfl
       obtain ⟨hi, hv⟩ := lnD_first (d := d) (i := 0) (by rw [← hdoc]; exact e2)
       have hv := hv (hfit _ (by rw [e2]; exact List.mem_cons_self ..))
       simp only at hi hv ⊢
       rw [if_pos hi, hv]
   rw [hall]
   refine ⟨fun ho => by rw [hcut.1 ho]; rfl, fun hn => ?_⟩
   obtain ⟨d', g1, g2⟩ := hcut.2 hn
   rw [g1]
   show (match (Except.ok d' : Except (Nat × Nat) Dat) with | .error e => (dat0, e.1, e.2) | .ok d => if chk (srtD d) 1 = 0 then (srtD d, 0, 0) else (dat0, chk (srtD d) 1, 0)).2 = (0, 0)
   simp only
   rw [srt_valid _ d' 1 (Nat.lt_succ_self _) g2, if_pos g2]
end
end Go.Proofs.YtdalfkklkeblaaaGreatDoor
