import Derived.Test.YtdalfkklkeblaaaGreatDoorN05
import Derived.Lib.ItoaMem
import Derived.Test.YtdalfkklkeblaaaGreatDoorN06
import Derived.Handy
import Derived.LoopTactic
import Derived.Outline
import Derived.BigQuiet
import Derived.Laws.Cover1
import Derived.Deep.RegionHeld3
import Derived.Deep.DeepCutAuto
import Derived.Deep.CutBlock
import Derived.Deep.QuietTactic
import Derived.Test.YtdalfkklkeblaaaGreatDoorChecked
namespace Go.Proofs.YtdalfkklkeblaaaGreatDoor
set_option linter.unusedSimpArgs false
set_option linter.unusedVariables false
section
open Go.RowKit
structure DCell (W : World) (B o : Nat) (d : Dat) (vi vm : Value) : Prop where
 c0 : W.cell? ⟨B, o, none⟩ = some (.int .i64 d.k)
 c1 : W.cell? ⟨B, o + 1, none⟩ = some (.int .i64 d.n)
 c2 : W.cell? ⟨B, o + 2, none⟩ = some (.string (S d.s))
 c3 : W.cell? ⟨B, o + 3, none⟩ = some vi
 c4 : W.cell? ⟨B, o + 4, none⟩ = some vm
theorem DCell.below {W W' : World} {B o : Nat} {d : Dat} {vi vm : Value} (h : DCell W B o d vi vm) (hb : Below W.heap.size W W') (hB : B < W.heap.size) : DCell W' B o d vi vm :=
 ⟨(hb.cell (p := ⟨B, o, none⟩) hB).trans h.c0, (hb.cell (p := ⟨B, o + 1, none⟩) hB).trans h.c1, (hb.cell (p := ⟨B, o + 2, none⟩) hB).trans h.c2, (hb.cell (p := ⟨B, o + 3, none⟩) hB).trans h.c3, (hb.cell (p := ⟨B, o + 4, none⟩) hB).trans h.c4⟩
inductive Rep (W : World) (ok : Nat → Prop) : Dat → Value → Value → Prop
 | mk {d : Dat} (p q : Option Addr) (cap caq B o B' o' : Nat) (vi vm ui um : Nat → Value)
   (hl : d.its.length ≤ maxLen ∧ d.mem.length ≤ maxLen)
   (hp : 0 < d.its.length → p = some ⟨B, o, none⟩ ∧ d.its.length ≤ cap ∧ B < W.heap.size ∧ ok B)
   (hc : ∀ (j : Nat) (h : j < d.its.length), DCell W B (o + j * 5) d.its[j] (vi j) (vm j))
   (hr : ∀ (j : Nat) (h : j < d.its.length), Rep W ok d.its[j] (vi j) (vm j))
   (hq : 0 < d.mem.length → q = some ⟨B', o', none⟩ ∧ d.mem.length ≤ caq ∧ B' < W.heap.size ∧ ok B')
   (hd : ∀ (j : Nat) (h : j < d.mem.length), W.cell? ⟨B', o' + j * 6, none⟩ = some (.string (S d.mem[j].1)) ∧ DCell W B' (o' + j * 6 + 1) d.mem[j].2 (ui j) (um j))
   (hs : ∀ (j : Nat) (h : j < d.mem.length), Rep W ok d.mem[j].2 (ui j) (um j)) :
   Rep W ok d (.slice p d.its.length cap) (.slice q d.mem.length caq)
theorem Rep.under {W W' : World} {ok : Nat → Prop} (hb : Below W.heap.size W W') {d : Dat} {vi vm : Value} (h : Rep W ok d vi vm) : Rep W' ok d vi vm := by
 induction h with
 | mk p q cap caq B o B' o' vi vm ui um hl hp hc hr hq hd hs ihr ihs =>
   refine .mk p q cap caq B o B' o' vi vm ui um hl (fun h => ?_) (fun j h => ?_) ihr (fun h => ?_) (fun j h => ?_) ihs
   · obtain ⟨h1, h2, h3, h4⟩ := hp h; exact ⟨h1, h2, Nat.lt_of_lt_of_le h3 hb.size, h4⟩
   · exact (hc j h).below hb (hp (by omega)).2.2.1
   · obtain ⟨h1, h2, h3, h4⟩ := hq h; exact ⟨h1, h2, Nat.lt_of_lt_of_le h3 hb.size, h4⟩
   · obtain ⟨-, -, h3, -⟩ := hq (by omega)
     exact ⟨(hb.cell (p := ⟨B', o' + j * 6, none⟩) h3).trans (hd j h).1, (hd j h).2.below hb h3⟩
theorem Rep.mono {W : World} {ok ok' : Nat → Prop} (hk : ∀ B, B < W.heap.size → ok B → ok' B) {d : Dat} {vi vm : Value} (h : Rep W ok d vi vm) : Rep W ok' d vi vm := by
 induction h with
 | mk p q cap caq B o B' o' vi vm ui um hl hp hc hr hq hd hs ihr ihs =>
   refine .mk p q cap caq B o B' o' vi vm ui um hl (fun h => ?_) hc ihr (fun h => ?_) hd ihs
   · obtain ⟨h1, h2, h3, h4⟩ := hp h; exact ⟨h1, h2, h3, hk B h3 h4⟩
   · obtain ⟨h1, h2, h3, h4⟩ := hq h; exact ⟨h1, h2, h3, hk B' h3 h4⟩
theorem grown_cell {W W' : World} {row : Option Nat} (hg : W.grownBy W' row) {B : Nat} (hB : B < W.heap.size) (hne : some B ≠ row) (o : Nat) : W'.cell? ⟨B, o, none⟩ = W.cell? ⟨B, o, none⟩ := World.cell?_of_block (hg.block B hB hne)
theorem Rep.grown {W W' : World} {row : Option Nat} {ok : Nat → Prop} (hg : W.grownBy W' row) (hk : ∀ B, ok B → some B ≠ row) {d : Dat} {vi vm : Value} (h : Rep W ok d vi vm) : Rep W' ok d vi vm := by
 induction h with
 | mk p q cap caq B o B' o' vi vm ui um hl hp hc hr hq hd hs ihr ihs =>
   refine .mk p q cap caq B o B' o' vi vm ui um hl (fun h => ?_) (fun j h => ?_) ihr (fun h => ?_) (fun j h => ?_) ihs
   · obtain ⟨h1, h2, h3, h4⟩ := hp h; exact ⟨h1, h2, Nat.lt_of_lt_of_le h3 hg.size, h4⟩
   · obtain ⟨-, -, h3, h4⟩ := hp (by omega)
     have k := grown_cell hg h3 (hk B h4)
     have c := hc j h
     exact ⟨(k _).trans c.c0, (k _).trans c.c1, (k _).trans c.c2, (k _).trans c.c3, (k _).trans c.c4⟩
   · obtain ⟨h1, h2, h3, h4⟩ := hq h; exact ⟨h1, h2, Nat.lt_of_lt_of_le h3 hg.size, h4⟩
   · obtain ⟨-, -, h3, h4⟩ := hq (by omega)
     have k := grown_cell hg h3 (hk B' h4)
     have c := (hd j h).2
     exact ⟨(k _).trans (hd j h).1, (k _).trans c.c0, (k _).trans c.c1, (k _).trans c.c2, (k _).trans c.c3, (k _).trans c.c4⟩
def dv (d : Dat) (vi vm : Value) : Value := .agg #[.int .i64 d.k, .int .i64 d.n, .string (S d.s), vi, vm]
theorem Rep.items {W : World} {ok : Nat → Prop} {d : Dat} {vi vm : Value} (h : Rep W ok d vi vm) : ∃ p cap, vi = .slice p d.its.length cap ∧ d.its.length ≤ maxLen ∧
   ∀ (j : Nat) (h : j < d.its.length), ∃ B o xi xm, p = some ⟨B, o, none⟩ ∧ d.its.length ≤ cap ∧ B < W.heap.size ∧ DCell W B (o + j * 5) d.its[j] xi xm ∧ Rep W ok d.its[j] xi xm := by
 cases h with
 | mk p q cap caq B o B' o' vi vm ui um hl hp hc hr hq hd hs =>
   refine ⟨p, cap, rfl, hl.1, fun j h => ?_⟩
   obtain ⟨h1, h2, h3, -⟩ := hp (by omega)
   exact ⟨B, o, _, _, h1, h2, h3, hc j h, hr j h⟩
theorem Rep.members {W : World} {ok : Nat → Prop} {d : Dat} {vi vm : Value} (h : Rep W ok d vi vm) : ∃ q caq, vm = .slice q d.mem.length caq ∧ d.mem.length ≤ maxLen ∧
   ∀ (j : Nat) (h : j < d.mem.length), ∃ B o xi xm, q = some ⟨B, o, none⟩ ∧ d.mem.length ≤ caq ∧ B < W.heap.size ∧ W.cell? ⟨B, o + j * 6, none⟩ = some (.string (S d.mem[j].1)) ∧ DCell W B (o + j * 6 + 1) d.mem[j].2 xi xm ∧ Rep W ok d.mem[j].2 xi xm := by
 cases h with
 | mk p q cap caq B o B' o' vi vm ui um hl hp hc hr hq hd hs =>
   refine ⟨q, caq, rfl, hl.2, fun j h => ?_⟩
   obtain ⟨h1, h2, h3, -⟩ := hq (by omega)
   exact ⟨B', o', _, _, h1, h2, h3, (hd j h).1, (hd j h).2, hs j h⟩
theorem rep_leaf (W : World) (ok : Nat → Prop) {d : Dat} (hi : d.its = []) (hm : d.mem = []) (p q : Option Addr) (cap caq : Nat) : Rep W ok d (.slice p 0 cap) (.slice q 0 caq) := by
 have h := Rep.mk (W := W) (ok := ok) (d := d) p q cap caq 0 0 0 0 (fun _ => .nilFunc) (fun _ => .nilFunc) (fun _ => .nilFunc) (fun _ => .nilFunc) (by rw [hi, hm]; exact ⟨Nat.zero_le _, Nat.zero_le _⟩) (by rw [hi]; intro h; simp at h) (by rw [hi]; intro j h; simp at h) (by rw [hi]; intro j h; simp at h) (by rw [hm]; intro h; simp at h) (by rw [hm]; intro j h; simp at h) (by rw [hm]; intro j h; simp at h)
 rw [hi, hm] at h
 exact h
def cells5 (t : Dat × Value × Value) : List Value := [.int .i64 t.1.k, .int .i64 t.1.n, .string (S t.1.s), t.2.1, t.2.2]
def flat5 (T : List (Dat × Value × Value)) : List Value := T.flatMap cells5
def cells6 (t : List UInt8 × Dat × Value × Value) : List Value := .string (S t.1) :: cells5 t.2
def flat6 (T : List (List UInt8 × Dat × Value × Value)) : List Value := T.flatMap cells6
theorem flat5_snoc (T : List (Dat × Value × Value)) (t : Dat × Value × Value) : flat5 (T ++ [t]) = flat5 T ++ cells5 t := by unfold flat5; simp
theorem flat6_snoc (T : List (List UInt8 × Dat × Value × Value)) (t : List UInt8 × Dat × Value × Value) : flat6 (T ++ [t]) = flat6 T ++ cells6 t := by unfold flat6; simp
theorem flat5_get : ∀ (T : List (Dat × Value × Value)) (j : Nat) (h : j < T.length) (i : Nat), i < 5 → (flat5 T)[j * 5 + i]? = (cells5 T[j])[i]?
 | t :: r, 0, _, i, hi => by
   unfold flat5
   rw [List.flatMap_cons, Nat.zero_mul, Nat.zero_add, List.getElem?_append_left (by simp [cells5]; omega)]; rfl
 | t :: r, j + 1, h, i, hi => by
   have := flat5_get r j (by simpa using h) i hi
   unfold flat5 at *
   rw [List.flatMap_cons, List.getElem?_append_right (by simp [cells5]; omega), show (j + 1) * 5 + i - (cells5 t).length = j * 5 + i by simp [cells5]; omega, this]; rfl
theorem flat6_get : ∀ (T : List (List UInt8 × Dat × Value × Value)) (j : Nat) (h : j < T.length) (i : Nat), i < 6 → (flat6 T)[j * 6 + i]? = (cells6 T[j])[i]?
 | t :: r, 0, _, i, hi => by
   unfold flat6
   rw [List.flatMap_cons, Nat.zero_mul, Nat.zero_add, List.getElem?_append_left (by simp [cells6, cells5]; omega)]; rfl
 | t :: r, j + 1, h, i, hi => by
   have := flat6_get r j (by simpa using h) i hi
   unfold flat6 at *
   rw [List.flatMap_cons, List.getElem?_append_right (by simp [cells6, cells5]; omega), show (j + 1) * 6 + i - (cells6 t).length = j * 6 + i by simp [cells6, cells5]; omega, this]; rfl
theorem own_head {W : World} {base : Nat} {e : TypeId} {s : Nat} {v : Value} {k : Nat} {xs : List Value} (h : W.ownsRow base e s v k xs) : (v = .slice none 0 0 ∧ k = 0) ∨ ∃ g cap, v = .slice (some ⟨g, 0, none⟩) k cap ∧ base ≤ g ∧ k ≤ cap ∧ g < W.heap.size ∧ v.ownBlock = some g := by
 rcases h.2 with h2 | ⟨g, cap, cur, rfl, hb, hg, hc, -⟩
 · exact .inl h2
 · exact .inr ⟨g, cap, rfl, hb, hc, (Array.getElem?_eq_some_iff.1 hg).1, by simp [Value.ownBlock]⟩
theorem rep_own {W : World} {base : Nat} {e f : TypeId} {ok : Nat → Prop} {k n : Int} {s : List UInt8} {vi vm : Value} {T : List (Dat × Value × Value)} {U : List (List UInt8 × Dat × Value × Value)}
   (hi : W.ownsRow base e 5 vi T.length (flat5 T)) (hm : W.ownsRow base f 6 vm U.length (flat6 U)) (hl : T.length ≤ maxLen ∧ U.length ≤ maxLen) (hok : ∀ B, base ≤ B → ok B)
   (ht : ∀ t ∈ T, Rep W ok t.1 t.2.1 t.2.2) (hu : ∀ t ∈ U, Rep W ok t.2.1 t.2.2.1 t.2.2.2) :
   Rep W ok (.mk k n s (T.map fun t => t.1) (U.map fun t => (t.1, t.2.1))) vi vm := by
 have ci : ∃ p cap B, vi = .slice p T.length cap ∧ (0 < T.length → p = some ⟨B, 0, none⟩ ∧ T.length ≤ cap ∧ B < W.heap.size ∧ ok B) ∧ ∀ (j : Nat) (h : j < T.length), DCell W B (0 + j * 5) T[j].1 T[j].2.1 T[j].2.2 := by
   rcases own_head hi with ⟨rfl, h0⟩ | ⟨g, cap, rfl, hb, hc, hg, -⟩
   · exact ⟨none, 0, 0, by rw [h0], by omega, fun j h => by omega⟩
   · refine ⟨_, cap, g, rfl, fun _ => ⟨rfl, hc, hg, hok g hb⟩, fun j h => ?_⟩
     have c0 := hi.cells (g := g) rfl (j * 5 + 0) _ (flat5_get T j h 0 (by omega))
     have c1 := hi.cells (g := g) rfl (j * 5 + 1) _ (flat5_get T j h 1 (by omega))
     have c2 := hi.cells (g := g) rfl (j * 5 + 2) _ (flat5_get T j h 2 (by omega))
     have c3 := hi.cells (g := g) rfl (j * 5 + 3) _ (flat5_get T j h 3 (by omega))
     have c4 := hi.cells (g := g) rfl (j * 5 + 4) _ (flat5_get T j h 4 (by omega))
     rw [Lib.add_plain, Nat.zero_add] at c0 c1 c2 c3 c4
     rw [Nat.zero_add]
     exact ⟨c0, c1, c2, c3, c4⟩
 have cm : ∃ p cap B, vm = .slice p U.length cap ∧ (0 < U.length → p = some ⟨B, 0, none⟩ ∧ U.length ≤ cap ∧ B < W.heap.size ∧ ok B) ∧ ∀ (j : Nat) (h : j < U.length), W.cell? ⟨B, 0 + j * 6, none⟩ = some (.string (S U[j].1)) ∧ DCell W B (0 + j * 6 + 1) U[j].2.1 U[j].2.2.1 U[j].2.2.2 := by
   rcases own_head hm with ⟨rfl, h0⟩ | ⟨g, cap, rfl, hb, hc, hg, -⟩
   · exact ⟨none, 0, 0, by rw [h0], by omega, fun j h => by omega⟩
   · refine ⟨_, cap, g, rfl, fun _ => ⟨rfl, hc, hg, hok g hb⟩, fun j h => ?_⟩
     have c0 := hm.cells (g := g) rfl (j * 6 + 0) _ (flat6_get U j h 0 (by omega))
     have c1 := hm.cells (g := g) rfl (j * 6 + 1) _ (flat6_get U j h 1 (by omega))
     have c2 := hm.cells (g := g) rfl (j * 6 + 2) _ (flat6_get U j h 2 (by omega))
     have c3 := hm.cells (g := g) rfl (j * 6 + 3) _ (flat6_get U j h 3 (by omega))
     have c4 := hm.cells (g := g) rfl (j * 6 + 4) _ (flat6_get U j h 4 (by omega))
     have c5 := hm.cells (g := g) rfl (j * 6 + 5) _ (flat6_get U j h 5 (by omega))
     rw [Lib.add_plain, Nat.zero_add] at c0 c1 c2 c3 c4 c5
     rw [Nat.zero_add]
     exact ⟨c0, c1, c2, c3, c4, c5⟩
 obtain ⟨p, cap, B, rfl, p1, p2⟩ := ci
 obtain ⟨q, caq, B', rfl, q1, q2⟩ := cm
 have h := Rep.mk (W := W) (ok := ok) (d := .mk k n s (T.map fun t => t.1) (U.map fun t => (t.1, t.2.1))) p q cap caq B 0 B' 0 (fun j => (T.getD j (dat0, .nilFunc, .nilFunc)).2.1) (fun j => (T.getD j (dat0, .nilFunc, .nilFunc)).2.2) (fun j => (U.getD j ([], dat0, .nilFunc, .nilFunc)).2.2.1) (fun j => (U.getD j ([], dat0, .nilFunc, .nilFunc)).2.2.2)
   (by simp only [Dat.its, Dat.mem, List.length_map]; exact hl) (by simp only [Dat.its, List.length_map]; exact p1)
   (fun j h => by
     simp only [Dat.its, List.length_map] at h
     simp only [Dat.its, List.getElem_map, List.getD, List.getElem?_eq_getElem h, Option.getD_some]
     exact p2 j h)
   (fun j h => by
     simp only [Dat.its, List.length_map] at h
     simp only [Dat.its, List.getElem_map, List.getD, List.getElem?_eq_getElem h, Option.getD_some]
     exact ht _ (List.getElem_mem h))
   (by simp only [Dat.mem, List.length_map]; exact q1)
   (fun j h => by
     simp only [Dat.mem, List.length_map] at h
     simp only [Dat.mem, List.getElem_map, List.getD, List.getElem?_eq_getElem h, Option.getD_some]
     exact q2 j h)
   (fun j h => by
     simp only [Dat.mem, List.length_map] at h
     simp only [Dat.mem, List.getElem_map, List.getD, List.getElem?_eq_getElem h, Option.getD_some]
     exact hu _ (List.getElem_mem h))
 simp only [Dat.its, Dat.mem, List.length_map] at h
 exact h
end
section
open Go.RowKit
abbrev dval (k n : Int) (s : List UInt8) (p : Option Addr) (a cap : Nat) (q : Option Addr) (b caq : Nat) : Value := .agg #[.int .i64 k, .int .i64 n, .string (S s), .slice p a cap, .slice q b caq]
def onlyV (k n : Int) (s : List UInt8) (a b : Nat) : Bool :=
 decide (1 ≤ k) && decide (k ≤ 6) && (decide (k = 2) || decide (k = 3) || decide (n = 0)) && (decide (k = 4) || decide (s = [])) && (decide (k = 5) || decide (a = 0)) && (decide (k = 6) || decide (b = 0))
theorem plain_only (d : Dat) : plainB d = onlyV d.k d.n d.s d.its.length d.mem.length := by
 unfold plainB onlyV
 have h1 : d.its.isEmpty = decide (d.its.length = 0) := by cases d.its <;> simp
 have h2 : d.mem.isEmpty = decide (d.mem.length = 0) := by cases d.mem <;> simp
 first | rw [h1, h2]
theorem six_ways (k : Int) : k = 1 ∨ k = 2 ∨ k = 3 ∨ k = 4 ∨ k = 5 ∨ k = 6 ∨ ((k == 1) = false ∧ (k == 2) = false ∧ (k == 3) = false ∧ (k == 4) = false ∧ (k == 5) = false ∧ (k == 6) = false) := by
 simp only [beq_eq_false_iff_ne]; omega
theorem onlyV_none {k : Int} (h : (k == 1) = false ∧ (k == 2) = false ∧ (k == 3) = false ∧ (k == 4) = false ∧ (k == 5) = false ∧ (k == 6) = false) (n : Int) (s : List UInt8) (a b : Nat) : onlyV k n s a b = false := by
 simp only [beq_eq_false_iff_ne] at h
 unfold onlyV
 by_cases h1 : 1 ≤ k
 · rw [decide_eq_false (show ¬ k ≤ 6 by omega)]; simp only [Bool.and_false, Bool.false_and]
 · rw [decide_eq_false h1]; simp
theorem onlyV_eq (k n : Int) (s : List UInt8) (a b : Nat) (h : 1 ≤ k ∧ k ≤ 6) : onlyV k n s a b = ((decide (k = 2) || decide (k = 3) || (n == 0)) && (decide (k = 4) || s.isEmpty) && (decide (k = 5) || ((a : Int) == 0)) && (decide (k = 6) || ((b : Int) == 0))) := by
 unfold onlyV
 rw [decide_eq_true h.1, decide_eq_true h.2]
 have e1 : decide (n = 0) = (n == 0) := by rw [Bool.eq_iff_iff]; simp
 have e2 : decide (s = []) = s.isEmpty := by cases s <;> simp
 have e3 : decide (a = 0) = ((a : Int) == 0) := by rw [Bool.eq_iff_iff]; simp
 have e4 : decide (b = 0) = ((b : Int) == 0) := by rw [Bool.eq_iff_iff]; simp
 rw [e1, e2, e3, e4]; simp only [Bool.true_and]
theorem three_ways (a b c : Bool) : a = false ∨ (a = true ∧ b = false) ∨ (a = true ∧ b = true ∧ c = false) ∨ (a = true ∧ b = true ∧ c = true) := by
 cases a <;> cases b <;> cases c <;> simp
theorem four_ways (a b c d : Bool) : a = false ∨ (a = true ∧ b = false) ∨ (a = true ∧ b = true ∧ c = false) ∨ (a = true ∧ b = true ∧ c = true ∧ d = false) ∨ (a = true ∧ b = true ∧ c = true ∧ d = true) := by
 cases a <;> cases b <;> cases c <;> cases d <;> simp
set_option maxRecDepth 100000 in
set_option maxHeartbeats 2000000 in
theorem only_none (k n : Int) (s : List UInt8) (p q : Option Addr) (a cap b caq : Nat) (w : World) (h : (k == 1) = false ∧ (k == 2) = false ∧ (k == 3) = false ∧ (k == 4) = false ∧ (k == 5) = false ∧ (k == 6) = false) : Calls Tryz.prog 102 #[dval k n s p a cap q b caq] w fun e w' => e = .returned (.bool (onlyV k n s a b)) ∧ Below w.heap.size w w' := by
 obtain ⟨r, hr⟩ : ∃ r, onlyV k n s a b = r := ⟨_, rfl⟩
 rw [hr]
 have HR := Lib.hid (hr.symm.trans (onlyV_none h n s a b))
 clear hr
 obtain ⟨h1, h2, h3, h4, h5, h6⟩ := h
 all_goals
   go_enter Tryz.func102, Tryz.ntmps102
   go_upto_region 1 with fail
   go_quiet (fail)
   go_wp2_with fail
   go_ret
   exact ⟨by rw [HR.out]; rfl, below_drewN ((Below.refl _ _).alloc (Nat.le_refl _) _) _⟩
set_option maxRecDepth 100000 in
set_option maxHeartbeats 2000000 in
theorem only_1 (n : Int) (s : List UInt8) (p q : Option Addr) (a cap b caq : Nat) (w : World) : Calls Tryz.prog 102 #[dval 1 n s p a cap q b caq] w fun e w' => e = .returned (.bool (onlyV 1 n s a b)) ∧ Below w.heap.size w w' := by
 obtain ⟨r, hr⟩ : ∃ r, onlyV 1 n s a b = r := ⟨_, rfl⟩
 rw [hr]
 rw [onlyV_eq _ _ _ _ _ (by omega)] at hr
 have HR := Lib.hid hr
 clear hr
 rcases four_ways (n == 0) s.isEmpty ((a : Int) == 0) ((b : Int) == 0) with t1 | ⟨t1, t2⟩ | ⟨t1, t2, t3⟩ | ⟨t1, t2, t3, t4⟩ | ⟨t1, t2, t3, t4⟩
 all_goals
   go_enter Tryz.func102, Tryz.ntmps102
   go_upto_region 1 with fail
   go_quiet (fail)
   go_wp2_with fail
   go_ret
   exact ⟨by rw [← HR.out]; (try rw [t1]); (try rw [t2]); (try rw [t3]); (try rw [t4]); rfl, below_drewN ((Below.refl _ _).alloc (Nat.le_refl _) _) _⟩
set_option maxRecDepth 100000 in
set_option maxHeartbeats 2000000 in
theorem only_2 (n : Int) (s : List UInt8) (p q : Option Addr) (a cap b caq : Nat) (w : World) : Calls Tryz.prog 102 #[dval 2 n s p a cap q b caq] w fun e w' => e = .returned (.bool (onlyV 2 n s a b)) ∧ Below w.heap.size w w' := by
 obtain ⟨r, hr⟩ : ∃ r, onlyV 2 n s a b = r := ⟨_, rfl⟩
 rw [hr]
 rw [onlyV_eq _ _ _ _ _ (by omega)] at hr
 have HR := Lib.hid hr
 clear hr
 rcases three_ways s.isEmpty ((a : Int) == 0) ((b : Int) == 0) with t1 | ⟨t1, t2⟩ | ⟨t1, t2, t3⟩ | ⟨t1, t2, t3⟩
 all_goals
   go_enter Tryz.func102, Tryz.ntmps102
   go_upto_region 1 with fail
   go_quiet (fail)
   go_wp2_with fail
   go_ret
   exact ⟨by rw [← HR.out]; (try rw [t1]); (try rw [t2]); (try rw [t3]); (try rw [t4]); rfl, below_drewN ((Below.refl _ _).alloc (Nat.le_refl _) _) _⟩
set_option maxRecDepth 100000 in
set_option maxHeartbeats 2000000 in
theorem only_3 (n : Int) (s : List UInt8) (p q : Option Addr) (a cap b caq : Nat) (w : World) : Calls Tryz.prog 102 #[dval 3 n s p a cap q b caq] w fun e w' => e = .returned (.bool (onlyV 3 n s a b)) ∧ Below w.heap.size w w' := by
 obtain ⟨r, hr⟩ : ∃ r, onlyV 3 n s a b = r := ⟨_, rfl⟩
 rw [hr]
 rw [onlyV_eq _ _ _ _ _ (by omega)] at hr
 have HR := Lib.hid hr
 clear hr
 rcases three_ways s.isEmpty ((a : Int) == 0) ((b : Int) == 0) with t1 | ⟨t1, t2⟩ | ⟨t1, t2, t3⟩ | ⟨t1, t2, t3⟩
 all_goals
   go_enter Tryz.func102, Tryz.ntmps102
   go_upto_region 1 with fail
   go_quiet (fail)
   go_wp2_with fail
   go_ret
   exact ⟨by rw [← HR.out]; (try rw [t1]); (try rw [t2]); (try rw [t3]); (try rw [t4]); rfl, below_drewN ((Below.refl _ _).alloc (Nat.le_refl _) _) _⟩
set_option maxRecDepth 100000 in
set_option maxHeartbeats 2000000 in
theorem only_4 (n : Int) (s : List UInt8) (p q : Option Addr) (a cap b caq : Nat) (w : World) : Calls Tryz.prog 102 #[dval 4 n s p a cap q b caq] w fun e w' => e = .returned (.bool (onlyV 4 n s a b)) ∧ Below w.heap.size w w' := by
 obtain ⟨r, hr⟩ : ∃ r, onlyV 4 n s a b = r := ⟨_, rfl⟩
 rw [hr]
 rw [onlyV_eq _ _ _ _ _ (by omega)] at hr
 have HR := Lib.hid hr
 clear hr
 rcases three_ways (n == 0) ((a : Int) == 0) ((b : Int) == 0) with t1 | ⟨t1, t2⟩ | ⟨t1, t2, t3⟩ | ⟨t1, t2, t3⟩
 all_goals
   go_enter Tryz.func102, Tryz.ntmps102
   go_upto_region 1 with fail
   go_quiet (fail)
   go_wp2_with fail
   go_ret
   exact ⟨by rw [← HR.out]; (try rw [t1]); (try rw [t2]); (try rw [t3]); (try rw [t4]); rfl, below_drewN ((Below.refl _ _).alloc (Nat.le_refl _) _) _⟩
set_option maxRecDepth 100000 in
set_option maxHeartbeats 2000000 in
theorem only_5 (n : Int) (s : List UInt8) (p q : Option Addr) (a cap b caq : Nat) (w : World) : Calls Tryz.prog 102 #[dval 5 n s p a cap q b caq] w fun e w' => e = .returned (.bool (onlyV 5 n s a b)) ∧ Below w.heap.size w w' := by
 obtain ⟨r, hr⟩ : ∃ r, onlyV 5 n s a b = r := ⟨_, rfl⟩
 rw [hr]
 rw [onlyV_eq _ _ _ _ _ (by omega)] at hr
 have HR := Lib.hid hr
 clear hr
 rcases three_ways (n == 0) s.isEmpty ((b : Int) == 0) with t1 | ⟨t1, t2⟩ | ⟨t1, t2, t3⟩ | ⟨t1, t2, t3⟩
 all_goals
   go_enter Tryz.func102, Tryz.ntmps102
   go_upto_region 1 with fail
   go_quiet (fail)
   go_wp2_with fail
   go_ret
   exact ⟨by rw [← HR.out]; (try rw [t1]); (try rw [t2]); (try rw [t3]); (try rw [t4]); rfl, below_drewN ((Below.refl _ _).alloc (Nat.le_refl _) _) _⟩
set_option maxRecDepth 100000 in
set_option maxHeartbeats 2000000 in
theorem only_6 (n : Int) (s : List UInt8) (p q : Option Addr) (a cap b caq : Nat) (w : World) : Calls Tryz.prog 102 #[dval 6 n s p a cap q b caq] w fun e w' => e = .returned (.bool (onlyV 6 n s a b)) ∧ Below w.heap.size w w' := by
 obtain ⟨r, hr⟩ : ∃ r, onlyV 6 n s a b = r := ⟨_, rfl⟩
 rw [hr]
 rw [onlyV_eq _ _ _ _ _ (by omega)] at hr
 have HR := Lib.hid hr
 clear hr
 rcases three_ways (n == 0) s.isEmpty ((a : Int) == 0) with t1 | ⟨t1, t2⟩ | ⟨t1, t2, t3⟩ | ⟨t1, t2, t3⟩
 all_goals
   go_enter Tryz.func102, Tryz.ntmps102
   go_upto_region 1 with fail
   go_quiet (fail)
   go_wp2_with fail
   go_ret
   exact ⟨by rw [← HR.out]; (try rw [t1]); (try rw [t2]); (try rw [t3]); (try rw [t4]); rfl, below_drewN ((Below.refl _ _).alloc (Nat.le_refl _) _) _⟩
theorem only_any (k n : Int) (s : List UInt8) (p q : Option Addr) (a cap b caq : Nat) (w : World) : Calls Tryz.prog 102 #[dval k n s p a cap q b caq] w fun e w' => e = .returned (.bool (onlyV k n s a b)) ∧ Below w.heap.size w w' := by
 rcases six_ways k with rfl | rfl | rfl | rfl | rfl | rfl | h
 · exact only_1 n s p q a cap b caq w
 · exact only_2 n s p q a cap b caq w
 · exact only_3 n s p q a cap b caq w
 · exact only_4 n s p q a cap b caq w
 · exact only_5 n s p q a cap b caq w
 · exact only_6 n s p q a cap b caq w
 · exact only_none k n s p q a cap b caq w h
end
section
open Go.RowKit
theorem dVld_any (u : Int) (w : World) : Calls Tryz.prog 103 #[.int .i64 u] w fun e w' => e = .returned (.bool (vld u)) ∧ w = w' := by
 have HN := Lib.hid (show vld u = (decide (-1000000000000000 ≤ u) && decide (u ≤ 1000000000000000)) from rfl)
 generalize vld u = b at HN
 by_cases h1 : -1000000000000000 ≤ u
 all_goals
   go_enter Tryz.func103, Tryz.ntmps103
   go_wp2_with fail
   go_ret
   exact ⟨congrArg (fun b => Ending.returned (.bool b)) (by rw [HN.out, Bool.eq_iff_iff]; simp; omega), rfl⟩
theorem dRefVld_any (u : Int) (w : World) : Calls Tryz.prog 56 #[.int .i64 u] w fun e w' => e = .returned (.bool (vld u)) ∧ w = w' := by
 have HN := Lib.hid (show vld u = (decide (-1000000000000000 ≤ u) && decide (u ≤ 1000000000000000)) from rfl)
 generalize vld u = b at HN
 by_cases h1 : -1000000000000000 ≤ u
 all_goals
   go_enter Tryz.func56, Tryz.ntmps56
   go_wp2_with fail
   go_ret
   exact ⟨congrArg (fun b => Ending.returned (.bool b)) (by rw [HN.out, Bool.eq_iff_iff]; simp; omega), rfl⟩
def boxD (d : Dat) (vi vm : Value) : Array Value := #[.int .i64 d.k, .int .i64 d.n, .string (S d.s), vi, vm]
def ascF (m : List (List UInt8 × Dat)) (i : Nat) : Bool := ascM (m.drop i)
theorem ascM_two (x y : List UInt8 × Dat) (r : List (List UInt8 × Dat)) : ascM (x :: y :: r) = (Op.bytesLess x.1 y.1 && ascM (y :: r)) := by rw [ascM]
theorem ascF_step {m : List (List UInt8 × Dat)} {i : Nat} (h : i + 1 < m.length) : ascF m i = (Op.bytesLess (m[i]'(by omega)).1 m[i + 1].1 && ascF m (i + 1)) := by
 unfold ascF
 rw [List.drop_eq_getElem_cons (show i < m.length by omega), List.drop_eq_getElem_cons h, ascM_two]
theorem ascF_end {m : List (List UInt8 × Dat)} {i : Nat} (h : m.length ≤ i + 1) : ascF m i = true := by
 unfold ascF
 rcases Nat.lt_or_ge i m.length with h1 | h1
 · rw [List.drop_eq_getElem_cons h1, List.drop_of_length_le h]; simp [ascM]
 · rw [List.drop_of_length_le h1]; rfl
def badV (k n : Int) : Bool := ((k == 2) && !(n == 0) && !(n == 1)) || ((k == 3) && !vld n)
theorem badNum_eq (d : Dat) : badNum d = badV d.k d.n := by
 unfold badNum badV
 have e (a b : Int) : decide (a = b) = (a == b) := by rw [Bool.eq_iff_iff]; simp
 rw [e, e, e, e]
theorem bad_ways (k n : Int) : ((k == 2) = true ∧ (n != 0) = false ∧ (k == 3) = false ∧ badV k n = false) ∨ ((k == 2) = true ∧ (n != 0) = true ∧ (n != 1) = false ∧ (k == 3) = false ∧ badV k n = false) ∨ ((k == 2) = true ∧ (n != 0) = true ∧ (n != 1) = true ∧ badV k n = true) ∨ ((k == 2) = false ∧ (k == 3) = true ∧ badV k n = !vld n) ∨ ((k == 2) = false ∧ (k == 3) = false ∧ badV k n = false) := by
 unfold badV
 by_cases h2 : k = 2
 · subst h2
   by_cases h0 : n = 0
   · subst h0; simp
   · by_cases h1 : n = 1
     · subst h1; simp
     · simp [h0, h1]
 · by_cases h3 : k = 3
   · subst h3; simp
   · simp [h2, h3]
def CkS (N : Nat) (w : World) (d : Dat) (vi vm : Value) (W : World) : Prop := Blk W N (boxD d vi vm) 25 ∧ Below N w W
theorem CkS.cells {N : Nat} {w W : World} {d : Dat} {vi vm : Value} (h : CkS N w d vi vm W) :
   W.cell? ⟨N, 0, none⟩ = some (.int .i64 d.k) ∧ W.cell? ⟨N, 1, none⟩ = some (.int .i64 d.n) ∧ W.cell? ⟨N, 2, none⟩ = some (.string (S d.s)) ∧ W.cell? ⟨N, 3, none⟩ = some vi ∧ W.cell? ⟨N, 4, none⟩ = some vm ∧ N < W.heap.size :=
 ⟨h.1.cell 0, h.1.cell 1, h.1.cell 2, h.1.cell 3, h.1.cell 4, h.1.lt⟩
theorem CkS.below {N : Nat} {w W W' : World} {d : Dat} {vi vm : Value} (h : CkS N w d vi vm W) (hb : Below W.heap.size W W') : CkS N w d vi vm W' :=
 ⟨h.1.below hb, h.2.trans (hb.mono (Nat.le_of_lt h.1.lt))⟩
theorem CkS.new (w : World) (d : Dat) (vi vm : Value) : CkS w.heap.size w d vi vm (w.alloc (.cells (boxD d vi vm) 25)) := ⟨Blk.new w _ _, (Below.refl _ _).alloc (Nat.le_refl _) _⟩
theorem CkS.drewN {N : Nat} {w W : World} {d : Dat} {vi vm : Value} (h : CkS N w d vi vm W) (n : Nat) : CkS N w d vi vm (W.drewN n) := ⟨h.1, below_drewN h.2 n⟩
end
section
open Go.RowKit
theorem own_kind {d : Dat} (h1 : plainB d = false) : ownE d = 11 := by unfold ownE; rw [if_pos h1]
theorem own_range {d : Dat} (h1 : plainB d = true) (h2 : badNum d = true) : ownE d = 1 := by unfold ownE; rw [if_neg (by rw [h1]; decide), if_pos h2]
theorem own_twice {d : Dat} (h1 : plainB d = true) (h2 : badNum d = false) (h3 : ascM d.mem = false) : ownE d = 6 := by unfold ownE; rw [if_neg (by rw [h1]; decide), if_neg (by rw [h2]; decide), if_pos h3]
theorem own_none {d : Dat} (h1 : plainB d = true) (h2 : badNum d = false) (h3 : ascM d.mem = true) : ownE d = 0 := by unfold ownE; rw [if_neg (by rw [h1]; decide), if_neg (by rw [h2]; decide), if_neg (by rw [h3]; decide)]
set_option maxRecDepth 100000 in
set_option maxHeartbeats 4000000 in
theorem ownD_any {d : Dat} {vi vm : Value} {ok : Nat → Prop} {w : World} (hr : Rep w ok d vi vm) :
   Calls Tryz.prog 69 #[.agg #[.int .i64 d.k, .int .i64 d.n, .string (S d.s), vi, vm]] w fun e w' => e = .returned (.int .i64 (ownE d : Int)) ∧ Below w.heap.size w w' := by
   obtain ⟨r, hrr⟩ : ∃ r, ownE d = r := ⟨_, rfl⟩
   rw [hrr]
   have HR := Lib.hid hrr
   clear hrr
   obtain ⟨p, cap, rfl, hil, -⟩ := hr.items
   obtain ⟨q, caq, rfl, hml, hme⟩ := hr.members
   clear hr
   unfold maxLen at hil hml
   have HM := Lib.hid hme
   clear hme
   have hS : CkS w.heap.size w d (.slice p d.its.length cap) (.slice q d.mem.length caq) (w.alloc (.cells #[.int .i64 d.k, .int .i64 d.n, .string (S d.s), .slice p d.its.length cap, .slice q d.mem.length caq] 25)) := CkS.new w d _ _
   go_enter Tryz.func69, Tryz.ntmps69
   go_upto_region 1 with fail
   generalize w.alloc (.cells #[.int .i64 d.k, .int .i64 d.n, .string (S d.s), .slice p d.its.length cap, .slice q d.mem.length caq] 25) = W at hS ⊢
   obtain ⟨c0, c1, c2, c3, c4, hlw⟩ := hS.cells
   have HS := Lib.hid hS
   clear hS
   have HP := Lib.hid (plain_only d)
   go_wp2_with fail
   refine (only_any d.k d.n d.s p q d.its.length cap d.mem.length caq _).mono ?_
   rintro e w1 ⟨rfl, hb⟩
   have HS1 := Lib.hid (HS.out.below hb)
   rw [← HP.out]
   clear hb HS c0 c1 c2 c3 c4 hlw
   obtain ⟨c0, c1, c2, c3, c4, hlw⟩ := HS1.out.cells
   rcases Bool.eq_false_or_eq_true (plainB d) with hpl | hpl
   case inr =>
     rw [hpl]
     have HV := Lib.hid ((own_kind hpl).symm.trans HR.out)
     go_wp2_with fail
     go_ret
     exact ⟨by rw [← HV.out]; rfl, HS1.out.2⟩
   rw [hpl]
   have HPL := Lib.hid hpl
   clear hpl
   go_upto_region 3 with fail
   go_cut [8] (fun v wx => v = .bool (badV d.k d.n) ∧ Hid (CkS w.heap.size w d (.slice p d.its.length cap) (.slice q d.mem.length caq) wx))
   case first =>
     rcases bad_ways d.k d.n with ⟨t1, t2, t3, tv⟩ | ⟨t1, t2, t3, t4, tv⟩ | ⟨t1, t2, t3, tv⟩ | ⟨t1, t2, tv⟩ | ⟨t1, t2, tv⟩
     all_goals
       have TV := Lib.hid tv
       clear tv
       go_wp2_with (go_at_call 103; refine (dVld_any _ _).mono ?_; rintro e w' ⟨rfl, rfl⟩)
       go_meet
       exact ⟨by rw [TV.out], HS1⟩
   case rest =>
     obtain ⟨rfl, HS2⟩ := hcut
     have HB0 := Lib.hid (badNum_eq d)
     clear c0 c1 c2 c3 c4 hlw HS1
     rcases Bool.eq_false_or_eq_true (badV d.k d.n) with hbv | hbv
     · rw [hbv]
       have HV := Lib.hid ((own_range HPL.out (HB0.out.trans hbv)).symm.trans HR.out)
       go_wp2_with fail
       go_ret
       exact ⟨by rw [← HV.out]; rfl, HS2.out.2⟩
     rw [hbv]
     have HBV := Lib.hid (HB0.out.trans hbv)
     clear hbv HB0
     obtain ⟨-, -, -, c3, c4, hlw⟩ := HS2.out.cells
     go_wp2_with fail
     go_loopw [3] (fun x wr => ∃ i : Nat, x = .int .i64 ((i + 1 : Nat) : Int) ∧ (i = 0 ∨ i + 1 ≤ d.mem.length) ∧ Hid (CkS w.heap.size w d (.slice p d.its.length cap) (.slice q d.mem.length caq) wr) ∧ Hid (ascM d.mem = ascF d.mem i)) (fun x _ => d.mem.length + 1 - (intOf x).toNat)
     case atStart => exact ⟨0, rfl, .inl rfl, HS2, Lib.hid rfl⟩
     case round =>
       obtain ⟨i, rfl, hi, HC, HV⟩ := hrel
       by_cases hlt : i + 1 < d.mem.length
       · obtain ⟨B, o, xi, xm, hqq, hcap, hB, hlab, -, -⟩ := HM.out i (by omega)
         obtain ⟨B', o', ui, um, hqq', -, -, hlab', -, -⟩ := HM.out (i + 1) hlt
         have hae : B' = B ∧ o' = o := by rw [hqq] at hqq'; injection hqq' with h; injection h with h1 h2; exact ⟨h1.symm, h2.symm⟩
         obtain ⟨rfl, rfl⟩ := hae
         subst hqq
         have k0 := (HC.out.2.cell (p := ⟨B', o' + i * 6, none⟩) hB).trans hlab
         have k1 := (HC.out.2.cell (p := ⟨B', o' + (i + 1) * 6, none⟩) hB).trans hlab'
         have HV1 := Lib.hid (HV.out.trans (ascF_step hlt))
         clear hqq' hlab hlab' HV
         generalize (d.mem[i]'(by omega)).1 = x at k0 HV1
         generalize d.mem[i + 1].1 = y at k1 HV1
         obtain ⟨-, -, -, c3, c4, hlw⟩ := HC.out.cells
         have b0 : (0 : Int) ≤ ((i + 1 : Nat) : Int) - 1 := by omega
         have b1 : ((i + 1 : Nat) : Int) - 1 < (d.mem.length : Int) := by omega
         have b2 : (((i + 1 : Nat) : Int) - 1).toNat = i := by omega
         go_wp2_with fail
         go_quiet (fail)
         have HC2 := Lib.hid (HC.out.drewN nq)
         rcases Bool.eq_false_or_eq_true (Op.bytesLess x y) with hxy | hxy
         · have HV2 := Lib.hid (show ascM d.mem = ascF d.mem (i + 1) by rw [HV1.out, hxy]; rfl)
           rw [hxy, Bool.not_true]
           go_wp2_with fail
           go_roundw
           case rel => exact ⟨i + 1, by go_num, .inr hlt, HC2, HV2⟩
           case measure => simp [intOf]; omega
         · have HV2 := Lib.hid (show ascM d.mem = false by rw [HV1.out, hxy]; rfl)
           rw [hxy, Bool.not_false]
           have HV3 := Lib.hid ((own_twice HPL.out HBV.out HV2.out).symm.trans HR.out)
           go_wp2_with fail
           go_ret
           exact ⟨by rw [← HV3.out]; rfl, HC2.out.2⟩
       · have HV1 := Lib.hid (HV.out.trans (ascF_end (by omega)))
         clear HV
         have HV2 := Lib.hid ((own_none HPL.out HBV.out HV1.out).symm.trans HR.out)
         obtain ⟨-, -, -, c3, c4, hlw⟩ := HC.out.cells
         go_wp2_with fail
         go_ret
         exact ⟨by rw [← HV2.out]; rfl, HC.out.2⟩
end
section
open Go.RowKit
theorem onlyV_no {k : Int} (h : ¬ (1 ≤ k ∧ k ≤ 6)) (n : Int) (s : List UInt8) (a b : Nat) : onlyV k n s a b = false := by
 unfold onlyV
 by_cases h1 : 1 ≤ k
 · rw [decide_eq_false (show ¬ k ≤ 6 by omega)]; simp only [Bool.and_false, Bool.false_and]
 · rw [decide_eq_false h1]; simp only [Bool.false_and]
set_option maxRecDepth 100000 in
set_option maxHeartbeats 2000000 in
theorem plain_none (k n : Int) (s : List UInt8) (p q : Option Addr) (a cap b caq : Nat) (w : World) (h : ¬ (1 ≤ k ∧ k ≤ 6)) : Calls Tryz.prog 68 #[dval k n s p a cap q b caq] w fun e w' => e = .returned (.bool (onlyV k n s a b)) ∧ Below w.heap.size w w' := by
 obtain ⟨r, hr⟩ : ∃ r, onlyV k n s a b = r := ⟨_, rfl⟩
 rw [hr]
 have HR := Lib.hid (hr.symm.trans (onlyV_no h n s a b))
 clear hr
 have h : decide (k < 1) = true ∨ (decide (k < 1) = false ∧ decide (k > 6) = true) := by
   simp only [decide_eq_true_eq, decide_eq_false_iff_not]; omega
 rcases h with h1 | ⟨h1, h2⟩
 all_goals
   go_enter Tryz.func68, Tryz.ntmps68
   go_wp2_with fail
   go_ret
   exact ⟨by rw [HR.out]; rfl, by go_grown⟩
set_option maxRecDepth 100000 in
set_option maxHeartbeats 2000000 in
theorem plain_1 (n : Int) (s : List UInt8) (p q : Option Addr) (a cap b caq : Nat) (w : World) : Calls Tryz.prog 68 #[dval 1 n s p a cap q b caq] w fun e w' => e = .returned (.bool (onlyV 1 n s a b)) ∧ Below w.heap.size w w' := by
 obtain ⟨r, hr⟩ : ∃ r, onlyV 1 n s a b = r := ⟨_, rfl⟩
 rw [hr]
 rw [onlyV_eq _ _ _ _ _ (by omega)] at hr
 have HR := Lib.hid hr
 clear hr
 rcases four_ways (n == 0) s.isEmpty ((a : Int) == 0) ((b : Int) == 0) with t1 | ⟨t1, t2⟩ | ⟨t1, t2, t3⟩ | ⟨t1, t2, t3, t4⟩ | ⟨t1, t2, t3, t4⟩
 all_goals
   (first | (have u1 : (n != 0) = true := by (show (!(n == 0)) = true); rw [t1]; rfl) | (have u1 : (n != 0) = false := by (show (!(n == 0)) = false); rw [t1]; rfl) | skip)
   (first | (have u2 : (!s.isEmpty) = true := by rw [t1]; rfl) | (have u2 : (!s.isEmpty) = true := by rw [t2]; rfl) | (have u2 : (!s.isEmpty) = false := by rw [t1]; rfl) | (have u2 : (!s.isEmpty) = false := by rw [t2]; rfl) | skip)
   go_enter Tryz.func68, Tryz.ntmps68
   go_wp2_with fail
   go_ret
   exact ⟨by rw [← HR.out]; (try rw [t1]); (try rw [t2]); (try rw [t3]); (try rw [t4]); rfl, by go_grown⟩
set_option maxRecDepth 100000 in
set_option maxHeartbeats 2000000 in
theorem plain_2 (n : Int) (s : List UInt8) (p q : Option Addr) (a cap b caq : Nat) (w : World) : Calls Tryz.prog 68 #[dval 2 n s p a cap q b caq] w fun e w' => e = .returned (.bool (onlyV 2 n s a b)) ∧ Below w.heap.size w w' := by
 obtain ⟨r, hr⟩ : ∃ r, onlyV 2 n s a b = r := ⟨_, rfl⟩
 rw [hr]
 rw [onlyV_eq _ _ _ _ _ (by omega)] at hr
 have HR := Lib.hid hr
 clear hr
 rcases three_ways s.isEmpty ((a : Int) == 0) ((b : Int) == 0) with t1 | ⟨t1, t2⟩ | ⟨t1, t2, t3⟩ | ⟨t1, t2, t3⟩
 all_goals
   (first | (have u1 : (n != 0) = true := by (show (!(n == 0)) = true); rw [t1]; rfl) | (have u1 : (n != 0) = false := by (show (!(n == 0)) = false); rw [t1]; rfl) | skip)
   (first | (have u2 : (!s.isEmpty) = true := by rw [t1]; rfl) | (have u2 : (!s.isEmpty) = true := by rw [t2]; rfl) | (have u2 : (!s.isEmpty) = false := by rw [t1]; rfl) | (have u2 : (!s.isEmpty) = false := by rw [t2]; rfl) | skip)
   go_enter Tryz.func68, Tryz.ntmps68
   go_wp2_with fail
   go_ret
   exact ⟨by rw [← HR.out]; (try rw [t1]); (try rw [t2]); (try rw [t3]); (try rw [t4]); rfl, by go_grown⟩
set_option maxRecDepth 100000 in
set_option maxHeartbeats 2000000 in
theorem plain_3 (n : Int) (s : List UInt8) (p q : Option Addr) (a cap b caq : Nat) (w : World) : Calls Tryz.prog 68 #[dval 3 n s p a cap q b caq] w fun e w' => e = .returned (.bool (onlyV 3 n s a b)) ∧ Below w.heap.size w w' := by
 obtain ⟨r, hr⟩ : ∃ r, onlyV 3 n s a b = r := ⟨_, rfl⟩
 rw [hr]
 rw [onlyV_eq _ _ _ _ _ (by omega)] at hr
 have HR := Lib.hid hr
 clear hr
 rcases three_ways s.isEmpty ((a : Int) == 0) ((b : Int) == 0) with t1 | ⟨t1, t2⟩ | ⟨t1, t2, t3⟩ | ⟨t1, t2, t3⟩
 all_goals
   (first | (have u1 : (n != 0) = true := by (show (!(n == 0)) = true); rw [t1]; rfl) | (have u1 : (n != 0) = false := by (show (!(n == 0)) = false); rw [t1]; rfl) | skip)
   (first | (have u2 : (!s.isEmpty) = true := by rw [t1]; rfl) | (have u2 : (!s.isEmpty) = true := by rw [t2]; rfl) | (have u2 : (!s.isEmpty) = false := by rw [t1]; rfl) | (have u2 : (!s.isEmpty) = false := by rw [t2]; rfl) | skip)
   go_enter Tryz.func68, Tryz.ntmps68
   go_wp2_with fail
   go_ret
   exact ⟨by rw [← HR.out]; (try rw [t1]); (try rw [t2]); (try rw [t3]); (try rw [t4]); rfl, by go_grown⟩
set_option maxRecDepth 100000 in
set_option maxHeartbeats 2000000 in
theorem plain_4 (n : Int) (s : List UInt8) (p q : Option Addr) (a cap b caq : Nat) (w : World) : Calls Tryz.prog 68 #[dval 4 n s p a cap q b caq] w fun e w' => e = .returned (.bool (onlyV 4 n s a b)) ∧ Below w.heap.size w w' := by
 obtain ⟨r, hr⟩ : ∃ r, onlyV 4 n s a b = r := ⟨_, rfl⟩
 rw [hr]
 rw [onlyV_eq _ _ _ _ _ (by omega)] at hr
 have HR := Lib.hid hr
 clear hr
 rcases three_ways (n == 0) ((a : Int) == 0) ((b : Int) == 0) with t1 | ⟨t1, t2⟩ | ⟨t1, t2, t3⟩ | ⟨t1, t2, t3⟩
 all_goals
   (first | (have u1 : (n != 0) = true := by (show (!(n == 0)) = true); rw [t1]; rfl) | (have u1 : (n != 0) = false := by (show (!(n == 0)) = false); rw [t1]; rfl) | skip)
   (first | (have u2 : (!s.isEmpty) = true := by rw [t1]; rfl) | (have u2 : (!s.isEmpty) = true := by rw [t2]; rfl) | (have u2 : (!s.isEmpty) = false := by rw [t1]; rfl) | (have u2 : (!s.isEmpty) = false := by rw [t2]; rfl) | skip)
   go_enter Tryz.func68, Tryz.ntmps68
   go_wp2_with fail
   go_ret
   exact ⟨by rw [← HR.out]; (try rw [t1]); (try rw [t2]); (try rw [t3]); (try rw [t4]); rfl, by go_grown⟩
set_option maxRecDepth 100000 in
set_option maxHeartbeats 2000000 in
theorem plain_5 (n : Int) (s : List UInt8) (p q : Option Addr) (a cap b caq : Nat) (w : World) : Calls Tryz.prog 68 #[dval 5 n s p a cap q b caq] w fun e w' => e = .returned (.bool (onlyV 5 n s a b)) ∧ Below w.heap.size w w' := by
 obtain ⟨r, hr⟩ : ∃ r, onlyV 5 n s a b = r := ⟨_, rfl⟩
 rw [hr]
 rw [onlyV_eq _ _ _ _ _ (by omega)] at hr
 have HR := Lib.hid hr
 clear hr
 rcases three_ways (n == 0) s.isEmpty ((b : Int) == 0) with t1 | ⟨t1, t2⟩ | ⟨t1, t2, t3⟩ | ⟨t1, t2, t3⟩
 all_goals
   (first | (have u1 : (n != 0) = true := by (show (!(n == 0)) = true); rw [t1]; rfl) | (have u1 : (n != 0) = false := by (show (!(n == 0)) = false); rw [t1]; rfl) | skip)
   (first | (have u2 : (!s.isEmpty) = true := by rw [t1]; rfl) | (have u2 : (!s.isEmpty) = true := by rw [t2]; rfl) | (have u2 : (!s.isEmpty) = false := by rw [t1]; rfl) | (have u2 : (!s.isEmpty) = false := by rw [t2]; rfl) | skip)
   go_enter Tryz.func68, Tryz.ntmps68
   go_wp2_with fail
   go_ret
   exact ⟨by rw [← HR.out]; (try rw [t1]); (try rw [t2]); (try rw [t3]); (try rw [t4]); rfl, by go_grown⟩
set_option maxRecDepth 100000 in
set_option maxHeartbeats 2000000 in
theorem plain_6 (n : Int) (s : List UInt8) (p q : Option Addr) (a cap b caq : Nat) (w : World) : Calls Tryz.prog 68 #[dval 6 n s p a cap q b caq] w fun e w' => e = .returned (.bool (onlyV 6 n s a b)) ∧ Below w.heap.size w w' := by
 obtain ⟨r, hr⟩ : ∃ r, onlyV 6 n s a b = r := ⟨_, rfl⟩
 rw [hr]
 rw [onlyV_eq _ _ _ _ _ (by omega)] at hr
 have HR := Lib.hid hr
 clear hr
 rcases three_ways (n == 0) s.isEmpty ((a : Int) == 0) with t1 | ⟨t1, t2⟩ | ⟨t1, t2, t3⟩ | ⟨t1, t2, t3⟩
 all_goals
   (first | (have u1 : (n != 0) = true := by (show (!(n == 0)) = true); rw [t1]; rfl) | (have u1 : (n != 0) = false := by (show (!(n == 0)) = false); rw [t1]; rfl) | skip)
   (first | (have u2 : (!s.isEmpty) = true := by rw [t1]; rfl) | (have u2 : (!s.isEmpty) = true := by rw [t2]; rfl) | (have u2 : (!s.isEmpty) = false := by rw [t1]; rfl) | (have u2 : (!s.isEmpty) = false := by rw [t2]; rfl) | skip)
   go_enter Tryz.func68, Tryz.ntmps68
   go_wp2_with fail
   go_ret
   exact ⟨by rw [← HR.out]; (try rw [t1]); (try rw [t2]); (try rw [t3]); (try rw [t4]); rfl, by go_grown⟩
theorem plain_any (k n : Int) (s : List UInt8) (p q : Option Addr) (a cap b caq : Nat) (w : World) : Calls Tryz.prog 68 #[dval k n s p a cap q b caq] w fun e w' => e = .returned (.bool (onlyV k n s a b)) ∧ Below w.heap.size w w' := by
 by_cases h : 1 ≤ k ∧ k ≤ 6
 · rcases (by omega : k = 1 ∨ k = 2 ∨ k = 3 ∨ k = 4 ∨ k = 5 ∨ k = 6) with rfl | rfl | rfl | rfl | rfl | rfl
   · exact plain_1 n s p q a cap b caq w
   · exact plain_2 n s p q a cap b caq w
   · exact plain_3 n s p q a cap b caq w
   · exact plain_4 n s p q a cap b caq w
   · exact plain_5 n s p q a cap b caq w
   · exact plain_6 n s p q a cap b caq w
 · exact plain_none k n s p q a cap b caq w h
end
section
open Go.RowKit
theorem chkI_drop {its : List Dat} {lv i : Nat} (h : i < its.length) : chkI (its.drop i) lv = if chk its[i] lv = 0 then chkI (its.drop (i + 1)) lv else chk its[i] lv := by
 rw [List.drop_eq_getElem_cons h, chkI]
theorem chkI_over {its : List Dat} {lv i : Nat} (h : its.length ≤ i) : chkI (its.drop i) lv = 0 := by
 rw [List.drop_of_length_le h, chkI]
theorem chkM_drop {mem : List (List UInt8 × Dat)} {lv i : Nat} (h : i < mem.length) : chkM (mem.drop i) lv = if chk mem[i].2 lv = 0 then chkM (mem.drop (i + 1)) lv else chk mem[i].2 lv := by
 rw [List.drop_eq_getElem_cons h]
 obtain ⟨l, x⟩ := mem[i]
 rw [chkM]
theorem chkM_over {mem : List (List UInt8 × Dat)} {lv i : Nat} (h : mem.length ≤ i) : chkM (mem.drop i) lv = 0 := by
 rw [List.drop_of_length_le h, chkM]
theorem chk_deep {d : Dat} {lv : Nat} (h : 16 < lv) : chk d lv = 9 := by rw [chk_eq, if_pos h]
theorem chk_kind {d : Dat} {lv : Nat} (h : ¬ 16 < lv) (h1 : plainB d = false) : chk d lv = 11 := by
 rw [chk_eq, if_neg h, show ownE d = 11 by unfold ownE; rw [if_pos h1]]; rfl
theorem chk_range {d : Dat} {lv : Nat} (h : ¬ 16 < lv) (h1 : plainB d = true) (h2 : badNum d = true) : chk d lv = 1 := by
 rw [chk_eq, if_neg h, show ownE d = 1 by unfold ownE; rw [if_neg (by rw [h1]; decide), if_pos h2]]; rfl
theorem chk_twice {d : Dat} {lv : Nat} (h : ¬ 16 < lv) (h1 : plainB d = true) (h2 : badNum d = false) (h3 : ascM d.mem = false) : chk d lv = 6 := by
 rw [chk_eq, if_neg h, show ownE d = 6 by unfold ownE; rw [if_neg (by rw [h1]; decide), if_neg (by rw [h2]; decide), if_pos h3]]; rfl
theorem chk_parts {d : Dat} {lv : Nat} (h : ¬ 16 < lv) (h1 : plainB d = true) (h2 : badNum d = false) (h3 : ascM d.mem = true) : chk d lv = if chkI d.its (lv + 1) = 0 then chkM d.mem (lv + 1) else chkI d.its (lv + 1) := by
 rw [chk_eq, if_neg h, show ownE d = 0 by unfold ownE; rw [if_neg (by rw [h1]; decide), if_neg (by rw [h2]; decide), if_neg (by rw [h3]; decide)], if_pos rfl]
set_option maxRecDepth 100000 in
set_option maxHeartbeats 4000000 in
theorem refCheck_any (m : Nat) : ∀ (d : Dat), SizeOf.sizeOf d < m → ∀ (lv : Nat), lv ≤ 17 → ∀ (vi vm : Value) (ok : Nat → Prop) (w : World), Rep w ok d vi vm →
   Calls Tryz.prog 43 #[.agg #[.int .i64 d.k, .int .i64 d.n, .string (S d.s), vi, vm], .int .i64 (lv : Int)] w fun e w' => e = .returned (.int .i64 (chk d lv : Int)) ∧ Below w.heap.size w w' := by
 induction m with
 | zero => intro d h; exact absurd h (Nat.not_lt_zero _)
 | succ m ih =>
   intro d hd lv hlv vi vm ok w hr
   obtain ⟨r, hrr⟩ : ∃ r, chk d lv = r := ⟨_, rfl⟩
   rw [hrr]
   have HR := Lib.hid hrr
   clear hrr
   have IH := Lib.hid ih
   clear ih
   obtain ⟨p, cap, rfl, hil, hit⟩ := hr.items
   obtain ⟨q, caq, rfl, hml, hme⟩ := hr.members
   clear hr
   unfold maxLen at hil hml
   have HT := Lib.hid hit
   have HM := Lib.hid hme
   clear hit hme
   have HD := Lib.hid hd
   clear hd
   have hS : CkS w.heap.size w d (.slice p d.its.length cap) (.slice q d.mem.length caq) (w.alloc (.cells #[.int .i64 d.k, .int .i64 d.n, .string (S d.s), .slice p d.its.length cap, .slice q d.mem.length caq] 25)) := CkS.new w d _ _
   by_cases h16 : 16 < lv
   · have HV := Lib.hid ((chk_deep h16).symm.trans HR.out)
     have HS := Lib.hid hS
     clear hS
     go_enter Tryz.func43, Tryz.ntmps43
     go_wp2_with fail
     go_ret
     exact ⟨by rw [← HV.out]; rfl, HS.out.2⟩
   go_enter Tryz.func43, Tryz.ntmps43
   go_upto_region 1 with fail
   generalize w.alloc (.cells #[.int .i64 d.k, .int .i64 d.n, .string (S d.s), .slice p d.its.length cap, .slice q d.mem.length caq] 25) = W at hS ⊢
   obtain ⟨c0, c1, c2, c3, c4, hlw⟩ := hS.cells
   have HS := Lib.hid hS
   clear hS
   have HP := Lib.hid (plain_only d)
   go_upto_region 3 with fail
   go_wp2_with fail
   refine (plain_any d.k d.n d.s p q d.its.length cap d.mem.length caq _).mono ?_
   rintro e w1 ⟨rfl, hb⟩
   have HS1 := Lib.hid (HS.out.below hb)
   rw [← HP.out]
   clear hb HS c0 c1 c2 c3 c4 hlw
   obtain ⟨c0, c1, c2, c3, c4, hlw⟩ := HS1.out.cells
   rcases Bool.eq_false_or_eq_true (plainB d) with hpl | hpl
   case inr =>
     rw [hpl]
     have HV := Lib.hid ((chk_kind h16 hpl).symm.trans HR.out)
     go_wp2_with fail
     go_ret
     exact ⟨by rw [← HV.out]; rfl, HS1.out.2⟩
   rw [hpl]
   have HPL := Lib.hid hpl
   clear hpl
   go_upto_region 5 with fail
   go_cut [38] (fun v wx => v = .bool (badV d.k d.n) ∧ Hid (CkS w.heap.size w d (.slice p d.its.length cap) (.slice q d.mem.length caq) wx))
   case first =>
     rcases bad_ways d.k d.n with ⟨t1, t2, t3, tv⟩ | ⟨t1, t2, t3, t4, tv⟩ | ⟨t1, t2, t3, tv⟩ | ⟨t1, t2, tv⟩ | ⟨t1, t2, tv⟩
     all_goals
       have TV := Lib.hid tv
       clear tv
       go_wp2_with (go_at_call 56; refine (dRefVld_any _ _).mono ?_; rintro e w' ⟨rfl, rfl⟩)
       go_meet
       exact ⟨by rw [TV.out], HS1⟩
   case rest =>
     obtain ⟨rfl, HS2⟩ := hcut
     have HB0 := Lib.hid (badNum_eq d)
     clear c0 c1 c2 c3 c4 hlw HS1
     rcases Bool.eq_false_or_eq_true (badV d.k d.n) with hbv | hbv
     · rw [hbv]
       have HV := Lib.hid ((chk_range h16 HPL.out (HB0.out.trans hbv)).symm.trans HR.out)
       go_wp2_with fail
       go_ret
       exact ⟨by rw [← HV.out]; rfl, HS2.out.2⟩
     rw [hbv]
     have HBV := Lib.hid (HB0.out.trans hbv)
     clear hbv HB0
     obtain ⟨-, -, -, c3, c4, hlw⟩ := HS2.out.cells
     go_wp2_with fail
     go_loopw [5] (fun x wr => ∃ i : Nat, x = .int .i64 ((i + 1 : Nat) : Int) ∧ (i = 0 ∨ i + 1 ≤ d.mem.length) ∧ Hid (CkS w.heap.size w d (.slice p d.its.length cap) (.slice q d.mem.length caq) wr) ∧ Hid (ascM d.mem = ascF d.mem i)) (fun x _ => d.mem.length + 1 - (intOf x).toNat)
     case atStart => exact ⟨0, rfl, .inl rfl, HS2, Lib.hid rfl⟩
     case round =>
       obtain ⟨i, rfl, hi, HC, HV⟩ := hrel
       by_cases hlt : i + 1 < d.mem.length
       · obtain ⟨B, o, xi, xm, hqq, hcap, hB, hlab, -, -⟩ := HM.out i (by omega)
         obtain ⟨B', o', ui, um, hqq', -, -, hlab', -, -⟩ := HM.out (i + 1) hlt
         have hae : B' = B ∧ o' = o := by rw [hqq] at hqq'; injection hqq' with h; injection h with h1 h2; exact ⟨h1.symm, h2.symm⟩
         obtain ⟨rfl, rfl⟩ := hae
         subst hqq
         have k0 := (HC.out.2.cell (p := ⟨B', o' + i * 6, none⟩) hB).trans hlab
         have k1 := (HC.out.2.cell (p := ⟨B', o' + (i + 1) * 6, none⟩) hB).trans hlab'
         have HV1 := Lib.hid (HV.out.trans (ascF_step hlt))
         clear hqq' hlab hlab' HV
         generalize (d.mem[i]'(by omega)).1 = x at k0 HV1
         generalize d.mem[i + 1].1 = y at k1 HV1
         obtain ⟨-, -, -, c3, c4, hlw⟩ := HC.out.cells
         have b0 : (0 : Int) ≤ ((i + 1 : Nat) : Int) - 1 := by omega
         have b1 : ((i + 1 : Nat) : Int) - 1 < (d.mem.length : Int) := by omega
         have b2 : (((i + 1 : Nat) : Int) - 1).toNat = i := by omega
         go_wp2_with fail
         go_quiet (fail)
         have HC2 := Lib.hid (HC.out.drewN nq)
         rcases Bool.eq_false_or_eq_true (Op.bytesLess x y) with hxy | hxy
         · have HV2 := Lib.hid (show ascM d.mem = ascF d.mem (i + 1) by rw [HV1.out, hxy]; rfl)
           rw [hxy, Bool.not_true]
           go_wp2_with fail
           go_roundw
           case rel => exact ⟨i + 1, by go_num, .inr hlt, HC2, HV2⟩
           case measure => simp [intOf]; omega
         · have HV2 := Lib.hid (show ascM d.mem = false by rw [HV1.out, hxy]; rfl)
           rw [hxy, Bool.not_false]
           have HV3 := Lib.hid ((chk_twice h16 HPL.out HBV.out HV2.out).symm.trans HR.out)
           go_wp2_with fail
           go_ret
           exact ⟨by rw [← HV3.out]; rfl, HC2.out.2⟩
       · have HV1 := Lib.hid (HV.out.trans (ascF_end (by omega)))
         clear HV
         have HV2 := Lib.hid ((chk_parts h16 HPL.out HBV.out HV1.out).symm.trans HR.out)
         obtain ⟨-, -, -, c3, c4, hlw⟩ := HC.out.cells
         go_wp2_with fail
         go_loopw [6] (fun x wr => ∃ i : Nat, x = .int .i64 (i : Int) ∧ i ≤ d.its.length ∧ Hid (CkS w.heap.size w d (.slice p d.its.length cap) (.slice q d.mem.length caq) wr) ∧ Hid ((if chkI (d.its.drop i) (lv + 1) = 0 then chkM d.mem (lv + 1) else chkI (d.its.drop i) (lv + 1)) = r)) (fun x _ => d.its.length - (intOf x).toNat)
         case atStart => exact ⟨0, rfl, Nat.zero_le _, HC, HV2⟩
         case round =>
           clear hi hlt HC HV1 HV2 c3 c4 hlw
           obtain ⟨i, rfl, hi, HC, HV⟩ := hrel
           by_cases hlt : i < d.its.length
           · obtain ⟨B, o, xi, xm, rfl, hcap, hB, hc, hx⟩ := HT.out i hlt
             obtain ⟨k0, k1, k2, k3, k4⟩ := hc.below HC.out.2 hB
             have HX := Lib.hid (hx.under HC.out.2)
             have HL := Lib.hid (Nat.lt_of_lt_of_le (dat_it (List.getElem_mem hlt)) (Nat.le_of_lt_succ HD.out))
             have HV1 := HV.out
             rw [chkI_drop hlt] at HV1
             have HV1 := Lib.hid HV1
             obtain ⟨-, -, -, c3, c4, hlw⟩ := HC.out.cells
             clear hc hx HV
             generalize d.its[i] = x at k0 k1 k2 HX HL HV1
             go_wp2_with fail
             refine (IH.out x HL.out (lv + 1) (by omega) xi xm ok _ HX.out).mono ?_
             rintro e w1 ⟨rfl, hb⟩
             have HC1 := Lib.hid (HC.out.below hb)
             clear hb
             rcases Nat.eq_zero_or_pos (chk x (lv + 1)) with hl | hl
             · rw [hl]
               have HV2 := HV1.out
               rw [if_pos hl] at HV2
               have HV2 := Lib.hid HV2
               clear hl
               go_wp2_with fail
               go_roundw
               case rel =>
                 repeat apply Exists.intro
                 refine And.intro ?relA ?relB
                 case relB => rfl
                 case relA => exact ⟨i + 1, by go_num, hlt, HC1, HV2⟩
               case measure => simp [intOf]; omega
             · have HV2 := HV1.out
               rw [if_neg (by omega : ¬ chk x (lv + 1) = 0), if_neg (by omega : ¬ chk x (lv + 1) = 0)] at HV2
               generalize chk x (lv + 1) = z at hl HV2 HV1 ⊢
               subst HV2
               have ez : ((z : Int) == 0) = false := beq_eq_false_iff_ne.2 (by omega)
               have ez' : ((z : Int) != 0) = true := by simpa using (by omega : ¬ z = 0)
               go_wp2_with fail
               go_ret
               exact ⟨rfl, HC1.out.2⟩
           · have HV1 := HV.out
             rw [chkI_over (by omega), if_pos rfl] at HV1
             have HV1 := Lib.hid (show chkM (d.mem.drop 0) (lv + 1) = r from HV1)
             obtain ⟨-, -, -, c3, c4, hlw⟩ := HC.out.cells
             clear HV
             go_wp2_with fail
             go_loopw [8] (fun x wr => ∃ i : Nat, x = .int .i64 (i : Int) ∧ i ≤ d.mem.length ∧ Hid (CkS w.heap.size w d (.slice p d.its.length cap) (.slice q d.mem.length caq) wr) ∧ Hid (chkM (d.mem.drop i) (lv + 1) = r)) (fun x _ => d.mem.length - (intOf x).toNat)
             case atStart => exact ⟨0, rfl, Nat.zero_le _, HC, HV1⟩
             case round =>
               clear hi hlt HC HV1 c3 c4 hlw
               obtain ⟨j, rfl, hj, HC, HV⟩ := hrel
               by_cases hlt : j < d.mem.length
               · obtain ⟨B, o, xi, xm, rfl, hcap, hB, hlab, hc, hx⟩ := HM.out j hlt
                 obtain ⟨k0, k1, k2, k3, k4⟩ := hc.below HC.out.2 hB
                 have HX := Lib.hid (hx.under HC.out.2)
                 have HL := Lib.hid (Nat.lt_of_lt_of_le (dat_mg (List.getElem_mem hlt)) (Nat.le_of_lt_succ HD.out))
                 have HV1 := HV.out
                 rw [chkM_drop hlt] at HV1
                 have HV1 := Lib.hid HV1
                 obtain ⟨-, -, -, c3, c4, hlw⟩ := HC.out.cells
                 clear hc hx HV hlab
                 generalize d.mem[j].2 = x at k0 k1 k2 HX HL HV1
                 go_wp2_with fail
                 refine (IH.out x HL.out (lv + 1) (by omega) xi xm ok _ HX.out).mono ?_
                 rintro e w1 ⟨rfl, hb⟩
                 have HC1 := Lib.hid (HC.out.below hb)
                 clear hb
                 rcases Nat.eq_zero_or_pos (chk x (lv + 1)) with hl | hl
                 · rw [hl]
                   have HV2 := HV1.out
                   rw [if_pos hl] at HV2
                   have HV2 := Lib.hid HV2
                   clear hl
                   go_wp2_with fail
                   go_roundw
                   case rel =>
                     repeat apply Exists.intro
                     refine And.intro ?relA ?relB
                     case relB => rfl
                     case relA => exact ⟨j + 1, by go_num, hlt, HC1, HV2⟩
                   case measure => simp [intOf]; omega
                 · have HV2 := HV1.out
                   rw [if_neg (by omega : ¬ chk x (lv + 1) = 0)] at HV2
                   generalize chk x (lv + 1) = z at hl HV2 HV1 ⊢
                   subst HV2
                   have ez : ((z : Int) == 0) = false := beq_eq_false_iff_ne.2 (by omega)
                   have ez' : ((z : Int) != 0) = true := by simpa using (by omega : ¬ z = 0)
                   go_wp2_with fail
                   go_ret
                   exact ⟨rfl, HC1.out.2⟩
               · have HV1 := Lib.hid (HV.out.symm.trans (chkM_over (by omega)))
                 obtain ⟨-, -, -, c3, c4, hlw⟩ := HC.out.cells
                 clear HV
                 go_wp2_with fail
                 go_ret
                 exact ⟨by rw [HV1.out]; rfl, HC.out.2⟩
end
section
open Go.RowKit
theorem szI_drop {its : List Dat} {m n : Int} {i : Nat} (h : i < its.length) : szI (its.drop i) m n = if n ≤ m then szI (its.drop (i + 1)) m (n + szD its[i] (m - n)) else n := by
 rw [List.drop_eq_getElem_cons h, szI]
theorem szI_over {its : List Dat} {m n : Int} {i : Nat} (h : its.length ≤ i) : szI (its.drop i) m n = n := by
 rw [List.drop_of_length_le h, szI]
theorem szI_stop {its : List Dat} {m n : Int} (h : ¬ n ≤ m) : szI its m n = n := by
 cases its with
 | nil => rw [szI]
 | cons x r => rw [szI, if_neg h]
theorem szM_drop {mem : List (List UInt8 × Dat)} {m n : Int} {i : Nat} (h : i < mem.length) : szM (mem.drop i) m n = if n ≤ m then szM (mem.drop (i + 1)) m (n + szD mem[i].2 (m - n)) else n := by
 rw [List.drop_eq_getElem_cons h]
 obtain ⟨l, x⟩ := mem[i]
 rw [szM]
theorem szM_over {mem : List (List UInt8 × Dat)} {m n : Int} {i : Nat} (h : mem.length ≤ i) : szM (mem.drop i) m n = n := by
 rw [List.drop_of_length_le h, szM]
theorem szM_stop {mem : List (List UInt8 × Dat)} {m n : Int} (h : ¬ n ≤ m) : szM mem m n = n := by
 cases mem with
 | nil => rw [szM]
 | cons x r => obtain ⟨l, x⟩ := x; rw [szM, if_neg h]
theorem szI_in {m : Int} : ∀ (its : List Dat) (n : Int), (∀ x ∈ its, ∀ k : Int, 0 ≤ k → 1 ≤ szD x k ∧ szD x k ≤ k + 1) → 1 ≤ n → n ≤ m + 1 → 1 ≤ szI its m n ∧ szI its m n ≤ m + 1
 | [], n, _, h1, h2 => by rw [szI]; exact ⟨h1, h2⟩
 | x :: r, n, hx, h1, h2 => by
   rw [szI]
   split
   · have := hx x (List.mem_cons_self ..) (m - n) (by omega)
     exact szI_in r _ (fun y hy => hx y (List.mem_cons_of_mem _ hy)) (by omega) (by omega)
   · exact ⟨h1, h2⟩
theorem szM_in {m : Int} : ∀ (mem : List (List UInt8 × Dat)) (n : Int), (∀ x ∈ mem, ∀ k : Int, 0 ≤ k → 1 ≤ szD x.2 k ∧ szD x.2 k ≤ k + 1) → 1 ≤ n → n ≤ m + 1 → 1 ≤ szM mem m n ∧ szM mem m n ≤ m + 1
 | [], n, _, h1, h2 => by rw [szM]; exact ⟨h1, h2⟩
 | (l, x) :: r, n, hx, h1, h2 => by
   rw [szM]
   split
   · have := hx (l, x) (List.mem_cons_self ..) (m - n) (by omega)
     simp only at this
     exact szM_in r _ (fun y hy => hx y (List.mem_cons_of_mem _ hy)) (by omega) (by omega)
   · exact ⟨h1, h2⟩
theorem szD_in (f : Nat) : ∀ (d : Dat), SizeOf.sizeOf d < f → ∀ m : Int, 0 ≤ m → 1 ≤ szD d m ∧ szD d m ≤ m + 1 := by
 induction f with
 | zero => intro d h; exact absurd h (Nat.not_lt_zero _)
 | succ f ih =>
   intro d hd m hm
   rw [szD_eq]
   have h1 := szI_in (m := m) d.its 1 (fun x hx k hk => ih x (by have := dat_it hx; omega) k hk) (by omega) (by omega)
   exact szM_in d.mem _ (fun x hx k hk => ih x.2 (by have := dat_mg hx; omega) k hk) h1.1 h1.2
set_option maxRecDepth 100000 in
set_option maxHeartbeats 4000000 in
theorem refSize_any (f : Nat) : ∀ (d : Dat), SizeOf.sizeOf d < f → ∀ (m : Int), 0 ≤ m → m ≤ 1000000 → ∀ (vi vm : Value) (ok : Nat → Prop) (w : World), Rep w ok d vi vm →
   Calls Tryz.prog 48 #[.agg #[.int .i64 d.k, .int .i64 d.n, .string (S d.s), vi, vm], .int .i64 m] w fun e w' => e = .returned (.int .i64 (szD d m)) ∧ Below w.heap.size w w' := by
 induction f with
 | zero => intro d h; exact absurd h (Nat.not_lt_zero _)
 | succ f ih =>
   intro d hd m hm0 hm vi vm ok w hr
   obtain ⟨r, hrr⟩ : ∃ r, szD d m = r := ⟨_, rfl⟩
   rw [hrr]
   have HR := Lib.hid (show szM d.mem m (szI (d.its.drop 0) m 1) = r from (szD_eq d m).symm.trans hrr)
   clear hrr
   have IH := Lib.hid ih
   clear ih
   obtain ⟨p, cap, rfl, hil, hit⟩ := hr.items
   obtain ⟨q, caq, rfl, hml, hme⟩ := hr.members
   clear hr
   unfold maxLen at hil hml
   have HT := Lib.hid hit
   have HM := Lib.hid hme
   clear hit hme
   have HD := Lib.hid hd
   clear hd
   go_enter Tryz.func48, Tryz.ntmps48
   go_upto_region 1 with fail
   have hS : CkS w.heap.size w d (.slice p d.its.length cap) (.slice q d.mem.length caq) (w.alloc (.cells #[.int .i64 d.k, .int .i64 d.n, .string (S d.s), .slice p d.its.length cap, .slice q d.mem.length caq] 25)) := CkS.new w d _ _
   generalize w.alloc (.cells #[.int .i64 d.k, .int .i64 d.n, .string (S d.s), .slice p d.its.length cap, .slice q d.mem.length caq] 25) = W at hS ⊢
   have HS := Lib.hid hS
   clear hS
   go_wp2_with fail
   go_loopw [5, 6] (fun y x wr => ∃ (n : Int) (i : Nat), y = .int .i64 n ∧ x = .int .i64 (i : Int) ∧ i ≤ d.its.length ∧ 1 ≤ n ∧ n ≤ m + 1 ∧ Hid (CkS w.heap.size w d (.slice p d.its.length cap) (.slice q d.mem.length caq) wr) ∧ Hid (szM d.mem m (szI (d.its.drop i) m n) = r)) (fun _ x _ => d.its.length - (intOf x).toNat)
   case atStart => exact ⟨1, 0, rfl, rfl, Nat.zero_le _, by omega, by omega, HS, HR⟩
   case round =>
     obtain ⟨n, i, rfl, rfl, hi, hn1, hn2, HC, HV⟩ := hrel
     by_cases hlt : i < d.its.length ∧ n ≤ m
     · obtain ⟨hlt, hnm⟩ := hlt
       obtain ⟨B, o, xi, xm, rfl, hcap, hB, hc, hx⟩ := HT.out i hlt
       obtain ⟨k0, k1, k2, k3, k4⟩ := hc.below HC.out.2 hB
       have HX := Lib.hid (hx.under HC.out.2)
       have hsz := Nat.lt_of_lt_of_le (dat_it (List.getElem_mem hlt)) (Nat.le_of_lt_succ HD.out)
       obtain ⟨s1, s2⟩ := szD_in f d.its[i] hsz (m - n) (by omega)
       have HL := Lib.hid hsz
       clear hsz
       have HV1 := HV.out
       rw [szI_drop hlt, if_pos hnm] at HV1
       have HV1 := Lib.hid HV1
       obtain ⟨-, -, -, c3, c4, hlw⟩ := HC.out.cells
       clear hc hx HV
       generalize d.its[i] = x at k0 k1 k2 HX HL HV1 s1 s2
       go_wp2_with fail
       refine (IH.out x HL.out (m - n) (by omega) (by omega) xi xm ok _ HX.out).mono ?_
       rintro e w1 ⟨rfl, hb⟩
       have HC1 := Lib.hid (HC.out.below hb)
       clear hb
       generalize szD x (m - n) = z at HV1 s1 s2 ⊢
       go_wp2_with fail
       go_roundw
       case rel => exact ⟨n + z, i + 1, by go_num, by go_num, hlt, by omega, by omega, HC1, HV1⟩
       case measure => simp [intOf]; omega
     · have HV1 : szM (d.mem.drop 0) m n = r := by
         have h := HV.out
         by_cases h1 : i < d.its.length
         · rw [szI_stop (fun h2 => hlt ⟨h1, h2⟩)] at h; exact h
         · rw [szI_over (by omega)] at h; exact h
       have HV1 := Lib.hid HV1
       obtain ⟨-, -, -, c3, c4, hlw⟩ := HC.out.cells
       clear HV
       have hw : ¬ (i : Int) < (d.its.length : Int) ∨ ((i : Int) < (d.its.length : Int) ∧ ¬ n ≤ m) := by
         omega
       clear hlt
       have HN := Lib.hid (And.intro hn1 hn2)
       rcases hw with t1 | ⟨t1, t2⟩
       all_goals
         go_wp2_with fail
         go_loopw [5, 7] (fun y x wr => ∃ (n : Int) (i : Nat), y = .int .i64 n ∧ x = .int .i64 (i : Int) ∧ i ≤ d.mem.length ∧ 1 ≤ n ∧ n ≤ m + 1 ∧ Hid (CkS w.heap.size w d (.slice p d.its.length cap) (.slice q d.mem.length caq) wr) ∧ Hid (szM (d.mem.drop i) m n = r)) (fun _ x _ => d.mem.length - (intOf x).toNat)
         case atStart => exact ⟨n, 0, rfl, rfl, Nat.zero_le _, HN.out.1, HN.out.2, HC, HV1⟩
         case round =>
           clear hn1 hn2 HN HC HV1 c3 c4 hlw hi
           obtain ⟨n, j, rfl, rfl, hj, hn1, hn2, HC, HV⟩ := hrel
           by_cases hlt : j < d.mem.length ∧ n ≤ m
           · obtain ⟨hlt, hnm⟩ := hlt
             obtain ⟨B, o, xi, xm, rfl, hcap, hB, hlab, hc, hx⟩ := HM.out j hlt
             obtain ⟨k0, k1, k2, k3, k4⟩ := hc.below HC.out.2 hB
             have HX := Lib.hid (hx.under HC.out.2)
             have hsz := Nat.lt_of_lt_of_le (dat_mg (List.getElem_mem hlt)) (Nat.le_of_lt_succ HD.out)
             obtain ⟨s1, s2⟩ := szD_in f d.mem[j].2 hsz (m - n) (by omega)
             have HL := Lib.hid hsz
             clear hsz
             have HV1 := HV.out
             rw [szM_drop hlt, if_pos hnm] at HV1
             have HV1 := Lib.hid HV1
             obtain ⟨-, -, -, c3, c4, hlw⟩ := HC.out.cells
             clear hc hx HV hlab
             generalize d.mem[j].2 = x at k0 k1 k2 HX HL HV1 s1 s2
             go_wp2_with fail
             refine (IH.out x HL.out (m - n) (by omega) (by omega) xi xm ok _ HX.out).mono ?_
             rintro e w1 ⟨rfl, hb⟩
             have HC1 := Lib.hid (HC.out.below hb)
             clear hb
             generalize szD x (m - n) = z at HV1 s1 s2 ⊢
             go_wp2_with fail
             go_roundw
             case rel => exact ⟨n + z, j + 1, by go_num, by go_num, hlt, by omega, by omega, HC1, HV1⟩
             case measure => simp [intOf]; omega
           · have HV1 : n = r := by
               have h := HV.out
               by_cases h1 : j < d.mem.length
               · rw [szM_stop (fun h2 => hlt ⟨h1, h2⟩)] at h; exact h
               · rw [szM_over (by omega)] at h; exact h
             subst HV1
             obtain ⟨-, -, -, c3, c4, hlw⟩ := HC.out.cells
             clear HV
             have hw : ¬ (j : Int) < (d.mem.length : Int) ∨ ((j : Int) < (d.mem.length : Int) ∧ ¬ n ≤ m) := by
               omega
             clear hlt
             rcases hw with t3 | ⟨t3, t4⟩
             all_goals
               go_wp2_with fail
               go_ret
               exact ⟨rfl, HC.out.2⟩
end
section
open Go.RowKit
end
end Go.Proofs.YtdalfkklkeblaaaGreatDoor
