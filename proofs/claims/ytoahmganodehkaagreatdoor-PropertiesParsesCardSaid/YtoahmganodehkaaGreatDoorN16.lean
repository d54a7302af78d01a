import Derived.Laws.OwnMore
import Derived.Test.YtoahmganodehkaaGreatDoorN15
import Derived.Test.YtoahmganodehkaaGreatDoorN08
import Derived.Test.YtoahmganodehkaaGreatDoorN01
import Derived.Test.YtoahmganodehkaaGreatDoorN10
import Derived.Test.YtoahmganodehkaaGreatDoorN09
import Derived.Maps.AppendAt
import Derived.Test.YtoahmganodehkaaGreatDoorN12
namespace Go.Proofs.YtoahmganodehkaaGreatDoor
set_option linter.unusedSimpArgs false
set_option linter.unusedVariables false
section
open Go.RowKit
theorem new_srcN {size : Nat} (x : World) (cs : Array Value) (t : TypeId) {vs : List Value} {m : Nat} (hv : cs.toList = vs := by rfl) (hl : vs.length = m * size := by rfl) (ho : ∀ u ∈ vs, u.oneCell' = true := by simp [Value.oneCell']) : Src (x.alloc (.cells cs t)) size (some ⟨x.heap.size, 0, none⟩) m vs :=
 ⟨hl, by simp, fun a ha j u hu => by injection ha with ha; subst ha; exact cells_new_at rfl hv j u hu, ho⟩
structure LeS (w : World) (d : Dat) (vi vm u : Value) (T : List (List Stp × Value)) (W : World) : Prop where
 box : CkS w.heap.size w d vi vm W
 own : W.ownsRow w.heap.size 40 1 u T.length (T.map fun t => t.2)
 paths : ∀ t ∈ T, SlK W (fun B => w.heap.size ≤ B ∧ some B ≠ u.ownBlock) t.2 t.1
theorem LeS.bel {w : World} {d : Dat} {vi vm u : Value} {T : List (List Stp × Value)} {W : World} (h : LeS w d vi vm u T W) : Below w.heap.size w W := h.box.2
theorem blk_own2 {W : World} {B b s n : Nat} {cs : Array Value} {t e : TypeId} {v : Value} {xs : List Value} (h : Blk W B cs t) (ho : W.ownsRow b e s v n xs) (hne : t ≠ e) : some B ≠ v.ownBlock := by
 intro e'
 rcases ho.2 with ⟨rfl, -⟩ | ⟨g, cap, cur, rfl, hb, hg, -⟩
 · simp [Value.ownBlock] at e'
 · simp [Value.ownBlock] at e'
   subst e'
   unfold Blk at h
   rw [hg] at h
   injection h with h
   injection h with _ h2
   exact hne h2.symm
theorem LeS.push {w : World} {d : Dat} {vi vm u u' v3 : Value} {T T3 : List (List Stp × Value)} {wr x3 x9 : World} (h : LeS w d vi vm u T wr) (hb : Below wr.heap.size wr x3)
   (h3 : x3.ownsRow wr.heap.size 40 1 v3 T3.length (T3.map fun t => t.2)) (hs3 : ∀ t ∈ T3, SlK x3 (fun B => wr.heap.size ≤ B) t.2 t.1)
   (h9 : x9.ownsRow w.heap.size 40 1 u' (T ++ T3).length ((T ++ T3).map fun t => t.2)) (hg : x3.grownBy x9 u.ownBlock) (hat : u'.ownBlock = u.ownBlock ∨ u'.ownBlock = some x3.heap.size) : LeS w d vi vm u' (T ++ T3) x9 := by
 have ho3 := own_under h.own hb
 have hbx := h.box.below hb
 have hlt : ∀ B, u.ownBlock = some B → B < wr.heap.size := fun B hB => (h.own.lt B hB).2
 have hne : ∀ B, B < x3.heap.size → some B ≠ u.ownBlock → some B ≠ u'.ownBlock := by
   intro B hB h1
   rcases hat with e | e
   · rw [e]; exact h1
   · rw [e]; intro e'; injection e' with e'; omega
 refine ⟨⟨hbx.1.kept hg (blk_own2 hbx.1 ho3 (by decide)), below_own hbx.2 ho3 hg (Nat.le_refl _) hbx.2.size⟩, h9, fun t ht => ?_⟩
 rcases List.mem_append.1 ht with ht | ht
 · exact ((h.paths t ht).under hb).kept hg.size fun B hB hk => ⟨⟨hk.1, hne B hB hk.2⟩, fun o => grown_cell hg hB hk.2 o⟩
 · refine (hs3 t ht).kept hg.size fun B hB hk => ?_
   have h1 : some B ≠ u.ownBlock := fun e => by have := hlt B e.symm; omega
   exact ⟨⟨Nat.le_trans h.bel.size hk, hne B hB h1⟩, fun o => grown_cell hg hB h1 o⟩
end
section
open Go.RowKit
end
section
open Go.RowKit
end
section
open Go.RowKit
theorem infoREnt : (Tryz.prog.info? 74).map (fun i => (i.zero, i.size, i.bytes)) = some (some (.agg #[.slice none 0 0, .int .i64 0, .int .i64 0, .string ⟨#[]⟩, .slice none 0 0, .slice none 0 0]), 6, 104) := by kernel_rfl
def FlatQ (w : World) (r : List Ent × Nat) (e : Ending) (w' : World) : Prop :=
 ∃ (v : Value) (T : List Env), e = .returned (.tuple #[v, .int .i64 (r.2 : Int)]) ∧ w'.ownsRow w.heap.size 74 6 v T.length (flatE T) ∧ T.map Env.e = r.1 ∧ (∀ t ∈ T, t.good w' (fun B => w.heap.size ≤ B)) ∧ Below w.heap.size w w'
theorem FlatQ.nil {w w' : World} {n : Nat} (hb : Below w.heap.size w w') : FlatQ w ([], n) (.returned (.tuple #[.slice none 0 0, .int .i64 (n : Int)])) w' :=
 ⟨_, [], rfl, World.ownsRow_nil _ _ _ _, rfl, by simp, hb⟩
def leafV (t : Env) : Prop := ∃ p c q c', t.vi = .slice p 0 c ∧ t.vm = .slice q 0 c' ∧ t.data.its = [] ∧ t.data.mem = []
def FqS (w w3 : World) (T : List (List Stp × Value)) (d : Dat) (u : Value) (i : Nat) (wr : World) : Prop :=
 ∃ U : List Env, U.length = i ∧ U.map Env.e = (T.take i).map (fun t => (t.1, (getD d t.1).getD dat0)) ∧ wr.ownsRow w3.heap.size 74 6 u i (flatE U) ∧ Below w3.heap.size w3 wr ∧ ∀ t ∈ U, SlK w3 (fun B => w.heap.size ≤ B) t.pv t.path ∧ leafV t
theorem FqS.add {w w3 wg : World} {T : List (List Stp × Value)} {d : Dat} {u' : Value} {i : Nat} {t : Env} {U : List Env} (h1 : U.length = i) (h2 : U.map Env.e = (T.take i).map (fun t => (t.1, (getD d t.1).getD dat0))) (h5 : ∀ t ∈ U, SlK w3 (fun B => w.heap.size ≤ B) t.pv t.path ∧ leafV t)
   (hi : i < T.length) (ht : t.e = (T[i].1, (getD d T[i].1).getD dat0)) (hs : SlK w3 (fun B => w.heap.size ≤ B) t.pv t.path) (hl : leafV t) (ho : wg.ownsRow w3.heap.size 74 6 u' (i + 1) (flatE U ++ cellsE t)) (hb : Below w3.heap.size w3 wg) : FqS w w3 T d u' (i + 1) wg := by
 refine ⟨U ++ [t], by simp [h1], ?_, by rw [flatE_snoc]; exact ho, hb, fun s hs' => ?_⟩
 · rw [List.map_append, h2, List.take_succ_eq_append_getElem hi, List.map_append, List.map_singleton, List.map_singleton, ht]
 · rcases List.mem_append.1 hs' with hs' | hs'
   · exact h5 s hs'
   · obtain rfl := List.mem_singleton.1 hs'; exact ⟨hs, hl⟩
theorem FqS.done {w w3 wr : World} {T : List (List Stp × Value)} {d : Dat} {u : Value} (h : FqS w w3 T d u T.length wr) (hT : T.map (fun t => t.1) = lvD d) (hw : Below w.heap.size w w3) : FlatQ w (entsD d, 0) (.returned (.tuple #[u, .int .i64 0])) wr := by
 obtain ⟨U, h1, h2, h3, h4, h5⟩ := h
 rw [List.take_length] at h2
 refine ⟨u, U, rfl, by rw [h1]; exact own_less h3 hw.size, ?_, fun t ht => ?_, hw.trans (h4.mono hw.size)⟩
 · unfold entsD
   rw [h2, ← hT, List.map_map]; rfl
 · obtain ⟨k1, p, c, q, c', e1, e2, e3, e4⟩ := h5 t ht
   refine ⟨k1.under h4, ?_⟩
   rw [e1, e2]
   exact rep_leaf _ _ e3 e4 _ _ _ _
theorem far_cell {W x : World} {o : Obj} {b s n : Nat} {e : TypeId} {v : Value} {xs : List Value} (ho : W.ownsRow b e s v n xs) (hg : (W.alloc o).drew.grownBy x v.ownBlock) {B i : Nat} (hB : B < b) (hlt : B < W.heap.size) : x.cell? ⟨B, i, none⟩ = W.cell? ⟨B, i, none⟩ := by
 have h1 : x.cell? ⟨B, i, none⟩ = (W.alloc o).drew.cell? ⟨B, i, none⟩ := grown_cell hg (by show B < (W.alloc o).heap.size; simp; omega) (fun e' => by have := (ho.lt B e'.symm).1; omega) i
 exact h1.trans (((Below.refl W.heap.size W).alloc (Nat.le_refl _) o).cell (p := ⟨B, i, none⟩) hlt)
end
section
open Go.RowKit
theorem blw_take {L : List Ent} {i : Nat} (h : i < L.length) (s : Stp) : blw (L.take (i + 1)) s = blw (L.take i) s ++ (cutS s L[i]).toList := by
 unfold blw
 rw [List.take_succ_eq_append_getElem h, List.filterMap_append]
 cases hc : cutS s L[i] <;> simp [hc]
structure BwS (w : World) (ok : Nat → Prop) (s : Stp) (u : Value) (U : List Env) (W : World) : Prop where
 box : Blk W w.heap.size #[.string (S s.lab), .int .i64 s.idx] 44
 own : W.ownsRow w.heap.size 74 6 u U.length (flatE U)
 good : ∀ t ∈ U, t.good w ok
 bel : Below w.heap.size w W
theorem BwS.under {w : World} {ok : Nat → Prop} {s : Stp} {u : Value} {U : List Env} {W W' : World} (h : BwS w ok s u U W) (hb : Below W.heap.size W W') : BwS w ok s u U W' :=
 ⟨h.box.below hb, own_under h.own hb, h.good, h.bel.trans (hb.mono h.bel.size)⟩
theorem BwS.push {w : World} {ok : Nat → Prop} {s : Stp} {u u' : Value} {U : List Env} {W x : World} {o : Obj} {t : Env} (h : BwS w ok s u U W) (hg : t.good w ok) (ho : x.ownsRow w.heap.size 74 6 u' (U.length + 1) (flatE U ++ cellsE t)) (hgr : (W.alloc o).drew.grownBy x u.ownBlock) : BwS w ok s u' (U ++ [t]) x := by
 refine ⟨Blk.kept (W := (W.alloc o).drew) (h.box.alloc o) hgr (blk_own2 h.box h.own (by decide)), by rw [flatE_snoc, List.length_append]; exact ho, fun e he => ?_, below_own (below_drew (h.bel.alloc h.bel.size o)) (h.own.alloc o) hgr (Nat.le_refl _) (h.bel.alloc h.bel.size o).size⟩
 rcases List.mem_append.1 he with he | he
 · exact h.good e he
 · obtain rfl := List.mem_singleton.1 he; exact hg
set_option maxRecDepth 100000 in
set_option maxHeartbeats 8000000 in
theorem refBelow_any {w : World} {ok : Nat → Prop} {v : Value} {L : List Ent} (h : EntR w ok v L) (hl : L.length ≤ 1000000) (hne : ∀ e ∈ L, e.1 ≠ []) (s : Stp) :
   Calls Tryz.prog 84 #[v, .agg #[.string (S s.lab), .int .i64 s.idx]] w fun e w' => (∃ v', e = .returned v' ∧ EntR w' (fun _ => True) v' (blw L s)) ∧ Below w.heap.size w w' := by
 obtain ⟨i0, hi, hz0, hz1, hz2⟩ := info_parts infoREnt
 obtain ⟨pa, ca, B, o, rfl, hA⟩ := h.open
 have HA := Lib.hid hA
 have HNE := Lib.hid hne
 clear h hA hne
 have hN := Blk.new w #[.string (S s.lab), .int .i64 s.idx] 44
 have hb0 := (Below.refl w.heap.size w).alloc (Nat.le_refl _) (.cells #[.string (S s.lab), .int .i64 s.idx] 44)
 go_enter Tryz.func84, Tryz.ntmps84
 go_upto_region 3 with fail
 generalize w.alloc (.cells #[.string (S s.lab), .int .i64 s.idx] 44) = W at hN hb0 ⊢
 have HS0 := Lib.hid (show BwS w ok s (.slice none 0 0) [] W from ⟨hN, World.ownsRow_nil _ _ _ _, by simp, hb0⟩)
 clear hN hb0
 go_loopw [5, 6] (fun u y wr => ∃ (i : Nat) (up : Option Addr) (uc : Nat) (U : List Env), u = .slice up U.length uc ∧ y = .int .i64 (i : Int) ∧ i ≤ L.length ∧ Hid (BwS w ok s (.slice up U.length uc) U wr) ∧ Hid (U.map Env.e = blw (L.take i) s)) (fun _ y _ => L.length - (intOf y).toNat)
 case atStart => exact ⟨0, none, 0, [], rfl, rfl, Nat.zero_le _, HS0, Lib.hid rfl⟩
 case round =>
   clear HS0
   obtain ⟨i, up, uc, U, rfl, rfl, hi', HS, HU⟩ := hrel
   by_cases hlt : i < L.length
   · obtain ⟨pva, via, vma, rfl, hca, hB, hokB, x0, dx, sx, rx⟩ := HA.out i hlt
     have HT := Lib.hid (blw_take hlt s)
     have hne := HNE.out _ (List.getElem_mem hlt)
     generalize L[i] = q at x0 dx sx rx HT hne
     obtain ⟨P, x⟩ := q
     simp only at x0 dx sx rx HT hne
     obtain ⟨t, P, rfl⟩ : ∃ t Q, P = t :: Q := by cases P with | nil => exact absurd rfl hne | cons t Q => exact ⟨t, Q, rfl⟩
     obtain ⟨pp, pc, rfl⟩ := slk_form sx
     simp only [List.length_cons] at x0 sx
     have HSX := Lib.hid sx
     obtain ⟨Bp, op, rfl, hpc, hBp, hokp, m0, m1, htl⟩ := sx.tail
     obtain ⟨i1, j1, rfl, -, -⟩ := rx.items
     obtain ⟨m1', n1, rfl, -, -⟩ := rx.members
     have HRX := Lib.hid rx
     have HTL := Lib.hid htl
     obtain ⟨x1, x2, x3, x4, x5⟩ := dx.below HS.out.bel hB
     replace x0 := (HS.out.bel.cell (p := ⟨B, o + i * 6, none⟩) hB).trans x0
     replace m0 := (HS.out.bel.cell (p := ⟨Bp, op, none⟩) hBp).trans m0
     replace m1 := (HS.out.bel.cell (p := ⟨Bp, op + 1, none⟩) hBp).trans m1
     have b0 := HS.out.box.cell 0
     have b1 := HS.out.box.cell 1
     simp at b0 b1
     have hbl := HS.out.box.lt
     have hBl : B < wr.heap.size := Nat.lt_of_lt_of_le hB HS.out.bel.size
     have HTC := Lib.hid (show cutS s (t :: P, x) = if t = s then some (P, x) else none from rfl)
     obtain ⟨l1, z1⟩ := t
     obtain ⟨l2, z2⟩ := s
     simp only at m0 m1 b0 b1
     clear dx sx rx hne htl
     by_cases hlab : l1 = l2
     · subst hlab
       by_cases hix : z1 = z2
       · subst hix
         have HT1 := Lib.hid (show blw (L.take (i + 1)) ⟨l1, z1⟩ = blw (L.take i) ⟨l1, z1⟩ ++ [(P, x)] by rw [HT.out, HTC.out, if_pos rfl]; rfl)
         go_wp2_with fail
         go_quiet (fail)
         have hbq : Below wr.heap.size wr (wr.drewN nq) := below_drewN (Below.refl _ _) nq
         have hw1 : (1 : Int) ≤ (P.length : Int) + 1 := by omega
         clear m0 m1 b0 b1 hbl
         go_wp2_with fail
         generalize wr.drewN nq = wc at hbq ⊢
         have HS5 := Lib.hid (HS.out.under hbq)
         have HOW := Lib.hid HS5.out.own
         have HBW := Lib.hid HS5.out.bel
         have hBl2 : B < wc.heap.size := Nat.lt_of_lt_of_le hBl hbq.size
         replace x0 := (hbq.cell (p := ⟨B, o + i * 6, none⟩) hBl).trans x0
         replace x1 := (hbq.cell (p := ⟨B, o + i * 6 + 1, none⟩) hBl).trans x1
         replace x2 := (hbq.cell (p := ⟨B, o + i * 6 + 1 + 1, none⟩) hBl).trans x2
         replace x3 := (hbq.cell (p := ⟨B, o + i * 6 + 1 + 2, none⟩) hBl).trans x3
         replace x4 := (hbq.cell (p := ⟨B, o + i * 6 + 1 + 3, none⟩) hBl).trans x4
         replace x5 := (hbq.cell (p := ⟨B, o + i * 6 + 1 + 4, none⟩) hBl).trans x5
         have hBl := hBl2
         have hUL : U.length ≤ 1000000 := by
           have h1 := congrArg List.length HU.out
           rw [List.length_map] at h1
           rw [h1]
           refine Nat.le_trans (blw_len _ _) ?_
           rw [List.length_take]; omega
         have HBD := Lib.hid (And.intro (show U.length + 1 ≤ maxLen by unfold maxLen; omega) (show (U.length + 1) * 104 ≤ 140737488355328 by omega))
         have HKE := Lib.hid (fun w' (hb : Below wc.heap.size wc w') => And.intro ((hb.cell (p := ⟨B, o + i * 6, none⟩) hBl).trans x0) (And.intro ((hb.cell (p := ⟨B, o + i * 6 + 1, none⟩) hBl).trans x1) (And.intro ((hb.cell (p := ⟨B, o + i * 6 + 2, none⟩) hBl).trans x2) (And.intro ((hb.cell (p := ⟨B, o + i * 6 + 3, none⟩) hBl).trans x3) (And.intro ((hb.cell (p := ⟨B, o + i * 6 + 4, none⟩) hBl).trans x4) ((hb.cell (p := ⟨B, o + i * 6 + 5, none⟩) hBl).trans x5))))))
         have HB0 := Lib.hid (below_drew (Below.refl wc.heap.size wc))
         clear hUL hBl2
         rcases Nat.lt_or_ge 1 pc with hpc1 | hpc1
         · have hw2 : ¬ pc = 1 := by omega
           go_region_held3 (fun w' => w'.cell? ⟨B, o + i * 6, none⟩ = some (.slice (some ⟨Bp, op, none⟩) (P.length + 1) pc) ∧ w'.cell? ⟨B, o + i * 6 + 1, none⟩ = some (.int .i64 x.k) ∧ w'.cell? ⟨B, o + i * 6 + 2, none⟩ = some (.int .i64 x.n) ∧ w'.cell? ⟨B, o + i * 6 + 3, none⟩ = some (.string (S x.s)) ∧ w'.cell? ⟨B, o + i * 6 + 4, none⟩ = some (.slice i1 x.its.length j1) ∧ w'.cell? ⟨B, o + i * 6 + 5, none⟩ = some (.slice m1' x.mem.length n1))
             (first
               | with_reducible exact HKE.out _ HB0.out
               | with_reducible exact HKE.out _ (below_drew ((Below.refl _ _).alloc (Nat.le_refl _) _))
               | with_reducible exact HK9.out
               | go_keep)
             (first
               | (refine step_app _ (by rfl) _ _ _ (by rfl) w.heap.size 74 i0 (.agg #[.slice none 0 0, .int .i64 0, .int .i64 0, .string ⟨#[]⟩, .slice none 0 0, .slice none 0 0]) 6 104 Tryz.underlying48 hi hz0 hz1 hz2 rfl (by decide) (.slice up U.length uc) U.length (flatE U) (by rfl) (HOW.out.alloc _) (some ⟨wc.heap.size, 0, none⟩) 1 1 [.slice (some ⟨Bp, op + 2, none⟩) P.length (pc - 1), .int .i64 x.k, .int .i64 x.n, .string (S x.s), .slice i1 x.its.length j1, .slice m1' x.mem.length n1] (by rfl) (new_srcN wc _ _) HBD.out.1 HBD.out.2 (HBW.out.alloc HBW.out.size _).size ?_; intro v9 x9 hown9 hgrow9 hat9; obtain ⟨u9p, u9c, rfl⟩ := own_form5 hown9; have HS9 := Lib.hid (BwS.push HS5.out (t := ⟨P, x, .slice (some ⟨Bp, op + 2, none⟩) P.length (pc - 1), .slice i1 x.its.length j1, .slice m1' x.mem.length n1⟩) ⟨HTL.out (pc - 1) (by omega), HRX.out⟩ hown9 hgrow9); have HK9 := Lib.hid (And.intro ((far_cell HOW.out hgrow9 hB hBl).trans x0) (And.intro ((far_cell HOW.out hgrow9 hB hBl).trans x1) (And.intro ((far_cell HOW.out hgrow9 hB hBl).trans x2) (And.intro ((far_cell HOW.out hgrow9 hB hBl).trans x3) (And.intro ((far_cell HOW.out hgrow9 hB hBl).trans x4) ((far_cell HOW.out hgrow9 hB hBl).trans x5)))))); clear hown9 hgrow9 hat9))
           all_goals
             go_wp2_with fail
             go_roundw
             case rel => exact ⟨i + 1, u9p, u9c, U ++ [⟨P, x, .slice (some ⟨Bp, op + 2, none⟩) P.length (pc - 1), .slice i1 x.its.length j1, .slice m1' x.mem.length n1⟩], by simp, by go_num, hlt, Lib.hid (by rw [List.length_append]; exact HS9.out), Lib.hid (by rw [List.map_append, HU.out, HT1.out]; rfl)⟩
             case measure => simp [intOf]; omega
         · obtain rfl : pc = 1 := by omega
           obtain rfl : P = [] := List.length_eq_zero_iff.1 (by omega)
           go_region_held3 (fun w' => w'.cell? ⟨B, o + i * 6, none⟩ = some (.slice (some ⟨Bp, op, none⟩) (([] : List Stp).length + 1) 1) ∧ w'.cell? ⟨B, o + i * 6 + 1, none⟩ = some (.int .i64 x.k) ∧ w'.cell? ⟨B, o + i * 6 + 2, none⟩ = some (.int .i64 x.n) ∧ w'.cell? ⟨B, o + i * 6 + 3, none⟩ = some (.string (S x.s)) ∧ w'.cell? ⟨B, o + i * 6 + 4, none⟩ = some (.slice i1 x.its.length j1) ∧ w'.cell? ⟨B, o + i * 6 + 5, none⟩ = some (.slice m1' x.mem.length n1))
             (first
               | with_reducible exact HKE.out _ HB0.out
               | with_reducible exact HKE.out _ (below_drew ((Below.refl _ _).alloc (Nat.le_refl _) _))
               | with_reducible exact HK9.out
               | go_keep)
             (first
               | (refine step_app _ (by rfl) _ _ _ (by rfl) w.heap.size 74 i0 (.agg #[.slice none 0 0, .int .i64 0, .int .i64 0, .string ⟨#[]⟩, .slice none 0 0, .slice none 0 0]) 6 104 Tryz.underlying48 hi hz0 hz1 hz2 rfl (by decide) (.slice up U.length uc) U.length (flatE U) (by rfl) (HOW.out.alloc _) (some ⟨wc.heap.size, 0, none⟩) 1 1 [.slice (some ⟨Bp, op, none⟩) 0 0, .int .i64 x.k, .int .i64 x.n, .string (S x.s), .slice i1 x.its.length j1, .slice m1' x.mem.length n1] (by rfl) (new_srcN wc _ _) HBD.out.1 HBD.out.2 (HBW.out.alloc HBW.out.size _).size ?_; intro v9 x9 hown9 hgrow9 hat9; obtain ⟨u9p, u9c, rfl⟩ := own_form5 hown9; have HS9 := Lib.hid (BwS.push HS5.out (t := ⟨[], x, .slice (some ⟨Bp, op, none⟩) 0 0, .slice i1 x.its.length j1, .slice m1' x.mem.length n1⟩) ⟨⟨_, _, 0, 0, rfl, by simp, by simp⟩, HRX.out⟩ hown9 hgrow9); have HK9 := Lib.hid (And.intro ((far_cell HOW.out hgrow9 hB hBl).trans x0) (And.intro ((far_cell HOW.out hgrow9 hB hBl).trans x1) (And.intro ((far_cell HOW.out hgrow9 hB hBl).trans x2) (And.intro ((far_cell HOW.out hgrow9 hB hBl).trans x3) (And.intro ((far_cell HOW.out hgrow9 hB hBl).trans x4) ((far_cell HOW.out hgrow9 hB hBl).trans x5)))))); clear hown9 hgrow9 hat9))
           all_goals
             go_wp2_with fail
             go_roundw
             case rel => exact ⟨i + 1, u9p, u9c, U ++ [⟨[], x, .slice (some ⟨Bp, op, none⟩) 0 0, .slice i1 x.its.length j1, .slice m1' x.mem.length n1⟩], by simp, by go_num, hlt, Lib.hid (by rw [List.length_append]; exact HS9.out), Lib.hid (by rw [List.map_append, HU.out, HT1.out]; rfl)⟩
             case measure => simp [intOf]; omega
       · have HT1 := Lib.hid (show blw (L.take (i + 1)) ⟨l1, z2⟩ = blw (L.take i) ⟨l1, z2⟩ by rw [HT.out, HTC.out, if_neg (by simp; exact hix)]; simp)
         go_wp2_with fail
         go_quiet (fail)
         go_wp2_with fail
         go_roundw
         case rel => exact ⟨i + 1, up, uc, U, rfl, by go_num, hlt, Lib.hid (HS.out.under (below_drewN (Below.refl _ _) nq)), Lib.hid (by rw [HU.out, HT1.out])⟩
         case measure => simp [intOf]; omega
     · have HT1 := Lib.hid (show blw (L.take (i + 1)) ⟨l2, z2⟩ = blw (L.take i) ⟨l2, z2⟩ by rw [HT.out, HTC.out, if_neg (by simp; intro h; exact absurd h hlab)]; simp)
       go_wp2_with fail
       go_quiet (fail)
       go_wp2_with fail
       go_roundw
       case rel => exact ⟨i + 1, up, uc, U, rfl, by go_num, hlt, Lib.hid (HS.out.under (below_drewN (Below.refl _ _) nq)), Lib.hid (by rw [HU.out, HT1.out])⟩
       case measure => simp [intOf]; omega
   · have hTk : L.take i = L := List.take_of_length_le (by omega)
     rw [hTk] at HU
     have HF := Lib.hid (show EntR wr (fun _ => True) (.slice up U.length uc) (blw L s) by
       rw [← HU.out]
       exact own_ents HS.out.own (fun _ _ => trivial) fun t ht => ⟨((HS.out.good t ht).1.under HS.out.bel).mono fun _ _ _ => trivial, ((HS.out.good t ht).2.under HS.out.bel).mono fun _ _ _ => trivial⟩)
     have HB := Lib.hid HS.out.bel
     clear HS hTk
     go_wp2_with fail
     go_ret
     exact ⟨⟨_, rfl, HF.out⟩, HB.out⟩
end
section
def posL (s : List UInt8) : List (List UInt8) → Nat
 | [] => 0
 | x :: r => if Op.bytesLess x s = true then posL s r + 1 else 0
def putL (s : List UInt8) (out : List (List UInt8)) : List (List UInt8) :=
 if out[posL s out]? = some s then out else out.take (posL s out) ++ s :: out.drop (posL s out)
def ltL (a b : List UInt8) : Prop := Op.bytesLess a b = true
theorem ltL_trans {a b c : List UInt8} (h1 : ltL a b) (h2 : ltL b c) : ltL a c := less_trans h1 h2
theorem ltL_irr (a : List UInt8) : ¬ ltL a a := by unfold ltL; rw [less_irr]; decide
theorem putL_cons (s x : List UInt8) (r : List (List UInt8)) : putL s (x :: r) = if Op.bytesLess x s = true then x :: putL s r else if x = s then x :: r else s :: x :: r := by
 have hp : posL s (x :: r) = if Op.bytesLess x s = true then posL s r + 1 else 0 := rfl
 unfold putL
 rw [hp]
 by_cases h : Op.bytesLess x s = true
 · rw [if_pos h, if_pos h, List.getElem?_cons_succ, List.take_succ_cons, List.drop_succ_cons]
   by_cases h2 : r[posL s r]? = some s
   · rw [if_pos h2, if_pos h2]
   · rw [if_neg h2, if_neg h2]; rfl
 · rw [if_neg h, if_neg h]
   by_cases h2 : x = s
   · rw [if_pos h2, if_pos (by rw [h2]; rfl)]
   · rw [if_neg h2, if_neg (by simpa using h2)]; rfl
theorem putL_nil (s : List UInt8) : putL s [] = [s] := rfl
theorem putL_mem {s y : List UInt8} : ∀ {out : List (List UInt8)}, y ∈ putL s out ↔ y = s ∨ y ∈ out
 | [] => by rw [putL_nil]; simp
 | x :: r => by
   rw [putL_cons]
   by_cases h : Op.bytesLess x s = true
   · rw [if_pos h, List.mem_cons, putL_mem, List.mem_cons]
     constructor
     · rintro (h | h | h)
       · exact .inr (.inl h)
       · exact .inl h
       · exact .inr (.inr h)
     · rintro (h | h | h)
       · exact .inr (.inl h)
       · exact .inl h
       · exact .inr (.inr h)
   · rw [if_neg h]
     by_cases h2 : x = s
     · rw [if_pos h2, h2]; simp
     · rw [if_neg h2]; simp
theorem putL_sort {s : List UInt8} : ∀ {out : List (List UInt8)}, out.Pairwise ltL → (putL s out).Pairwise ltL
 | [], _ => by rw [putL_nil]; exact List.pairwise_singleton ..
 | x :: r, h => by
   obtain ⟨h1, h2⟩ := List.pairwise_cons.1 h
   rw [putL_cons]
   by_cases hl : Op.bytesLess x s = true
   · rw [if_pos hl]
     refine List.pairwise_cons.2 ⟨fun y hy => ?_, putL_sort h2⟩
     rcases putL_mem.1 hy with rfl | hy
     · exact hl
     · exact h1 y hy
   · rw [if_neg hl]
     by_cases he : x = s
     · rw [if_pos he]; exact h
     · rw [if_neg he]
       have hs : ltL s x := less_total he (by simpa using hl)
       refine List.pairwise_cons.2 ⟨fun y hy => ?_, h⟩
       rcases List.mem_cons.1 hy with rfl | hy
       · exact hs
       · exact ltL_trans hs (h1 y hy)
def namesL (l : List Ent) : List (List UInt8) := l.foldl (fun out e => putL (hdS e).lab out) []
theorem names_snoc (l : List Ent) (e : Ent) : namesL (l ++ [e]) = putL (hdS e).lab (namesL l) := by unfold namesL; rw [List.foldl_append]; rfl
theorem fold_mem {y : List UInt8} : ∀ {l : List Ent} {out : List (List UInt8)}, y ∈ l.foldl (fun out e => putL (hdS e).lab out) out ↔ y ∈ out ∨ ∃ e ∈ l, (hdS e).lab = y
 | [], out => by simp
 | a :: r, out => by
   rw [List.foldl_cons, fold_mem, putL_mem]
   constructor
   · rintro ((h | h) | ⟨e, h1, h2⟩)
     · exact .inr ⟨a, List.mem_cons_self .., h.symm⟩
     · exact .inl h
     · exact .inr ⟨e, List.mem_cons_of_mem _ h1, h2⟩
   · rintro (h | ⟨e, h1, h2⟩)
     · exact .inl (.inr h)
     · rcases List.mem_cons.1 h1 with rfl | h1
       · exact .inl (.inl h2.symm)
       · exact .inr ⟨e, h1, h2⟩
theorem fold_sort : ∀ {l : List Ent} {out : List (List UInt8)}, out.Pairwise ltL → (l.foldl (fun out e => putL (hdS e).lab out) out).Pairwise ltL
 | [], _, h => h
 | a :: r, out, h => by rw [List.foldl_cons]; exact fold_sort (putL_sort h)
theorem sortL_one : ∀ {a b : List (List UInt8)}, a.Pairwise ltL → b.Pairwise ltL → (∀ x, x ∈ a ↔ x ∈ b) → a = b
 | [], [], _, _, _ => rfl
 | [], y :: b, _, _, h => absurd ((h y).2 (List.mem_cons_self ..)) (by simp)
 | x :: a, [], _, _, h => absurd ((h x).1 (List.mem_cons_self ..)) (by simp)
 | x :: a, y :: b, ha, hb, h => by
   obtain ⟨ha1, ha2⟩ := List.pairwise_cons.1 ha
   obtain ⟨hb1, hb2⟩ := List.pairwise_cons.1 hb
   have e : x = y := by
     rcases List.mem_cons.1 ((h x).1 (List.mem_cons_self ..)) with e | e
     · exact e
     · rcases List.mem_cons.1 ((h y).2 (List.mem_cons_self ..)) with e2 | e2
       · exact e2.symm
       · exact absurd (ltL_trans (hb1 x e) (ha1 y e2)) (ltL_irr y)
   subst e
   rw [sortL_one ha2 hb2 fun z => ?_]
   constructor
   · intro hz
     rcases List.mem_cons.1 ((h z).1 (List.mem_cons_of_mem _ hz)) with e | e
     · subst e; exact absurd (ha1 z hz) (ltL_irr z)
     · exact e
   · intro hz
     rcases List.mem_cons.1 ((h z).2 (List.mem_cons_of_mem _ hz)) with e | e
     · subst e; exact absurd (hb1 z hz) (ltL_irr z)
     · exact e
theorem names_grp {l : List Ent} (h : ∀ e ∈ l, (hdS e).lab ≠ [] ∧ (hdS e).idx = 0) : namesL l = (grp l).map fun s => s.lab := by
 have hg : ∀ s ∈ grp l, s.lab ≠ [] ∧ s.idx = 0 := by
   intro s hs
   obtain ⟨e, he, rfl⟩ := grp_mem.1 hs
   exact h e he
 apply sortL_one (fold_sort List.Pairwise.nil)
 · rw [List.pairwise_map]
   have := grp_sort l
   refine List.Pairwise.imp_of_mem ?_ this
   intro a b ha hb hab
   rcases hab with ⟨-, b0⟩ | ⟨-, -, c⟩ | ⟨a0, b0⟩
   · exact absurd b0 (hg b hb).1
   · exact c
   · have := (hg a ha).2; have := (hg b hb).2; omega
 · intro y
   rw [fold_mem, List.mem_map]
   constructor
   · rintro (h | ⟨e, h1, h2⟩)
     · simp at h
     · exact ⟨hdS e, grp_mem.2 ⟨e, h1, rfl⟩, h2⟩
   · rintro ⟨s, h1, h2⟩
     obtain ⟨e, he, rfl⟩ := grp_mem.1 h1
     exact .inr ⟨e, he, h2⟩
theorem grp_names {l : List Ent} (h : ∀ e ∈ l, (hdS e).lab ≠ [] ∧ (hdS e).idx = 0) : grp l = (namesL l).map fun n => ⟨n, 0⟩ := by
 rw [names_grp h, List.map_map]
 conv => lhs; rw [← List.map_id (grp l)]
 apply List.map_congr_left
 intro s hs
 obtain ⟨e, he, rfl⟩ := grp_mem.1 hs
 exact stp_ext rfl (h e he).2
theorem lab_iff {l : List Ent} : allLab (grp l) = true ↔ ∀ e ∈ l, (hdS e).lab ≠ [] := by
 unfold allLab
 rw [List.all_eq_true]
 constructor
 · intro h e he
   exact of_decide_eq_true (h _ (grp_mem.2 ⟨e, he, rfl⟩))
 · intro h s hs
   obtain ⟨e, he, rfl⟩ := grp_mem.1 hs
   exact decide_eq_true (h e he)
def topI (l : List Ent) : Int := l.foldl (fun n e => max n ((hdS e).idx + 1)) 0
theorem top_snoc (l : List Ent) (e : Ent) : topI (l ++ [e]) = max (topI l) ((hdS e).idx + 1) := by unfold topI; rw [List.foldl_append]; rfl
theorem fold_top : ∀ (l : List Ent) (n : Int), n ≤ l.foldl (fun n e => max n ((hdS e).idx + 1)) n ∧ (∀ e ∈ l, (hdS e).idx + 1 ≤ l.foldl (fun n e => max n ((hdS e).idx + 1)) n) ∧ (l.foldl (fun n e => max n ((hdS e).idx + 1)) n = n ∨ ∃ e ∈ l, l.foldl (fun n e => max n ((hdS e).idx + 1)) n = (hdS e).idx + 1)
 | [], n => ⟨Int.le_refl _, by simp, .inl rfl⟩
 | a :: r, n => by
   obtain ⟨h1, h2, h3⟩ := fold_top r (max n ((hdS a).idx + 1))
   rw [List.foldl_cons]
   refine ⟨by omega, fun e he => ?_, ?_⟩
   · rcases List.mem_cons.1 he with rfl | he
     · omega
     · exact h2 e he
   · rcases h3 with h3 | ⟨e, he, h3⟩
     · rw [h3]
       rcases Int.le_total n ((hdS a).idx + 1) with h | h
       · exact .inr ⟨a, List.mem_cons_self .., by omega⟩
       · exact .inl (by omega)
     · exact .inr ⟨e, List.mem_cons_of_mem _ he, h3⟩
theorem top_le {l : List Ent} {e : Ent} (h : e ∈ l) : (hdS e).idx + 1 ≤ topI l := (fold_top l 0).2.1 e h
theorem top_zero (l : List Ent) : 0 ≤ topI l := (fold_top l 0).1
theorem blw_some {l : List Ent} (hne : ∀ e ∈ l, e.1 ≠ []) {s : Stp} : blw l s ≠ [] ↔ s ∈ grp l := by
 rw [grp_mem]
 constructor
 · intro h
   obtain ⟨e, he⟩ := List.exists_mem_of_ne_nil _ h
   exact ⟨preE s e, blw_mem.1 he, rfl⟩
 · rintro ⟨e, he, rfl⟩ h0
   have : (e.1.tail, e.2) ∈ blw l (hdS e) := blw_mem.2 (by rw [(cut_head (hne e he)).2]; exact he)
   rw [h0] at this; simp at this
theorem from_idx : ∀ {g : List Stp} {i : Nat}, idxFrom g i = true → g = idxL i g.length
 | [], _, _ => rfl
 | s :: r, i, h => by
   rw [idxFrom, Bool.and_eq_true, Bool.and_eq_true, decide_eq_true_eq, decide_eq_true_eq] at h
   rw [List.length_cons, idxL, ← from_idx h.2, ← show s = ⟨[], (i : Int)⟩ from stp_ext h.1.1 h.1.2]
theorem idx_iff {l : List Ent} (hne : ∀ e ∈ l, e.1 ≠ []) (h : ∀ e ∈ l, (hdS e).lab = [] ∧ 0 ≤ (hdS e).idx) :
   idxFrom (grp l) 0 = true ↔ ∀ k : Nat, (k : Int) < topI l → blw l ⟨[], (k : Int)⟩ ≠ [] := by
 constructor
 · intro hf k hk
   rw [blw_some hne]
   have hg := from_idx hf
   rcases (fold_top l 0).2.2 with h0 | ⟨e, he, h0⟩
   · have : topI l = 0 := h0
     omega
   · have ht : topI l = (hdS e).idx + 1 := h0
     have hm : hdS e ∈ grp l := grp_mem.2 ⟨e, he, rfl⟩
     rw [hg, idxL_mem] at hm
     obtain ⟨j, hj, hje⟩ := hm
     have : (hdS e).idx = (j : Int) := by rw [hje]; simp
     rw [hg, idxL_mem]
     exact ⟨k, by omega, by simp⟩
 · intro hk
   have : grp l = idxL 0 (topI l).toNat := by
     apply sort_one (grp_sort l) (idxL_sort _ _)
     intro s
     rw [idxL_mem]
     constructor
     · intro hs
       obtain ⟨e, he, rfl⟩ := grp_mem.1 hs
       have h1 := top_le he
       obtain ⟨h2, h3⟩ := h e he
       exact ⟨(hdS e).idx.toNat, by omega, stp_ext h2 (by show (hdS e).idx = ((0 + (hdS e).idx.toNat : Nat) : Int); omega)⟩
     · rintro ⟨j, hj, rfl⟩
       have := hk j (by omega)
       rw [blw_some hne] at this
       simpa using this
   rw [this]; exact idxL_from _ _
theorem grp_idx {l : List Ent} (hf : idxFrom (grp l) 0 = true) (hne : l ≠ []) (h : ∀ e ∈ l, (hdS e).lab = [] ∧ 0 ≤ (hdS e).idx) : grp l = idxL 0 (topI l).toNat ∧ topI l ≤ l.length := by
 have hg := from_idx hf
 have hl := grp_len l
 have e : ((grp l).length : Int) = topI l := by
   rcases (fold_top l 0).2.2 with h0 | ⟨e, he, h0⟩
   · have ht : topI l = 0 := h0
     obtain ⟨e, he⟩ := List.exists_mem_of_ne_nil _ hne
     have := top_le he
     have := (h e he).2
     omega
   · have ht : topI l = (hdS e).idx + 1 := h0
     have hm : hdS e ∈ grp l := grp_mem.2 ⟨e, he, rfl⟩
     rw [hg, idxL_mem] at hm
     obtain ⟨j, hj, hje⟩ := hm
     have h1 : (hdS e).idx = (j : Int) := by rw [hje]; simp
     have h2 : (⟨[], (((grp l).length - 1 : Nat) : Int)⟩ : Stp) ∈ grp l := by
       have hq : ∀ s, s ∈ grp l ↔ s ∈ idxL 0 (grp l).length := fun s => by rw [← hg]
       exact (hq _).2 ((idxL_mem _ _ _).2 ⟨(grp l).length - 1, by omega, by simp⟩)
     obtain ⟨e2, he2, h3⟩ := grp_mem.1 h2
     have h4 := top_le he2
     rw [h3] at h4
     simp only at h4
     omega
 refine ⟨?_, by omega⟩
 rw [← e, Int.toNat_natCast]; exact hg
end
section
open Go.RowKit
def idxR (L : List Ent) : Int × Bool :=
 if L.all (fun e => decide ((hdS e).lab = [])) = true then (if (L.length : Int) < topI L then (0, false) else if (List.range (topI L).toNat).all (fun k => !(blw L ⟨[], (k : Int)⟩).isEmpty) = true then (topI L, true) else (0, false)) else (0, false)
theorem idx_lab {L : List Ent} {e : Ent} (he : e ∈ L) (h : (hdS e).lab ≠ []) : idxR L = (0, false) := by
 unfold idxR
 rw [if_neg]
 intro h1
 exact h (of_decide_eq_true (List.all_eq_true.1 h1 e he))
theorem idx_all {L : List Ent} (h : ∀ e ∈ L, (hdS e).lab = []) : idxR L = if (L.length : Int) < topI L then (0, false) else if (List.range (topI L).toNat).all (fun k => !(blw L ⟨[], (k : Int)⟩).isEmpty) = true then (topI L, true) else (0, false) := by
 unfold idxR
 rw [if_pos (List.all_eq_true.2 fun e he => decide_eq_true (h e he))]
theorem top_take {L : List Ent} {i : Nat} (h : i < L.length) : topI (L.take (i + 1)) = max (topI (L.take i)) ((hdS L[i]).idx + 1) := by
 rw [List.take_succ_eq_append_getElem h, top_snoc]
set_option maxRecDepth 100000 in
set_option maxHeartbeats 8000000 in
theorem refIndices_any {w : World} {ok : Nat → Prop} {v : Value} {L : List Ent} (h : EntR w ok v L) (hl : L.length ≤ 1000000) (hne : ∀ e ∈ L, e.1 ≠ []) (hz : ∀ e ∈ L, (hdS e).lab = [] → 0 ≤ (hdS e).idx ∧ (hdS e).idx ≤ 1000000) :
   Calls Tryz.prog 85 #[v] w fun e w' => e = .returned (.tuple #[.int .i64 (idxR L).1, .bool (idxR L).2]) ∧ Below w.heap.size w w' := by
 have HBW := Lib.hid (fun w' (hb : Below w.heap.size w w') k => refBelow_any (h.under hb) hl hne ⟨[], k⟩)
 obtain ⟨pa, ca, B, o, rfl, hA⟩ := h.open
 have HA := Lib.hid hA
 have HNE := Lib.hid hne
 have HZ := Lib.hid hz
 clear h hA hne hz
 go_enter Tryz.func85, Tryz.ntmps85
 go_wp2_with fail
 go_loopw [4, 5] (fun x y wr => ∃ (i : Nat) (n : Int), x = .int .i64 n ∧ y = .int .i64 (i : Int) ∧ i ≤ L.length ∧ 0 ≤ n ∧ n ≤ 1000001 ∧ Hid (n = topI (L.take i)) ∧ Hid (∀ e ∈ L.take i, (hdS e).lab = []) ∧ Hid (Below w.heap.size w wr)) (fun _ y _ => L.length - (intOf y).toNat)
 case atStart => exact ⟨0, 0, rfl, rfl, Nat.zero_le _, by omega, by omega, Lib.hid rfl, Lib.hid (by simp), Lib.hid (Below.refl _ _)⟩
 case round =>
   obtain ⟨i, n, rfl, rfl, hi', hn0, hn1, HN, HLB, HW⟩ := hrel
   by_cases hlt : i < L.length
   · obtain ⟨pva, via, vma, rfl, hca, hB, -, x0, -, sx, -⟩ := HA.out i hlt
     have hne := HNE.out _ (List.getElem_mem hlt)
     have hz := HZ.out _ (List.getElem_mem hlt)
     have HT := Lib.hid (top_take hlt)
     have HLI := Lib.hid (fun (h : (hdS L[i]).lab = []) => (show ∀ e ∈ L.take (i + 1), (hdS e).lab = [] from fun e he => by
       rw [List.take_succ_eq_append_getElem hlt] at he
       rcases List.mem_append.1 he with he | he
       · exact HLB.out e he
       · obtain rfl := List.mem_singleton.1 he; exact h))
     have HBAD := Lib.hid (fun (h : (hdS L[i]).lab ≠ []) => idx_lab (List.getElem_mem hlt) h)
     generalize L[i] = q at x0 sx hne hz HT HLI HBAD
     obtain ⟨P, x⟩ := q
     simp only at x0 sx hne
     obtain ⟨t, P, rfl⟩ : ∃ t Q, P = t :: Q := by cases P with | nil => exact absurd rfl hne | cons t Q => exact ⟨t, Q, rfl⟩
     have eh : hdS (t :: P, x) = t := rfl
     rw [eh] at hz HT HLI HBAD
     obtain ⟨pp, pc, rfl⟩ := slk_form sx
     simp only [List.length_cons] at x0 sx
     obtain ⟨Bp, op, rfl, hpc, hBp, -, m0, m1, -⟩ := sx.tail
     replace x0 := (HW.out.cell (p := ⟨B, o + i * 6, none⟩) hB).trans x0
     replace m0 := (HW.out.cell (p := ⟨Bp, op, none⟩) hBp).trans m0
     replace m1 := (HW.out.cell (p := ⟨Bp, op + 1, none⟩) hBp).trans m1
     obtain ⟨l1, z1⟩ := t
     simp only at m0 m1 hz HT HLI HBAD
     clear sx hne eh
     by_cases hlab : l1 = []
     · have t1 : (l1 == []) = true := by rw [hlab]; rfl
       have t2 : (l1 != []) = false := by rw [hlab]; rfl
       obtain ⟨hz0, hz1⟩ := hz hlab
       have HLI9 := Lib.hid (HLI.out hlab)
       have HT9 := Lib.hid (show max n (z1 + 1) = topI (L.take (i + 1)) by rw [HT.out, HN.out])
       have hm0 : 0 ≤ max n (z1 + 1) := by omega
       have hm1 : max n (z1 + 1) ≤ 1000001 := by omega
       clear hlab hz
       go_wp2_with fail
       go_roundw
       case rel => exact ⟨i + 1, _, rfl, by go_num, hlt, hm0, hm1, HT9, HLI9, HW⟩
       case measure => simp [intOf]; omega
     · have t1 : (l1 == []) = false := by simpa using hlab
       have t2 : (l1 != []) = true := by simpa using hlab
       have HR := Lib.hid (HBAD.out hlab)
       clear hlab hz
       go_wp2_with fail
       go_ret2
       exact ⟨by rw [HR.out]; rfl, HW.out⟩
   · have hTk : L.take i = L := List.take_of_length_le (by omega)
     rw [hTk] at HN HLB
     have HI := Lib.hid (idx_all HLB.out)
     rw [← HN.out] at HI
     clear hTk HLB
     by_cases hbig : (L.length : Int) < n
     · have HR := Lib.hid (show idxR L = (0, false) by rw [HI.out, if_pos hbig])
       have t1 : decide ((L.length : Int) < n) = true := decide_eq_true hbig
       go_wp2_with fail
       go_ret2
       exact ⟨by rw [HR.out]; rfl, HW.out⟩
     have HI2 := Lib.hid (show idxR L = if (List.range n.toNat).all (fun k => !(blw L ⟨[], (k : Int)⟩).isEmpty) = true then (n, true) else (0, false) by rw [HI.out, if_neg hbig])
     have t1 : decide ((L.length : Int) < n) = false := decide_eq_false hbig
     obtain ⟨m, rfl⟩ := Int.eq_ofNat_of_zero_le hn0
     clear HI HN
     go_wp2_with fail
     go_loopw [6] (fun x wr => ∃ k : Nat, x = .int .i64 (k : Int) ∧ k ≤ m ∧ Hid (∀ j, j < k → (blw L ⟨[], (j : Int)⟩).isEmpty = false) ∧ Hid (Below w.heap.size w wr)) (fun x _ => m - (intOf x).toNat)
     case atStart => exact ⟨0, rfl, Nat.zero_le _, Lib.hid (fun _ h => absurd h (Nat.not_lt_zero _)), HW⟩
     case round =>
       clear HW
       obtain ⟨k, rfl, hk, HK, HW⟩ := hrel
       by_cases hkm : k < m
       · have t2 : (k : Int) < (m : Int) := by omega
         have HCL := Lib.hid (HBW.out _ HW.out (k : Int))
         go_wp2_with fail
         refine HCL.out.mono ?_
         rintro e x1 ⟨⟨v', rfl, he⟩, hb⟩
         obtain ⟨p', c', B', o', rfl, -⟩ := he.open
         have HW1 := Lib.hid (HW.out.trans (hb.mono HW.out.size))
         clear he hb HCL
         generalize hbl : blw L ⟨[], (k : Int)⟩ = bl
         by_cases hem : bl = []
         · have HR := Lib.hid (show idxR L = (0, false) by
             rw [HI2.out, if_neg]
             intro h
             have h1 := List.all_eq_true.1 h k (List.mem_range.2 (by omega))
             rw [hbl, hem] at h1; cases h1)
           have t3 : ((bl.length : Int) == 0) = true := by rw [hem]; rfl
           have t4 : (bl.length == 0) = true := by rw [hem]; rfl
           clear hem hbl
           go_wp2_with fail
           go_ret2
           exact ⟨by rw [HR.out]; rfl, HW1.out⟩
         · have h3 := List.length_pos_iff.2 hem
           have t3 : ((bl.length : Int) == 0) = false := by rw [beq_eq_false_iff_ne]; omega
           have t4 : (bl.length == 0) = false := by rw [beq_eq_false_iff_ne]; omega
           have HK9 := Lib.hid (show ∀ j, j < k + 1 → (blw L ⟨[], (j : Int)⟩).isEmpty = false from fun j hj => by
             rcases Nat.lt_succ_iff_lt_or_eq.1 hj with h | h
             · exact HK.out j h
             · subst h; rw [hbl]; cases bl with | nil => exact absurd rfl hem | cons => rfl)
           clear hem hbl h3
           go_wp2_with fail
           go_roundw
           case rel => exact ⟨k + 1, by go_num, hkm, HK9, HW1⟩
           case measure => simp [intOf]; omega
       · have HR := Lib.hid (show idxR L = ((m : Int), true) by
           rw [HI2.out, if_pos]
           refine List.all_eq_true.2 fun j hj => ?_
           rw [HK.out j (by have := List.mem_range.1 hj; omega)]; rfl)
         go_wp2_with fail
         go_ret2
         exact ⟨by rw [HR.out]; rfl, HW.out⟩
end
section
open Go.RowKit
theorem posL_le (s : List UInt8) : ∀ (N : List (List UInt8)), posL s N ≤ N.length
 | [] => Nat.le_refl _
 | x :: r => by
   show (if Op.bytesLess x s = true then posL s r + 1 else 0) ≤ _
   have := posL_le s r
   split
   · simp; omega
   · exact Nat.zero_le _
theorem posL_step {s : List UInt8} {N : List (List UInt8)} {k : Nat} (h : k < N.length) (hl : Op.bytesLess N[k] s = true) : k + 1 + posL s (N.drop (k + 1)) = k + posL s (N.drop k) := by
 have e : posL s (N.drop k) = posL s (N.drop (k + 1)) + 1 := by
   rw [List.drop_eq_getElem_cons h]
   show (if Op.bytesLess N[k] s = true then posL s (N.drop (k + 1)) + 1 else 0) = _
   rw [if_pos hl]
 omega
theorem posL_stop {s : List UInt8} {N : List (List UInt8)} {k : Nat} (h : k < N.length) (hl : Op.bytesLess N[k] s = false) : posL s (N.drop k) = 0 := by
 rw [List.drop_eq_getElem_cons h]
 show (if Op.bytesLess N[k] s = true then posL s (N.drop (k + 1)) + 1 else 0) = 0
 rw [if_neg (by rw [hl]; decide)]
theorem posL_over {s : List UInt8} {N : List (List UInt8)} {k : Nat} (h : N.length ≤ k) : posL s (N.drop k) = 0 := by
 rw [List.drop_of_length_le h]; rfl
theorem putL_there {s : List UInt8} {N : List (List UInt8)} (h : posL s N < N.length) (he : N[posL s N] = s) : putL s N = N := by
 unfold putL
 rw [if_pos (by rw [List.getElem?_eq_getElem h, he])]
theorem putL_new {s : List UInt8} {N : List (List UInt8)} (h : ∀ (h : posL s N < N.length), N[posL s N] ≠ s) : putL s N = N.take (posL s N) ++ s :: N.drop (posL s N) := by
 unfold putL
 rw [if_neg]
 intro e
 obtain ⟨h1, h2⟩ := List.getElem?_eq_some_iff.1 e
 exact h h1 h2
theorem names_take {L : List Ent} {i : Nat} (h : i < L.length) : namesL (L.take (i + 1)) = putL (hdS L[i]).lab (namesL (L.take i)) := by
 rw [List.take_succ_eq_append_getElem h, names_snoc]
def strC (N : List (List UInt8)) : List Value := N.map fun l => .string (S l)
theorem strC_one (N : List (List UInt8)) : ∀ u ∈ strC N, u.oneCell' = true := by
 intro u hu
 obtain ⟨l, -, rfl⟩ := List.mem_map.1 hu
 rfl
theorem strC_len (N : List (List UInt8)) : (strC N).length = N.length := by simp [strC]
end
section
open Go.RowKit
theorem infoStrg : (Tryz.prog.info? 9).map (fun i => (i.zero, i.size, i.bytes)) = some (some (.string ⟨#[]⟩), 1, 16) := by kernel_rfl
theorem src_take {W : World} {base uc : Nat} {up : Option Addr} {N : List (List UInt8)} {e : TypeId} (h : W.ownsRow base e 1 (.slice up N.length uc) N.length (strC N)) {k : Nat} (hk : k ≤ N.length) : Src W 1 up k (strC (N.take k)) := by
 refine ⟨by rw [strC_len, List.length_take]; omega, ?_, ?_, strC_one _⟩
 · intro hu
   rcases own_head h with ⟨-, h0⟩ | ⟨g, cap, e0, -⟩
   · omega
   · injection e0 with e0 _ _; rw [hu] at e0; cases e0
 · intro a ha j u hu
   subst ha
   rcases own_head h with ⟨e0, -⟩ | ⟨g, cap, e0, -⟩
   · injection e0 with e0 _ _; cases e0
   · injection e0 with e0 _ e2
     injection e0 with e0
     subst e0
     refine h.cells (g := g) rfl j u ?_
     unfold strC at hu ⊢
     rw [List.map_take, List.getElem?_take] at hu
     split at hu
     · exact hu
     · cases hu
theorem src_drop {W : World} {base uc B : Nat} {N : List (List UInt8)} {e : TypeId} (h : W.ownsRow base e 1 (.slice (some ⟨B, 0, none⟩) N.length uc) N.length (strC N)) {k : Nat} (hk : k < N.length) : Src W 1 (some ⟨B, k, none⟩) (N.length - k) (strC (N.drop k)) := by
 refine ⟨by rw [strC_len, List.length_drop]; omega, by simp, ?_, strC_one _⟩
 intro a ha j u hu
 injection ha with ha
 subst ha
 have hc := h.cells (g := B) rfl (k + j) u (by
   unfold strC at hu ⊢
   rw [List.map_drop, List.getElem?_drop] at hu
   exact hu)
 rw [Lib.add_plain, Nat.zero_add] at hc
 rw [Lib.add_plain]
 exact hc
theorem src_none {W : World} (p : Option Addr) : Src W 1 p 0 [] := ⟨rfl, fun _ => rfl, fun a _ j u hu => by simp at hu, by simp⟩
theorem new_len {N : List (List UInt8)} {s : List UInt8} {k : Nat} (h : k ≤ N.length) : (N.take k ++ s :: N.drop k).length = k + 1 + (N.length - k) := by
 simp; omega
theorem new_end (N : List (List UInt8)) (s : List UInt8) : strC (N.take N.length) ++ [.string (S s)] = strC (N.take N.length ++ s :: N.drop N.length) := by
 simp [strC]
theorem new_cells (N : List (List UInt8)) (s : List UInt8) (k : Nat) : strC (N.take k) ++ [.string (S s)] ++ strC (N.drop k) = strC (N.take k ++ s :: N.drop k) := by
 simp [strC]
def LabP (w : World) (L : List Ent) (e : Ending) (w' : World) : Prop :=
 ((∃ x ∈ L, (hdS x).lab = []) ∧ e = .returned (.tuple #[.slice none 0 0, .bool false]) ∨ (∀ x ∈ L, (hdS x).lab ≠ []) ∧ ∃ p c, e = .returned (.tuple #[.slice p (namesL L).length c, .bool true]) ∧ w'.ownsRow w.heap.size 9 1 (.slice p (namesL L).length c) (namesL L).length (strC (namesL L))) ∧ Below w.heap.size w w'
set_option maxRecDepth 100000 in
set_option maxHeartbeats 8000000 in
theorem refLabels_any {w : World} {ok : Nat → Prop} {v : Value} {L : List Ent} (h : EntR w ok v L) (hl : L.length ≤ 1000000) (hne : ∀ e ∈ L, e.1 ≠ []) :
   Calls Tryz.prog 83 #[v] w (LabP w L) := by
 obtain ⟨i0, hi, hz0, hz1, hz2⟩ := info_parts infoStrg
 obtain ⟨pa, ca, B, o, rfl, hA⟩ := h.open
 have HA := Lib.hid hA
 have HNE := Lib.hid hne
 clear h hA hne
 have HS0 := Lib.hid (World.ownsRow_nil w w.heap.size 9 1)
 go_enter Tryz.func83, Tryz.ntmps83
 go_wp2_with fail
 go_loopw [4, 5] (fun x y wr => ∃ (i : Nat) (up : Option Addr) (uc : Nat) (N : List (List UInt8)), x = .slice up N.length uc ∧ y = .int .i64 (i : Int) ∧ i ≤ L.length ∧ N.length ≤ i ∧ Hid (N = namesL (L.take i)) ∧ Hid (∀ e ∈ L.take i, (hdS e).lab ≠ []) ∧ Hid (wr.ownsRow w.heap.size 9 1 (.slice up N.length uc) N.length (strC N)) ∧ Hid (Below w.heap.size w wr)) (fun _ y _ => L.length - (intOf y).toNat)
 case atStart => exact ⟨0, none, 0, [], rfl, rfl, Nat.zero_le _, Nat.le_refl _, Lib.hid rfl, Lib.hid (by simp), HS0, Lib.hid (Below.refl _ _)⟩
 case round =>
   clear HS0
   obtain ⟨i, up, uc, N, rfl, rfl, hi', hNi, HN, HLB, HO, HW⟩ := hrel
   by_cases hlt : i < L.length
   · obtain ⟨pva, via, vma, rfl, hca, hB, -, x0, -, sx, -⟩ := HA.out i hlt
     have hne := HNE.out _ (List.getElem_mem hlt)
     have HT := Lib.hid (names_take hlt)
     have HLI := Lib.hid (fun (h : (hdS L[i]).lab ≠ []) => (show ∀ e ∈ L.take (i + 1), (hdS e).lab ≠ [] from fun e he => by
       rw [List.take_succ_eq_append_getElem hlt] at he
       rcases List.mem_append.1 he with he | he
       · exact HLB.out e he
       · obtain rfl := List.mem_singleton.1 he; exact h))
     have HBAD := Lib.hid (fun (h : (hdS L[i]).lab = []) => (show ∃ x ∈ L, (hdS x).lab = [] from ⟨_, List.getElem_mem hlt, h⟩))
     generalize L[i] = q at x0 sx hne HT HLI HBAD
     obtain ⟨P, x⟩ := q
     simp only at x0 sx hne
     obtain ⟨t, P, rfl⟩ : ∃ t Q, P = t :: Q := by cases P with | nil => exact absurd rfl hne | cons t Q => exact ⟨t, Q, rfl⟩
     have eh : hdS (t :: P, x) = t := rfl
     rw [eh] at HT HLI HBAD
     obtain ⟨pp, pc, rfl⟩ := slk_form sx
     simp only [List.length_cons] at x0 sx
     obtain ⟨Bp, op, rfl, hpc, hBp, -, m0, m1, -⟩ := sx.tail
     replace x0 := (HW.out.cell (p := ⟨B, o + i * 6, none⟩) hB).trans x0
     replace m0 := (HW.out.cell (p := ⟨Bp, op, none⟩) hBp).trans m0
     obtain ⟨s, z1⟩ := t
     simp only at m0 HT HLI HBAD
     clear sx hne eh m1
     by_cases hlab : s = []
     · have t1 : (s == []) = true := by rw [hlab]; rfl
       have HR := Lib.hid (HBAD.out hlab)
       clear hlab
       go_wp2_with fail
       go_ret2
       exact ⟨.inl ⟨HR.out, rfl⟩, HW.out⟩
     · have t1 : (s == []) = false := by simpa using hlab
       have HLI9 := Lib.hid (HLI.out hlab)
       rw [← HN.out] at HT
       clear hlab HLI HBAD
       obtain ⟨up', uc', B1, hv, hcell⟩ := own1 (f := fun l => Value.string (S l)) HO.out
       injection hv with e1 _ e3
       subst e1; subst e3
       have HCE := Lib.hid hcell
       clear hcell
       go_upto_block 2 with fail
       go_cut [7] (fun v wx => v = .int .i64 (posL s N : Int) ∧ wr = wx)
       case first =>
         clear x0 m0
         go_wp2_with fail
         go_loopw [7] (fun x wz => ∃ k : Nat, x = .int .i64 (k : Int) ∧ k ≤ N.length ∧ Hid (k + posL s (N.drop k) = posL s N) ∧ wr = wz) (fun x _ => N.length - (intOf x).toNat)
         case atStart => exact ⟨0, rfl, Nat.zero_le _, Lib.hid (by simp), rfl⟩
         case round =>
           obtain ⟨k, rfl, hk, HP, rfl⟩ := hrel
           by_cases hkl : k < N.length
           · obtain ⟨rfl, hcap, -, hg, hc⟩ := HCE.out k hkl
             have HST := Lib.hid (fun h => (posL_step hkl h).trans HP.out)
             have HSP := Lib.hid (fun h => (show k = posL s N by have h1 := HP.out; rw [posL_stop hkl h] at h1; simpa using h1))
             generalize N[k] = y at hc HST HSP
             rcases Bool.eq_false_or_eq_true (Op.bytesLess y s) with hxy | hxy
             · have HP9 := Lib.hid (HST.out hxy)
               go_wp2_with fail
               go_roundw
               case rel => exact ⟨k + 1, by go_num, hkl, HP9, by first | rfl | trivial⟩
               case measure => simp [intOf]; omega
             · have HE9 := Lib.hid (HSP.out hxy)
               go_wp2_with fail
               go_meet
               exact ⟨by rw [← HE9.out], rfl⟩
           · have HE9 := Lib.hid (show k = posL s N by have h1 := HP.out; rw [posL_over (by omega)] at h1; simpa using h1)
             go_wp2_with fail
             go_meet
             exact ⟨by rw [← HE9.out], rfl⟩
       case rest =>
         obtain ⟨rfl, rfl⟩ := hcut
         have hkN := posL_le s N
         by_cases hth : ∃ h : posL s N < N.length, N[posL s N] = s
         · obtain ⟨h1, h2⟩ := hth
           have HT9 := Lib.hid (show N = namesL (L.take (i + 1)) by rw [HT.out, putL_there h1 h2])
           obtain ⟨rfl, hcap, -, hg, hc⟩ := HCE.out _ h1
           rw [h2] at hc
           generalize posL s N = k at h1 hc hkN ⊢
           clear h2
           go_wp2_with fail
           go_roundw
           case rel => exact ⟨i + 1, _, _, N, rfl, by go_num, hlt, by omega, HT9, HLI9, HO, HW⟩
           case measure => simp [intOf]; omega
         · have HTN := Lib.hid (show namesL (L.take (i + 1)) = N.take (posL s N) ++ s :: N.drop (posL s N) by rw [HT.out, putL_new (fun h1 h2 => hth ⟨h1, h2⟩)])
           have HS1 := Lib.hid (src_take HO.out hkN)
           have hNL : N.length ≤ 1000000 := by omega
           have HBD1 := Lib.hid (And.intro (show 0 + posL s N ≤ maxLen by unfold maxLen; omega) (show (0 + posL s N) * 16 ≤ 140737488355328 by omega))
           have HBD2 := Lib.hid (And.intro (show posL s N + 1 ≤ maxLen by unfold maxLen; omega) (show (posL s N + 1) * 16 ≤ 140737488355328 by omega))
           have HBD3 := Lib.hid (And.intro (show posL s N + 1 + (N.length - posL s N) ≤ maxLen by unfold maxLen; omega) (show (posL s N + 1 + (N.length - posL s N)) * 16 ≤ 140737488355328 by omega))
           by_cases hkl : posL s N < N.length
           · obtain ⟨rfl, hcap, hb1, hg, hc⟩ := HCE.out _ hkl
             have hne : (N[posL s N] == s) = false := beq_eq_false_iff_ne.2 (fun e => hth ⟨hkl, e⟩)
             have HS3 := Lib.hid (src_drop HO.out hkl)
             generalize posL s N = k at hkl hc hkN hne HTN HS1 HS3 HBD1 HBD2 HBD3 ⊢
             generalize N[k] = y at hc hne
             clear hth HT
             go_upto_region 13 with fail
             go_upto_region 14 with (at_builtin; refine wpList_app _ (by rfl) _ _ 61 (by rfl) wr.heap.size 9 i0 (.string ⟨#[]⟩) 1 16 Tryz.underlying61 hi hz0 hz1 hz2 rfl (by decide) (.slice none 0 0) 0 [] (by rfl) (World.ownsRow_nil _ _ _ _) _ _ _ _ (by rfl) HS1.out HBD1.out.1 HBD1.out.2 (Nat.le_refl _) ?_; intro v1 x1 hown1 hgrow1 hat1; rw [Nat.zero_add, List.nil_append] at hown1; obtain ⟨u1p, u1c, rfl⟩ := own_form5 hown1; have HO1 := Lib.hid hown1; have HB1 := Lib.hid (below_own (Below.refl _ _) (World.ownsRow_nil wr wr.heap.size 9 1) hgrow1 (Nat.le_refl _) (Nat.le_refl _)); clear hown1 hgrow1 hat1)
             go_upto_region 15 with (at_builtin; refine wpList_app _ (by rfl) _ _ 61 (by rfl) wr.heap.size 9 i0 (.string ⟨#[]⟩) 1 16 Tryz.underlying61 hi hz0 hz1 hz2 rfl (by decide) (.slice u1p k u1c) k (strC (N.take k)) (by rfl) (HO1.out.alloc _) (some ⟨x1.heap.size, 0, none⟩) 1 1 [.string (S s)] (by rfl) (new_srcN x1 _ _) HBD2.out.1 HBD2.out.2 (HB1.out.alloc HB1.out.size _).size ?_; intro v2 x2 hown2 hgrow2 hat2; obtain ⟨u2p, u2c, rfl⟩ := own_form5 hown2; have HO2 := Lib.hid hown2; have HB2 := Lib.hid (below_own (HB1.out.alloc HB1.out.size _) (HO1.out.alloc _) hgrow2 (Nat.le_refl _) (HB1.out.alloc HB1.out.size _).size); clear hown2 hgrow2 hat2)
             have HS4 := Lib.hid (HS3.out.below HB2.out (fun a ha _ => by injection ha with ha; subst ha; exact hg))
             go_wp2_with (at_builtin; refine wpList_app _ (by rfl) _ _ 61 (by rfl) wr.heap.size 9 i0 (.string ⟨#[]⟩) 1 16 Tryz.underlying61 hi hz0 hz1 hz2 rfl (by decide) (.slice u2p (k + 1) u2c) (k + 1) (strC (N.take k) ++ [.string (S s)]) (by rfl) HO2.out _ _ _ _ (by rfl) HS4.out HBD3.out.1 HBD3.out.2 HB2.out.size ?_; intro v3 x3 hown3 hgrow3 hat3; obtain ⟨u3p, u3c, rfl⟩ := own_form5 hown3; have HO3 := Lib.hid hown3; have HB3 := Lib.hid (below_own HB2.out HO2.out hgrow3 (Nat.le_refl _) HB2.out.size); clear hown3 hgrow3 hat3)
             go_roundw
             case rel => exact ⟨i + 1, u3p, u3c, N.take k ++ s :: N.drop k, by rw [new_len hkN], by go_num, hlt, by simp; omega, Lib.hid HTN.out.symm, HLI9, Lib.hid (by rw [new_len hkN]; exact own_less (by have h := HO3.out; rw [new_cells] at h; exact h) HW.out.size), Lib.hid (HW.out.trans (HB3.out.mono HW.out.size))⟩
             case measure => simp [intOf]; omega
           · have hkn : posL s N = N.length := by omega
             have c1 : ¬ ((posL s N : Int) < (N.length : Int)) := by omega
             rw [hkn] at HTN HS1 HBD1 HBD2 HBD3 c1 ⊢
             have huc : N.length ≤ uc := by
               rcases own_head HO.out with ⟨e0, h0⟩ | ⟨g, cap, e0, -, hc, -⟩
               · omega
               · injection e0 with _ _ e0; omega
             clear hth HT hkn hkl hkN HCE
             go_upto_region 13 with fail
             go_upto_region 14 with (at_builtin; refine wpList_app _ (by rfl) _ _ 61 (by rfl) wr.heap.size 9 i0 (.string ⟨#[]⟩) 1 16 Tryz.underlying61 hi hz0 hz1 hz2 rfl (by decide) (.slice none 0 0) 0 [] (by rfl) (World.ownsRow_nil _ _ _ _) _ _ _ _ (by rfl) HS1.out HBD1.out.1 HBD1.out.2 (Nat.le_refl _) ?_; intro v1 x1 hown1 hgrow1 hat1; rw [Nat.zero_add, List.nil_append] at hown1; obtain ⟨u1p, u1c, rfl⟩ := own_form5 hown1; have HO1 := Lib.hid hown1; have HB1 := Lib.hid (below_own (Below.refl _ _) (World.ownsRow_nil wr wr.heap.size 9 1) hgrow1 (Nat.le_refl _) (Nat.le_refl _)); clear hown1 hgrow1 hat1)
             go_upto_region 15 with (at_builtin; refine wpList_app _ (by rfl) _ _ 61 (by rfl) wr.heap.size 9 i0 (.string ⟨#[]⟩) 1 16 Tryz.underlying61 hi hz0 hz1 hz2 rfl (by decide) (.slice u1p N.length u1c) N.length (strC (N.take N.length)) (by rfl) (HO1.out.alloc _) (some ⟨x1.heap.size, 0, none⟩) 1 1 [.string (S s)] (by rfl) (new_srcN x1 _ _) HBD2.out.1 HBD2.out.2 (HB1.out.alloc HB1.out.size _).size ?_; intro v2 x2 hown2 hgrow2 hat2; obtain ⟨u2p, u2c, rfl⟩ := own_form5 hown2; have HO2 := Lib.hid hown2; have HB2 := Lib.hid (below_own (HB1.out.alloc HB1.out.size _) (HO1.out.alloc _) hgrow2 (Nat.le_refl _) (HB1.out.alloc HB1.out.size _).size); clear hown2 hgrow2 hat2)
             have HBD4 := Lib.hid (And.intro (show N.length + 1 + 0 ≤ maxLen by unfold maxLen; omega) (show (N.length + 1 + 0) * 16 ≤ 140737488355328 by omega))
             rcases Nat.lt_or_ge N.length uc with hu | hu
             · have hu1 : ¬ (N.length = uc) := by omega
               have hu2 : ¬ (uc = N.length) := by omega
               clear huc
               go_wp2_with (at_builtin; refine wpList_app _ (by rfl) _ _ 61 (by rfl) wr.heap.size 9 i0 (.string ⟨#[]⟩) 1 16 Tryz.underlying61 hi hz0 hz1 hz2 rfl (by decide) (.slice u2p (N.length + 1) u2c) (N.length + 1) (strC (N.take N.length) ++ [.string (S s)]) (by rfl) HO2.out _ 0 _ [] (by rfl) (src_none _) HBD4.out.1 HBD4.out.2 HB2.out.size ?_; intro v3 x3 hown3 hgrow3 hat3; rw [Nat.add_zero, List.append_nil] at hown3; obtain ⟨u3p, u3c, rfl⟩ := own_form5 hown3; have HO3 := Lib.hid hown3; have HB3 := Lib.hid (below_own HB2.out HO2.out hgrow3 (Nat.le_refl _) HB2.out.size); clear hown3 hgrow3 hat3)
               go_roundw
               case rel => exact ⟨i + 1, u3p, u3c, N.take N.length ++ s :: N.drop N.length, by rw [new_len (Nat.le_refl _), Nat.sub_self], by go_num, hlt, by simp; omega, Lib.hid HTN.out.symm, HLI9, Lib.hid (by rw [new_len (Nat.le_refl _), Nat.sub_self]; exact own_less (by have h := HO3.out; rw [new_end] at h; exact h) HW.out.size), Lib.hid (HW.out.trans (HB3.out.mono HW.out.size))⟩
               case measure => simp [intOf]; omega
             · obtain rfl : uc = N.length := by omega
               clear huc hu
               go_wp2_with (at_builtin; refine wpList_app _ (by rfl) _ _ 61 (by rfl) wr.heap.size 9 i0 (.string ⟨#[]⟩) 1 16 Tryz.underlying61 hi hz0 hz1 hz2 rfl (by decide) (.slice u2p (N.length + 1) u2c) (N.length + 1) (strC (N.take N.length) ++ [.string (S s)]) (by rfl) HO2.out _ 0 _ [] (by rfl) (src_none _) HBD4.out.1 HBD4.out.2 HB2.out.size ?_; intro v3 x3 hown3 hgrow3 hat3; rw [Nat.add_zero, List.append_nil] at hown3; obtain ⟨u3p, u3c, rfl⟩ := own_form5 hown3; have HO3 := Lib.hid hown3; have HB3 := Lib.hid (below_own HB2.out HO2.out hgrow3 (Nat.le_refl _) HB2.out.size); clear hown3 hgrow3 hat3)
               go_roundw
               case rel => exact ⟨i + 1, u3p, u3c, N.take N.length ++ s :: N.drop N.length, by rw [new_len (Nat.le_refl _), Nat.sub_self], by go_num, hlt, by simp; omega, Lib.hid HTN.out.symm, HLI9, Lib.hid (by rw [new_len (Nat.le_refl _), Nat.sub_self]; exact own_less (by have h := HO3.out; rw [new_end] at h; exact h) HW.out.size), Lib.hid (HW.out.trans (HB3.out.mono HW.out.size))⟩
               case measure => simp [intOf]; omega
   · have hTk : L.take i = L := List.take_of_length_le (by omega)
     rw [hTk] at HN HLB
     have HF := Lib.hid (show LabP w L (.returned (.tuple #[.slice up N.length uc, .bool true])) wr from ⟨.inr ⟨HLB.out, up, uc, by rw [← HN.out], by rw [← HN.out]; exact HO.out⟩, HW.out⟩)
     clear hTk HN HLB HO
     go_wp2_with fail
     go_ret2
     exact HF.out
end
section
open Go.RowKit
theorem grp_cons {L : List Ent} (h : L ≠ []) : ∃ s r e, grp L = s :: r ∧ e ∈ L ∧ hdS e = s := by
 have h1 := grp_ne h
 cases hg : grp L with
 | nil => rw [hg] at h1; simp at h1
 | cons s r =>
   obtain ⟨e, he, hs⟩ := grp_mem.1 (show s ∈ grp L by rw [hg]; exact List.mem_cons_self ..)
   exact ⟨s, r, e, rfl, he, hs⟩
theorem bld_lab {f : Nat} {L : List Ent} (hne : ∀ e ∈ L, e.1 ≠ []) (h0 : L ≠ []) (hl : ∀ e ∈ L, (hdS e).lab ≠ []) : bld (f + 1) L = (bldL (bld f) L true (grp L) 0).map (madeD true) := by
 obtain ⟨s, r, e, hg, he, hs⟩ := grp_cons h0
 have hn : nmd s = true := nmd_iff.2 (hs ▸ hl e he)
 rw [bld_loop hne hg, hn]
theorem bld_ix {f : Nat} {L : List Ent} (hne : ∀ e ∈ L, e.1 ≠ []) (h0 : L ≠ []) (hz : ∀ e ∈ L, (hdS e).lab = [] → 0 ≤ (hdS e).idx) (hx : ∃ e ∈ L, (hdS e).lab = []) :
   (∃ n, idxR L = (n, false) ∧ bld (f + 1) L = none) ∨ ∃ n : Nat, idxR L = ((n : Int), true) ∧ n ≤ L.length ∧ grp L = idxL 0 n ∧ bld (f + 1) L = (bldL (bld f) L false (grp L) 0).map (madeD false) := by
 by_cases hall : ∀ e ∈ L, (hdS e).lab = []
 · have hI := idx_all hall
   have hz' : ∀ e ∈ L, (hdS e).lab = [] ∧ 0 ≤ (hdS e).idx := fun e he => ⟨hall e he, hz e he (hall e he)⟩
   have h1 := idx_iff hne hz'
   have bl : bld (f + 1) L = (bldL (bld f) L false (grp L) 0).map (madeD false) := by
     obtain ⟨s, r, e, hg, he, hs⟩ := grp_cons h0
     have hn : nmd s = false := nmd_not.2 (hs ▸ hall e he)
     rw [bld_loop hne hg, hn]
   by_cases hf : idxFrom (grp L) 0 = true
   · obtain ⟨g1, g2⟩ := grp_idx hf h0 hz'
     refine .inr ⟨(topI L).toNat, ?_, by omega, g1, bl⟩
     have ht := top_zero L
     rw [hI, if_neg (by omega), if_pos, Int.toNat_of_nonneg ht]
     refine List.all_eq_true.2 fun k hk => ?_
     have := h1.1 hf k (by have := List.mem_range.1 hk; omega)
     cases hb : blw L ⟨[], (k : Int)⟩ with
     | nil => exact absurd hb this
     | cons => rfl
   · refine .inl ?_
     have hb : bld (f + 1) L = none := by rw [bl, bldL_idx, if_neg hf]; rfl
     by_cases c1 : (L.length : Int) < topI L
     · exact ⟨0, by rw [hI, if_pos c1], hb⟩
     · refine ⟨0, ?_, hb⟩
       rw [hI, if_neg c1, if_neg]
       intro hq
       refine hf (h1.2 fun k hk e0 => ?_)
       have := List.all_eq_true.1 hq k (List.mem_range.2 (by omega))
       rw [e0] at this; cases this
 · obtain ⟨e, he, hn⟩ : ∃ e ∈ L, (hdS e).lab ≠ [] := Classical.byContradiction fun hc => hall fun e he => Classical.byContradiction fun hn => hc ⟨e, he, hn⟩
   refine .inl ⟨0, idx_lab he hn, ?_⟩
   rw [bld_step hne, if_neg, if_neg]
   · intro hf
     have hm : hdS e ∈ grp L := grp_mem.2 ⟨e, he, rfl⟩
     rw [from_idx hf, idxL_mem] at hm
     obtain ⟨j, -, hj⟩ := hm
     exact hn (by rw [hj])
   · intro hl
     obtain ⟨e2, he2, h2⟩ := hx
     exact (lab_iff.1 hl) e2 he2 h2
theorem names_at {L : List Ent} (h : ∀ e ∈ L, (hdS e).lab ≠ [] ∧ (hdS e).idx = 0) : (grp L).length = (namesL L).length ∧ ∀ i (h1 : i < (namesL L).length) (h2 : i < (grp L).length), (grp L)[i] = ⟨(namesL L)[i], 0⟩ := by
 have e := grp_names h
 refine ⟨by rw [e, List.length_map], fun i h1 h2 => ?_⟩
 have : (grp L)[i]? = some ⟨(namesL L)[i], 0⟩ := by rw [e, List.getElem?_map, List.getElem?_eq_getElem h1]; rfl
 rw [List.getElem?_eq_getElem h2] at this
 injection this
theorem idxL_len : ∀ (n i : Nat), (idxL i n).length = n
 | 0, _ => rfl
 | n + 1, i => by rw [idxL, List.length_cons, idxL_len n]
theorem idxL_get : ∀ (n i k : Nat), k < n → (idxL i n)[k]? = some ⟨[], ((i + k : Nat) : Int)⟩
 | 0, _, _, h => absurd h (Nat.not_lt_zero _)
 | n + 1, i, 0, _ => by rw [idxL]; rfl
 | n + 1, i, k + 1, h => by
   rw [idxL, List.getElem?_cons_succ, idxL_get n (i + 1) k (by omega)]
   congr 3; omega
theorem idx_at {L : List Ent} {n : Nat} (h : grp L = idxL 0 n) : (grp L).length = n ∧ ∀ i (h2 : i < (grp L).length), (grp L)[i] = ⟨[], (i : Int)⟩ := by
 have hl : (grp L).length = n := by rw [h, idxL_len]
 refine ⟨hl, fun i h2 => ?_⟩
 have : (grp L)[i]? = some ⟨[], ((0 + i : Nat) : Int)⟩ := by rw [h]; exact idxL_get n 0 i (by omega)
 rw [List.getElem?_eq_getElem h2] at this
 injection this with this
 rw [this, Nat.zero_add]
theorem fit_lab {l : List UInt8} {x : Int} {i : Nat} (h : l ≠ []) : fitB true ⟨l, x⟩ i = true := by unfold fitB; rw [nmd_iff.2 h]; rfl
theorem fit_idx {i : Nat} : fitB false ⟨[], (i : Int)⟩ i = true := by unfold fitB; rw [nmd_not.2 rfl, decide_eq_true rfl]; rfl
theorem hd_ok {e : Ent} (h : entOK e) (hne : e.1 ≠ []) : okS (hdS e) = true := by
 obtain ⟨p, x⟩ := e
 cases p with
 | nil => exact absurd rfl hne
 | cons s r => exact (ok_cons.1 h.1).1
theorem hd_zero {e : Ent} (h : entOK e) (hne : e.1 ≠ []) (hl : (hdS e).lab ≠ []) : (hdS e).idx = 0 := by
 have h1 := hd_ok h hne
 unfold okS at h1
 rw [if_neg hl] at h1
 exact of_decide_eq_true h1
def RBdP (w : World) (r : Option Dat) (e : Ending) (w' : World) : Prop := ∃ vi vm, e = .returned (.tuple #[dv (r.getD dat0) vi vm, .int .i64 (if r.isSome then 0 else 19)]) ∧ Rep w' (fun B => w.heap.size ≤ B) (r.getD dat0) vi vm ∧ Below w.heap.size w w'
theorem RBdP.no (w : World) {w' : World} (hb : Below w.heap.size w w') : RBdP w none (.returned (.tuple #[.agg #[.int .i64 0, .int .i64 0, .string ⟨#[]⟩, .slice none 0 0, .slice none 0 0], .int .i64 19])) w' :=
 ⟨.slice none 0 0, .slice none 0 0, rfl, rep_leaf w' _ rfl rfl none none 0 0, hb⟩
end
section
open Go.RowKit
theorem infoMem2 : (Tryz.prog.info? 64).map (fun i => (i.zero, i.size, i.bytes)) = some (some (.agg #[.string ⟨#[]⟩, .int .i64 0, .int .i64 0, .string ⟨#[]⟩, .slice none 0 0, .slice none 0 0]), 6, 96) := by kernel_rfl
theorem out_kept4 {wc w5 : World} {o : Obj} {gu i : Nat} {row : Option Nat} {u : Value} (hgu : gu < wc.heap.size) (hne : some gu ≠ row) (hc : wc.cell? ⟨gu, i, none⟩ = some u) (hf : wc.frozen? ⟨gu, i, none⟩ = false) (hg : ((wc.alloc o).drew).grownBy w5 row) :
   w5.cell? ⟨gu, i, none⟩ = some u ∧ w5.frozen? ⟨gu, i, none⟩ = false ∧ gu < w5.heap.size := by
 have hb : Below wc.heap.size wc ((wc.alloc o).drew) := below_drew ((Below.refl _ _).alloc (Nat.le_refl _) _)
 have hq : w5.heap[gu]? = wc.heap[gu]? := (hg.block gu (Nat.lt_of_lt_of_le hgu hb.size) hne).trans (hb.block gu hgu)
 exact ⟨(World.cell?_of_block (a := ⟨gu, i, none⟩) hq).trans hc, (World.frozen?_of_block (a := ⟨gu, i, none⟩) hq).trans hf, Nat.lt_of_lt_of_le hgu (Nat.le_trans hb.size hg.size)⟩
theorem BdS.memb_end2 {w : World} {Bd N : Nat} {kd : Int} {A : List (Dat × Value × Value)} {M : List (List UInt8 × Dat × Value × Value)} {vi vm : Value} {W w5 : World} {o : Obj} {l : List UInt8} {x : Dat} {xi xm : Value} {g5 c5 : Nat} (h : BdS w Bd N kd A M vi vm W) (hx : Rep W (apD w.heap.size Bd vi vm) x xi xm)
   (ho : w5.ownsRow N 64 6 (.slice (some ⟨g5, 0, none⟩) (M.length + 1) c5) (M.length + 1) (flat6 M ++ [.string (S l), .int .i64 x.k, .int .i64 x.n, .string (S x.s), xi, xm]))
   (hg : ((W.alloc o).drew).grownBy w5 vm.ownBlock) (ha : vm.ownBlock = some g5 ∨ g5 = ((W.alloc o).drew).heap.size) :
   BdS w Bd N kd A (M ++ [(l, x, xi, xm)]) vi (.slice (some ⟨g5, 0, none⟩) (M.length + 1) c5) (w5.setCell ⟨Bd, 4, none⟩ (.slice (some ⟨g5, 0, none⟩) (M.length + 1) c5)) := by
 have hb : Below W.heap.size W ((W.alloc o).drew) := below_drew ((Below.refl _ _).alloc (Nat.le_refl _) _)
 refine (h.under hb).memb (hx.under hb) ho hg ?_
 rcases ha with e | e
 · exact .inl (by rw [e]; rfl)
 · exact .inr ⟨g5, rfl, by rw [e]; exact Nat.le_refl _⟩
theorem bds_new (w1 : World) (kd : Int) : BdS w1 w1.heap.size (w1.heap.size + 1) kd [] [] (.slice none 0 0) (.slice none 0 0) (w1.alloc (.cells #[.int .i64 kd, .int .i64 0, .string ⟨#[]⟩, .slice none 0 0, .slice none 0 0] 26)) :=
 ⟨Blk.new _ _ _, World.ownsRow_nil _ _ _ _, World.ownsRow_nil _ _ _ _, by simp, by simp, ⟨Nat.le_refl _, Nat.lt_succ_self _, by simp⟩, (Below.refl _ _).alloc (Nat.le_refl _) _⟩
set_option maxRecDepth 100000 in
set_option maxHeartbeats 8000000 in
theorem refbuild_any (f : Nat) : ∀ (L : List Ent) (v : Value) (w : World) (ok : Nat → Prop), EntR w ok v L → L ≠ [] → noClash L → (∀ e ∈ L, entOK e ∧ e.1.length < f ∧ e.1.length ≤ 1000000) → L.length ≤ 1000000 →
   Calls Tryz.prog 46 #[v] w (RBdP w (bld f L)) := by
 induction f with
 | zero =>
   intro L v w ok _ h0 _ h _
   obtain ⟨e, he⟩ := List.exists_mem_of_ne_nil _ h0
   exact absurd (h e he).2.1 (Nat.not_lt_zero _)
 | succ f ih =>
   intro L v w ok h h0 hc hk hl
   have hN : Blk (w.alloc (.cells #[.int .i64 0, .int .i64 0, .string ⟨#[]⟩, .slice none 0 0, .slice none 0 0] 26)) w.heap.size #[.int .i64 0, .int .i64 0, .string ⟨#[]⟩, .slice none 0 0, .slice none 0 0] 26 := Blk.new w _ _
   have hbB : Below w.heap.size w (w.alloc (.cells #[.int .i64 0, .int .i64 0, .string ⟨#[]⟩, .slice none 0 0, .slice none 0 0] 26)) := (Below.refl _ _).alloc (Nat.le_refl _) _
   by_cases hone : ∃ d, L = [([], d)]
   · obtain ⟨d, rfl⟩ := hone
     have e1 : bld (f + 1) [(([] : List Stp), d)] = some d := rfl
     rw [e1]
     obtain ⟨p, cap, B, o, rfl, hj⟩ := h.open
     obtain ⟨pv, vi, vm, rfl, hcap, hB, -, c0, hcc, hs, hr⟩ := hj 0 (by simp)
     obtain ⟨pp, pc, rfl⟩ := slk_form hs
     obtain ⟨p1, cap1, rfl, -, -⟩ := hr.items
     obtain ⟨q1, caq1, rfl, -, -⟩ := hr.members
     obtain ⟨k0, k1, k2, k3, k4⟩ := hcc
     simp only [List.length_singleton, List.getElem_cons_zero, List.length_nil, Nat.zero_mul, Nat.add_zero] at c0 k0 k1 k2 k3 k4 hr ⊢
     obtain ⟨⟨-, hlf, -⟩, -, -⟩ := hk _ (List.mem_cons_self ..)
     obtain ⟨-, l1, l2⟩ := leaf_iff.1 hlf
     have e2 : d.its.length = 0 := by rw [l1]; rfl
     have e3 : d.mem.length = 0 := by rw [l2]; rfl
     rw [e2] at k3
     rw [e3] at k4
     have HL := Lib.hid (fun w' => rep_leaf w' (fun B => w.heap.size ≤ B) l1 l2 p1 q1 cap1 caq1)
     clear h h0 hc hk hl ih hs hr hlf hj e1 e2 e3 l1 l2
     go_enter Tryz.func46, Tryz.ntmps46
     go_upto_region 1 with fail
     generalize w.alloc (.cells #[.int .i64 0, .int .i64 0, .string ⟨#[]⟩, .slice none 0 0, .slice none 0 0] 26) = W at hN hbB ⊢
     replace c0 := (hbB.cell (p := ⟨B, o, none⟩) hB).trans c0
     replace k0 := (hbB.cell (p := ⟨B, o + 1, none⟩) hB).trans k0
     replace k1 := (hbB.cell (p := ⟨B, o + 1 + 1, none⟩) hB).trans k1
     replace k2 := (hbB.cell (p := ⟨B, o + 1 + 2, none⟩) hB).trans k2
     replace k3 := (hbB.cell (p := ⟨B, o + 1 + 3, none⟩) hB).trans k3
     replace k4 := (hbB.cell (p := ⟨B, o + 1 + 4, none⟩) hB).trans k4
     have z0 := hN.cell 0
     have z1 := hN.cell 1
     have z2 := hN.cell 2
     have z3 := hN.cell 3
     have z4 := hN.cell 4
     have y0 := hN.frozen 0
     have y1 := hN.frozen 1
     have y2 := hN.frozen 2
     have y3 := hN.frozen 3
     have y4 := hN.frozen 4
     simp at z0 z1 z2 z3 z4
     have hlw := hN.lt
     have HB := Lib.hid hbB
     clear hN hbB
     go_wp2_with fail
     refine bodyPost_ret (v := .tuple #[.agg #[.int .i64 d.k, .int .i64 d.n, .string (S d.s), .slice p1 0 cap1, .slice q1 0 caq1], .int .i64 0]) (by simp [results, Tryz.results46, go_sem, z0, z1, z2, z3, z4, y0, y1, y2, y3, y4, hlw]) rfl ?_
     exact ⟨_, _, rfl, HL.out _, ((((HB.out.setCell (Nat.le_refl _) _).setCell (Nat.le_refl _) _).setCell (Nat.le_refl _) _).setCell (Nat.le_refl _) _).setCell (Nat.le_refl _) _⟩
   · -- the paths go on
     have hne : ∀ e ∈ L, e.1 ≠ [] := by
       intro e he h1
       have e2 := clash_one hc he h1
       obtain ⟨p, d⟩ := e
       have : p = [] := h1
       subst this
       exact hone ⟨d, e2⟩
     have hgl : (grp L).length ≤ 1000000 := Nat.le_trans (grp_len L) hl
     have HLB := Lib.hid (fun w' (hb : Below w.heap.size w w') => refLabels_any (h.under hb) hl hne)
     have HIX := Lib.hid (fun w' (hb : Below w.heap.size w w') => refIndices_any (h.under hb) hl hne (fun e he _ => (ok_wf (hd_ok (hk e he).1 (hne e he))).2))
     have HBW := Lib.hid (fun w' (hb : Below w.heap.size w w') s => refBelow_any (h.under hb) hl hne s)
     have IH := Lib.hid (fun s (hs : s ∈ grp L) w' v' ok' (hv : EntR w' ok' v' (blw L s)) => ih (blw L s) v' w' ok' hv (blw_in hne hk hs hc hl).1 (blw_in hne hk hs hc hl).2.1 (blw_in hne hk hs hc hl).2.2.1 (blw_in hne hk hs hc hl).2.2.2)
     have HNA := Lib.hid (fun (hall : ∀ e ∈ L, (hdS e).lab ≠ []) => names_at (L := L) (fun e he => ⟨hall e he, hd_zero (hk e he).1 (hne e he) (hall e he)⟩))
     have HVL := Lib.hid (fun hall => bld_lab (f := f) hne h0 hall)
     have HVI := Lib.hid (fun hx => bld_ix (f := f) hne h0 (fun e he _ => (ok_wf (hd_ok (hk e he).1 (hne e he))).2.1) hx)
     obtain ⟨p, cap, B, o, rfl, hj⟩ := h.open
     have hlen1 : L.length = 1 → ∃ pp pc P, w.cell? ⟨B, o, none⟩ = some (.slice pp (P + 1) pc) ∧ p = some ⟨B, o, none⟩ ∧ B < w.heap.size := by
       intro h1
       obtain ⟨pv, vi, vm, rfl, hcap, hB, -, c0, -, hs, -⟩ := hj 0 (by omega)
       obtain ⟨pp, pc, rfl⟩ := slk_form hs
       have hx := hne _ (List.getElem_mem (show 0 < L.length by omega))
       obtain ⟨P, hP⟩ : ∃ P, (L[0]'(by omega)).1.length = P + 1 := by
         cases hh : (L[0]'(by omega)).1 with
         | nil => exact absurd hh hx
         | cons a b => exact ⟨b.length, rfl⟩
       rw [hP, Nat.zero_mul, Nat.add_zero] at c0
       exact ⟨pp, pc, P, c0, rfl, hB⟩
     have HL1 := Lib.hid hlen1
     obtain ⟨i0, hi, hz0, hz1, hz2⟩ := info_parts infoDat
     obtain ⟨i1, hi', hy0, hy1, hy2⟩ := info_parts infoMem2
     have hll : L.length ≤ 1000000 := hl
     have hlp : 0 < L.length := List.length_pos_iff.2 h0
     clear h h0 hc hk hl ih hj hone hne hlen1
     go_enter Tryz.func46, Tryz.ntmps46
     go_upto_region 1 with fail
     generalize w.alloc (.cells #[.int .i64 0, .int .i64 0, .string ⟨#[]⟩, .slice none 0 0, .slice none 0 0] 26) = W at hN hbB ⊢
     have HN := Lib.hid hN
     have HB := Lib.hid hbB
     clear hN hbB
     go_cut [26] (fun b wx => b = .bool false ∧ wx = W)
     case first =>
       rcases Nat.lt_or_ge 1 L.length with h1 | h1
       · have b1 : ((L.length : Int) == 1) = false := by rw [beq_eq_false_iff_ne]; omega
         have b2 : ¬ ((L.length : Int) = 1) := by omega
         go_wp2_with fail
         go_meet
         exact ⟨rfl, rfl⟩
       · have h2 : L.length = 1 := by omega
         obtain ⟨pp, pc, P, c0, rfl, hBw⟩ := HL1.out h2
         replace c0 := (HB.out.cell (p := ⟨B, o, none⟩) hBw).trans c0
         have b1 : ((P : Int) + 1 == 0) = false := by rw [beq_eq_false_iff_ne]; omega
         have b2 : ¬ ((P : Int) + 1 = 0) := by omega
         have b3 : ((L.length : Int) == 1) = true := by rw [beq_iff_eq]; omega
         have b4 : (0 : Int) < (L.length : Int) := by omega
         have b5 : (L.length : Int) = 1 := by omega
         clear h2
         go_wp2_with fail
         go_meet
         exact ⟨rfl, rfl⟩
     case rest =>
       obtain ⟨rfl, rfl⟩ := hcut
       clear HL1
       go_wp2_with fail
       refine (HLB.out _ HB.out).mono ?_
       rintro e w1 ⟨hcase, hb⟩
       have HN1 := Lib.hid (HN.out.below hb)
       have HB1 := Lib.hid (HB.out.trans (hb.mono HB.out.size))
       clear hb
       rcases hcase with ⟨hx, rfl⟩ | ⟨hall, np, nc, rfl, hnm⟩
       · -- a list, or a fault
         have HVX := Lib.hid (HVI.out hx)
         clear hx HLB HNA HVL HVI HN HB
         go_wp2_with fail
         refine (HIX.out _ HB1.out).mono ?_
         rintro e w2 ⟨rfl, hb⟩
         have HN2 := Lib.hid (HN1.out.below hb)
         have HB2 := Lib.hid (HB1.out.trans (hb.mono HB1.out.size))
         clear hb HN1 HB1 HIX
         rcases HVX.out with ⟨n0, hix, hno⟩ | ⟨n, hix, hnl, hg, hbl⟩
         · rw [hix]
           have HNO := Lib.hid hno
           have hN2 := HN2.out
           have z0 := hN2.cell 0
           have z1 := hN2.cell 1
           have z2 := hN2.cell 2
           have z3 := hN2.cell 3
           have z4 := hN2.cell 4
           have y0 := hN2.frozen 0
           have y1 := hN2.frozen 1
           have y2 := hN2.frozen 2
           have y3 := hN2.frozen 3
           have y4 := hN2.frozen 4
           simp at z0 z1 z2 z3 z4
           have hlw := hN2.lt
           clear hN2 hno hix HVX
           go_wp2_with fail
           refine bodyPost_ret (v := .tuple #[.agg #[.int .i64 0, .int .i64 0, .string ⟨#[]⟩, .slice none 0 0, .slice none 0 0], .int .i64 19]) (by simp [results, Tryz.results46, go_sem, z0, z1, z2, z3, z4, y0, y1, y2, y3, y4, hlw]) rfl ?_
           rw [HNO.out]
           exact RBdP.no w (((((HB2.out.setCell (Nat.le_refl _) _).setCell (Nat.le_refl _) _).setCell (Nat.le_refl _) _).setCell (Nat.le_refl _) _).setCell (Nat.le_refl _) _)
         · rw [hix]
           have HV := Lib.hid hbl
           obtain ⟨hgn, hga⟩ := idx_at hg
           have HGA := Lib.hid hga
           clear hix HVX hbl hg hga
           have hS := bds_new w2 5
           go_upto_region 18 with fail
           generalize w2.alloc (.cells #[.int .i64 5, .int .i64 0, .string ⟨#[]⟩, .slice none 0 0, .slice none 0 0] 26) = W2 at hS ⊢
           have HS0 := Lib.hid (show BdS w2 w2.heap.size (w2.heap.size + 1) 5 (itsT false []) [] (.slice none 0 0) (.slice none 0 0) W2 from hS)
           have HI0 : Hid (bldL (bld f) L false (grp L) 0 = (bldL (bld f) L false ((grp L).drop 0) 0).map (fun t => ([] : List (Stp × Dat × Value × Value)).map (fun t => (t.1, t.2.1)) ++ t)) := Lib.hid (by rw [List.drop_zero]; simp)
           clear hS
           go_wp2_with fail
           go_loopw [13] (fun x wr => ∃ (i : Nat) (T : List (Stp × Dat × Value × Value)) (vx : Value), x = .int .i64 (i : Int) ∧ i ≤ n ∧ T.length = i ∧ Hid (BdS w2 w2.heap.size (w2.heap.size + 1) 5 (itsT false T) [] vx (.slice none 0 0) wr) ∧ Hid (bldL (bld f) L false (grp L) 0 = (bldL (bld f) L false ((grp L).drop i) i).map (fun t => T.map (fun t => (t.1, t.2.1)) ++ t))) (fun x _ => n - (intOf x).toNat)
           case atStart => exact ⟨0, [], _, rfl, Nat.zero_le _, rfl, HS0, HI0⟩
           case round =>
             clear HS0 HI0
             obtain ⟨i, T, vx, rfl, hi1, hTi, HS, HI⟩ := hrel
             obtain ⟨ip, ic, hvx⟩ := own_form5 HS.out.its
             subst hvx
             have HTL := Lib.hid (show (itsT false T).length = T.length by simp [memT, itsT])
             by_cases hlt : i < n
             · have hig : i < (grp L).length := by omega
               have hs := HGA.out i hig
               have HF := Lib.hid (fit_idx (i := i))
               have HST := bldL_step (bld f) L false hig
               have hmem : ⟨[], (i : Int)⟩ ∈ grp L := by rw [← hs]; exact List.getElem_mem hig
               rw [hs] at HST
               have HIS := Lib.hid (IH.out ⟨[], (i : Int)⟩ hmem)
               replace HST := Lib.hid HST
               have HCL := Lib.hid (HBW.out _ (HB2.out.trans (HS.out.bel.mono HB2.out.size)) ⟨[], (i : Int)⟩)
               clear hs hmem
               go_wp2_with fail
               refine HCL.out.mono ?_
               rintro e w3 ⟨⟨v', rfl, he⟩, hb⟩
               have HS3 := Lib.hid (HS.out.under hb)
               have HSZ := Lib.hid hb.size
               obtain ⟨pb, cb, Bb, ob, rfl, -⟩ := he.open
               have HE3 := Lib.hid he
               clear he hb HCL
               go_wp2_with fail
               refine (HIS.out _ _ _ HE3.out).mono ?_
               rintro e w5 ⟨xi, xm, rfl, hrep, hb⟩
               have HS5 := Lib.hid (HS3.out.under hb)
               generalize hr : bld f (blw L ⟨[], (i : Int)⟩) = r at hrep
               have HRR := Lib.hid hr
               clear hr hb HIS HE3
               rcases r with _ | x
               · have e1 : dv ((none : Option Dat).getD dat0) xi xm = .agg #[.int .i64 0, .int .i64 0, .string ⟨#[]⟩, xi, xm] := rfl
                 have e4 : (if (none : Option Dat).isSome = true then (0 : Int) else 19) = 19 := rfl
                 rw [e1, e4]
                 change Rep w5 _ dat0 xi xm at hrep
                 obtain ⟨p1, cap1, rfl⟩ : ∃ p c, xi = .slice p 0 c := by
                   obtain ⟨p, c, e, -⟩ := hrep.items
                   exact ⟨p, c, e⟩
                 obtain ⟨q1, caq1, rfl⟩ : ∃ p c, xm = .slice p 0 c := by
                   obtain ⟨p, c, e, -⟩ := hrep.members
                   exact ⟨p, c, e⟩
                 have hN2 := (HN2.out.below HS5.out.bel).alloc (.cells #[.int .i64 0, .int .i64 0, .string ⟨#[]⟩, .slice p1 0 cap1, .slice q1 0 caq1] 26)
                 have HBW5 := Lib.hid (below_al1 (HB2.out.trans (HS5.out.bel.mono HB2.out.size)) (Nat.le_refl _) (.cells #[.int .i64 0, .int .i64 0, .string ⟨#[]⟩, .slice p1 0 cap1, .slice q1 0 caq1] 26))
                 have HNO := Lib.hid (show bld (f + 1) L = none by rw [HV.out, bldL_none HI.out HST.out (.inr HRR.out)]; rfl)
                 clear hrep e1 e4
                 go_upto_region 22 with fail
                 generalize w5.alloc (.cells #[.int .i64 0, .int .i64 0, .string ⟨#[]⟩, .slice p1 0 cap1, .slice q1 0 caq1] 26) = W5 at hN2 HBW5 ⊢
                 have z0 := hN2.cell 0
                 have z1 := hN2.cell 1
                 have z2 := hN2.cell 2
                 have z3 := hN2.cell 3
                 have z4 := hN2.cell 4
                 have y0 := hN2.frozen 0
                 have y1 := hN2.frozen 1
                 have y2 := hN2.frozen 2
                 have y3 := hN2.frozen 3
                 have y4 := hN2.frozen 4
                 simp at z0 z1 z2 z3 z4
                 have hlw := hN2.lt
                 clear hN2
                 go_wp2_with fail
                 refine bodyPost_ret (v := .tuple #[.agg #[.int .i64 0, .int .i64 0, .string ⟨#[]⟩, .slice none 0 0, .slice none 0 0], .int .i64 19]) (by simp [results, Tryz.results46, go_sem, z0, z1, z2, z3, z4, y0, y1, y2, y3, y4, hlw]) rfl ?_
                 rw [HNO.out]
                 exact RBdP.no w (((((HBW5.out.setCell (Nat.le_refl _) _).setCell (Nat.le_refl _) _).setCell (Nat.le_refl _) _).setCell (Nat.le_refl _) _).setCell (Nat.le_refl _) _)
               · have e1 : dv ((some x : Option Dat).getD dat0) xi xm = .agg #[.int .i64 x.k, .int .i64 x.n, .string (S x.s), xi, xm] := rfl
                 have e4 : (if (some x : Option Dat).isSome = true then (0 : Int) else 19) = 0 := rfl
                 rw [e1, e4]
                 change Rep w5 _ x xi xm at hrep
                 obtain ⟨xp, xc, rfl, -, -⟩ := hrep.items
                 obtain ⟨yp, yc, rfl, -, -⟩ := hrep.members
                 have hN5 := Blk.new w5 #[.int .i64 x.k, .int .i64 x.n, .string (S x.s), .slice xp x.its.length xc, .slice yp x.mem.length yc] 26
                 have hb6 : Below w5.heap.size w5 (w5.alloc (.cells #[.int .i64 x.k, .int .i64 x.n, .string (S x.s), .slice xp x.its.length xc, .slice yp x.mem.length yc] 26)) := (Below.refl _ _).alloc (Nat.le_refl _) _
                 have HS6 := HS5.out.under hb6
                 have hx6 := hrep.under hb6
                 clear hrep hb6 e1 e4
                 go_upto_region 22 with fail
                 generalize w5.alloc (.cells #[.int .i64 x.k, .int .i64 x.n, .string (S x.s), .slice xp x.its.length xc, .slice yp x.mem.length yc] 26) = W5 at hN5 HS6 hx6 ⊢
                 have HX7 := Lib.hid (hx6.mono (ok' := apD w2.heap.size w2.heap.size (.slice ip (itsT false T).length ic) (.slice none 0 0)) fun B _ hB => HS.out.apart (Nat.le_refl _) (Nat.le_trans HSZ.out hB))
                 have n0 := hN5.cell 0
                 have n1 := hN5.cell 1
                 have n2 := hN5.cell 2
                 have n3 := hN5.cell 3
                 have n4 := hN5.cell 4
                 simp at n0 n1 n2 n3 n4
                 have k3 := HS6.blk.cell 3
                 have f3 := HS6.blk.frozen 3
                 simp at k3
                 have hBl := HS6.blk.lt
                 have HBL := Lib.hid hBl
                 have HK := Lib.hid (And.intro k3 f3)
                 have HBB := Lib.hid (show some w2.heap.size ≠ (Value.slice ip (itsT false T).length ic).ownBlock from fun e => by have := (own_ge HS6.its e.symm).1; omega)
                 have hnw := HS6.nr.2.2
                 have HS7 := Lib.hid HS6
                 have HIN := Lib.hid (fun xi xm => bldL_next (xi := xi) (xm := xm) HI.out HST.out HF.out HRR.out)
                 clear hx6 HS6
                 have hml : (itsT false T).length ≤ 1000000 := by have := HTL.out; omega
                 go_wp2_with (at_builtin; refine wpList_append_own_at _ rfl _ _ 23 rfl (w2.heap.size + 1) 26 i0 (.agg #[.int .i64 0, .int .i64 0, .string ⟨#[]⟩, .slice none 0 0, .slice none 0 0]) 5 80 Tryz.underlying23 hi hz0 hz1 hz2 rfl (by decide) (.slice ip (itsT false T).length ic) (itsT false T).length (flat5 (itsT false T)) rfl (HS7.out.its.alloc _) ⟨W5.heap.size, 0, none⟩ 1 1 [.int .i64 x.k, .int .i64 x.n, .string (S x.s), .slice xp x.its.length xc, .slice yp x.mem.length yc] rfl rfl (cells_new_at rfl rfl) (by simp [Value.oneCell']) (by unfold maxLen; omega) (by omega) (by simp; omega) ?_; intro v' w8 hown8 hgrow8 _ hat8; obtain ⟨vp8, vc8, rfl⟩ := own_form5 hown8; obtain ⟨z2, zf, zl⟩ := out_kept2 HBL.out HBB.out HK.out.1 HK.out.2 hgrow8; have HO8 := Lib.hid hown8; have HG8 := Lib.hid hgrow8; have HA8 := Lib.hid hat8; clear hown8 hgrow8 hat8)
                 go_roundw
                 case rel => exact ⟨i + 1, T ++ [(⟨[], (i : Int)⟩, x, .slice xp x.its.length xc, .slice yp x.mem.length yc)], _, by go_num, hlt, by simp; omega, Lib.hid (by rw [itsT_snoc]; exact HS7.out.item_end HX7.out HO8.out HG8.out HA8.out), Lib.hid (HIN.out _ _)⟩
                 case measure => simp [intOf]; omega
             · have hii : i = (grp L).length := by omega
               have HM := Lib.hid (show bld (f + 1) L = some (madeD false (T.map fun t => (t.1, t.2.1))) by
                 rw [HV.out, HI.out, List.drop_of_length_le (by omega)]; simp [bldL])
               have hR := HS.out.rep ⟨by first | (simp; done) | (have := HTL.out; omega), by first | (simp; done) | (have := HTL.out; omega)⟩
               have hme : Dat.mk 5 0 [] ((itsT false T).map fun t => t.1) (([] : List (List UInt8 × Dat × Value × Value)).map fun t => (t.1, t.2.1)) = madeD false (T.map fun t => (t.1, t.2.1)) := made_eq false T
               have HDV := Lib.hid (show dv (madeD false (T.map fun t => (t.1, t.2.1))) (.slice ip (itsT false T).length ic) (.slice none 0 0) = .agg #[.int .i64 5, .int .i64 0, .string ⟨#[]⟩, .slice ip (itsT false T).length ic, .slice none 0 0] by rw [← hme]; rfl)
               rw [hme] at hR
               have hN2 := HN2.out.below HS.out.bel
               have hbd := HS.out.blk
               have HBW5 := Lib.hid (HB2.out.trans (HS.out.bel.mono HB2.out.size))
               have HNW := Lib.hid HN2.out.lt
               have z0 := hN2.cell 0
               have z1 := hN2.cell 1
               have z2 := hN2.cell 2
               have z3 := hN2.cell 3
               have z4 := hN2.cell 4
               have y0 := hN2.frozen 0
               have y1 := hN2.frozen 1
               have y2 := hN2.frozen 2
               have y3 := hN2.frozen 3
               have y4 := hN2.frozen 4
               simp at z0 z1 z2 z3 z4
               have hlw := hN2.lt
               clear hN2
               have k0 := hbd.cell 0
               have k1 := hbd.cell 1
               have k2 := hbd.cell 2
               have k3 := hbd.cell 3
               have k4 := hbd.cell 4
               simp at k0 k1 k2 k3 k4
               have hR5 := (((((hR.set ⟨w.heap.size, 0, none⟩ (.int .i64 5) (fun B hB e => by have := HNW.out; simp at e; omega)).set ⟨w.heap.size, 1, none⟩ (.int .i64 0) (fun B hB e => by have := HNW.out; simp at e; omega)).set ⟨w.heap.size, 2, none⟩ (.string ⟨#[]⟩) (fun B hB e => by have := HNW.out; simp at e; omega)).set ⟨w.heap.size, 3, none⟩ (.slice ip (itsT false T).length ic) (fun B hB e => by have := HNW.out; simp at e; omega)).set ⟨w.heap.size, 4, none⟩ (.slice none 0 0) (fun B hB e => by have := HNW.out; simp at e; omega))
               have HR5 := Lib.hid (hR5.mono (ok' := fun B => w.heap.size ≤ B) fun B _ hB => Nat.le_trans HB2.out.size hB)
               clear hR hR5 hbd hii hme
               go_wp2_with fail
               refine bodyPost_ret (v := .tuple #[.agg #[.int .i64 5, .int .i64 0, .string ⟨#[]⟩, .slice ip (itsT false T).length ic, .slice none 0 0], .int .i64 0]) (by simp [results, Tryz.results46, go_sem, z0, z1, z2, z3, z4, y0, y1, y2, y3, y4, hlw]) rfl ?_
               rw [HM.out, ← HDV.out]
               exact ⟨_, _, rfl, HR5.out, ((((HBW5.out.setCell (Nat.le_refl _) _).setCell (Nat.le_refl _) _).setCell (Nat.le_refl _) _).setCell (Nat.le_refl _) _).setCell (Nat.le_refl _) _⟩
       · -- a struct
         obtain ⟨hgn, hga⟩ := HNA.out hall
         have HGA := Lib.hid hga
         have HV := Lib.hid (HVL.out hall)
         have HLN := Lib.hid (fun i (hi : i < (namesL L).length) => (show (namesL L)[i] ≠ [] from by
           have h1 := hga i hi (by omega)
           obtain ⟨e, he, hs⟩ := grp_mem.1 (List.getElem_mem (show i < (grp L).length by omega))
           have h2 := hall e he
           rw [hs, h1] at h2
           exact h2))
         generalize namesL L = N at hgn HGA HLN hnm ⊢
         obtain ⟨np', nc', Bn, hv, hcell⟩ := own1 (f := fun l => Value.string (S l)) hnm
         injection hv with e1 _ e3
         subst e1; subst e3
         have HCE := Lib.hid hcell
         have hNl : N.length ≤ 1000000 := by omega
         clear hcell hnm hall hga HLB HNA HVL HVI HN HB HIX
         have hS := bds_new w1 6
         go_upto_region 6 with fail
         generalize w1.alloc (.cells #[.int .i64 6, .int .i64 0, .string ⟨#[]⟩, .slice none 0 0, .slice none 0 0] 26) = W2 at hS ⊢
         have HS0 := Lib.hid (show BdS w1 w1.heap.size (w1.heap.size + 1) 6 [] (memT true []) (.slice none 0 0) (.slice none 0 0) W2 from hS)
         have HI0 : Hid (bldL (bld f) L true (grp L) 0 = (bldL (bld f) L true ((grp L).drop 0) 0).map (fun t => ([] : List (Stp × Dat × Value × Value)).map (fun t => (t.1, t.2.1)) ++ t)) := Lib.hid (by rw [List.drop_zero]; simp)
         clear hS
         go_wp2_with fail
         go_loopw [7] (fun x wr => ∃ (i : Nat) (T : List (Stp × Dat × Value × Value)) (vx : Value), x = .int .i64 (i : Int) ∧ i ≤ N.length ∧ T.length = i ∧ Hid (BdS w1 w1.heap.size (w1.heap.size + 1) 6 [] (memT true T) (.slice none 0 0) vx wr) ∧ Hid (bldL (bld f) L true (grp L) 0 = (bldL (bld f) L true ((grp L).drop i) i).map (fun t => T.map (fun t => (t.1, t.2.1)) ++ t))) (fun x _ => N.length - (intOf x).toNat)
         case atStart => exact ⟨0, [], _, rfl, Nat.zero_le _, rfl, HS0, HI0⟩
         case round =>
           clear HS0 HI0
           obtain ⟨i, T, vx, rfl, hi1, hTi, HS, HI⟩ := hrel
           obtain ⟨ip, ic, hvx⟩ := own_form5 HS.out.mem
           subst hvx
           have HTL := Lib.hid (show (memT true T).length = T.length by simp [memT, itsT])
           by_cases hlt : i < N.length
           · have hig : i < (grp L).length := by omega
             obtain ⟨rfl, hcap, -, hgn2, hnc⟩ := HCE.out i hlt
             have hs := HGA.out i hlt hig
             have hnn := HLN.out i hlt
             replace hnc := (HS.out.bel.cell (p := ⟨Bn, i, none⟩) hgn2).trans hnc
             generalize N[i] = nm at hs hnn hnc
             have HF := Lib.hid (fit_lab (x := 0) (i := i) hnn)
             have HST := bldL_step (bld f) L true hig
             have hmem : ⟨nm, 0⟩ ∈ grp L := by rw [← hs]; exact List.getElem_mem hig
             rw [hs] at HST
             have HIS := Lib.hid (IH.out ⟨nm, 0⟩ hmem)
             replace HST := Lib.hid HST
             have HCL := Lib.hid (HBW.out _ (HB1.out.trans (HS.out.bel.mono HB1.out.size)) ⟨nm, 0⟩)
             have HNC := Lib.hid (And.intro hnc (Nat.lt_of_lt_of_le hgn2 HS.out.bel.size))
             clear hs hmem hnn
             go_wp2_with fail
             refine HCL.out.mono ?_
             rintro e w3 ⟨⟨v', rfl, he⟩, hb⟩
             have HS3 := Lib.hid (HS.out.under hb)
             have HSZ := Lib.hid hb.size
             have HNC3 := Lib.hid (And.intro ((hb.cell (p := ⟨Bn, i, none⟩) HNC.out.2).trans HNC.out.1) (Nat.lt_of_lt_of_le HNC.out.2 hb.size))
             obtain ⟨pb, cb, Bb, ob, rfl, -⟩ := he.open
             have HE3 := Lib.hid he
             clear he hb HCL hnc HNC
             go_wp2_with fail
             refine (HIS.out _ _ _ HE3.out).mono ?_
             rintro e w5 ⟨xi, xm, rfl, hrep, hb⟩
             have HS5 := Lib.hid (HS3.out.under hb)
             have HNC5 := Lib.hid (And.intro ((hb.cell (p := ⟨Bn, i, none⟩) HNC3.out.2).trans HNC3.out.1) (Nat.lt_of_lt_of_le HNC3.out.2 hb.size))
             generalize hr : bld f (blw L ⟨nm, 0⟩) = r at hrep
             have HRR := Lib.hid hr
             clear hr hb HIS HE3
             rcases r with _ | x
             · have e1 : dv ((none : Option Dat).getD dat0) xi xm = .agg #[.int .i64 0, .int .i64 0, .string ⟨#[]⟩, xi, xm] := rfl
               have e4 : (if (none : Option Dat).isSome = true then (0 : Int) else 19) = 19 := rfl
               rw [e1, e4]
               change Rep w5 _ dat0 xi xm at hrep
               obtain ⟨p1, cap1, rfl⟩ : ∃ p c, xi = .slice p 0 c := by
                 obtain ⟨p, c, e, -⟩ := hrep.items
                 exact ⟨p, c, e⟩
               obtain ⟨q1, caq1, rfl⟩ : ∃ p c, xm = .slice p 0 c := by
                 obtain ⟨p, c, e, -⟩ := hrep.members
                 exact ⟨p, c, e⟩
               have hN2 := (HN1.out.below HS5.out.bel).alloc (.cells #[.int .i64 0, .int .i64 0, .string ⟨#[]⟩, .slice p1 0 cap1, .slice q1 0 caq1] 26)
               have HBW5 := Lib.hid (below_al1 (HB1.out.trans (HS5.out.bel.mono HB1.out.size)) (Nat.le_refl _) (.cells #[.int .i64 0, .int .i64 0, .string ⟨#[]⟩, .slice p1 0 cap1, .slice q1 0 caq1] 26))
               have HNO := Lib.hid (show bld (f + 1) L = none by rw [HV.out, bldL_none HI.out HST.out (.inr HRR.out)]; rfl)
               clear hrep e1 e4
               go_upto_region 10 with fail
               generalize w5.alloc (.cells #[.int .i64 0, .int .i64 0, .string ⟨#[]⟩, .slice p1 0 cap1, .slice q1 0 caq1] 26) = W5 at hN2 HBW5 ⊢
               have z0 := hN2.cell 0
               have z1 := hN2.cell 1
               have z2 := hN2.cell 2
               have z3 := hN2.cell 3
               have z4 := hN2.cell 4
               have y0 := hN2.frozen 0
               have y1 := hN2.frozen 1
               have y2 := hN2.frozen 2
               have y3 := hN2.frozen 3
               have y4 := hN2.frozen 4
               simp at z0 z1 z2 z3 z4
               have hlw := hN2.lt
               clear hN2
               go_wp2_with fail
               refine bodyPost_ret (v := .tuple #[.agg #[.int .i64 0, .int .i64 0, .string ⟨#[]⟩, .slice none 0 0, .slice none 0 0], .int .i64 19]) (by simp [results, Tryz.results46, go_sem, z0, z1, z2, z3, z4, y0, y1, y2, y3, y4, hlw]) rfl ?_
               rw [HNO.out]
               exact RBdP.no w (((((HBW5.out.setCell (Nat.le_refl _) _).setCell (Nat.le_refl _) _).setCell (Nat.le_refl _) _).setCell (Nat.le_refl _) _).setCell (Nat.le_refl _) _)
             · have e1 : dv ((some x : Option Dat).getD dat0) xi xm = .agg #[.int .i64 x.k, .int .i64 x.n, .string (S x.s), xi, xm] := rfl
               have e4 : (if (some x : Option Dat).isSome = true then (0 : Int) else 19) = 0 := rfl
               rw [e1, e4]
               change Rep w5 _ x xi xm at hrep
               obtain ⟨xp, xc, rfl, -, -⟩ := hrep.items
               obtain ⟨yp, yc, rfl, -, -⟩ := hrep.members
               have hN5 := Blk.new w5 #[.int .i64 x.k, .int .i64 x.n, .string (S x.s), .slice xp x.its.length xc, .slice yp x.mem.length yc] 26
               have hb6 : Below w5.heap.size w5 (w5.alloc (.cells #[.int .i64 x.k, .int .i64 x.n, .string (S x.s), .slice xp x.its.length xc, .slice yp x.mem.length yc] 26)) := (Below.refl _ _).alloc (Nat.le_refl _) _
               have HS6 := HS5.out.under hb6
               have hx6 := hrep.under hb6
               have hnc6 := (hb6.cell (p := ⟨Bn, i, none⟩) HNC5.out.2).trans HNC5.out.1
               clear hrep hb6 e1 e4
               go_upto_region 10 with fail
               generalize w5.alloc (.cells #[.int .i64 x.k, .int .i64 x.n, .string (S x.s), .slice xp x.its.length xc, .slice yp x.mem.length yc] 26) = W5 at hN5 HS6 hx6 hnc6 ⊢
               have HX7 := Lib.hid (hx6.mono (ok' := apD w1.heap.size w1.heap.size (.slice none 0 0) (.slice ip (memT true T).length ic)) fun B _ hB => HS.out.apart (Nat.le_refl _) (Nat.le_trans HSZ.out hB))
               have n0 := hN5.cell 0
               have n1 := hN5.cell 1
               have n2 := hN5.cell 2
               have n3 := hN5.cell 3
               have n4 := hN5.cell 4
               simp at n0 n1 n2 n3 n4
               have k4 := HS6.blk.cell 4
               have f4 := HS6.blk.frozen 4
               simp at k4
               have hBl := HS6.blk.lt
               have HBL := Lib.hid hBl
               have HK := Lib.hid (And.intro k4 f4)
               have HBB := Lib.hid (show some w1.heap.size ≠ (Value.slice ip (memT true T).length ic).ownBlock from fun e => by have := (own_ge HS6.mem e.symm).1; omega)
               have hnw := HS6.nr.2.2
               have HS7 := Lib.hid HS6
               have HIN := Lib.hid (fun xi xm => bldL_next (xi := xi) (xm := xm) HI.out HST.out HF.out HRR.out)
               clear hx6 HS6
               have hml : (memT true T).length ≤ 1000000 := by have := HTL.out; omega
               go_wp2_with fail
               go_region_law ((refine step_append_lies _ (by rfl) _ _ _ (by rfl) (w1.heap.size + 1) 64 i1 (.agg #[.string ⟨#[]⟩, .int .i64 0, .int .i64 0, .string ⟨#[]⟩, .slice none 0 0, .slice none 0 0]) 6 96 Tryz.underlying24 hi' hy0 hy1 hy2 rfl (by omega) (.slice ip (memT true T).length ic) (memT true T).length (flat6 (memT true T)) (by rfl) ((HS7.out.mem.alloc _).drew) ⟨W5.heap.size, 0, none⟩ 1 1 [.string (S nm), .int .i64 x.k, .int .i64 x.n, .string (S x.s), .slice xp x.its.length xc, .slice yp x.mem.length yc] (by rfl) (by rfl) (cells_new_at rfl rfl) (by simp [Value.oneCell']) (by omega) (by unfold maxLen; omega) (by omega) (by simp; omega) _ rfl ?_; intro g5 c5 w8 hown8 hgrow8 hat8 hlt8; obtain ⟨z2, zf, zl⟩ := out_kept4 HBL.out HBB.out HK.out.1 HK.out.2 hgrow8; have HO8 := Lib.hid hown8; have HG8 := Lib.hid hgrow8; have HA8 := Lib.hid hat8; clear hown8 hgrow8 hat8))
               all_goals
                 go_wp2_with fail
                 go_roundw
                 case rel => exact ⟨i + 1, T ++ [(⟨nm, 0⟩, x, .slice xp x.its.length xc, .slice yp x.mem.length yc)], _, by go_num, hlt, by simp; omega, Lib.hid (by rw [memT_snoc]; exact HS7.out.memb_end2 HX7.out HO8.out HG8.out HA8.out), Lib.hid (HIN.out _ _)⟩
                 case measure => simp [intOf]; omega
           · have hii : i = (grp L).length := by omega
             have HM := Lib.hid (show bld (f + 1) L = some (madeD true (T.map fun t => (t.1, t.2.1))) by
               rw [HV.out, HI.out, List.drop_of_length_le (by omega)]; simp [bldL])
             have hR := HS.out.rep ⟨by first | (simp; done) | (have := HTL.out; omega), by first | (simp; done) | (have := HTL.out; omega)⟩
             have hme : Dat.mk 6 0 [] (([] : List (Dat × Value × Value)).map fun t => t.1) ((memT true T).map fun t => (t.1, t.2.1)) = madeD true (T.map fun t => (t.1, t.2.1)) := made_eq true T
             have HDV := Lib.hid (show dv (madeD true (T.map fun t => (t.1, t.2.1))) (.slice none 0 0) (.slice ip (memT true T).length ic) = .agg #[.int .i64 6, .int .i64 0, .string ⟨#[]⟩, .slice none 0 0, .slice ip (memT true T).length ic] by rw [← hme]; rfl)
             rw [hme] at hR
             have hN2 := HN1.out.below HS.out.bel
             have hbd := HS.out.blk
             have HBW5 := Lib.hid (HB1.out.trans (HS.out.bel.mono HB1.out.size))
             have HNW := Lib.hid HN1.out.lt
             have z0 := hN2.cell 0
             have z1 := hN2.cell 1
             have z2 := hN2.cell 2
             have z3 := hN2.cell 3
             have z4 := hN2.cell 4
             have y0 := hN2.frozen 0
             have y1 := hN2.frozen 1
             have y2 := hN2.frozen 2
             have y3 := hN2.frozen 3
             have y4 := hN2.frozen 4
             simp at z0 z1 z2 z3 z4
             have hlw := hN2.lt
             clear hN2
             have k0 := hbd.cell 0
             have k1 := hbd.cell 1
             have k2 := hbd.cell 2
             have k3 := hbd.cell 3
             have k4 := hbd.cell 4
             simp at k0 k1 k2 k3 k4
             have hR5 := (((((hR.set ⟨w.heap.size, 0, none⟩ (.int .i64 6) (fun B hB e => by have := HNW.out; simp at e; omega)).set ⟨w.heap.size, 1, none⟩ (.int .i64 0) (fun B hB e => by have := HNW.out; simp at e; omega)).set ⟨w.heap.size, 2, none⟩ (.string ⟨#[]⟩) (fun B hB e => by have := HNW.out; simp at e; omega)).set ⟨w.heap.size, 3, none⟩ (.slice none 0 0) (fun B hB e => by have := HNW.out; simp at e; omega)).set ⟨w.heap.size, 4, none⟩ (.slice ip (memT true T).length ic) (fun B hB e => by have := HNW.out; simp at e; omega))
             have HR5 := Lib.hid (hR5.mono (ok' := fun B => w.heap.size ≤ B) fun B _ hB => Nat.le_trans HB1.out.size hB)
             clear hR hR5 hbd hii hme
             go_wp2_with fail
             refine bodyPost_ret (v := .tuple #[.agg #[.int .i64 6, .int .i64 0, .string ⟨#[]⟩, .slice none 0 0, .slice ip (memT true T).length ic], .int .i64 0]) (by simp [results, Tryz.results46, go_sem, z0, z1, z2, z3, z4, y0, y1, y2, y3, y4, hlw]) rfl ?_
             rw [HM.out, ← HDV.out]
             exact ⟨_, _, rfl, HR5.out, ((((HBW5.out.setCell (Nat.le_refl _) _).setCell (Nat.le_refl _) _).setCell (Nat.le_refl _) _).setCell (Nat.le_refl _) _).setCell (Nat.le_refl _) _⟩
end
section
open Go.RowKit
theorem build_lim {L : List Ent} (h : entLims L) : limD (buildD L).1 = true := by
 by_cases he : (buildD L).2 = 0
 · exact (flat_build (L := L) (d := (buildD L).1) (Prod.ext rfl he) (fun e he => ⟨(h.2 e he).2.1, (h.2 e he).2.2⟩) h.1).2.2.2.1
 · have h1 : (buildD L).1 = dat0 := by
     unfold buildD at he ⊢
     split
     · rfl
     · split
       · rfl
       · split
         · rfl
         · rename_i a b c
           rw [if_neg a, if_neg b, if_neg c] at he
           cases hb : bld (maxP L + 1) L with
           | none => rfl
           | some d =>
             rw [hb] at he
             by_cases hc : chk d 1 = 0
             · simp only [if_pos hc] at he; exact absurd trivial he
             · simp only [if_neg hc]
   rw [h1]; exact (by decide : limD dat0 = true)
set_option maxRecDepth 100000 in
set_option maxHeartbeats 8000000 in
theorem refBuild_any {L : List Ent} {v : Value} {ok : Nat → Prop} {w : World} (h : EntR w ok v L) (hl : entLims L) :
   Calls Tryz.prog 21 #[v] w (BuildP w (buildD L)) := by
 have HKI := Lib.hid (fun w' (hb : Below w.heap.size w w') => refKinds_any (h.under hb) hl.1 (fun e he => (hl.2 e he).1))
 have HTW := Lib.hid (fun w' (hb : Below w.heap.size w w') => refTwice_any (h.under hb) hl.1 (fun e he => (hl.2 e he).1))
 obtain ⟨p, cap, B, o, rfl, -⟩ := h.open
 have HE := Lib.hid h
 have hll := hl.1
 have HL := Lib.hid hl
 generalize hr : buildD L = r
 have HBD := Lib.hid hr
 clear h hl hr
 have hN : Blk (w.alloc (.cells #[.int .i64 0, .int .i64 0, .string ⟨#[]⟩, .slice none 0 0, .slice none 0 0] 26)) w.heap.size #[.int .i64 0, .int .i64 0, .string ⟨#[]⟩, .slice none 0 0, .slice none 0 0] 26 := Blk.new w _ _
 have hbB : Below w.heap.size w (w.alloc (.cells #[.int .i64 0, .int .i64 0, .string ⟨#[]⟩, .slice none 0 0, .slice none 0 0] 26)) := (Below.refl _ _).alloc (Nat.le_refl _) _
 have hW : w.heap.size + 1 ≤ (w.alloc (.cells #[.int .i64 0, .int .i64 0, .string ⟨#[]⟩, .slice none 0 0, .slice none 0 0] 26)).heap.size := by simp
 go_enter Tryz.func21, Tryz.ntmps21
 go_upto_region 1 with fail
 generalize w.alloc (.cells #[.int .i64 0, .int .i64 0, .string ⟨#[]⟩, .slice none 0 0, .slice none 0 0] 26) = W at hN hbB hW ⊢
 have HN := Lib.hid hN
 have HB := Lib.hid hbB
 have HW := Lib.hid hW
 clear hN hbB hW
 go_wp2_with fail
 refine (HKI.out _ HB.out).mono ?_
 rintro e w0 ⟨rfl, hb⟩
 have hN2 := HN.out.below hb
 have HN0 := Lib.hid hN2
 have HB0 := Lib.hid (HB.out.trans (hb.mono HB.out.size))
 have HW0 := Lib.hid (Nat.le_trans HW.out hb.size)
 clear hb HN HB HW HKI
 by_cases h1 : kindsB L = false
 · have HR := Lib.hid (show r = (dat0, 11) by rw [← HBD.out]; unfold buildD; rw [if_pos h1])
   rw [h1]
   clear h1
   have z0 := hN2.cell 0
   have z1 := hN2.cell 1
   have z2 := hN2.cell 2
   have z3 := hN2.cell 3
   have z4 := hN2.cell 4
   have y0 := hN2.frozen 0
   have y1 := hN2.frozen 1
   have y2 := hN2.frozen 2
   have y3 := hN2.frozen 3
   have y4 := hN2.frozen 4
   simp at z0 z1 z2 z3 z4
   have hlw := hN2.lt
   clear hN2
   go_wp2_with fail
   refine bodyPost_ret (v := .tuple #[.agg #[.int .i64 0, .int .i64 0, .string ⟨#[]⟩, .slice none 0 0, .slice none 0 0], .int .i64 11]) (by simp [results, Tryz.results21, go_sem, z0, z1, z2, z3, z4, y0, y1, y2, y3, y4, hlw]) rfl ?_
   rw [HR.out]
   exact BuildP.no w (((((HB0.out.setCell (Nat.le_refl _) _).setCell (Nat.le_refl _) _).setCell (Nat.le_refl _) _).setCell (Nat.le_refl _) _).setCell (Nat.le_refl _) _)
 have h1t : kindsB L = true := by simpa using h1
 rw [h1t]
 clear hN2
 go_wp2_with fail
 refine (HTW.out _ HB0.out).mono ?_
 rintro e w1 ⟨rfl, hb⟩
 have hN2 := HN0.out.below hb
 have HN1 := Lib.hid hN2
 have HB1 := Lib.hid (HB0.out.trans (hb.mono HB0.out.size))
 have HW1 := Lib.hid (Nat.le_trans HW0.out hb.size)
 clear hb HN0 HB0 HW0 HTW
 have z0 := hN2.cell 0
 have z1 := hN2.cell 1
 have z2 := hN2.cell 2
 have z3 := hN2.cell 3
 have z4 := hN2.cell 4
 have y0 := hN2.frozen 0
 have y1 := hN2.frozen 1
 have y2 := hN2.frozen 2
 have y3 := hN2.frozen 3
 have y4 := hN2.frozen 4
 simp at z0 z1 z2 z3 z4
 have hlw := hN2.lt
 clear hN2
 by_cases h2 : twiceB L = true
 · have HR := Lib.hid (show r = (dat0, 6) by rw [← HBD.out]; unfold buildD; rw [if_neg h1, if_pos h2])
   rw [h2]
   clear h1 h1t h2
   go_wp2_with fail
   refine bodyPost_ret (v := .tuple #[.agg #[.int .i64 0, .int .i64 0, .string ⟨#[]⟩, .slice none 0 0, .slice none 0 0], .int .i64 6]) (by simp [results, Tryz.results21, go_sem, z0, z1, z2, z3, z4, y0, y1, y2, y3, y4, hlw]) rfl ?_
   rw [HR.out]
   exact BuildP.no w (((((HB1.out.setCell (Nat.le_refl _) _).setCell (Nat.le_refl _) _).setCell (Nat.le_refl _) _).setCell (Nat.le_refl _) _).setCell (Nat.le_refl _) _)
 have h2f : twiceB L = false := by simpa using h2
 rw [h2f]
 by_cases h3 : L = []
 · have HR := Lib.hid (show r = (dat0, 19) by rw [← HBD.out]; unfold buildD; rw [if_neg h1, if_neg h2, if_pos h3])
   have h4 : L.length = 0 := by rw [h3]; rfl
   rw [h4]
   clear h1 h1t h2 h2f h3 h4
   go_wp2_with fail
   refine bodyPost_ret (v := .tuple #[.agg #[.int .i64 0, .int .i64 0, .string ⟨#[]⟩, .slice none 0 0, .slice none 0 0], .int .i64 19]) (by simp [results, Tryz.results21, go_sem, z0, z1, z2, z3, z4, y0, y1, y2, y3, y4, hlw]) rfl ?_
   rw [HR.out]
   exact BuildP.no w (((((HB1.out.setCell (Nat.le_refl _) _).setCell (Nat.le_refl _) _).setCell (Nat.le_refl _) _).setCell (Nat.le_refl _) _).setCell (Nat.le_refl _) _)
 have h4 : ¬ ((L.length : Int) = 0) := by
   have := List.length_pos_iff.2 h3
   omega
 have h5 : ((L.length : Int) == 0) = false := by rw [beq_eq_false_iff_ne]; exact h4
 have hcc : noClash L := twice_iff.1 h2f
 have hkk : kindsB L = true := h1t
 have hek : ∀ e ∈ L, entOK e := fun e he => ⟨(kinds_all.1 hkk e he).1, (kinds_all.1 hkk e he).2, (HL.out.2 e he).2.1, (HL.out.2 e he).2.2⟩
 have HBL := Lib.hid (refbuild_any (maxP L + 1) L _ w1 ok (HE.out.under HB1.out) h3 hcc (fun e he => ⟨hek e he, Nat.lt_succ_of_le (maxP_le he), (HL.out.2 e he).1⟩) hll)
 have HBE := Lib.hid (show (match bld (maxP L + 1) L with | none => (dat0, 19) | some d => if chk d 1 = 0 then (d, 0) else (dat0, 9)) = r by rw [← HBD.out]; unfold buildD; rw [if_neg h1, if_neg h2, if_neg h3]; cases bld (maxP L + 1) L <;> rfl)
 have HGD := Lib.hid (fun d (hd : bld (maxP L + 1) L = some d) => flat_bld _ L d hd h3 hcc hek hll)
 clear h1 h1t h2 h2f h3 hcc hkk hek HBD
 clear z0 z1 z2 z3 z4 y0 y1 y2 y3 y4 hlw
 go_wp2_with fail
 refine HBL.out.mono ?_
 rintro e w2 ⟨vi, vm, rfl, hrep, hb⟩
 have hN2 := HN1.out.below hb
 have HB2 := Lib.hid (HB1.out.trans (hb.mono HB1.out.size))
 have HW2 := Lib.hid (Nat.le_trans HW1.out hb.size)
 clear hb h4 h5
 generalize bld (maxP L + 1) L = q at hrep HGD HBE
 rcases q with _ | d
 · have e2 : dv ((none : Option Dat).getD dat0) vi vm = .agg #[.int .i64 0, .int .i64 0, .string ⟨#[]⟩, vi, vm] := rfl
   have e4 : (if (none : Option Dat).isSome = true then (0 : Int) else 19) = 19 := rfl
   rw [e2, e4]
   change Rep w2 _ dat0 vi vm at hrep
   obtain ⟨p1, cap1, rfl⟩ : ∃ p c, vi = .slice p 0 c := by
     obtain ⟨p, c, e, -⟩ := hrep.items
     exact ⟨p, c, e⟩
   obtain ⟨q1, caq1, rfl⟩ : ∃ p c, vm = .slice p 0 c := by
     obtain ⟨p, c, e, -⟩ := hrep.members
     exact ⟨p, c, e⟩
   have HR := Lib.hid (show r = (dat0, 19) from HBE.out.symm)
   have hN2 := hN2.alloc (.cells #[.int .i64 0, .int .i64 0, .string ⟨#[]⟩, .slice p1 0 cap1, .slice q1 0 caq1] 26)
   have HB3 := Lib.hid (below_al1 HB2.out (Nat.le_refl _) (.cells #[.int .i64 0, .int .i64 0, .string ⟨#[]⟩, .slice p1 0 cap1, .slice q1 0 caq1] 26))
   clear e2 e4 hrep HB2
   go_upto_region 8 with fail
   generalize w2.alloc (.cells #[.int .i64 0, .int .i64 0, .string ⟨#[]⟩, .slice p1 0 cap1, .slice q1 0 caq1] 26) = W3 at hN2 HB3 ⊢
   have z0 := hN2.cell 0
   have z1 := hN2.cell 1
   have z2 := hN2.cell 2
   have z3 := hN2.cell 3
   have z4 := hN2.cell 4
   have y0 := hN2.frozen 0
   have y1 := hN2.frozen 1
   have y2 := hN2.frozen 2
   have y3 := hN2.frozen 3
   have y4 := hN2.frozen 4
   simp at z0 z1 z2 z3 z4
   have hlw := hN2.lt
   clear hN2
   go_wp2_with fail
   refine bodyPost_ret (v := .tuple #[.agg #[.int .i64 0, .int .i64 0, .string ⟨#[]⟩, .slice none 0 0, .slice none 0 0], .int .i64 19]) (by simp [results, Tryz.results21, go_sem, z0, z1, z2, z3, z4, y0, y1, y2, y3, y4, hlw]) rfl ?_
   rw [HR.out]
   exact BuildP.no w (((((HB3.out.setCell (Nat.le_refl _) _).setCell (Nat.le_refl _) _).setCell (Nat.le_refl _) _).setCell (Nat.le_refl _) _).setCell (Nat.le_refl _) _)
 · have e2 : dv ((some d : Option Dat).getD dat0) vi vm = .agg #[.int .i64 d.k, .int .i64 d.n, .string (S d.s), vi, vm] := rfl
   have e4 : (if (some d : Option Dat).isSome = true then (0 : Int) else 19) = 0 := rfl
   rw [e2, e4]
   change Rep w2 _ d vi vm at hrep
   obtain ⟨p1, cap1, rfl, -, -⟩ := hrep.items
   obtain ⟨q1, caq1, rfl, -, -⟩ := hrep.members
   have hK := Blk.new w2 #[.int .i64 d.k, .int .i64 d.n, .string (S d.s), .slice p1 d.its.length cap1, .slice q1 d.mem.length caq1] 26
   have hN2 := hN2.alloc (.cells #[.int .i64 d.k, .int .i64 d.n, .string (S d.s), .slice p1 d.its.length cap1, .slice q1 d.mem.length caq1] 26)
   have hb3 := below_al1 HB2.out (Nat.le_refl _) (.cells #[.int .i64 d.k, .int .i64 d.n, .string (S d.s), .slice p1 d.its.length cap1, .slice q1 d.mem.length caq1] 26)
   have hx3 := hrep.under ((Below.refl _ _).alloc (Nat.le_refl _) (.cells #[.int .i64 d.k, .int .i64 d.n, .string (S d.s), .slice p1 d.its.length cap1, .slice q1 d.mem.length caq1] 26))
   clear e2 e4 hrep HB2
   go_upto_region 10 with fail
   generalize w2.alloc (.cells #[.int .i64 d.k, .int .i64 d.n, .string (S d.s), .slice p1 d.its.length cap1, .slice q1 d.mem.length caq1] 26) = W3 at hK hN2 hb3 hx3 ⊢
   have HN3 := Lib.hid hN2
   have HK3 := Lib.hid hK
   have HB3 := Lib.hid hb3
   have HX3 := Lib.hid hx3
   have k0 := hK.cell 0
   have k1 := hK.cell 1
   have k2 := hK.cell 2
   have k3 := hK.cell 3
   have k4 := hK.cell 4
   simp at k0 k1 k2 k3 k4
   clear hK hN2 hb3 hx3
   go_wp2_with fail
   refine (refChk_any HX3.out).mono ?_
   rintro e w4 ⟨rfl, hb⟩
   have hN2 := HN3.out.below hb
   have hK := HK3.out.below hb
   have HB4 := Lib.hid (HB3.out.trans (hb.mono HB3.out.size))
   have HX4 := Lib.hid (HX3.out.under hb)
   clear hb k0 k1 k2 k3 k4
   have z0 := hN2.cell 0
   have z1 := hN2.cell 1
   have z2 := hN2.cell 2
   have z3 := hN2.cell 3
   have z4 := hN2.cell 4
   have y0 := hN2.frozen 0
   have y1 := hN2.frozen 1
   have y2 := hN2.frozen 2
   have y3 := hN2.frozen 3
   have y4 := hN2.frozen 4
   simp at z0 z1 z2 z3 z4
   have hlw := hN2.lt
   clear hN2
   by_cases hc : chk d 1 = 0
   · have HR := Lib.hid (show r = (d, 0) by rw [← HBE.out]; simp only [if_pos hc])
     rw [hc]
     have k0 := hK.cell 0
     have k1 := hK.cell 1
     have k2 := hK.cell 2
     have k3 := hK.cell 3
     have k4 := hK.cell 4
     simp at k0 k1 k2 k3 k4
     have hR5 := ((((HX4.out.set ⟨w.heap.size, 0, none⟩ (.int .i64 d.k) (fun B hB e => by have := HW1.out; simp at e; omega)).set ⟨w.heap.size, 1, none⟩ (.int .i64 d.n) (fun B hB e => by have := HW1.out; simp at e; omega)).set ⟨w.heap.size, 2, none⟩ (.string (S d.s)) (fun B hB e => by have := HW1.out; simp at e; omega)).set ⟨w.heap.size, 3, none⟩ (.slice p1 d.its.length cap1) (fun B hB e => by have := HW1.out; simp at e; omega)).set ⟨w.heap.size, 4, none⟩ (.slice q1 d.mem.length caq1) (fun B hB e => by have := HW1.out; simp at e; omega)
     have HR5 := Lib.hid (hR5.mono (ok' := fun B => w.heap.size ≤ B) fun B _ hB => by have := HW1.out; omega)
     clear hK hR5 hc
     go_wp2_with fail
     refine bodyPost_ret (v := .tuple #[.agg #[.int .i64 d.k, .int .i64 d.n, .string (S d.s), .slice p1 d.its.length cap1, .slice q1 d.mem.length caq1], .int .i64 0]) (by simp [results, Tryz.results21, go_sem, z0, z1, z2, z3, z4, y0, y1, y2, y3, y4, hlw]) rfl ?_
     rw [HR.out]
     exact ⟨_, _, rfl, HR5.out, ((((HB4.out.setCell (Nat.le_refl _) _).setCell (Nat.le_refl _) _).setCell (Nat.le_refl _) _).setCell (Nat.le_refl _) _).setCell (Nat.le_refl _) _⟩
   · have HR := Lib.hid (show r = (dat0, 9) by rw [← HBE.out]; simp only [if_neg hc])
     have h9 : chk d 1 = 9 := by rcases (HGD.out d rfl).2.2.2 1 with h | h <;> omega
     rw [h9]
     clear hc hK
     go_wp2_with fail
     refine bodyPost_ret (v := .tuple #[.agg #[.int .i64 0, .int .i64 0, .string ⟨#[]⟩, .slice none 0 0, .slice none 0 0], .int .i64 9]) (by simp [results, Tryz.results21, go_sem, z0, z1, z2, z3, z4, y0, y1, y2, y3, y4, hlw]) rfl ?_
     rw [HR.out]
     exact BuildP.no w (((((HB4.out.setCell (Nat.le_refl _) _).setCell (Nat.le_refl _) _).setCell (Nat.le_refl _) _).setCell (Nat.le_refl _) _).setCell (Nat.le_refl _) _)
end
end Go.Proofs.YtoahmganodehkaaGreatDoor
