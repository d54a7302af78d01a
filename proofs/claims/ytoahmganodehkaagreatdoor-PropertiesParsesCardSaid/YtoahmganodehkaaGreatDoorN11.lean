import Derived.Test.YtoahmganodehkaaGreatDoorN01
import Derived.Maps.AppendAt
import Derived.Test.YtoahmganodehkaaGreatDoorN03
import Derived.Test.YtoahmganodehkaaGreatDoorN10
namespace Go.Proofs.YtoahmganodehkaaGreatDoor
set_option linter.unusedSimpArgs false
set_option linter.unusedVariables false
open Go.RowKit
theorem infoMem : (Tryz.prog.info? 64).map (fun i => (i.zero, i.size, i.bytes)) = some (some (.agg #[.string ⟨#[]⟩, .int .i64 0, .int .i64 0, .string ⟨#[]⟩, .slice none 0 0, .slice none 0 0]), 6, 96) := by kernel_rfl
set_option maxRecDepth 100000 in
set_option maxHeartbeats 8000000 in
theorem build_any (f : Nat) : ∀ (L : List Ent) (v : Value) (w : World) (ok : Nat → Prop), EntR w ok v L → L ≠ [] → noClash L → (∀ e ∈ L, entOK e ∧ e.1.length < f ∧ e.1.length ≤ 1000000) → L.length ≤ 1000000 →
   Calls Tryz.prog 38 #[v] w (BldP w (bld f L)) := by
 induction f with
 | zero =>
   intro L v w ok _ h0 _ h _
   obtain ⟨e, he⟩ := List.exists_mem_of_ne_nil _ h0
   exact absurd (h e he).2.1 (Nat.not_lt_zero _)
 | succ f ih =>
   intro L v w ok h h0 hc hk hl
   by_cases hone : ∃ d, L = [([], d)]
   · obtain ⟨d, rfl⟩ := hone
     have e1 : bld (f + 1) [(([] : List Stp), d)] = some d := rfl
     rw [e1]
     obtain ⟨p, cap, B, o, rfl, hj⟩ := h.open
     obtain ⟨pv, vi, vm, rfl, hcap, hB, -, c0, hcc, hs, hr⟩ := hj 0 (by simp)
     obtain ⟨pp, pc, rfl⟩ := slk_form hs
     obtain ⟨p1, cap1, rfl, -, -⟩ := hr.items
     obtain ⟨q1, caq1, rfl, -, -⟩ := hr.members
     obtain ⟨k0, k1, k2, k3, k4⟩ := hcc
     simp only [List.length_singleton, List.getElem_cons_zero, List.length_nil, Nat.zero_mul, Nat.add_zero] at c0 k0 k1 k2 k3 k4 hr ⊢
     obtain ⟨⟨-, hlf, hlm, -⟩, -, -⟩ := hk _ (List.mem_cons_self ..)
     have HR := Lib.hid hr
     have HL := Lib.hid (And.intro hlf hlm)
     have hN : Blk (w.alloc (.cells #[.int .i64 0, .int .i64 0, .string ⟨#[]⟩, .slice none 0 0, .slice none 0 0] 26)) w.heap.size #[.int .i64 0, .int .i64 0, .string ⟨#[]⟩, .slice none 0 0, .slice none 0 0] 26 := Blk.new w _ _
     have hbB : Below w.heap.size w (w.alloc (.cells #[.int .i64 0, .int .i64 0, .string ⟨#[]⟩, .slice none 0 0, .slice none 0 0] 26)) := (Below.refl _ _).alloc (Nat.le_refl _) _
     clear h h0 hc hk hl ih hs hr hlf hlm hj e1
     go_enter Tryz.func38, Tryz.ntmps38
     go_upto_region 1 with fail
     generalize w.alloc (.cells #[.int .i64 0, .int .i64 0, .string ⟨#[]⟩, .slice none 0 0, .slice none 0 0] 26) = W at hN hbB ⊢
     replace c0 := (hbB.cell (p := ⟨B, o, none⟩) hB).trans c0
     replace k0 := (hbB.cell (p := ⟨B, o + 1, none⟩) hB).trans k0
     replace k1 := (hbB.cell (p := ⟨B, o + 1 + 1, none⟩) hB).trans k1
     replace k2 := (hbB.cell (p := ⟨B, o + 1 + 2, none⟩) hB).trans k2
     replace k3 := (hbB.cell (p := ⟨B, o + 1 + 3, none⟩) hB).trans k3
     replace k4 := (hbB.cell (p := ⟨B, o + 1 + 4, none⟩) hB).trans k4
     have HN := Lib.hid hN
     have HB := Lib.hid hbB
     clear hN hbB hB
     go_wp2_with fail
     refine (makeLeaf_any (HR.out.under HB.out) HL.out.1 HL.out.2).mono ?_
     rintro e w1 ⟨rfl, hb⟩
     have HN1 := HN.out.below hb
     have HB1 := Lib.hid (HB.out.trans (hb.mono HB.out.size))
     clear hb c0 k0 k1 k2 k3 k4 HN HB
     simp only [dv]
     have hN2 := Blk.new w1 #[.int .i64 d.k, .int .i64 d.n, .string (S d.s), .slice none 0 0, .slice none 0 0] 26
     have hR2 := HN1.alloc (.cells #[.int .i64 d.k, .int .i64 d.n, .string (S d.s), .slice none 0 0, .slice none 0 0] 26)
     have hb2 := below_al1 HB1.out (Nat.le_refl _) (.cells #[.int .i64 d.k, .int .i64 d.n, .string (S d.s), .slice none 0 0, .slice none 0 0] 26)
     have HLF := Lib.hid (leaf_iff.1 HL.out.1)
     clear HN1 HB1
     go_upto_region 3 with fail
     generalize w1.alloc (.cells #[.int .i64 d.k, .int .i64 d.n, .string (S d.s), .slice none 0 0, .slice none 0 0] 26) = W2 at hN2 hR2 hb2 ⊢
     have n0 := hN2.cell 0
     have n1 := hN2.cell 1
     have n2 := hN2.cell 2
     have n3 := hN2.cell 3
     have n4 := hN2.cell 4
     simp at n0 n1 n2 n3 n4
     have z0 := hR2.cell 0
     have z1 := hR2.cell 1
     have z2 := hR2.cell 2
     have z3 := hR2.cell 3
     have z4 := hR2.cell 4
     have y0 := hR2.frozen 0
     have y1 := hR2.frozen 1
     have y2 := hR2.frozen 2
     have y3 := hR2.frozen 3
     have y4 := hR2.frozen 4
     simp at z0 z1 z2 z3 z4
     have hlw := hR2.lt
     have HB2 := Lib.hid hb2
     clear hN2 hR2 hb2
     go_wp2_with fail
     refine bodyPost_ret (v := .tuple #[dv d (.slice none 0 0) (.slice none 0 0), .bool true]) (by simp [results, Tryz.results38, go_sem, dv, z0, z1, z2, z3, z4, y0, y1, y2, y3, y4, hlw]) rfl ⟨.slice none 0 0, .slice none 0 0, rfl, rep_leaf _ _ HLF.out.2.1 HLF.out.2.2 none none 0 0, ?_⟩
     exact ((((HB2.out.setCell (Nat.le_refl _) _).setCell (Nat.le_refl _) _).setCell (Nat.le_refl _) _).setCell (Nat.le_refl _) _).setCell (Nat.le_refl _) _
   · -- the paths go on
     have hne : ∀ e ∈ L, e.1 ≠ [] := by
       intro e he h1
       have e2 := clash_one hc he h1
       obtain ⟨p, d⟩ := e
       have : p = [] := h1
       subst this
       exact hone ⟨d, e2⟩
     obtain ⟨s0, r0, hg0⟩ : ∃ s r, grp L = s :: r := by
       have := grp_ne h0
       cases hg : grp L with
       | nil => rw [hg] at this; simp at this
       | cons s r => exact ⟨s, r, rfl⟩
     have hgl : (grp L).length ≤ 1000000 := Nat.le_trans (grp_len L) hl
     have hgn : 0 < (grp L).length := grp_ne h0
     have hG0 : (grp L)[0] = s0 := by
       have : (grp L)[0]? = some s0 := by rw [hg0]; rfl
       rw [List.getElem?_eq_getElem hgn] at this
       injection this
     have HV := Lib.hid (bld_loop (f := f) hne hg0)
     have HGR := Lib.hid (fun w' (hb : Below w.heap.size w w') => groups_any (h.under hb) ⟨hl, fun e he => ⟨(hk e he).2.2, (hk e he).1.2.2.1⟩⟩ (fun e he => ⟨(hk e he).1.1, (hk e he).1.2.2.2⟩) hne h0)
     have IH := Lib.hid (fun s (hs : s ∈ grp L) w' v' ok' (hv : EntR w' ok' v' (blw L s)) => ih (blw L s) v' w' ok' hv (blw_in hne hk hs hc hl).1 (blw_in hne hk hs hc hl).2.1 (blw_in hne hk hs hc hl).2.2.1 (blw_in hne hk hs hc hl).2.2.2)
     obtain ⟨p, cap, B, o, rfl, hj⟩ := h.open
     have hlen1 : L.length = 1 → ∃ pp pc P, w.cell? ⟨B, o, none⟩ = some (.slice pp (P + 1) pc) ∧ p = some ⟨B, o, none⟩ ∧ B < w.heap.size := by
       intro h1
       obtain ⟨pv, vi, vm, rfl, hcap, hB, -, c0, -, hs, -⟩ := hj 0 (by omega)
       obtain ⟨pp, pc, rfl⟩ := slk_form hs
       have hx := hne _ (List.getElem_mem (show 0 < L.length by omega))
       obtain ⟨P, hP⟩ : ∃ P, (L[0]'(by omega)).1.length = P + 1 := by
         cases hh : (L[0]'(by omega)).1 with
         | nil => exact absurd hh hx
         | cons a b => exact ⟨b.length, rfl⟩
       rw [hP, Nat.zero_mul, Nat.add_zero] at c0
       exact ⟨pp, pc, P, c0, rfl, hB⟩
     have HL1 := Lib.hid hlen1
     obtain ⟨i0, hi, hz0, hz1, hz2⟩ := info_parts infoDat
     obtain ⟨i1, hi', hy0, hy1, hy2⟩ := info_parts infoMem
     have hll : L.length ≤ 1000000 := hl
     have hlp : 0 < L.length := Nat.lt_of_lt_of_le hgn (grp_len L)
     have HG0 := Lib.hid hG0
     clear h h0 hc hk hl ih hj hone hne hlen1 hG0 hg0
     have hN : Blk (w.alloc (.cells #[.int .i64 0, .int .i64 0, .string ⟨#[]⟩, .slice none 0 0, .slice none 0 0] 26)) w.heap.size #[.int .i64 0, .int .i64 0, .string ⟨#[]⟩, .slice none 0 0, .slice none 0 0] 26 := Blk.new w _ _
     have hbB : Below w.heap.size w (w.alloc (.cells #[.int .i64 0, .int .i64 0, .string ⟨#[]⟩, .slice none 0 0, .slice none 0 0] 26)) := (Below.refl _ _).alloc (Nat.le_refl _) _
     go_enter Tryz.func38, Tryz.ntmps38
     go_upto_region 1 with fail
     generalize w.alloc (.cells #[.int .i64 0, .int .i64 0, .string ⟨#[]⟩, .slice none 0 0, .slice none 0 0] 26) = W at hN hbB ⊢
     have HN := Lib.hid hN
     have HB := Lib.hid hbB
     clear hN hbB
     go_cut [23] (fun b wx => b = .bool false ∧ wx = W)
     case first =>
       rcases Nat.lt_or_ge 1 L.length with h1 | h1
       · have b1 : ((L.length : Int) == 1) = false := by rw [beq_eq_false_iff_ne]; omega
         have b2 : ¬ ((L.length : Int) = 1) := by omega
         go_wp2_with fail
         go_meet
         exact ⟨rfl, rfl⟩
       · have h2 : L.length = 1 := by omega
         obtain ⟨pp, pc, P, c0, rfl, hBw⟩ := HL1.out h2
         replace c0 := (HB.out.cell (p := ⟨B, o, none⟩) hBw).trans c0
         have b1 : ((P : Int) + 1 == 0) = false := by rw [beq_eq_false_iff_ne]; omega
         have b2 : ¬ ((P : Int) + 1 = 0) := by omega
         have b3 : ((L.length : Int) == 1) = true := by rw [beq_iff_eq]; omega
         have b4 : (0 : Int) < (L.length : Int) := by omega
         have b5 : (L.length : Int) = 1 := by omega
         clear h2
         go_wp2_with fail
         go_meet
         exact ⟨rfl, rfl⟩
     case rest =>
       obtain ⟨rfl, rfl⟩ := hcut
       go_upto_region 4 with fail
       clear HL1
       go_upto_region 5 with (go_at_call 74; refine (HGR.out _ HB.out).mono ?_; rintro e w1 ⟨u, rfl, hgr, hb⟩; have HG := Lib.hid hgr; have HN1 := Lib.hid (HN.out.below hb); have HB1 := Lib.hid (HB.out.trans (hb.mono HB.out.size)); clear hgr hb)
       obtain ⟨g, gc, hu, hgc, hgw, -⟩ := HG.out
       subst hu
       have hS : BdS w1 w1.heap.size (w1.heap.size + 1) 6 [] [] (.slice none 0 0) (.slice none 0 0) (w1.alloc (.cells #[.int .i64 6, .int .i64 0, .string ⟨#[]⟩, .slice none 0 0, .slice none 0 0] 26)) :=
         ⟨Blk.new _ _ _, World.ownsRow_nil _ _ _ _, World.ownsRow_nil _ _ _ _, by simp, by simp, ⟨Nat.le_refl _, Nat.lt_succ_self _, by simp⟩, (Below.refl _ _).alloc (Nat.le_refl _) _⟩
       go_upto_region 7 with fail
       generalize w1.alloc (.cells #[.int .i64 6, .int .i64 0, .string ⟨#[]⟩, .slice none 0 0, .slice none 0 0] 26) = W2 at hS ⊢
       obtain ⟨gv, c0, c1, c2, hgv⟩ : ∃ gv, W2.cell? ⟨g, 0, none⟩ = some (.string (S s0.lab)) ∧ W2.cell? ⟨g, 1, none⟩ = some (.int .i64 s0.idx) ∧ W2.cell? ⟨g, 2, none⟩ = some gv ∧ ∃ p0 n0 k0, gv = .slice p0 n0 k0 := by
         obtain ⟨g', gc', hu, -, -, hgj⟩ := HG.out.under hS.bel
         injection hu with hu _ _
         injection hu with hu
         injection hu with hu
         subst hu
         obtain ⟨gv, c0, c1, c2, hgv⟩ := hgj 0 hgn
         obtain ⟨p0, k0, -, -, e0, -⟩ := hgv.open
         rw [HG0.out] at c0 c1
         exact ⟨gv, c0, c1, c2, _, _, _, e0⟩
       obtain ⟨p0, n0', k0, rfl⟩ := hgv
       have HS := Lib.hid hS
       have hg0' : (0 : Int) < ((grp L).length : Int) := by omega
       have hgw2 : g < W2.heap.size := Nat.lt_of_lt_of_le hgw hS.bel.size
       clear hS
       go_upto_if 41 with (go_at_call 75; refine (named_any s0 _ _ _ _).mono ?_; rintro e w3 ⟨rfl, hb⟩; have HS3 := Lib.hid (HS.out.under hb); clear hb)
       clear c0 c1 c2 hgw2 HS
       go_cut [3] (fun b wx => b = .bool false ∧ Hid (BdS w1 w1.heap.size (w1.heap.size + 1) (kdOf (nmd s0)) [] [] (.slice none 0 0) (.slice none 0 0) wx))
       case first =>
         rcases Bool.eq_false_or_eq_true (nmd s0) with hn | hn
         · rw [hn]
           go_wp2_with fail
           go_meet
           exact ⟨rfl, by rw [hn]; exact HS3⟩
         · rw [hn]
           have hS4 := HS3.out.blk.set 0 (.int .i64 5)
           have d0 := HS3.out.blk.cell 0
           have d1 := HS3.out.blk.frozen 0
           simp at d0
           have hlw := HS3.out.blk.lt
           have hS5 : Hid (BdS w1 w1.heap.size (w1.heap.size + 1) 5 [] [] (.slice none 0 0) (.slice none 0 0) (w3.setCell ⟨w1.heap.size, 0, none⟩ (.int .i64 5))) := Lib.hid ⟨hS4, World.ownsRow_nil _ _ _ _, World.ownsRow_nil _ _ _ _, by simp, by simp, ⟨Nat.le_refl _, Nat.lt_succ_self _, by have := HS3.out.nr.2.2; show _ ≤ (w3.heap.modify _ _).size; simpa using this⟩, HS3.out.bel.setCell (Nat.le_refl _) _⟩
           clear hS4
           go_wp2_with fail
           go_meet
           exact ⟨rfl, by rw [hn]; exact hS5⟩
       case rest =>
         obtain ⟨rfl, HS4⟩ := hcut
         go_upto_region 9 with fail
         clear HS3
         have HI0 : Hid (bldL (bld f) L (nmd s0) (grp L) 0 = (bldL (bld f) L (nmd s0) ((grp L).drop 0) 0).map (fun t => ([] : List (Stp × Dat × Value × Value)).map (fun t => (t.1, t.2.1)) ++ t)) := Lib.hid (by
           rw [List.drop_zero]; simp)
         have HA0 : Hid (BdS w1 w1.heap.size (w1.heap.size + 1) (kdOf (nmd s0)) (itsT (nmd s0) []) (memT (nmd s0) []) (.slice none 0 0) (.slice none 0 0) wc) := by
           have e1 : itsT (nmd s0) [] = [] := by unfold itsT; simp
           have e2 : memT (nmd s0) [] = [] := by unfold memT; simp
           rw [e1, e2]; exact HS4
         clear HS4
         go_wp2_with fail
         go_loopw [45] (fun x wr => ∃ (i : Nat) (T : List (Stp × Dat × Value × Value)) (vi vm : Value), x = .int .i64 (i : Int) ∧ i ≤ (grp L).length ∧ T.length = i ∧ Hid (BdS w1 w1.heap.size (w1.heap.size + 1) (kdOf (nmd s0)) (itsT (nmd s0) T) (memT (nmd s0) T) vi vm wr) ∧ Hid (bldL (bld f) L (nmd s0) (grp L) 0 = (bldL (bld f) L (nmd s0) ((grp L).drop i) i).map (fun t => T.map (fun t => (t.1, t.2.1)) ++ t))) (fun x _ => (grp L).length - (intOf x).toNat)
         case atStart => exact ⟨0, [], _, _, rfl, Nat.zero_le _, rfl, HA0, HI0⟩
         case round =>
           clear HA0 HI0
           obtain ⟨i, T, vi, vm, rfl, hi1, hTi, HS, HI⟩ := hrel
           by_cases hlt : i < (grp L).length
           · obtain ⟨gv, ⟨c0, c1, c2, hgv⟩, pz, nz, kz, d0, d1, d2⟩ : ∃ gv, (wr.cell? ⟨g, i * 3, none⟩ = some (.string (S (grp L)[i].lab)) ∧ wr.cell? ⟨g, i * 3 + 1, none⟩ = some (.int .i64 (grp L)[i].idx) ∧ wr.cell? ⟨g, i * 3 + 2, none⟩ = some gv ∧ EntR wr (fun _ => True) gv (blw L (grp L)[i])) ∧
                 ∃ pz nz kz, wr.cell? ⟨g, 0, none⟩ = some (.string (S s0.lab)) ∧ wr.cell? ⟨g, 1, none⟩ = some (.int .i64 s0.idx) ∧ wr.cell? ⟨g, 2, none⟩ = some (.slice pz nz kz) := by
               obtain ⟨g', gc', hu, -, -, hgj⟩ := HG.out.under HS.out.bel
               injection hu with hu _ _
               injection hu with hu
               injection hu with hu
               subst hu
               obtain ⟨gv, h0, h1, h2, hgv⟩ := hgj i hlt
               obtain ⟨zv, z0, z1, z2, hzv⟩ := hgj 0 hgn
               obtain ⟨p0, k0, -, -, e0, -⟩ := hzv.open
               rw [HG0.out] at z0 z1
               rw [e0] at z2
               exact ⟨gv, ⟨h0, h1, h2, hgv⟩, _, _, _, z0, z1, z2⟩
             have HST := Lib.hid (bldL_step (bld f) L (nmd s0) hlt)
             have HIS := Lib.hid (IH.out _ (List.getElem_mem hlt))
             generalize (grp L)[i] = s at c0 c1 c2 hgv HST HIS
             obtain ⟨pg, kg, Bg, og, e0, -⟩ := hgv.open
             subst e0
             have hbx : Blk (wr.alloc (.cells #[.string (S s.lab), .int .i64 s.idx, .slice pg (blw L s).length kg] 104)) wr.heap.size #[.string (S s.lab), .int .i64 s.idx, .slice pg (blw L s).length kg] 104 := Blk.new wr _ _
             have hb3 : Below wr.heap.size wr (wr.alloc (.cells #[.string (S s.lab), .int .i64 s.idx, .slice pg (blw L s).length kg] 104)) := (Below.refl _ _).alloc (Nat.le_refl _) _
             have hgwr : g < wr.heap.size := Nat.lt_of_lt_of_le hgw HS.out.bel.size
             have HGV := Lib.hid hgv
             clear hgv
             go_upto_region 12 with fail
             generalize wr.alloc (.cells #[.string (S s.lab), .int .i64 s.idx, .slice pg (blw L s).length kg] 104) = W3 at hbx hb3 ⊢
             replace d0 := (hb3.cell (p := ⟨g, 0, none⟩) hgwr).trans d0
             replace d1 := (hb3.cell (p := ⟨g, 1, none⟩) hgwr).trans d1
             replace d2 := (hb3.cell (p := ⟨g, 2, none⟩) hgwr).trans d2
             have hg3 : g < W3.heap.size := Nat.lt_of_lt_of_le hgwr hb3.size
             have b0 := hbx.cell 0
             have b1 := hbx.cell 1
             have b2 := hbx.cell 2
             simp at b0 b1 b2
             have HKE := Lib.hid (fun w' (hb : Below W3.heap.size W3 w') => And.intro ((hb.cell (p := ⟨wr.heap.size, 0, none⟩) hbx.lt).trans b0) (And.intro ((hb.cell (p := ⟨wr.heap.size, 1, none⟩) hbx.lt).trans b1) (And.intro ((hb.cell (p := ⟨wr.heap.size, 2, none⟩) hbx.lt).trans b2) (And.intro ((hb.cell (p := ⟨g, 0, none⟩) hg3).trans d0) (And.intro ((hb.cell (p := ⟨g, 1, none⟩) hg3).trans d1) ((hb.cell (p := ⟨g, 2, none⟩) hg3).trans d2))))))
             have HB3 := Lib.hid hb3
             have HBX := Lib.hid hbx
             have HB0 := Lib.hid (below_drew (Below.refl W3.heap.size W3))
             clear hbx hb3 c0 c1 c2 hgwr
             go_cut [71] (fun b wx => b = .bool (!fitB (nmd s0) s i) ∧ Hid (Below W3.heap.size W3 wx))
             case first =>
               have HA := Lib.hid (fun w' => named_any s pg (blw L s).length kg w')
               have HZ := Lib.hid (fun w' => named_any s0 pz nz kz w')
               have a0 : (0 : Int) < ((grp L).length : Int) := by omega
               have HFE := Lib.hid (show fitB (nmd s0) s i = ((nmd s == nmd s0) && (nmd s0 || decide (s.idx = (i : Int)))) from rfl)
               by_cases hne : nmd s = nmd s0
               · rcases Bool.eq_false_or_eq_true (nmd s) with hs | hs
                 · have h0 : nmd s0 = true := hne.symm.trans hs
                   have HFF := Lib.hid (show fitB (nmd s0) s i = true by rw [HFE.out, hs, h0]; rfl)
                   rw [hs] at HA
                   rw [h0] at HZ
                   clear hs h0 hne HFE
                   have a1 : W3.drew.cell? ⟨wr.heap.size, 0, none⟩ = some (.string (S s.lab)) := (HKE.out _ HB0.out).1
                   have a2 : W3.drew.cell? ⟨wr.heap.size, 1, none⟩ = some (.int .i64 s.idx) := (HKE.out _ HB0.out).2.1
                   have a3 : W3.drew.cell? ⟨wr.heap.size, 2, none⟩ = some (.slice pg (blw L s).length kg) := (HKE.out _ HB0.out).2.2.1
                   have a4 : W3.drew.cell? ⟨g, 0, none⟩ = some (.string (S s0.lab)) := (HKE.out _ HB0.out).2.2.2.1
                   have a5 : W3.drew.cell? ⟨g, 1, none⟩ = some (.int .i64 s0.idx) := (HKE.out _ HB0.out).2.2.2.2.1
                   have a6 : W3.drew.cell? ⟨g, 2, none⟩ = some (.slice pz nz kz) := (HKE.out _ HB0.out).2.2.2.2.2
                   first
                     | go_region_with (first
                       | (go_at_call 75; (first | refine (HA.out _).mono ?_ | refine (HZ.out _).mono ?_); rintro e w9 ⟨rfl, hb9⟩; (first | (have HBE := Lib.hid (HB2.out.trans (hb9.mono HB2.out.size)); obtain ⟨c1, c2, c3, c4, c5, c6⟩ := HKE.out _ HBE.out) | (have HB2 := Lib.hid (HB1.out.trans (hb9.mono HB1.out.size)); obtain ⟨c1, c2, c3, c4, c5, c6⟩ := HKE.out _ HB2.out) | (have HB1 := Lib.hid (HB0.out.trans (hb9.mono HB0.out.size)); obtain ⟨c1, c2, c3, c4, c5, c6⟩ := HKE.out _ HB1.out)); clear hb9))
                     | fail
                   all_goals
                     go_wp2_with fail
                     go_meet
                     exact ⟨by rw [HFF.out]; first | rfl | (simp; done), by first | exact HBE | exact HB2⟩
                 · have h0 : nmd s0 = false := hne.symm.trans hs
                   rw [hs] at HA
                   rw [h0] at HZ
                   by_cases hix : s.idx = (i : Int)
                   · have HFF := Lib.hid (show fitB (nmd s0) s i = true by rw [HFE.out, hs, h0, decide_eq_true hix]; rfl)
                     have a1 : (s.idx != (i : Int)) = false := by simp [hix]
                     have a2 : (s.idx == (i : Int)) = true := by simp [hix]
                     clear hix hs h0 hne HFE
                     go_region_held3 (fun w' => w'.cell? ⟨wr.heap.size, 0, none⟩ = some (.string (S s.lab)) ∧ w'.cell? ⟨wr.heap.size, 1, none⟩ = some (.int .i64 s.idx) ∧ w'.cell? ⟨wr.heap.size, 2, none⟩ = some (.slice pg (blw L s).length kg) ∧ w'.cell? ⟨g, 0, none⟩ = some (.string (S s0.lab)) ∧ w'.cell? ⟨g, 1, none⟩ = some (.int .i64 s0.idx) ∧ w'.cell? ⟨g, 2, none⟩ = some (.slice pz nz kz))
                       (first
                         | with_reducible exact HKE.out _ HB0.out
                         | with_reducible exact HKE.out _ HB1.out
                         | with_reducible exact HKE.out _ HB2.out
                         | with_reducible exact HKE.out _ HBE.out
                         | go_keep)
                       (first
                         | (go_at_call 75; (first | refine (HA.out _).mono ?_ | refine (HZ.out _).mono ?_); rintro e w9 ⟨rfl, hb9⟩; (first | (have HBE := Lib.hid (HB2.out.trans (hb9.mono HB2.out.size))) | (have HB2 := Lib.hid (HB1.out.trans (hb9.mono HB1.out.size))) | (have HB1 := Lib.hid (HB0.out.trans (hb9.mono HB0.out.size)))); clear hb9))
                     all_goals
                       go_wp2_with fail
                       go_meet
                       exact ⟨by rw [HFF.out]; first | rfl | (simp; done), by first | exact HBE | exact HB2⟩
                   · have HFF := Lib.hid (show fitB (nmd s0) s i = false by rw [HFE.out, hs, h0, decide_eq_false hix]; rfl)
                     have a1 : (s.idx != (i : Int)) = true := by simp [hix]
                     have a2 : (s.idx == (i : Int)) = false := by simp [hix]
                     clear hix hs h0 hne HFE
                     go_region_held3 (fun w' => w'.cell? ⟨wr.heap.size, 0, none⟩ = some (.string (S s.lab)) ∧ w'.cell? ⟨wr.heap.size, 1, none⟩ = some (.int .i64 s.idx) ∧ w'.cell? ⟨wr.heap.size, 2, none⟩ = some (.slice pg (blw L s).length kg) ∧ w'.cell? ⟨g, 0, none⟩ = some (.string (S s0.lab)) ∧ w'.cell? ⟨g, 1, none⟩ = some (.int .i64 s0.idx) ∧ w'.cell? ⟨g, 2, none⟩ = some (.slice pz nz kz))
                       (first
                         | with_reducible exact HKE.out _ HB0.out
                         | with_reducible exact HKE.out _ HB1.out
                         | with_reducible exact HKE.out _ HB2.out
                         | with_reducible exact HKE.out _ HBE.out
                         | go_keep)
                       (first
                         | (go_at_call 75; (first | refine (HA.out _).mono ?_ | refine (HZ.out _).mono ?_); rintro e w9 ⟨rfl, hb9⟩; (first | (have HBE := Lib.hid (HB2.out.trans (hb9.mono HB2.out.size))) | (have HB2 := Lib.hid (HB1.out.trans (hb9.mono HB1.out.size))) | (have HB1 := Lib.hid (HB0.out.trans (hb9.mono HB0.out.size)))); clear hb9))
                     all_goals
                       go_wp2_with fail
                       go_meet
                       exact ⟨by rw [HFF.out]; first | rfl | (simp; done), by first | exact HBE | exact HB2⟩
               · have HFF := Lib.hid (show fitB (nmd s0) s i = false by rw [HFE.out, beq_eq_false_iff_ne.2 hne]; rfl)
                 have hy : (nmd s == nmd s0) = false := beq_eq_false_iff_ne.2 hne
                 have hx : (nmd s != nmd s0) = true := by show (!(nmd s == nmd s0)) = true; rw [hy]; rfl
                 have hz : (nmd s = nmd s0) = False := eq_false hne
                 have hun : undef = Value.tuple #[] := rfl
                 clear hne HFE
                 have a1 : W3.drew.cell? ⟨wr.heap.size, 0, none⟩ = some (.string (S s.lab)) := (HKE.out _ HB0.out).1
                 have a2 : W3.drew.cell? ⟨wr.heap.size, 1, none⟩ = some (.int .i64 s.idx) := (HKE.out _ HB0.out).2.1
                 have a3 : W3.drew.cell? ⟨wr.heap.size, 2, none⟩ = some (.slice pg (blw L s).length kg) := (HKE.out _ HB0.out).2.2.1
                 have a4 : W3.drew.cell? ⟨g, 0, none⟩ = some (.string (S s0.lab)) := (HKE.out _ HB0.out).2.2.2.1
                 have a5 : W3.drew.cell? ⟨g, 1, none⟩ = some (.int .i64 s0.idx) := (HKE.out _ HB0.out).2.2.2.2.1
                 have a6 : W3.drew.cell? ⟨g, 2, none⟩ = some (.slice pz nz kz) := (HKE.out _ HB0.out).2.2.2.2.2
                 first
                   | go_region_with (first
                     | (go_at_call 75; (first | refine (HA.out _).mono ?_ | refine (HZ.out _).mono ?_); rintro e w9 ⟨rfl, hb9⟩; (first | (have HBE := Lib.hid (HB2.out.trans (hb9.mono HB2.out.size)); obtain ⟨c1, c2, c3, c4, c5, c6⟩ := HKE.out _ HBE.out) | (have HB2 := Lib.hid (HB1.out.trans (hb9.mono HB1.out.size)); obtain ⟨c1, c2, c3, c4, c5, c6⟩ := HKE.out _ HB2.out) | (have HB1 := Lib.hid (HB0.out.trans (hb9.mono HB0.out.size)); obtain ⟨c1, c2, c3, c4, c5, c6⟩ := HKE.out _ HB1.out)); clear hb9))
                   | fail
                 all_goals
                   go_wp2_with fail
                   go_meet
                   exact ⟨by rw [HFF.out]; first | rfl | (simp; done), by first | exact HBE | exact HB2⟩
             case rest =>
               obtain ⟨rfl, HBW⟩ := hcut
               have hBc := HB3.out.trans (HBW.out.mono HB3.out.size)
               rcases Bool.eq_false_or_eq_true (fitB (nmd s0) s i) with hf | hf
               · rw [hf]
                 have HF := Lib.hid hf
                 have hb2 := (HBX.out.below HBW.out).cell 2
                 simp at hb2
                 have hGV := HGV.out.under hBc
                 have HBC := Lib.hid hBc
                 clear hf hBc
                 go_wp2_with fail
                 refine (HIS.out _ _ _ hGV).mono ?_
                 rintro e w5 ⟨xi, xm, rfl, hrep, hb⟩
                 have HB5 := Lib.hid (HBC.out.trans (hb.mono HBC.out.size))
                 have HWC := Lib.hid HBC.out.size
                 have HBX5 := Lib.hid ((HBX.out.below HBW.out).below hb)
                 generalize hr : bld f (blw L s) = r at hrep
                 have HRR := Lib.hid hr
                 clear hr hGV hb2 hb HBC HBW HB3 HBX
                 rcases r with _ | x
                 · have e1 : dv ((none : Option Dat).getD dat0) xi xm = .agg #[.int .i64 0, .int .i64 0, .string ⟨#[]⟩, xi, xm] := rfl
                   rw [e1, Option.isSome_none]
                   change Rep w5 _ dat0 xi xm at hrep
                   obtain ⟨p1, cap1, rfl⟩ : ∃ p c, xi = .slice p 0 c := by
                     obtain ⟨p, c, e, -⟩ := hrep.items
                     exact ⟨p, c, e⟩
                   obtain ⟨q1, caq1, rfl⟩ : ∃ p c, xm = .slice p 0 c := by
                     obtain ⟨p, c, e, -⟩ := hrep.members
                     exact ⟨p, c, e⟩
                   have hN2 := ((HN1.out.below HS.out.bel).below HB5.out).alloc (.cells #[.int .i64 0, .int .i64 0, .string ⟨#[]⟩, .slice p1 0 cap1, .slice q1 0 caq1] 26)
                   have hbw := HB1.out.trans (HS.out.bel.mono HB1.out.size)
                   have HBW5 := Lib.hid (below_al1 (hbw.trans (HB5.out.mono hbw.size)) (Nat.le_refl _) (.cells #[.int .i64 0, .int .i64 0, .string ⟨#[]⟩, .slice p1 0 cap1, .slice q1 0 caq1] 26))
                   have HNO := Lib.hid (show bld (f + 1) L = none by rw [HV.out, bldL_none HI.out HST.out (.inr HRR.out)]; rfl)
                   clear hrep hbw e1
                   go_upto_region 15 with fail
                   generalize w5.alloc (.cells #[.int .i64 0, .int .i64 0, .string ⟨#[]⟩, .slice p1 0 cap1, .slice q1 0 caq1] 26) = W5 at hN2 HBW5 ⊢
                   have z0 := hN2.cell 0
                   have z1 := hN2.cell 1
                   have z2 := hN2.cell 2
                   have z3 := hN2.cell 3
                   have z4 := hN2.cell 4
                   have y0 := hN2.frozen 0
                   have y1 := hN2.frozen 1
                   have y2 := hN2.frozen 2
                   have y3 := hN2.frozen 3
                   have y4 := hN2.frozen 4
                   simp at z0 z1 z2 z3 z4
                   have hlw := hN2.lt
                   clear hN2
                   go_wp2_with fail
                   refine bodyPost_ret (v := .tuple #[.agg #[.int .i64 0, .int .i64 0, .string ⟨#[]⟩, .slice none 0 0, .slice none 0 0], .bool false]) (by simp [results, Tryz.results38, go_sem, z0, z1, z2, z3, z4, y0, y1, y2, y3, y4, hlw]) rfl ?_
                   rw [HNO.out]
                   exact BldP.no w (((((HBW5.out.setCell (Nat.le_refl _) _).setCell (Nat.le_refl _) _).setCell (Nat.le_refl _) _).setCell (Nat.le_refl _) _).setCell (Nat.le_refl _) _)
                 · have e1 : dv ((some x : Option Dat).getD dat0) xi xm = .agg #[.int .i64 x.k, .int .i64 x.n, .string (S x.s), xi, xm] := rfl
                   rw [e1, Option.isSome_some]
                   change Rep w5 _ x xi xm at hrep
                   obtain ⟨xp, xc, rfl, -, -⟩ := hrep.items
                   obtain ⟨yp, yc, rfl, -, -⟩ := hrep.members
                   have hN5 := Blk.new w5 #[.int .i64 x.k, .int .i64 x.n, .string (S x.s), .slice xp x.its.length xc, .slice yp x.mem.length yc] 26
                   have hBX6 := HBX5.out.alloc (.cells #[.int .i64 x.k, .int .i64 x.n, .string (S x.s), .slice xp x.its.length xc, .slice yp x.mem.length yc] 26)
                   have hb6 := below_al1 HB5.out (Nat.le_refl _) (.cells #[.int .i64 x.k, .int .i64 x.n, .string (S x.s), .slice xp x.its.length xc, .slice yp x.mem.length yc] 26)
                   have hx6 := hrep.under ((Below.refl _ _).alloc (Nat.le_refl _) (.cells #[.int .i64 x.k, .int .i64 x.n, .string (S x.s), .slice xp x.its.length xc, .slice yp x.mem.length yc] 26))
                   clear hrep HB5 HBX5 e1
                   go_upto_region 15 with fail
                   generalize w5.alloc (.cells #[.int .i64 x.k, .int .i64 x.n, .string (S x.s), .slice xp x.its.length xc, .slice yp x.mem.length yc] 26) = W5 at hN5 hBX6 hb6 hx6 ⊢
                   have b0 := hBX6.cell 0
                   have b1 := hBX6.cell 1
                   have b2 := hBX6.cell 2
                   simp at b0 b1 b2
                   have HN5 := Lib.hid hN5
                   have HBX6 := Lib.hid hBX6
                   have HB6 := Lib.hid hb6
                   have HX6 := Lib.hid hx6
                   clear hN5 hBX6 hb6 hx6
                   go_wp2_with fail
                   refine (named_any s _ _ _ _).mono ?_
                   rintro e w6 ⟨rfl, hb⟩
                   have HNN := Lib.hid ((HN5.out.below hb))
                   have hbx7 := HBX6.out.below hb
                   have hb7 := HB6.out.trans (hb.mono HB6.out.size)
                   have hx7 := HX6.out.under hb
                   obtain ⟨ip, ic, hvi⟩ := own_form5 HS.out.its
                   obtain ⟨mp, mc, hvm⟩ := own_form5 HS.out.mem
                   subst hvi hvm
                   have HX7 := Lib.hid (hx7.mono (ok' := apD w1.heap.size w1.heap.size (.slice ip (itsT (nmd s0) T).length ic) (.slice mp (memT (nmd s0) T).length mc)) fun B _ hB => HS.out.apart (Nat.le_refl _) (Nat.le_trans HWC.out hB))
                   have HS7 := Lib.hid (HS.out.under hb7)
                   clear hb b0 b1 b2 HN5 HBX6 HB6 HX6 hx7 hb7
                   have b0 := hbx7.cell 0
                   have n0 := HNN.out.cell 0
                   have n1 := HNN.out.cell 1
                   have n2 := HNN.out.cell 2
                   have n3 := HNN.out.cell 3
                   have n4 := HNN.out.cell 4
                   simp at b0 n0 n1 n2 n3 n4
                   clear hbx7 HNN
                   have k3 := HS7.out.blk.cell 3
                   have k4 := HS7.out.blk.cell 4
                   have f3 := HS7.out.blk.frozen 3
                   have f4 := HS7.out.blk.frozen 4
                   simp at k3 k4
                   have hBl := HS7.out.blk.lt
                   have HBL := Lib.hid hBl
                   have hnm : nmd s = nmd s0 := by
                     have h1 := HF.out
                     unfold fitB at h1
                     rw [Bool.and_eq_true] at h1
                     simpa using h1.1
                   rw [hnm]
                   have hlen := itsT_len (nmd s0) T
                   have HIN := Lib.hid (fun xi xm => bldL_next (xi := xi) (xm := xm) HI.out HST.out HF.out HRR.out)
                   have hgl6 : HS7 = HS7 := rfl
                   clear hnm hgl6
                   have hml : (memT (nmd s0) T).length ≤ 1000000 := by omega
                   have hil : (itsT (nmd s0) T).length ≤ 1000000 := by omega
                   have HK3 := Lib.hid (And.intro k3 f3)
                   have HK4 := Lib.hid (And.intro k4 f4)
                   have HBB := Lib.hid (show some w1.heap.size ≠ (Value.slice ip (itsT (nmd s0) T).length ic).ownBlock ∧ some w1.heap.size ≠ (Value.slice mp (memT (nmd s0) T).length mc).ownBlock from ⟨fun e => by have := (own_ge HS7.out.its e.symm).1; omega, fun e => by have := (own_ge HS7.out.mem e.symm).1; omega⟩)
                   have hnw := HS7.out.nr.2.2
                   rcases Bool.eq_false_or_eq_true (nmd s0) with h0 | h0
                   · rw [h0] at HS7 HX7 HK4 HBB hml k4 ⊢
                     have H0 := Lib.hid h0
                     clear h0 hlen k3 f3 hil HK3
                     go_wp2_with (at_builtin; refine wpList_append_own_at _ rfl _ _ 24 rfl (w1.heap.size + 1) 64 i1 (.agg #[.string ⟨#[]⟩, .int .i64 0, .int .i64 0, .string ⟨#[]⟩, .slice none 0 0, .slice none 0 0]) 6 96 Tryz.underlying24 hi' hy0 hy1 hy2 rfl (by decide) (.slice mp (memT true T).length mc) (memT true T).length (flat6 (memT true T)) rfl (HS7.out.mem.alloc _) ⟨w6.heap.size, 0, none⟩ 1 1 [.string (S s.lab), .int .i64 x.k, .int .i64 x.n, .string (S x.s), .slice xp x.its.length xc, .slice yp x.mem.length yc] rfl rfl (cells_new_at rfl rfl) (by simp [Value.oneCell']) (by unfold maxLen; omega) (by omega) (by simp; omega) ?_; intro v' w8 hown8 hgrow8 _ hat8; obtain ⟨vp8, vc8, rfl⟩ := own_form5 hown8; obtain ⟨z2, zf, zl⟩ := out_kept2 HBL.out HBB.out.2 HK4.out.1 HK4.out.2 hgrow8; have HO8 := Lib.hid hown8; have HG8 := Lib.hid hgrow8; have HA8 := Lib.hid hat8; clear hown8 hgrow8 hat8)
                     go_roundw
                     case rel => exact ⟨i + 1, T ++ [(s, x, .slice xp x.its.length xc, .slice yp x.mem.length yc)], _, _, by go_num, hlt, by simp; omega, Lib.hid (by rw [H0.out, memT_snoc]; exact HS7.out.memb_end HX7.out HO8.out HG8.out HA8.out), Lib.hid (HIN.out _ _)⟩
                     case measure => simp [intOf]; omega
                   · rw [h0] at HS7 HX7 HK3 HBB hil k3 ⊢
                     have H0 := Lib.hid h0
                     clear h0 hlen k4 f4 hml HK4
                     go_wp2_with (at_builtin; refine wpList_append_own_at _ rfl _ _ 23 rfl (w1.heap.size + 1) 26 i0 (.agg #[.int .i64 0, .int .i64 0, .string ⟨#[]⟩, .slice none 0 0, .slice none 0 0]) 5 80 Tryz.underlying23 hi hz0 hz1 hz2 rfl (by decide) (.slice ip (itsT false T).length ic) (itsT false T).length (flat5 (itsT false T)) rfl (HS7.out.its.alloc _) ⟨w6.heap.size, 0, none⟩ 1 1 [.int .i64 x.k, .int .i64 x.n, .string (S x.s), .slice xp x.its.length xc, .slice yp x.mem.length yc] rfl rfl (cells_new_at rfl rfl) (by simp [Value.oneCell']) (by unfold maxLen; omega) (by omega) (by simp; omega) ?_; intro v' w8 hown8 hgrow8 _ hat8; obtain ⟨vp8, vc8, rfl⟩ := own_form5 hown8; obtain ⟨z2, zf, zl⟩ := out_kept2 HBL.out HBB.out.1 HK3.out.1 HK3.out.2 hgrow8; have HO8 := Lib.hid hown8; have HG8 := Lib.hid hgrow8; have HA8 := Lib.hid hat8; clear hown8 hgrow8 hat8)
                     go_roundw
                     case rel => exact ⟨i + 1, T ++ [(s, x, .slice xp x.its.length xc, .slice yp x.mem.length yc)], _, _, by go_num, hlt, by simp; omega, Lib.hid (by rw [H0.out, itsT_snoc]; exact HS7.out.item_end HX7.out HO8.out HG8.out HA8.out), Lib.hid (HIN.out _ _)⟩
                     case measure => simp [intOf]; omega
               · rw [hf]
                 have HNO := Lib.hid (show bld (f + 1) L = none by rw [HV.out, bldL_none HI.out HST.out (.inl hf)]; rfl)
                 have hN2 := (HN1.out.below HS.out.bel).below hBc
                 have hbw := HB1.out.trans (HS.out.bel.mono HB1.out.size)
                 have HBW5 := Lib.hid (hbw.trans (hBc.mono hbw.size))
                 clear hf hbw hBc
                 have z0 := hN2.cell 0
                 have z1 := hN2.cell 1
                 have z2 := hN2.cell 2
                 have z3 := hN2.cell 3
                 have z4 := hN2.cell 4
                 have y0 := hN2.frozen 0
                 have y1 := hN2.frozen 1
                 have y2 := hN2.frozen 2
                 have y3 := hN2.frozen 3
                 have y4 := hN2.frozen 4
                 simp at z0 z1 z2 z3 z4
                 have hlw := hN2.lt
                 clear hN2
                 go_wp2_with fail
                 refine bodyPost_ret (v := .tuple #[.agg #[.int .i64 0, .int .i64 0, .string ⟨#[]⟩, .slice none 0 0, .slice none 0 0], .bool false]) (by simp [results, Tryz.results38, go_sem, z0, z1, z2, z3, z4, y0, y1, y2, y3, y4, hlw]) rfl ?_
                 rw [HNO.out]
                 exact BldP.no w (((((HBW5.out.setCell (Nat.le_refl _) _).setCell (Nat.le_refl _) _).setCell (Nat.le_refl _) _).setCell (Nat.le_refl _) _).setCell (Nat.le_refl _) _)
           · have hii : i = (grp L).length := by omega
             have HM := Lib.hid (show bld (f + 1) L = some (madeD (nmd s0) (T.map fun t => (t.1, t.2.1))) by
               rw [HV.out, HI.out, List.drop_of_length_le (by omega)]; simp [bldL])
             have hA := itsT_len (nmd s0) T
             have hR := HS.out.rep ⟨by omega, by omega⟩
             rw [made_eq] at hR
             have hN2 := HN1.out.below HS.out.bel
             have hbd := HS.out.blk
             obtain ⟨ip, ic, hvi⟩ := own_form5 HS.out.its
             obtain ⟨mp, mc, hvm⟩ := own_form5 HS.out.mem
             subst hvi hvm
             have HBW5 := Lib.hid (HB1.out.trans (HS.out.bel.mono HB1.out.size))
             have HSZ := Lib.hid (And.intro hN2.lt HB1.out.size)
             have HNW := Lib.hid HN1.out.lt
             have z0 := hN2.cell 0
             have z1 := hN2.cell 1
             have z2 := hN2.cell 2
             have z3 := hN2.cell 3
             have z4 := hN2.cell 4
             have y0 := hN2.frozen 0
             have y1 := hN2.frozen 1
             have y2 := hN2.frozen 2
             have y3 := hN2.frozen 3
             have y4 := hN2.frozen 4
             simp at z0 z1 z2 z3 z4
             have hlw := hN2.lt
             clear hN2
             have k0 := hbd.cell 0
             have k1 := hbd.cell 1
             have k2 := hbd.cell 2
             have k3 := hbd.cell 3
             have k4 := hbd.cell 4
             simp at k0 k1 k2 k3 k4
             have hR5 := ((((hR.set ⟨w.heap.size, 0, none⟩ (.int .i64 (kdOf (nmd s0))) (fun B hB e => by have := HNW.out; simp at e; omega)).set ⟨w.heap.size, 1, none⟩ (.int .i64 0) (fun B hB e => by have := HNW.out; simp at e; omega)).set ⟨w.heap.size, 2, none⟩ (.string ⟨#[]⟩) (fun B hB e => by have := HNW.out; simp at e; omega)).set ⟨w.heap.size, 3, none⟩ (.slice ip (itsT (nmd s0) T).length ic) (fun B hB e => by have := HNW.out; simp at e; omega)).set ⟨w.heap.size, 4, none⟩ (.slice mp (memT (nmd s0) T).length mc) (fun B hB e => by have := HNW.out; simp at e; omega)
             have HR5 := Lib.hid (hR5.mono (ok' := fun B => w.heap.size ≤ B) fun B _ hB => Nat.le_trans HB1.out.size hB)
             have HDV := Lib.hid (show dv (madeD (nmd s0) (T.map fun t => (t.1, t.2.1))) (.slice ip (itsT (nmd s0) T).length ic) (.slice mp (memT (nmd s0) T).length mc) = .agg #[.int .i64 (kdOf (nmd s0)), .int .i64 0, .string ⟨#[]⟩, .slice ip (itsT (nmd s0) T).length ic, .slice mp (memT (nmd s0) T).length mc] by
               rw [← made_eq]; rfl)
             clear hR hR5 hbd hA hii
             go_wp2_with fail
             refine bodyPost_ret (v := .tuple #[.agg #[.int .i64 (kdOf (nmd s0)), .int .i64 0, .string ⟨#[]⟩, .slice ip (itsT (nmd s0) T).length ic, .slice mp (memT (nmd s0) T).length mc], .bool true]) (by simp [results, Tryz.results38, go_sem, z0, z1, z2, z3, z4, y0, y1, y2, y3, y4, hlw]) rfl ?_
             rw [HM.out, ← HDV.out]
             exact ⟨_, _, rfl, HR5.out, ((((HBW5.out.setCell (Nat.le_refl _) _).setCell (Nat.le_refl _) _).setCell (Nat.le_refl _) _).setCell (Nat.le_refl _) _).setCell (Nat.le_refl _) _⟩
end Go.Proofs.YtoahmganodehkaaGreatDoor
