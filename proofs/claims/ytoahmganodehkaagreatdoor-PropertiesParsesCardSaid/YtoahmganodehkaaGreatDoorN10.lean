import Derived.Test.YtoahmganodehkaaGreatDoorN01
import Derived.Test.YtoahmganodehkaaGreatDoorN09
namespace Go.Proofs.YtoahmganodehkaaGreatDoor
set_option linter.unusedSimpArgs false
set_option linter.unusedVariables false
section
open Go.RowKit Go.Maps
theorem zeroInt (w : World) : (zeroValue 3).run Tryz.prog w = .ok (.int .i64 0) w := by kernel_rfl
theorem infoGrp : (Tryz.prog.info? 104).map (fun i => (i.zero, i.size, i.bytes)) = some (some (.agg #[.string ⟨#[]⟩, .int .i64 0, .slice none 0 0]), 3, 48) := by kernel_rfl
theorem grown_al {W W' : World} {o : Obj} {row : Option Nat} (h : (W.alloc o).grownBy W' row) : W.grownBy W' row := by
 refine ⟨h.os, h.tape, h.output, Nat.le_trans (by simp) h.size, fun k hk hne => ?_⟩
 rw [h.block k (by simp; omega) hne]
 have := ((Below.refl W.heap.size W).alloc (Nat.le_refl _) o).block k hk
 exact this
theorem out_kept {wc w5 : World} {o : Obj} {gu i : Nat} {row : Option Nat} {u : Value} (hgu : gu < wc.heap.size) (hne : some gu ≠ row) (hc : wc.cell? ⟨gu, i, none⟩ = some u) (hf : wc.frozen? ⟨gu, i, none⟩ = false) (hg : ((wc.alloc o).drew).grownBy w5 row) :
   w5.cell? ⟨gu, i, none⟩ = some u ∧ w5.frozen? ⟨gu, i, none⟩ = false ∧ gu < w5.heap.size := by
 have hb : Below wc.heap.size wc ((wc.alloc o).drew) := below_drew ((Below.refl _ _).alloc (Nat.le_refl _) _)
 have hq : w5.heap[gu]? = wc.heap[gu]? := (hg.block gu (Nat.lt_of_lt_of_le hgu hb.size) hne).trans (hb.block gu hgu)
 exact ⟨(World.cell?_of_block (a := ⟨gu, i, none⟩) hq).trans hc, (World.frozen?_of_block (a := ⟨gu, i, none⟩) hq).trans hf, Nat.lt_of_lt_of_le hgu (Nat.le_trans hb.size hg.size)⟩
theorem round_end {w wc w5 : World} {L : List Ent} {gu cu k ne g5 c5 : Nat} {gp : Option Addr} {gc : Nat} {G : List Grp} {o : Obj} {s : Stp} {P : List Stp} {D : Dat} {pv' vi vm : Value} (hk : k < G.length) (hks : G[k].st = s)
   (hR : GrS w (w.heap.size + 1) w.heap.size (.slice (some ⟨gu, 0, none⟩) G.length cu) G wc) (hM : GrM w L (some s) G) (hgv : G[k].v = .slice gp ne gc) (hne : G[k].es.length = ne)
   (hp : SlK w (fun _ => True) pv' P) (hd : Rep w (fun _ => True) D vi vm)
   (ho : w5.ownsRow (w.heap.size + 1) 42 6 (.slice (some ⟨g5, 0, none⟩) (ne + 1) c5) (ne + 1) (flatE G[k].es ++ [pv', .int .i64 D.k, .int .i64 D.n, .string (S D.s), vi, vm]))
   (hg : ((wc.alloc o).drew).grownBy w5 (Value.slice gp ne gc).ownBlock) (ha : (Value.slice gp ne gc).ownBlock = some g5 ∨ g5 = ((wc.alloc o).drew).heap.size) :
   GrS w (w.heap.size + 1) w.heap.size (.slice (some ⟨gu, 0, none⟩) G.length cu) (G.set k ⟨G[k].st, G[k].es ++ [⟨P, D, pv', vi, vm⟩], .slice (some ⟨g5, 0, none⟩) (ne + 1) c5⟩) (w5.setCell ⟨gu, k * 3 + 2, none⟩ (.slice (some ⟨g5, 0, none⟩) (ne + 1) c5)) ∧
     GrM w (L ++ [(s :: P, D)]) none (G.set k ⟨G[k].st, G[k].es ++ [⟨P, D, pv', vi, vm⟩], .slice (some ⟨g5, 0, none⟩) (ne + 1) c5⟩) := by
 have hb : Below wc.heap.size wc ((wc.alloc o).drew) := below_drew ((Below.refl _ _).alloc (Nat.le_refl _) _)
 refine ⟨(hR.below hb).push k hk ⟨P, D, pv', vi, vm⟩ _ (by rw [hne]; exact ho) (by rw [hgv]; exact hg) ?_, ?_⟩
 · rw [hgv]
   rcases ha with e | e
   · left; rw [e]; rfl
   · right; exact ⟨g5, rfl, by rw [e]; exact Nat.le_refl _⟩
 · subst hks
   exact GrM.push hk hM (G[k].st :: P, D) (by simp) rfl ⟨P, D, pv', vi, vm⟩ rfl ⟨hp, hd⟩ _
def stpLim (L : List Ent) : Prop := ∀ e ∈ L, okL e.1 = true ∧ ∀ x ∈ e.1, x.lab.length ≤ 1000000
theorem ok_wf {s : Stp} (h : okS s = true) : (Lit.int .i64 s.idx).wf = true ∧ 0 ≤ s.idx ∧ s.idx ≤ 1000000 := by
 have hb : 0 ≤ s.idx ∧ s.idx ≤ 1000000 := by
   unfold okS at h
   split at h
   · simpa using h
   · have : s.idx = 0 := by simpa using h
     omega
 refine ⟨?_, hb⟩
 have h := wrap64_wf s.idx
 have e : wrap64 s.idx = s.idx := by unfold wrap64; omega
 rwa [e] at h
set_option maxRecDepth 100000 in
set_option maxHeartbeats 8000000 in
theorem groups_any {L : List Ent} {v : Value} {ok : Nat → Prop} {w : World} (h : EntR w ok v L) (hl : entLim L) (hs : stpLim L) (hne : ∀ e ∈ L, e.1 ≠ []) (hL0 : L ≠ []) :
   Calls Tryz.prog 74 #[v] w fun e w' => ∃ u, e = .returned u ∧ GrpR w' u L ∧ Below w.heap.size w w' := by
 obtain ⟨i0, hi, hz0, hz1, hz2⟩ := info_parts infoEnt
 obtain ⟨i1, hj, hy0, hy1, hy2⟩ := info_parts infoGrp
 obtain ⟨T, p, cap, B, o, hT, rfl, hp, hg, hc⟩ := h.envs
 obtain ⟨hL, -⟩ := hl
 have hTl : T.length = L.length := by rw [← hT]; simp
 have hTm : T.length ≤ 1000000 := by omega
 have HT := Lib.hid hT
 have HTL := Lib.hid hTl
 have HG := Lib.hid hg
 have HC := Lib.hid hc
 have HP := Lib.hid hp
 have HS := Lib.hid hs
 have HNE := Lib.hid hne
 have HL0 := Lib.hid hL0
 have hmm := @run_makeMap Tryz.prog
 clear h hT hTl hg hc hp hL hs hne hL0
 go_enter Tryz.func74, Tryz.ntmps74
 go_wp2_with fail
 have hG0 : GrS w (w.heap.size + 1) w.heap.size (.slice none 0 0) [] (w.alloc (.map #[] 0)) := by
   refine ⟨World.ownsRow_nil _ _ _ _, by simp, List.Pairwise.nil, ⟨.map [], World.ownsMap_made _ _ _ _, fun s l _ => ⟨fun k hk => by simp at hk, fun _ => rfl⟩⟩, Nat.lt_succ_self _, by simp, Nat.le_refl _, (Below.refl _ _).alloc (Nat.le_refl _) _⟩
 have HG0 := Lib.hid hG0
 clear hG0 hmm
 go_loopw [4, 13] (fun u x wr => ∃ (i : Nat) (G : List Grp), x = .int .i64 (i : Int) ∧ i ≤ T.length ∧ G.length ≤ i ∧ Hid (GrS w (w.heap.size + 1) w.heap.size u G wr) ∧ Hid (GrM w (L.take i) none G)) (fun _ x _ => T.length - (intOf x).toNat)
 case atStart => exact ⟨0, [], rfl, Nat.zero_le _, Nat.le_refl _, HG0, Lib.hid (GrM.nil w)⟩
 case round =>
   obtain ⟨i, G, rfl, hi', hGi, HR, HM⟩ := hrel
   obtain ⟨up, uc, rfl⟩ := own_form5 HR.out.own
   by_cases hlt : i < T.length
   · obtain ⟨rfl, hcap, hB, -⟩ := HP.out (by omega)
     have hLi : i < L.length := by have := HTL.out; omega
     have hTi : T[i].e = L[i] := by
       have h2 : (T.map Env.e)[i]'(by simpa using hlt) = L[i] := by congr 1
       simpa using h2
     have k : ∀ c (hc : c < 6), wr.cell? ⟨B, o + i * 6 + c, none⟩ = (cellsE T[i])[c]? := by
       intro c hc6
       rw [HR.out.bel.cell (p := ⟨B, o + i * 6 + c, none⟩) hB]
       have h1 := flatE_get T i hlt c hc6
       have h2 : c < (cellsE T[i]).length := hc6
       rw [List.getElem?_eq_getElem h2] at h1 ⊢
       have := HC.out (i * 6 + c) _ h1
       rw [← Nat.add_assoc] at this
       exact this
     have hgi := HG.out _ (List.getElem_mem hlt)
     have hsi := HS.out _ (List.getElem_mem hLi)
     have hni := HNE.out _ (List.getElem_mem hLi)
     have HTK := Lib.hid (show L.take (i + 1) = L.take i ++ [L[i]] from List.take_succ_eq_append_getElem hLi)
     have HNT := Lib.hid (fun e (he : e ∈ L.take i) => HNE.out e (List.mem_of_mem_take he))
     rw [← hTi] at hsi hni HTK
     clear hTi hLi
     generalize T[i] = t at k hgi hsi hni HTK
     obtain ⟨P, D, pv, vi, vm⟩ := t
     change P ≠ [] at hni
     obtain ⟨s, P, rfl⟩ : ∃ s R, P = s :: R := by
       cases P with
       | nil => exact absurd rfl hni
       | cons s R => exact ⟨s, R, rfl⟩
     obtain ⟨hg1, hg2⟩ := hgi
     change SlK w ok pv (s :: P) at hg1
     change Rep w ok D vi vm at hg2
     change okL (s :: P) = true ∧ ∀ x ∈ s :: P, x.lab.length ≤ 1000000 at hsi
     obtain ⟨pp, pc, rfl⟩ := slk_form hg1
     obtain ⟨B', o', rfl, hpc, hB', -, m0, m1, htl⟩ := hg1.tail
     obtain ⟨p1, cap1, rfl, -, -⟩ := hg2.items
     obtain ⟨q1, caq1, rfl, -, -⟩ := hg2.members
     have k0 : wr.cell? ⟨B, o + i * 6, none⟩ = some (.slice (some ⟨B', o', none⟩) (P.length + 1) pc) := k 0 (by decide)
     have k1 : wr.cell? ⟨B, o + i * 6 + 1, none⟩ = some (.int .i64 D.k) := k 1 (by decide)
     have k2 : wr.cell? ⟨B, o + i * 6 + 2, none⟩ = some (.int .i64 D.n) := k 2 (by decide)
     have k3 : wr.cell? ⟨B, o + i * 6 + 3, none⟩ = some (.string (S D.s)) := k 3 (by decide)
     have k4 : wr.cell? ⟨B, o + i * 6 + 4, none⟩ = some (.slice p1 D.its.length cap1) := k 4 (by decide)
     have k5 : wr.cell? ⟨B, o + i * 6 + 5, none⟩ = some (.slice q1 D.mem.length caq1) := k 5 (by decide)
     have n0 := (HR.out.bel.cell (p := ⟨B', o', none⟩) hB').trans m0
     have n1 := (HR.out.bel.cell (p := ⟨B', o' + 1, none⟩) hB').trans m1
     have hsz := HR.out.bel.size
     have HRM := Lib.hid (show w.heap.size + 1 ≤ wr.heap.size from HR.out.nw)
     have HUO := Lib.hid (fun B (hB : (Value.slice up G.length uc).ownBlock = some B) => (own_ge HR.out.own hB).2)
     have hBr : B' < wr.heap.size := Nat.lt_of_lt_of_le hB' hsz
     have hoks : okS s = true := (ok_cons.1 hsi.1).1
     obtain ⟨l, hkl⟩ := stp_key s (hsi.2 s (List.mem_cons_self ..)) (ok_wf hoks).1
     have HKL := Lib.hid hkl
     have HTLS := Lib.hid htl
     have HG2 := Lib.hid hg2
     have HSI := Lib.hid hsi
     clear k hg1 hg2 hni m0 m1 htl hkl hoks hsi
     have hn2 := two_new wr #[.slice (some ⟨B', o', none⟩) (P.length + 1) pc, .int .i64 D.k, .int .i64 D.n, .string (S D.s), .slice p1 D.its.length cap1, .slice q1 D.mem.length caq1] #[.string (S s.lab), .int .i64 s.idx] 42 44
     have hR2 := HR.out.below hn2.2.2
     go_upto_region 7 with fail
     generalize (wr.alloc (.cells #[.slice (some ⟨B', o', none⟩) (P.length + 1) pc, .int .i64 D.k, .int .i64 D.n, .string (S D.s), .slice p1 D.its.length cap1, .slice q1 D.mem.length caq1] 42)).alloc (.cells #[.string (S s.lab), .int .i64 s.idx] 44) = W2 at hn2 hR2 ⊢
     clear k0 k1 k2 k3 k4 k5 n0 n1 hsz hBr HR
     have s0 := hn2.2.1.cell 0
     have s1 := hn2.2.1.cell 1
     simp at s0 s1
     have hsl := hn2.2.1.lt
     obtain ⟨D0, hD1, hD2⟩ := hR2.map
     have HE2 := Lib.hid hn2.1
     have HS2 := Lib.hid hn2.2.1
     have HR2 := Lib.hid hR2
     have HD := Lib.hid (And.intro hD1 hD2)
     have HML := Lib.hid (hD2 s l HKL.out)
     clear hn2 hR2 hD2
     go_upto_region 8 with (at_lookup; refine wpList_lookup_own_ok_int _ rfl _ _ 134 rfl 44 3 .i64 stpLaw Tryz.underlying134 Tryz.underlying3 (zeroInt _) w.heap.size G.length D0 rfl hD1 (.agg #[.string (S s.lab), .int .i64 s.idx]) l rfl HKL.out ?_; intro c hat hwc)
     have HAT := Lib.hid hat
     generalize hbb : has D0 l = bb at HML ⊢
     have HBB := Lib.hid hbb
     clear hat hwc hbb hD1
     go_upto_if 28 with (fail)
     go_cut [4, 8] (fun u9 kv wx => ∃ (G9 : List Grp) (k : Nat) (up9 : Option Addr) (uc9 : Nat), u9 = .slice up9 G9.length uc9 ∧ kv = .int .i64 (k : Int) ∧ k < G9.length ∧ G9.length ≤ i + 1 ∧ Hid (∃ h : k < G9.length, G9[k].st = s) ∧ Hid (GrS w (w.heap.size + 1) w.heap.size u9 G9 wx) ∧ Hid (GrM w (L.take i) (some s) G9) ∧ Hid (Blk wx wr.heap.size #[.slice (some ⟨B', o', none⟩) (P.length + 1) pc, .int .i64 D.k, .int .i64 D.n, .string (S D.s), .slice p1 D.its.length cap1, .slice q1 D.mem.length caq1] 42))
     case first =>
       have HSZ := Lib.hid (And.intro HR2.out.wm HR2.out.bel.size)
       have HSZ3 : Hid (w.heap.size ≠ wr.heap.size ∧ w.heap.size ≠ wr.heap.size + 1) := Lib.hid (by
         have h1 := HRM.out
         omega)
       have HUN := Lib.hid (show (Value.slice up G.length uc).ownBlock = none ∨ (Value.slice up G.length uc).ownBlock ≠ some w.heap.size by
         rcases own_two HR2.out.own with e | ⟨g, e, h1, -⟩
         · exact .inl e
         · right; rw [e]; intro e2; injection e2; omega)
       have HUE := Lib.hid (show some wr.heap.size ≠ (Value.slice up G.length uc).ownBlock by
         intro e
         have := HUO.out _ e.symm
         omega)
       by_cases hkn : ∃ k, ∃ h : k < G.length, G[k].st = s
       · obtain ⟨k, hk, hks⟩ := hkn
         obtain ⟨rfl, t2⟩ := HML.out.1 k hk hks
         have HCK := Lib.hid (show c = (k : Int) by
           have e := HAT.out.symm.trans t2
           injection e with e
           injection e)
         have HMK := Lib.hid (HM.out.known hk)
         rw [hks] at HMK
         have HKS := Lib.hid (show ∃ h : k < G.length, G[k].st = s from ⟨hk, hks⟩)
         clear t2 hks
         go_wp2_with fail
         go_meet
         exact ⟨G, k, up, uc, rfl, by rw [HCK.out], hk, by omega, HKS, HR2, HMK, HE2⟩
       · have hno : ∀ g ∈ G, g.st ≠ s := by
           intro g hg hgs
           obtain ⟨k, hk, rfl⟩ := List.getElem_of_mem hg
           exact hkn ⟨k, hk, hgs⟩
         obtain rfl := HML.out.2 hno
         have HNO := Lib.hid hno
         have hwf : (Lit.int .i64 (G.length : Int)).wf = true := by
           have h := wrap64_wf (G.length : Int)
           have e : wrap64 (G.length : Int) = (G.length : Int) := by unfold wrap64; omega
           rwa [e] at h
         have HWF := Lib.hid hwf
         clear hno hkn hwf
         go_wp2_with (first
           | (at_mapUpdate; refine wpList_mapUpdate_own _ rfl _ _ _ 134 rfl 44 3 stpLaw Tryz.underlying134 _ w.heap.size G.length D0 rfl HD.out.1 (by unfold maxLen; omega) (.agg #[.string (S s.lab), .int .i64 s.idx]) (.int .i64 (G.length : Int)) l rfl rfl HKL.out (.lit (.int .i64 (G.length : Int))) [] (plainElem_int Tryz.underlying3 HWF.out) ?_; intro w3 hm3 hg3; have HM3 := Lib.hid hm3; have HG3 := Lib.hid hg3; have b1 := HS2.out.kept hg3 (by intro e; injection e with e; exact HSZ3.out.2 e.symm); have b0 := HE2.out.kept hg3 (by intro e; injection e with e; exact HSZ3.out.1 e.symm); have x0 := b1.cell 0; have x1 := b1.cell 1; simp at x0 x1; have x2 := b1.lt; have HE3 := Lib.hid b0; have HO3 := Lib.hid (own_grown HR2.out.own hg3 HUN.out); clear hm3 hg3 b0 b1)
           | (at_builtin; refine wpList_append_own _ rfl _ _ 101 rfl (w.heap.size + 1) 104 i1 (.agg #[.string ⟨#[]⟩, .int .i64 0, .slice none 0 0]) 3 48 Tryz.underlying101 hj hy0 hy1 hy2 rfl (by decide) (.slice up G.length uc) G.length (flatG G) rfl (HO3.out.alloc _) ⟨w3.heap.size, 0, none⟩ 1 1 [.string (S s.lab), .int .i64 s.idx, .slice none 0 0] rfl rfl (cells_new_at rfl rfl) (by simp [Value.oneCell']) (by unfold maxLen; omega) (by omega) (by have := HG3.out.size; have := HR2.out.nw; simp; omega) ?_; intro v4 w4 hown4 hgrow4 _; have HG4 := Lib.hid hgrow4; have HO4 := Lib.hid hown4; clear hown4 hgrow4))
         obtain ⟨up4, uc4, rfl⟩ := own_form5 HO4.out
         have hlen : (G ++ [(⟨s, [], .slice none 0 0⟩ : Grp)]).length = G.length + 1 := by simp
         have HR4 := Lib.hid (HR2.out.add HD.out HKL.out HNO.out HM3.out HG3.out HO4.out (grown_al HG4.out))
         have HM4 := Lib.hid (HM.out.fresh HNT.out s HNO.out)
         have HE4 : Hid (Blk w4 wr.heap.size #[.slice (some ⟨B', o', none⟩) (P.length + 1) pc, .int .i64 D.k, .int .i64 D.n, .string (S D.s), .slice p1 D.its.length cap1, .slice q1 D.mem.length caq1] 42) := Lib.hid ((HE3.out.alloc (.cells #[.string (S s.lab), .int .i64 s.idx, .slice none 0 0] 104)).kept HG4.out HUE.out)
         have HKS : Hid (∃ h : G.length < (G ++ [(⟨s, [], .slice none 0 0⟩ : Grp)]).length, (G ++ [(⟨s, [], .slice none 0 0⟩ : Grp)])[G.length].st = s) := Lib.hid ⟨by simp, by simp⟩
         go_meet
         exact ⟨_, G.length, up4, uc4, by rw [hlen], rfl, by rw [hlen]; omega, by rw [hlen]; omega, HKS, HR4, HM4, HE4⟩
     case rest =>
       obtain ⟨G9, k, up9, uc9, rfl, rfl, hk, hG9, HKS, HR9, HM9, HE9⟩ := hcut
       obtain ⟨gu, rfl⟩ : ∃ gu, up9 = some ⟨gu, 0, none⟩ := by
         rcases own_head HR9.out.own with ⟨e, h0⟩ | ⟨g, cap, e, -⟩
         · omega
         · injection e with e; exact ⟨g, e⟩
       have hrk := HR9.out.rows _ (List.getElem_mem hk)
       obtain ⟨gp, gc, hgv⟩ := own_form5 hrk
       have g2 : wc.cell? ⟨gu, k * 3 + 2, none⟩ = some (.slice gp G9[k].es.length gc) := by
         have h1 := flatG_get G9 k hk 2 (by decide)
         have h2 := HR9.out.own.cells (g := gu) rfl (k * 3 + 2) G9[k].v h1
         rw [Lib.add_plain, Nat.zero_add, hgv] at h2
         exact h2
       have f2 : wc.frozen? ⟨gu, k * 3 + 2, none⟩ = false := by
         rcases HR9.out.own.2 with ⟨e, -⟩ | ⟨g', cap', cur, e, -, hh, -⟩
         · cases e
         · injection e with e; injection e with e; injection e with e; subst e
           simp [World.frozen?, hh]
       have hgl : gu < wc.heap.size := (own_ge HR9.out.own rfl).2
       have e0 := HE9.out.cell 0
       have e1 := HE9.out.cell 1
       have e2 := HE9.out.cell 2
       have e3 := HE9.out.cell 3
       have e4 := HE9.out.cell 4
       have e5 := HE9.out.cell 5
       simp at e0 e1 e2 e3 e4 e5
       have hel := HE9.out.lt
       have hes : G9[k].es.length ≤ 1000000 := by
         have h1 := congrArg List.length (HM9.out.ents _ (List.getElem_mem hk))
         rw [List.length_map] at h1
         rw [h1]
         refine Nat.le_trans (blw_len _ _) ?_
         rw [List.length_take]; omega
       have HGL := Lib.hid hgl
       have HNEQ : Hid (some gu ≠ (Value.slice gp G9[k].es.length gc).ownBlock) := Lib.hid (by
         intro e
         rcases own_types hrk HR9.out.own (by decide) with h1 | h1
         · rw [hgv] at h1; rw [h1] at e; cases e
         · rw [hgv] at h1; exact h1 e.symm)
       have HRK := Lib.hid (show wc.ownsRow (w.heap.size + 1) 42 6 (.slice gp G9[k].es.length gc) G9[k].es.length (flatE G9[k].es) by rw [← hgv]; exact hrk)
       have HGV := Lib.hid hgv
       clear hrk hgv HE2 HS2 HR2 HD HML HAT HBB s0 s1 hsl
       have b0 : (0 : Int) ≤ (k : Int) := by omega
       have b1 : (k : Int) < (G9.length : Int) := by omega
       generalize hne : G9[k].es.length = ne at g2 hes
       have HNE2 := Lib.hid hne
       rw [hne] at HRK HGV HNEQ
       have HG2C := Lib.hid (And.intro g2 f2)
       clear hne
       have hw1 : (1 : Int) ≤ (P.length : Int) + 1 := by omega
       rcases Nat.lt_or_ge 1 pc with hpc1 | hpc1
       · have hw2 : ¬ pc = 1 := by omega
         go_wp2_with fail
         go_region_law ((refine step_append_lies _ (by rfl) _ _ _ (by rfl) (w.heap.size + 1) 42 i0 (.agg #[.slice none 0 0, .int .i64 0, .int .i64 0, .string ⟨#[]⟩, .slice none 0 0, .slice none 0 0]) 6 104 Tryz.underlying37 hi hz0 hz1 hz2 rfl (by omega) (.slice gp ne gc) ne (flatE G9[k].es) (by rfl) ((HRK.out.alloc _).drew) ⟨wc.heap.size, 0, none⟩ 1 1 [.slice (some ⟨B', o' + 2, none⟩) P.length (pc - 1), .int .i64 D.k, .int .i64 D.n, .string (S D.s), .slice p1 D.its.length cap1, .slice q1 D.mem.length caq1] (by rfl) (by rfl) (cells_new_at rfl rfl) (by simp [Value.oneCell']) (by omega) (by unfold maxLen; omega) (by omega) (by have := HR9.out.nw; simp; omega) _ rfl ?_; intro g5 c5 w5 hown5 hgrow5 hat5 hlt5; obtain ⟨z2, zf, zl⟩ := out_kept HGL.out HNEQ.out HG2C.out.1 HG2C.out.2 hgrow5; have HO5 := Lib.hid hown5; have HG5 := Lib.hid hgrow5; have HA5 := Lib.hid hat5; clear hown5 hgrow5 hat5))
         all_goals
           obtain ⟨hk', hks'⟩ := HKS.out
           obtain ⟨r1, r2⟩ := round_end (vi := .slice p1 D.its.length cap1) (vm := .slice q1 D.mem.length caq1) hk' hks' HR9.out HM9.out HGV.out HNE2.out ((HTLS.out (pc - 1) (by omega)).mono fun _ _ _ => trivial) (HG2.out.mono fun _ _ _ => trivial) HO5.out HG5.out HA5.out
           have HR6 := Lib.hid r1
           have HM6 : Hid (GrM w (L.take (i + 1)) none _) := Lib.hid (by rw [HTK.out]; exact r2)
           clear r1 r2 z2 zf zl hks'
           go_wp2_with fail
           go_roundw
           case rel => exact ⟨i + 1, _, by go_num, hlt, by rw [List.length_set]; exact hG9, HR6, HM6⟩
           case measure => simp [intOf]; omega
       · obtain rfl : pc = 1 := by omega
         obtain rfl : P = [] := List.length_eq_zero_iff.1 (by omega)
         go_wp2_with fail
         go_region_law ((refine step_append_lies _ (by rfl) _ _ _ (by rfl) (w.heap.size + 1) 42 i0 (.agg #[.slice none 0 0, .int .i64 0, .int .i64 0, .string ⟨#[]⟩, .slice none 0 0, .slice none 0 0]) 6 104 Tryz.underlying37 hi hz0 hz1 hz2 rfl (by omega) (.slice gp ne gc) ne (flatE G9[k].es) (by rfl) ((HRK.out.alloc _).drew) ⟨wc.heap.size, 0, none⟩ 1 1 [.slice (some ⟨B', o', none⟩) 0 0, .int .i64 D.k, .int .i64 D.n, .string (S D.s), .slice p1 D.its.length cap1, .slice q1 D.mem.length caq1] (by rfl) (by rfl) (cells_new_at rfl rfl) (by simp [Value.oneCell']) (by omega) (by unfold maxLen; omega) (by omega) (by have := HR9.out.nw; simp; omega) _ rfl ?_; intro g5 c5 w5 hown5 hgrow5 hat5 hlt5; obtain ⟨z2, zf, zl⟩ := out_kept HGL.out HNEQ.out HG2C.out.1 HG2C.out.2 hgrow5; have HO5 := Lib.hid hown5; have HG5 := Lib.hid hgrow5; have HA5 := Lib.hid hat5; clear hown5 hgrow5 hat5))
         all_goals
           obtain ⟨hk', hks'⟩ := HKS.out
           obtain ⟨r1, r2⟩ := round_end (vi := .slice p1 D.its.length cap1) (vm := .slice q1 D.mem.length caq1) (P := []) (pv' := .slice (some ⟨B', o', none⟩) 0 0) hk' hks' HR9.out HM9.out HGV.out HNE2.out ⟨_, _, 0, 0, rfl, by simp, by simp⟩ (HG2.out.mono fun _ _ _ => trivial) HO5.out HG5.out HA5.out
           have HR6 := Lib.hid r1
           have HM6 : Hid (GrM w (L.take (i + 1)) none _) := Lib.hid (by rw [HTK.out]; exact r2)
           clear r1 r2 z2 zf zl hks'
           go_wp2_with fail
           go_roundw
           case rel => exact ⟨i + 1, _, by go_num, hlt, by rw [List.length_set]; exact hG9, HR6, HM6⟩
           case measure => simp [intOf]; omega
   · obtain rfl : i = T.length := by omega
     have hTk : L.take T.length = L := by rw [HTL.out]; exact List.take_length
     rw [hTk] at HM
     have hG0 : 0 < G.length := by
       obtain ⟨e, he⟩ := List.exists_mem_of_ne_nil _ HL0.out
       obtain ⟨g, hg, -⟩ := (HM.out.mem (hdS e)).2 (.inr ⟨e, he, rfl⟩)
       exact List.length_pos_of_mem hg
     obtain ⟨gu, rfl⟩ : ∃ gu, up = some ⟨gu, 0, none⟩ := by
       rcases own_head HR.out.own with ⟨e, h0⟩ | ⟨g, cap, e, -⟩
       · omega
       · injection e with e; exact ⟨g, e⟩
     have hone : ∀ t ∈ G, t.v.oneCell' = true := by
       intro t ht
       obtain ⟨p1, c1, e1⟩ := own_form5 (HR.out.rows t ht)
       rw [e1]; rfl
     have HSO := Lib.hid (sortGrp_any HR.out.own hone (by omega))
     clear hTk hone
     go_wp2_with fail
     refine HSO.out.mono ?_
     rintro e w1 hsg
     obtain ⟨h1, h2⟩ := grp_done HR.out HM.out hsg
     obtain ⟨rfl, -⟩ := hsg
     have H1 := Lib.hid h1
     have H2 := Lib.hid h2
     clear h1 h2
     go_wp2_with fail
     go_ret
     exact ⟨_, rfl, H1.out, H2.out⟩
end
section
open Go.RowKit
def nmd (s : Stp) : Bool := !s.lab.isEmpty
theorem nmd_iff {s : Stp} : nmd s = true ↔ s.lab ≠ [] := by unfold nmd; cases s.lab <;> simp
theorem nmd_not {s : Stp} : nmd s = false ↔ s.lab = [] := by unfold nmd; cases s.lab <;> simp
def fitB (n0 : Bool) (s : Stp) (i : Nat) : Bool := (nmd s == n0) && (n0 || decide (s.idx = (i : Int)))
def bldL (f : List Ent → Option Dat) (l : List Ent) (n0 : Bool) : List Stp → Nat → Option (List (Stp × Dat))
 | [], _ => some []
 | s :: r, i => if fitB n0 s i = false then none else (f (blw l s)).bind fun x => (bldL f l n0 r (i + 1)).map fun t => (s, x) :: t
theorem bldL_lab (f : List Ent → Option Dat) (l : List Ent) : ∀ (G : List Stp) (i : Nat), bldL f l true G i = if allLab G then bldAll f l G else none
 | [], i => by rw [bldL, bldAll]; rfl
 | s :: r, i => by
   rw [bldL, bldAll, bldL_lab f l r (i + 1)]
   have e : allLab (s :: r) = (decide (s.lab ≠ []) && allLab r) := rfl
   rw [e]
   by_cases h : s.lab = []
   · have h1 : fitB true s i = false := by unfold fitB; rw [nmd_not.2 h]; rfl
     rw [if_pos h1]; simp [h]
   · have h1 : fitB true s i = true := by unfold fitB; rw [nmd_iff.2 h]; rfl
     rw [if_neg (by rw [h1]; decide)]
     simp only [h, ne_eq, not_false_eq_true, decide_true, Bool.true_and]
     by_cases h2 : allLab r = true
     · rw [if_pos h2, if_pos h2]
     · rw [if_neg h2, if_neg h2]
       cases f (blw l s) <;> rfl
theorem bldL_idx (f : List Ent → Option Dat) (l : List Ent) : ∀ (G : List Stp) (i : Nat), bldL f l false G i = if idxFrom G i then bldAll f l G else none
 | [], i => by rw [bldL, bldAll]; rfl
 | s :: r, i => by
   rw [bldL, bldAll, bldL_idx f l r (i + 1), idxFrom]
   by_cases h : s.lab = [] ∧ s.idx = (i : Int)
   · have h1 : fitB false s i = true := by unfold fitB; rw [nmd_not.2 h.1, decide_eq_true h.2]; rfl
     rw [if_neg (by rw [h1]; decide), decide_eq_true h.1, decide_eq_true h.2]
     simp only [Bool.true_and]
     by_cases h2 : idxFrom r (i + 1) = true
     · rw [if_pos h2, if_pos h2]
     · rw [if_neg h2, if_neg h2]
       cases f (blw l s) <;> rfl
   · have h1 : fitB false s i = false := by
       unfold fitB
       by_cases h2 : s.lab = []
       · rw [nmd_not.2 h2, decide_eq_false (fun e => h ⟨h2, e⟩)]; rfl
       · rw [nmd_iff.2 h2]; rfl
     have h3 : (decide (s.lab = []) && decide (s.idx = (i : Int)) && idxFrom r (i + 1)) = false := by
       by_cases h2 : s.lab = []
       · rw [decide_eq_false (show ¬ s.idx = (i : Int) from fun e => h ⟨h2, e⟩)]; simp
       · rw [decide_eq_false h2]; simp
     rw [if_pos h1, h3]; rfl
def madeD (n0 : Bool) (t : List (Stp × Dat)) : Dat := if n0 then .mk 6 0 [] [] (t.map fun p => (p.1.lab, p.2)) else .mk 5 0 [] (t.map fun p => p.2) []
theorem bld_loop {f : Nat} {l : List Ent} (h : ∀ e ∈ l, e.1 ≠ []) {s : Stp} {r : List Stp} (hg : grp l = s :: r) : bld (f + 1) l = (bldL (bld f) l (nmd s) (grp l) 0).map (madeD (nmd s)) := by
 rw [bld_step h]
 by_cases hs : s.lab = []
 · have h0 : allLab (grp l) = false := by rw [hg]; show (decide (s.lab ≠ []) && _) = false; simp [hs]
   rw [nmd_not.2 hs, bldL_idx, h0]
   by_cases h2 : idxFrom (grp l) 0 = true
   · rw [if_pos h2, if_pos h2, if_neg (by decide)]
     rfl
   · rw [if_neg h2, if_neg h2, if_neg (by decide)]; rfl
 · have h0 : idxFrom (grp l) 0 = false := by rw [hg, idxFrom]; simp [hs]
   rw [nmd_iff.2 hs, bldL_lab, h0]
   by_cases h2 : allLab (grp l) = true
   · rw [if_pos h2, if_pos h2]; rfl
   · rw [if_neg h2, if_neg h2, if_neg (by decide)]; rfl
theorem bldL_step (f : List Ent → Option Dat) (l : List Ent) (n0 : Bool) {G : List Stp} {i : Nat} (h : i < G.length) : bldL f l n0 (G.drop i) i = if fitB n0 G[i] i = false then none else (f (blw l G[i])).bind fun x => (bldL f l n0 (G.drop (i + 1)) (i + 1)).map fun t => (G[i], x) :: t := by
 rw [List.drop_eq_getElem_cons h, bldL]
set_option maxRecDepth 100000 in
set_option maxHeartbeats 4000000 in
theorem named_any (s : Stp) (p : Option Addr) (n cap : Nat) (W : World) :
   Calls Tryz.prog 75 #[.agg #[.string (S s.lab), .int .i64 s.idx, .slice p n cap]] W fun e w' => e = .returned (.bool (nmd s)) ∧ Below W.heap.size W w' := by
 obtain ⟨r, hr⟩ : ∃ r, nmd s = r := ⟨_, rfl⟩
 rw [hr]
 obtain ⟨l, x⟩ := s
 have HR := Lib.hid (show (!l.isEmpty) = r from hr)
 clear hr
 simp only
 have hN : Blk (W.alloc (.cells #[.string (S l), .int .i64 x, .slice p n cap] 104)) W.heap.size #[.string (S l), .int .i64 x, .slice p n cap] 104 := Blk.new W _ _
 have hB : Below W.heap.size W (W.alloc (.cells #[.string (S l), .int .i64 x, .slice p n cap] 104)) := (Below.refl _ _).alloc (Nat.le_refl _) _
 go_enter Tryz.func75, Tryz.ntmps75
 go_upto_region 1 with fail
 generalize W.alloc (.cells #[.string (S l), .int .i64 x, .slice p n cap] 104) = W1 at hN hB ⊢
 have n0 := hN.cell 0
 simp at n0
 have HB := Lib.hid hB
 clear hN hB
 go_wp2_with fail
 go_ret
 exact ⟨by rw [← HR.out]; rfl, HB.out⟩
theorem set_block {W : World} {B : Nat} {a : Addr} {v : Value} (h : a.block ≠ B) : (W.setCell a v).heap[B]? = W.heap[B]? := by
 simp only [World.setCell, Array.getElem?_modify, if_neg h]
theorem Rep.set {W : World} {ok : Nat → Prop} {d : Dat} {vi vm : Value} (h : Rep W ok d vi vm) (a : Addr) (v : Value) (hne : ∀ B, ok B → a.block ≠ B) : Rep (W.setCell a v) ok d vi vm :=
 h.kept (by show W.heap.size ≤ (W.heap.modify _ _).size; simp) fun B _ hk => ⟨hk, fun o => World.cell?_of_block (a := ⟨B, o, none⟩) (set_block (hne B hk))⟩
def apD (N0 Bd : Nat) (vi vm : Value) (B : Nat) : Prop := N0 ≤ B ∧ B ≠ Bd ∧ some B ≠ vi.ownBlock ∧ some B ≠ vm.ownBlock
structure BdS (w : World) (Bd N : Nat) (kd : Int) (A : List (Dat × Value × Value)) (M : List (List UInt8 × Dat × Value × Value)) (vi vm : Value) (W : World) : Prop where
 blk : Blk W Bd #[.int .i64 kd, .int .i64 0, .string ⟨#[]⟩, vi, vm] 26
 its : W.ownsRow N 26 5 vi A.length (flat5 A)
 mem : W.ownsRow N 64 6 vm M.length (flat6 M)
 ga : ∀ t ∈ A, Rep W (apD w.heap.size Bd vi vm) t.1 t.2.1 t.2.2
 gm : ∀ t ∈ M, Rep W (apD w.heap.size Bd vi vm) t.2.1 t.2.2.1 t.2.2.2
 nr : w.heap.size ≤ Bd ∧ Bd < N ∧ N ≤ W.heap.size
 bel : Below w.heap.size w W
theorem BdS.under {w : World} {Bd N : Nat} {kd : Int} {A : List (Dat × Value × Value)} {M : List (List UInt8 × Dat × Value × Value)} {vi vm : Value} {W W' : World} (h : BdS w Bd N kd A M vi vm W) (hb : Below W.heap.size W W') : BdS w Bd N kd A M vi vm W' :=
 ⟨h.blk.below hb, own_under h.its hb, own_under h.mem hb, fun t ht => (h.ga t ht).under hb, fun t ht => (h.gm t ht).under hb, ⟨h.nr.1, h.nr.2.1, Nat.le_trans h.nr.2.2 hb.size⟩, h.bel.trans (hb.mono h.bel.size)⟩
theorem BdS.item {w : World} {Bd N : Nat} {kd : Int} {A : List (Dat × Value × Value)} {M : List (List UInt8 × Dat × Value × Value)} {vi vm : Value} {W W1 : World} (h : BdS w Bd N kd A M vi vm W) {x : Dat} {xi xm v' : Value} (hx : Rep W (apD w.heap.size Bd vi vm) x xi xm)
   (ho : W1.ownsRow N 26 5 v' (A.length + 1) (flat5 A ++ cells5 (x, xi, xm))) (hg : W.grownBy W1 vi.ownBlock) (ha : v'.ownBlock = vi.ownBlock ∨ ∃ b, v'.ownBlock = some b ∧ W.heap.size ≤ b) :
   BdS w Bd N kd (A ++ [(x, xi, xm)]) M v' vm (W1.setCell ⟨Bd, 3, none⟩ v') := by
 obtain ⟨n1, n2, n3⟩ := h.nr
 have hr : ∀ B, B < N → some B ≠ vi.ownBlock := fun B hB e => by have := (own_ge h.its e.symm).1; omega
 have hv' : v'.ownBlock ≠ some Bd := by
   rcases own_two ho with e | ⟨g, e, h1, -⟩
   · rw [e]; simp
   · rw [e]; intro e2; injection e2; omega
 have hmono : ∀ {d : Dat} {yi ym : Value}, Rep W (apD w.heap.size Bd vi vm) d yi ym → Rep (W1.setCell ⟨Bd, 3, none⟩ v') (apD w.heap.size Bd v' vm) d yi ym := fun hd => by
   have h1 := hd.mono (ok' := fun B => apD w.heap.size Bd v' vm B ∧ some B ≠ vi.ownBlock) (fun B hB ⟨a, b, d, e⟩ => ⟨⟨a, b, by
     rcases ha with e1 | ⟨b1, e1, h2⟩
     · rw [e1]; exact d
     · rw [e1]; intro e2; injection e2; omega, e⟩, d⟩)
   have h2 := h1.grown hg fun B hB => hB.2
   have h3 := h2.mono (ok' := apD w.heap.size Bd v' vm) fun B _ hB => hB.1
   exact h3.set _ _ fun B hB => fun e => hB.2.1 e.symm
 have hmem := own_grown h.mem hg (own_types h.mem h.its (by decide))
 refine ⟨(h.blk.kept hg (hr Bd (by omega))).set 3 v', ?_, ?_, ?_, ?_, ⟨n1, n2, ?_⟩, ?_⟩
 · rw [List.length_append, flat5_snoc]
   exact own_set_other ho hv' _ _
 · refine own_set_other hmem ?_ _ _
   rcases own_two hmem with e | ⟨g, e, h1, -⟩
   · rw [e]; simp
   · rw [e]; intro e2; injection e2; omega
 · intro t ht
   rcases List.mem_append.1 ht with ht | ht
   · exact hmono (h.ga t ht)
   · rw [List.mem_singleton.1 ht]; exact hmono hx
 · intro t ht
   exact hmono (h.gm t ht)
 · have := hg.size
   simp; omega
 · refine (h.bel.grown hg h.bel.size ?_).setCell ?_ _
   · intro b hb
     have := (own_ge h.its hb).1
     omega
   · show w.heap.size ≤ Bd
     omega
theorem BdS.memb {w : World} {Bd N : Nat} {kd : Int} {A : List (Dat × Value × Value)} {M : List (List UInt8 × Dat × Value × Value)} {vi vm : Value} {W W1 : World} (h : BdS w Bd N kd A M vi vm W) {l : List UInt8} {x : Dat} {xi xm v' : Value} (hx : Rep W (apD w.heap.size Bd vi vm) x xi xm)
   (ho : W1.ownsRow N 64 6 v' (M.length + 1) (flat6 M ++ cells6 (l, x, xi, xm))) (hg : W.grownBy W1 vm.ownBlock) (ha : v'.ownBlock = vm.ownBlock ∨ ∃ b, v'.ownBlock = some b ∧ W.heap.size ≤ b) :
   BdS w Bd N kd A (M ++ [(l, x, xi, xm)]) vi v' (W1.setCell ⟨Bd, 4, none⟩ v') := by
 obtain ⟨n1, n2, n3⟩ := h.nr
 have hr : ∀ B, B < N → some B ≠ vm.ownBlock := fun B hB e => by have := (own_ge h.mem e.symm).1; omega
 have hv' : v'.ownBlock ≠ some Bd := by
   rcases own_two ho with e | ⟨g, e, h1, -⟩
   · rw [e]; simp
   · rw [e]; intro e2; injection e2; omega
 have hmono : ∀ {d : Dat} {yi ym : Value}, Rep W (apD w.heap.size Bd vi vm) d yi ym → Rep (W1.setCell ⟨Bd, 4, none⟩ v') (apD w.heap.size Bd vi v') d yi ym := fun hd => by
   have h1 := hd.mono (ok' := fun B => apD w.heap.size Bd vi v' B ∧ some B ≠ vm.ownBlock) (fun B hB ⟨a, b, d, e⟩ => ⟨⟨a, b, d, by
     rcases ha with e1 | ⟨b1, e1, h2⟩
     · rw [e1]; exact e
     · rw [e1]; intro e2; injection e2; omega⟩, e⟩)
   have h2 := h1.grown hg fun B hB => hB.2
   have h3 := h2.mono (ok' := apD w.heap.size Bd vi v') fun B _ hB => hB.1
   exact h3.set _ _ fun B hB => fun e => hB.2.1 e.symm
 have hits := own_grown h.its hg (own_types h.its h.mem (by decide))
 refine ⟨(h.blk.kept hg (hr Bd (by omega))).set 4 v', ?_, ?_, ?_, ?_, ⟨n1, n2, ?_⟩, ?_⟩
 · refine own_set_other hits ?_ _ _
   rcases own_two hits with e | ⟨g, e, h1, -⟩
   · rw [e]; simp
   · rw [e]; intro e2; injection e2; omega
 · rw [List.length_append, flat6_snoc]
   exact own_set_other ho hv' _ _
 · intro t ht
   exact hmono (h.ga t ht)
 · intro t ht
   rcases List.mem_append.1 ht with ht | ht
   · exact hmono (h.gm t ht)
   · rw [List.mem_singleton.1 ht]; exact hmono hx
 · have := hg.size
   simp; omega
 · refine (h.bel.grown hg h.bel.size ?_).setCell ?_ _
   · intro b hb
     have := (own_ge h.mem hb).1
     omega
   · show w.heap.size ≤ Bd
     omega
theorem BdS.memb_end {w : World} {Bd N : Nat} {kd : Int} {A : List (Dat × Value × Value)} {M : List (List UInt8 × Dat × Value × Value)} {vi vm v' : Value} {W w5 : World} {o : Obj} {l : List UInt8} {x : Dat} {xi xm : Value} (h : BdS w Bd N kd A M vi vm W) (hx : Rep W (apD w.heap.size Bd vi vm) x xi xm)
   (ho : w5.ownsRow N 64 6 v' (M.length + 1) (flat6 M ++ [.string (S l), .int .i64 x.k, .int .i64 x.n, .string (S x.s), xi, xm]))
   (hg : (W.alloc o).grownBy w5 vm.ownBlock) (ha : v'.ownBlock = vm.ownBlock ∨ v'.ownBlock = some (W.alloc o).heap.size) :
   BdS w Bd N kd A (M ++ [(l, x, xi, xm)]) vi v' (w5.setCell ⟨Bd, 4, none⟩ v') := by
 have hb : Below W.heap.size W (W.alloc o) := (Below.refl _ _).alloc (Nat.le_refl _) _
 refine (h.under hb).memb (hx.under hb) ho hg ?_
 rcases ha with e | e
 · exact .inl e
 · exact .inr ⟨_, e, Nat.le_refl _⟩
theorem BdS.item_end {w : World} {Bd N : Nat} {kd : Int} {A : List (Dat × Value × Value)} {M : List (List UInt8 × Dat × Value × Value)} {vi vm v' : Value} {W w5 : World} {o : Obj} {x : Dat} {xi xm : Value} (h : BdS w Bd N kd A M vi vm W) (hx : Rep W (apD w.heap.size Bd vi vm) x xi xm)
   (ho : w5.ownsRow N 26 5 v' (A.length + 1) (flat5 A ++ [.int .i64 x.k, .int .i64 x.n, .string (S x.s), xi, xm]))
   (hg : (W.alloc o).grownBy w5 vi.ownBlock) (ha : v'.ownBlock = vi.ownBlock ∨ v'.ownBlock = some (W.alloc o).heap.size) :
   BdS w Bd N kd (A ++ [(x, xi, xm)]) M v' vm (w5.setCell ⟨Bd, 3, none⟩ v') := by
 have hb : Below W.heap.size W (W.alloc o) := (Below.refl _ _).alloc (Nat.le_refl _) _
 refine (h.under hb).item (hx.under hb) ho hg ?_
 rcases ha with e | e
 · exact .inl e
 · exact .inr ⟨_, e, Nat.le_refl _⟩
theorem out_kept2 {wc w5 : World} {o : Obj} {gu i : Nat} {row : Option Nat} {u : Value} (hgu : gu < wc.heap.size) (hne : some gu ≠ row) (hc : wc.cell? ⟨gu, i, none⟩ = some u) (hf : wc.frozen? ⟨gu, i, none⟩ = false) (hg : (wc.alloc o).grownBy w5 row) :
   w5.cell? ⟨gu, i, none⟩ = some u ∧ w5.frozen? ⟨gu, i, none⟩ = false ∧ gu < w5.heap.size := by
 have hb : Below wc.heap.size wc (wc.alloc o) := (Below.refl _ _).alloc (Nat.le_refl _) _
 have hq : w5.heap[gu]? = wc.heap[gu]? := (hg.block gu (Nat.lt_of_lt_of_le hgu hb.size) hne).trans (hb.block gu hgu)
 exact ⟨(World.cell?_of_block (a := ⟨gu, i, none⟩) hq).trans hc, (World.frozen?_of_block (a := ⟨gu, i, none⟩) hq).trans hf, Nat.lt_of_lt_of_le hgu (Nat.le_trans hb.size hg.size)⟩
theorem BdS.apart {w : World} {Bd N : Nat} {kd : Int} {A : List (Dat × Value × Value)} {M : List (List UInt8 × Dat × Value × Value)} {vi vm : Value} {W : World} (h : BdS w Bd N kd A M vi vm W) {K B : Nat} (hK : W.heap.size ≤ K) (hB : K ≤ B) : apD w.heap.size Bd vi vm B := by
 obtain ⟨n1, n2, n3⟩ := h.nr
 exact ⟨by omega, by omega, fun e => by have := (own_ge h.its e.symm).2; omega, fun e => by have := (own_ge h.mem e.symm).2; omega⟩
theorem BdS.rep {w : World} {Bd N : Nat} {kd : Int} {A : List (Dat × Value × Value)} {M : List (List UInt8 × Dat × Value × Value)} {vi vm : Value} {W : World} (h : BdS w Bd N kd A M vi vm W) (hl : A.length ≤ 1000000 ∧ M.length ≤ 1000000) :
   Rep W (fun B => w.heap.size ≤ B) (.mk kd 0 [] (A.map fun t => t.1) (M.map fun t => (t.1, t.2.1))) vi vm := by
 obtain ⟨n1, n2, n3⟩ := h.nr
 exact rep_own h.its h.mem ⟨by unfold maxLen; omega, by unfold maxLen; omega⟩ (fun B hB => by omega) (fun t ht => (h.ga t ht).mono fun B _ hB => hB.1) (fun t ht => (h.gm t ht).mono fun B _ hB => hB.1)
def BldP (w : World) (r : Option Dat) (e : Ending) (w' : World) : Prop := ∃ vi vm, e = .returned (.tuple #[dv (r.getD dat0) vi vm, .bool r.isSome]) ∧ Rep w' (fun B => w.heap.size ≤ B) (r.getD dat0) vi vm ∧ Below w.heap.size w w'
theorem BldP.no (w : World) {w' : World} (hb : Below w.heap.size w w') : BldP w none (.returned (.tuple #[.agg #[.int .i64 0, .int .i64 0, .string ⟨#[]⟩, .slice none 0 0, .slice none 0 0], .bool false])) w' :=
 ⟨.slice none 0 0, .slice none 0 0, rfl, rep_leaf w' _ rfl rfl none none 0 0, hb⟩
theorem blw_in {L : List Ent} {f : Nat} {s : Stp} (hne : ∀ e ∈ L, e.1 ≠ []) (h : ∀ e ∈ L, entOK e ∧ e.1.length < f + 1 ∧ e.1.length ≤ 1000000) (hs : s ∈ grp L) (hc : noClash L) (hl : L.length ≤ 1000000) :
   blw L s ≠ [] ∧ noClash (blw L s) ∧ (∀ e ∈ blw L s, entOK e ∧ e.1.length < f ∧ e.1.length ≤ 1000000) ∧ (blw L s).length ≤ 1000000 := by
 refine ⟨?_, blw_pair s hc, fun y hy => ?_, Nat.le_trans (blw_len L s) hl⟩
 · obtain ⟨e, he, hes⟩ := grp_mem.1 hs
   have hpe : preE s (e.1.tail, e.2) = e := by rw [← hes]; exact (cut_head (hne e he)).2
   intro e0
   have : (e.1.tail, e.2) ∈ blw L s := blw_mem.2 (by rw [hpe]; exact he)
   rw [e0] at this; simp at this
 · obtain ⟨h1, h2, h3⟩ := h _ (blw_mem.1 hy)
   have e : (preE s y).1.length = y.1.length + 1 := rfl
   exact ⟨(ok_pre h1).2.2, by omega, by omega⟩
def itsT (n0 : Bool) (T : List (Stp × Dat × Value × Value)) : List (Dat × Value × Value) := if n0 then [] else T.map fun t => t.2
def memT (n0 : Bool) (T : List (Stp × Dat × Value × Value)) : List (List UInt8 × Dat × Value × Value) := if n0 then T.map fun t => (t.1.lab, t.2) else []
def kdOf (n0 : Bool) : Int := if n0 then 6 else 5
theorem made_eq (n0 : Bool) (T : List (Stp × Dat × Value × Value)) : Dat.mk (kdOf n0) 0 [] ((itsT n0 T).map fun t => t.1) ((memT n0 T).map fun t => (t.1, t.2.1)) = madeD n0 (T.map fun t => (t.1, t.2.1)) := by
 cases n0
 · simp only [kdOf, itsT, memT, madeD, Bool.false_eq_true, if_false, List.map_nil]
   rw [List.map_map, List.map_map]; rfl
 · simp only [kdOf, itsT, memT, madeD, if_true, List.map_nil]
   rw [List.map_map, List.map_map]; rfl
theorem itsT_len (n0 : Bool) (T : List (Stp × Dat × Value × Value)) : (itsT n0 T).length ≤ T.length ∧ (memT n0 T).length ≤ T.length := by
 cases n0 <;> simp [itsT, memT]
theorem memT_snoc (T : List (Stp × Dat × Value × Value)) (t : Stp × Dat × Value × Value) : memT true (T ++ [t]) = memT true T ++ [(t.1.lab, t.2)] := by simp [memT]
theorem itsT_snoc (T : List (Stp × Dat × Value × Value)) (t : Stp × Dat × Value × Value) : itsT false (T ++ [t]) = itsT false T ++ [t.2] := by simp [itsT]
theorem bldL_next {F : List Ent → Option Dat} {L : List Ent} {n0 : Bool} {G : List Stp} {i : Nat} {s : Stp} {x : Dat} {xi xm : Value} {T : List (Stp × Dat × Value × Value)} (hI : bldL F L n0 G 0 = (bldL F L n0 (G.drop i) i).map (fun t => T.map (fun t => (t.1, t.2.1)) ++ t))
   (hS : bldL F L n0 (G.drop i) i = if fitB n0 s i = false then none else (F (blw L s)).bind fun x => (bldL F L n0 (G.drop (i + 1)) (i + 1)).map fun t => (s, x) :: t) (hf : fitB n0 s i = true) (hx : F (blw L s) = some x) :
   bldL F L n0 G 0 = (bldL F L n0 (G.drop (i + 1)) (i + 1)).map (fun t => (T ++ [(s, x, xi, xm)]).map (fun t => (t.1, t.2.1)) ++ t) := by
 rw [hI, hS, if_neg (by rw [hf]; decide), hx]
 simp only [Option.bind_some, Option.map_map]
 congr 1
 funext t
 simp
theorem bldL_none {F : List Ent → Option Dat} {L : List Ent} {n0 : Bool} {G : List Stp} {i : Nat} {s : Stp} {T : List (Stp × Dat)} (hI : bldL F L n0 G 0 = (bldL F L n0 (G.drop i) i).map (fun t => T ++ t))
   (hS : bldL F L n0 (G.drop i) i = if fitB n0 s i = false then none else (F (blw L s)).bind fun x => (bldL F L n0 (G.drop (i + 1)) (i + 1)).map fun t => (s, x) :: t) (hf : fitB n0 s i = false ∨ F (blw L s) = none) :
   bldL F L n0 G 0 = none := by
 rw [hI, hS]
 rcases hf with hf | hf
 · rw [if_pos hf]; rfl
 · rw [hf]; split <;> rfl
end
end Go.Proofs.YtoahmganodehkaaGreatDoor
