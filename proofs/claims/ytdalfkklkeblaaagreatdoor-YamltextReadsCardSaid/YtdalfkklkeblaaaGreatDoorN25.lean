import Derived.Test.YtdalfkklkeblaaaGreatDoorN13
import Derived.Test.YtdalfkklkeblaaaGreatDoorN24
namespace Go.Proofs.YtdalfkklkeblaaaGreatDoor
set_option linter.unusedSimpArgs false
set_option linter.unusedVariables false
open Go.RowKit
theorem asc_of {T : List (List UInt8 × Dat × Value × Value)} (h : T.Pairwise fun a b => Op.bytesLess b.1 a.1 = false) (hn : (T.map fun t => t.1).Nodup) : ascP (T.map fun t => (t.1, t.2.1)) := by
 unfold ascP
 rw [List.pairwise_map]
 have h2 : T.Pairwise fun a b => a.1 ≠ b.1 := List.pairwise_map.1 hn
 refine (h.and h2).imp ?_
 rintro a b ⟨h3, h4⟩
 exact less_total (fun e => h4 e.symm) h3
theorem srt_rep {lo Bd N g cap : Nat} {kd : Int} {M T : List (List UInt8 × Dat × Value × Value)} {W W' : World} (h : DtS lo Bd N kd [] M (.slice none 0 0) (.slice (some ⟨g, 0, none⟩) M.length cap) W) (hM : M.length ≤ 1000000) (hp : T.Perm M) (hg : W.grownBy W' (some g))
   (hc : ∀ (j : Nat) (h : j < T.length) (i : Nat), i < 6 → W'.cell? ⟨g, j * 6 + i, none⟩ = (cells6 T[j])[i]?) : Rep W' (fun B => lo ≤ B) (.mk 6 0 [] [] (T.map fun t => (t.1, t.2.1))) (.slice none 0 0) (.slice (some ⟨g, 0, none⟩) M.length cap) := by
 have hl := hp.length_eq
 have hlen : (T.map fun t => (t.1, t.2.1)).length = M.length := by rw [List.length_map, hl]
 have hgW : 0 < M.length → N ≤ g ∧ g < W.heap.size ∧ M.length ≤ cap := fun _ => by
   rcases own_head h.mem with ⟨hv, -⟩ | ⟨g', cap', hv, hb, hcp, hg', -⟩
   · cases hv
   · injection hv with hv1 hv2 hv3
     injection hv1 with hv1
     injection hv1 with hv1
     subst hv1; subst hv3
     exact ⟨hb, hg', hcp⟩
 have := Rep.mk (W := W') (ok := fun B => lo ≤ B) (d := .mk 6 0 [] [] (T.map fun t => (t.1, t.2.1))) none (some ⟨g, 0, none⟩) 0 cap 0 0 g 0 (fun _ => .slice none 0 0) (fun _ => .slice none 0 0) (fun j => (T[j]?.map fun t => t.2.2.1).getD (.slice none 0 0)) (fun j => (T[j]?.map fun t => t.2.2.2).getD (.slice none 0 0))
   ⟨Nat.zero_le _, by show (T.map _).length ≤ maxLen; rw [hlen]; unfold maxLen; omega⟩ (fun h => absurd h (Nat.not_lt_zero _)) (fun j h => absurd h (Nat.not_lt_zero _)) (fun j h => absurd h (Nat.not_lt_zero _))
   (fun h0 => by
     have h0' : 0 < (T.map fun t => (t.1, t.2.1)).length := h0
     rw [hlen] at h0'
     obtain ⟨q1, q2, q3⟩ := hgW h0'
     exact ⟨rfl, by show (T.map _).length ≤ cap; rw [hlen]; exact q3, Nat.lt_of_lt_of_le q2 hg.size, by have := h.nr; omega⟩)
   (fun j hj => by
     have hj' : j < T.length := by simpa using (show j < (T.map fun t => (t.1, t.2.1)).length from hj)
     have e1 : (Dat.mk 6 0 [] [] (T.map fun t => (t.1, t.2.1))).mem[j] = (T[j].1, T[j].2.1) := List.getElem_map (fun t : List UInt8 × Dat × Value × Value => (t.1, t.2.1))
     rw [e1, List.getElem?_eq_getElem hj']
     have c := fun i hi => hc j hj' i hi
     have c0 := c 0 (by omega)
     have c1 := c 1 (by omega)
     have c2 := c 2 (by omega)
     have c3 := c 3 (by omega)
     have c4 := c 4 (by omega)
     have c5 := c 5 (by omega)
     rw [Nat.zero_add]
     exact ⟨c0, ⟨c1, c2, c3, c4, c5⟩⟩)
   (fun j hj => by
     have hj' : j < T.length := by simpa using (show j < (T.map fun t => (t.1, t.2.1)).length from hj)
     have e1 : (Dat.mk 6 0 [] [] (T.map fun t => (t.1, t.2.1))).mem[j] = (T[j].1, T[j].2.1) := List.getElem_map (fun t : List UInt8 × Dat × Value × Value => (t.1, t.2.1))
     rw [e1, List.getElem?_eq_getElem hj']
     have ht : T[j] ∈ M := hp.mem_iff.1 (List.getElem_mem hj')
     exact ((h.gm _ ht).grown hg fun B hB e => hB.2.2.2 e).mono fun B _ hB => hB.1)
 have e2 : (Dat.mk 6 0 [] [] (T.map fun t => (t.1, t.2.1))).mem.length = M.length := hlen
 rw [e2] at this
 exact this
set_option maxRecDepth 100000 in
set_option maxHeartbeats 8000000 in
theorem clean_struct {f : Nat} (hf : f < 16) (ih : ClnIH f) (mem : List (List UInt8 × Dat)) (p q : Option Addr) (cap caq : Nat) {ok : Nat → Prop} {w : World} (hr : Rep w ok (.mk 6 0 [] [] mem) (.slice p 0 cap) (.slice q mem.length caq)) (hn : ∀ t ∈ mem, Neat t.2) (hnd : (mem.map fun t => t.1).Nodup) (hlim : limD (.mk 6 0 [] [] mem) = true) :
   Calls Tryz.prog 65 #[.agg #[.int .i64 6, .int .i64 0, .string (S []), .slice p 0 cap, .slice q mem.length caq], .int .i64 ((17 - (f + 1) : Nat) : Int)] w (ClY w (.mk 6 0 [] [] (sortM (mem.map fun t => (t.1, clnF f t.2))))) := by
 obtain ⟨i0, hi, hz0, hz1, hz2⟩ := info_parts infoMem
 obtain ⟨-, -, l1, -, l2⟩ := lim_iff.1 hlim
 obtain ⟨q', caq', e1, -, hme⟩ := hr.members
 cases e1
 have HME := Lib.hid hme
 have HNE := Lib.hid hn
 have HND := Lib.hid hnd
 have HLI := Lib.hid l2
 have HIH := Lib.hid ih
 have hl : ¬ (16 : Int) < ((17 - (f + 1) : Nat) : Int) := by omega
 have hlv : IntKind.i64.wrap (((17 - (f + 1) : Nat) : Int) + 1) = ((17 - f : Nat) : Int) := by rw [IntKind.wrap_i64]; omega
 have l1' : mem.length ≤ 1000000 := l1
 clear hr hn hnd hlim l2 l1 hme ih
 generalize 17 - (f + 1) = lv at hl hlv ⊢
 have h3 := three_new w #[.int .i64 6, .int .i64 0, .string (S []), .slice p 0 cap, .slice q mem.length caq] #[.int .i64 0, .int .i64 0, .string ⟨#[]⟩, .slice none 0 0, .slice none 0 0] #[.int .i64 6, .int .i64 0, .string ⟨#[]⟩, .slice none 0 0, .slice none 0 0] 25 25 25
 have hS0 : DtS (w.heap.size + 1 + 1) (w.heap.size + 1 + 1) (w.heap.size + 1 + 1 + 1) 6 [] [] (.slice none 0 0) (.slice none 0 0) (((w.alloc (.cells #[.int .i64 6, .int .i64 0, .string (S []), .slice p 0 cap, .slice q mem.length caq] 25)).alloc (.cells #[.int .i64 0, .int .i64 0, .string ⟨#[]⟩, .slice none 0 0, .slice none 0 0] 25)).alloc (.cells #[.int .i64 6, .int .i64 0, .string ⟨#[]⟩, .slice none 0 0, .slice none 0 0] 25)) :=
   ⟨h3.2.2.1, World.ownsRow_nil _ _ _ _, World.ownsRow_nil _ _ _ _, by simp, by simp, ⟨by omega, by omega, by simp⟩⟩
 go_enter Tryz.func65, Tryz.ntmps65
 go_upto_region 2 with fail
 generalize ((w.alloc (.cells #[.int .i64 6, .int .i64 0, .string (S []), .slice p 0 cap, .slice q mem.length caq] 25)).alloc (.cells #[.int .i64 0, .int .i64 0, .string ⟨#[]⟩, .slice none 0 0, .slice none 0 0] 25)).alloc (.cells #[.int .i64 6, .int .i64 0, .string ⟨#[]⟩, .slice none 0 0, .slice none 0 0] 25) = W at h3 hS0 ⊢
 have b0 := h3.1.cell 0
 have b4 := h3.1.cell 4
 simp at b0 b4
 have HS0 := Lib.hid hS0
 have HR0 := Lib.hid h3.2.1
 have HB0 := Lib.hid h3.2.2.2
 clear h3 hS0
 go_wp2_with fail
 clear b0 b4
 go_loopw [53] (fun y wr => ∃ (i : Nat) (M : List (List UInt8 × Dat × Value × Value)) (vm : Value), y = .int .i64 (i : Int) ∧ i ≤ mem.length ∧ Hid (DtS (w.heap.size + 1 + 1) (w.heap.size + 1 + 1) (w.heap.size + 1 + 1 + 1) 6 [] M (.slice none 0 0) vm wr ∧ M.map (fun t => (t.1, t.2.1)) = (mem.take i).map (fun t => (t.1, clnF f t.2))) ∧ Hid (Below w.heap.size w wr) ∧ Hid (Blk wr (w.heap.size + 1) #[.int .i64 0, .int .i64 0, .string ⟨#[]⟩, .slice none 0 0, .slice none 0 0] 25)) (fun y _ => mem.length - (intOf y).toNat)
 case atStart => exact ⟨0, [], _, rfl, Nat.zero_le _, Lib.hid ⟨HS0.out, by simp⟩, HB0, HR0⟩
 case round =>
   clear HS0 HB0 HR0
   obtain ⟨i, M, vm, rfl, hile, HS, HB, HR⟩ := hrel
   have hA : M.length = i := by
     have := congrArg List.length HS.out.2
     rw [List.length_map, List.length_map, List.length_take] at this
     omega
   obtain ⟨vp, vc, hv⟩ := own_form5 HS.out.1.mem
   by_cases hlt : i < mem.length
   · obtain ⟨B, o, xi, xm, rfl, hcap, hBw, hlab, hc, hx⟩ := HME.out i hlt
     obtain ⟨p1, cap1, rfl, -, -⟩ := hx.items
     obtain ⟨q1, caq1, rfl, -, -⟩ := hx.members
     obtain ⟨k0, k1, k2, k3, k4⟩ := hc.below HB.out hBw
     have k5 := (HB.out.cell (p := ⟨B, o + i * 6, none⟩) hBw).trans hlab
     have HNX := Lib.hid (HNE.out _ (List.getElem_mem hlt))
     have HLX := Lib.hid (HLI.out _ (List.getElem_mem hlt))
     have HTK := Lib.hid (show (mem.take (i + 1)).map (fun t => (t.1, clnF f t.2)) = (mem.take i).map (fun t => (t.1, clnF f t.2)) ++ [(mem[i].1, clnF f mem[i].2)] by rw [List.take_succ_eq_append_getElem hlt, List.map_append]; rfl)
     have e1 : (Dat.mk 6 0 [] [] mem).mem[i] = mem[i] := rfl
     have HX := Lib.hid (hx.under HB.out)
     rw [e1] at HX k0 k1 k2 k3 k4 k5
     clear hx hc e1 hlab
     generalize mem[i] = x at HX HNX HLX HTK k0 k1 k2 k3 k4 k5
     obtain ⟨lab, x⟩ := x
     simp only at HX HNX HLX HTK k0 k1 k2 k3 k4 k5
     have hN := Blk.new wr #[.string (S lab), .int .i64 x.k, .int .i64 x.n, .string (S x.s), .slice p1 x.its.length cap1, .slice q1 x.mem.length caq1] 43
     have hbN := (Below.refl wr.heap.size wr).alloc (Nat.le_refl _) (.cells #[.string (S lab), .int .i64 x.k, .int .i64 x.n, .string (S x.s), .slice p1 x.its.length cap1, .slice q1 x.mem.length caq1] 43)
     subst hv
     go_upto_region 20 with fail
     generalize wr.alloc (.cells #[.string (S lab), .int .i64 x.k, .int .i64 x.n, .string (S x.s), .slice p1 x.its.length cap1, .slice q1 x.mem.length caq1] 43) = W3 at hN hbN ⊢
     have n0 := hN.cell 0
     have n1 := hN.cell 1
     have n2 := hN.cell 2
     have n3 := hN.cell 3
     have n4 := hN.cell 4
     have n5 := hN.cell 5
     simp at n0 n1 n2 n3 n4 n5
     have hS3 := HS.out.1.under hbN
     have o3 := hS3.blk.cell 4
     have f3 := hS3.blk.frozen 4
     simp at o3
     have hlo := hS3.blk.lt
     have hln := hN.lt
     have HC := Lib.hid (fun w' (hb : Below W3.heap.size W3 w') => HIH.out x (.slice p1 x.its.length cap1) (.slice q1 x.mem.length caq1) ok w' ((HX.out.under hbN).under hb) HNX.out HLX.out.2)
     have HS3 := Lib.hid hS3
     have HB3 := Lib.hid (HB.out.trans (hbN.mono HB.out.size))
     have HR3 := Lib.hid (HR.out.below hbN)
     have HBD := Lib.hid (below_drew (Below.refl W3.heap.size W3))
     have HKE := Lib.hid (fun w' (hb : Below W3.heap.size W3 w') => (show _ ∧ _ ∧ _ ∧ _ from ⟨(hb.cell (p := ⟨w.heap.size + 1 + 1, 4, none⟩) hlo).trans o3, (hb.frozen (p := ⟨w.heap.size + 1 + 1, 4, none⟩) hlo).trans f3, Nat.lt_of_lt_of_le hlo hb.size, (hb.cell (p := ⟨wr.heap.size, 0, none⟩) hln).trans n0⟩))
     have HNEQ := Lib.hid (show some (w.heap.size + 1 + 1) ≠ (Value.slice vp M.length vc).ownBlock from fun e => by have := (own_ge hS3.mem e.symm).1; omega)
     clear hN hS3 k0 k1 k2 k3 k4 k5 hbN HX
     have HAA := Lib.hid HS.out.2
     have hAm : M.length ≤ 1000000 := by omega
     have HAL := Lib.hid hA
     clear HS HB HR hA
     go_region_law (first
       | (refine step_append_lies _ (by rfl) _ _ _ (by rfl) (w.heap.size + 1 + 1 + 1) 43 i0 (.agg #[.string ⟨#[]⟩, .int .i64 0, .int .i64 0, .string ⟨#[]⟩, .slice none 0 0, .slice none 0 0]) 6 96 Tryz.underlying23 hi hz0 hz1 hz2 rfl (by omega) (.slice vp M.length vc) M.length (flat6 M) (by rfl) (HS9.out.mem.alloc _) ⟨w9.heap.size, 0, none⟩ 1 1 [.string (S lab), .int .i64 c.k, .int .i64 c.n, .string (S c.s), .slice xp c.its.length xc, .slice yp c.mem.length yc] (by rfl) (by rfl) (cells_new_at rfl rfl) (by simp [Value.oneCell']) (by omega) (by unfold maxLen; omega) (by omega) (by have := HS9.out.nr.2.2; simp; omega) _ rfl ?_; intro g5 c5 w10 hown5 hgrow5 hat5 hlt5; obtain ⟨z2, zf, zl⟩ := out_kept2 l9 HNEQ.out o9 f9 hgrow5; have HO5 := Lib.hid hown5; have HG5 := Lib.hid hgrow5; have HA5 := Lib.hid hat5; clear hown5 hgrow5 hat5)
       | (go_simp; go_at_call 65; refine (HC.out _ HBD.out).mono ?_; rintro e w9 ⟨xi, xm, rfl, hrep, hb9⟩; generalize hcx : clnF f x = c at hrep HTK ⊢; obtain ⟨xp, xc, rfl, -, -⟩ := hrep.items; obtain ⟨yp, yc, rfl, -, -⟩ := hrep.members; have hb99 := HBD.out.trans (hb9.mono HBD.out.size); have HS9 := Lib.hid (HS3.out.under hb99); have HB9 := Lib.hid hb99; have HX9 := Lib.hid hrep; obtain ⟨o9, f9, l9, m9⟩ := HKE.out _ hb99; clear hb9 hb99 hrep; unfold dv))
     all_goals
       go_wp2_with fail
       go_roundw
       case rel =>
         have hX9 := HX9.out.mono (ok' := apY (w.heap.size + 1 + 1) (w.heap.size + 1 + 1) (.slice none 0 0) (.slice vp M.length vc)) fun B _ hB => HS3.out.apart (Nat.le_refl _) (Nat.le_trans HBD.out.size hB)
         have hBB := grown_push (Bd := w.heap.size + 1 + 1) (v' := .slice (some ⟨g5, 0, none⟩) (M.length + 1) c5) (below_grown (HB3.out.trans (HB9.out.mono HB3.out.size)) (Nat.le_refl _) none) HS9.out.mem (by omega) HG5.out 4 (by omega)
         refine ⟨i + 1, M ++ [(lab, c, .slice xp c.its.length xc, .slice yp c.mem.length yc)], _, by go_num, hlt, Lib.hid ⟨HS9.out.memb_end hX9 HO5.out HG5.out (HA5.out.imp (fun e => e.symm) fun e => congrArg some e), ?_⟩, Lib.hid (grown_below hBB), Lib.hid ?_⟩
         · rw [List.map_append, HAA.out, HTK.out]; rfl
         · have h1 := ((HR3.out.below HB9.out).alloc _).kept HG5.out (fun e => by have := (own_ge HS9.out.mem e.symm).1; omega)
           exact h1.set_other 4 _ (by omega)
       case measure => simp [intOf]; omega
   · obtain rfl : i = mem.length := by omega
     have hm : M.map (fun t => (t.1, t.2.1)) = mem.map (fun t => (t.1, clnF f t.2)) := by rw [HS.out.2, List.take_length]
     have hMl : M.length ≤ 1000000 := by omega
     have HM := Lib.hid hm
     subst hv
     have o0 := HS.out.1.blk.cell 0
     have o1 := HS.out.1.blk.cell 1
     have o2 := HS.out.1.blk.cell 2
     have o3 := HS.out.1.blk.cell 3
     have o4 := HS.out.1.blk.cell 4
     simp at o0 o1 o2 o3 o4
     have hAA := Lib.hid hA
     clear hm hlt hA
     -- the sort
     have HSRT : Hid (Calls Tryz.prog 93 #[.slice vp M.length vc, .func (.func 94) #[] #[]] wr fun e W' => e = .returned (.tuple #[]) ∧
         Rep W' (fun B => w.heap.size + 1 + 1 ≤ B) (.mk 6 0 [] [] (sortM (mem.map fun t => (t.1, clnF f t.2)))) (.slice none 0 0) (.slice vp M.length vc) ∧ Below w.heap.size w W' ∧ Blk W' (w.heap.size + 1) #[.int .i64 0, .int .i64 0, .string ⟨#[]⟩, .slice none 0 0, .slice none 0 0] 25 ∧ Blk W' (w.heap.size + 1 + 1) #[.int .i64 6, .int .i64 0, .string ⟨#[]⟩, .slice none 0 0, .slice vp M.length vc] 25) := Lib.hid (by
       rcases Nat.eq_zero_or_pos M.length with h0 | h0
       · have e0 : M = [] := List.length_eq_zero_iff.1 h0
         have em : mem = [] := by have := hAA.out; exact List.length_eq_zero_iff.1 (by omega)
         have hR := HS.out.1.rep ⟨by simp, by omega⟩
         have hBk := HS.out.1.blk
         subst e0
         subst em
         refine (sortNone_any vp vc _ wr).mono ?_
         rintro e w' ⟨rfl, rfl⟩
         exact ⟨rfl, hR, HB.out, HR.out, hBk⟩
       · rcases own_head HS.out.1.mem with ⟨-, h00⟩ | ⟨g, cp, hvv, hgb, -, hgw, hob⟩
         · omega
         · have hvp : vp = some ⟨g, 0, none⟩ := by injection hvv
           subst hvp
           have hown := HS.out.1.mem
           refine (sortMbr_any hown (fun t ht => (HS.out.1.gm t ht).one) hMl).mono ?_
           rintro e w' ⟨rfl, T, hp, hs, hg, hc⟩
           have hnd : (T.map fun t => t.1).Nodup := by
             refine (hp.map fun t => t.1).nodup_iff.2 ?_
             have h5 := congrArg (List.map fun t : List UInt8 × Dat => t.1) HM.out
             rw [List.map_map, List.map_map] at h5
             have h6 : M.map (fun t => t.1) = mem.map fun t => t.1 := h5
             rw [h6]; exact HND.out
           have hT : sortM (mem.map fun t => (t.1, clnF f t.2)) = T.map fun t => (t.1, t.2.1) := by
             refine sort_is ?_ (asc_of hs hnd)
             rw [← HM.out]
             exact hp.map _
           rw [hT]
           refine ⟨rfl, srt_rep HS.out.1 hMl hp hg hc, ?_, ?_, ?_⟩
           · exact HB.out.grown hg HB.out.size fun k hk => by injection hk with hk; subst hk; omega
           · exact HR.out.kept hg fun e => by injection e with e; omega
           · exact HS.out.1.blk.kept hg fun e => by injection e with e; omega)
     clear HS HR
     go_wp2_with fail
     refine HSRT.out.mono ?_
     rintro e w9 ⟨rfl, hrep, hbb, hRb, hOb⟩
     have HRR := Lib.hid hrep
     have HBB := Lib.hid hbb
     have z0 := hRb.cell 0
     have z1 := hRb.cell 1
     have z2 := hRb.cell 2
     have z3 := hRb.cell 3
     have z4 := hRb.cell 4
     have y0 := hRb.frozen 0
     have y1 := hRb.frozen 1
     have y2 := hRb.frozen 2
     have y3 := hRb.frozen 3
     have y4 := hRb.frozen 4
     clear o0 o1 o2 o3 o4
     have o0 := hOb.cell 0
     have o1 := hOb.cell 1
     have o2 := hOb.cell 2
     have o3 := hOb.cell 3
     have o4 := hOb.cell 4
     simp at o0 o1 o2 o3 o4 z0 z1 z2 z3 z4
     have hlw := hRb.lt
     clear hrep hbb hRb hOb HSRT
     go_wp2_with fail
     refine bodyPost_ret (v := dv (.mk 6 0 [] [] (sortM (mem.map fun t => (t.1, clnF f t.2)))) (.slice none 0 0) (.slice vp M.length vc)) (by simp [results, Tryz.results65, go_sem, dv, Dat.k, Dat.n, Dat.s, show S [] = ⟨#[]⟩ from rfl, z0, z1, z2, z3, z4, y0, y1, y2, y3, y4, hlw]) rfl ⟨_, _, rfl, ?_, ?_⟩
     · refine Rep.mono (fun B _ hB => ?_) (((((HRR.out.set _ _ fun B hB => ?_).set _ _ fun B hB => ?_).set _ _ fun B hB => ?_).set _ _ fun B hB => ?_).set _ _ fun B hB => ?_)
       · omega
       all_goals (show w.heap.size + 1 ≠ B; omega)
     · have hbw := HBB.out
       go_grown
       all_goals exact hbw
end Go.Proofs.YtdalfkklkeblaaaGreatDoor
