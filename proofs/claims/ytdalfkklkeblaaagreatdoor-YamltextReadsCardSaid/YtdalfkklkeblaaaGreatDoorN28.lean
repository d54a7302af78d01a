import Derived.Deep.QuietTactic
import Derived.Deep.DeepCutAuto
import Derived.Test.YtdalfkklkeblaaaGreatDoorN27
namespace Go.Proofs.YtdalfkklkeblaaaGreatDoor
set_option linter.unusedSimpArgs false
set_option linter.unusedVariables false
open Go.RowKit
theorem kind_ne {item : Bool} {kd : Int} (h : item ≠ decide (kd = 5)) : (item == (kd == 5)) = false := beq_eq_false_iff_ne.2 h
theorem kind_eq {item : Bool} {kd : Int} (h : item = decide (kd = 5)) : (item == (kd == 5)) = true := beq_iff_eq.2 h
set_option maxRecDepth 100000 in
set_option maxHeartbeats 16000000 in
theorem rblk_any {Br lo : Nat} {lv : Value} {L : List Ln} {many : Nat} {ws : World} (hws : ws.heap.size ≤ Br) (hSt : StOk ws) (hBr : Br < lo) (hL : L.length ≤ 1000000) (hmany : many ≤ 2000000) (htx : ∀ x ∈ L, x.txt ≠ [] ∧ x.txt.length ≤ 1000000 ∧ x.ind ≤ 1000000 ∧ x.no ≤ 2000000) (n : Nat) : ∀ (i a0 : Nat) (w : World), L.length - a0 < n → a0 ≤ L.length → i + 2 * (L.length - a0) ≤ 4000000 → RdB w Br lv a0 many 0 0 → LnR w lo lv L → Below ws.heap.size ws w →
   Calls Tryz.prog 64 #[.pointer (some ⟨Br, 0, none⟩), .int .i64 (i : Int)] w (RbP w Br lv L.length many (blkR many i 0 [] [] (L.drop a0))) := by
 induction n with
 | zero => intro i a0 w h; exact absurd h (Nat.not_lt_zero _)
 | succ n ih =>
   intro i a0 w hn ha0 hi4 hrd hln hbs
   obtain ⟨i0, hi, hz0, hz1, hz2⟩ := info_parts infoDat
   obtain ⟨i1, hi', hy0, hy1, hy2⟩ := info_parts infoMem
   obtain ⟨lp, lc, LB, hlv, -⟩ := id hln
   subst hlv
   have hBw := hrd.lt
   have HLN0 := Lib.hid hln
   have hS0 : RbS w Br lo (.slice lp L.length lc) L many i (blkR many i 0 [] [] (L.drop a0)) a0 0 [] [] (.slice none 0 0) (.slice none 0 0) ((w.alloc (.cells #[.int .i64 0, .int .i64 0, .string ⟨#[]⟩, .slice none 0 0, .slice none 0 0] 25)).alloc (.cells #[.int .i64 0, .int .i64 0, .string ⟨#[]⟩, .slice none 0 0, .slice none 0 0] 25)) := by
     have h2 := val_two w #[.int .i64 0, .int .i64 0, .string ⟨#[]⟩, .slice none 0 0, .slice none 0 0] #[.int .i64 0, .int .i64 0, .string ⟨#[]⟩, .slice none 0 0, .slice none 0 0] 25 25
     exact ⟨hrd.below h2.2.2, ⟨h2.2.1, World.ownsRow_nil _ _ _ _, World.ownsRow_nil _ _ _ _, by simp, by simp, ⟨Nat.le_refl _, by omega, by simp⟩⟩, h2.1, hln.under h2.2.2, below_grown h2.2.2 (Nat.le_refl _) _, rfl, ha0, Nat.zero_le _, fun _ => ⟨rfl, rfl⟩⟩
   have HBS := Lib.hid (fun W (h : w.grownBy W (some Br)) => (show Below ws.heap.size ws W from hbs.grown h hbs.size fun k hk => by injection hk with hk; omega))
   have HST := Lib.hid hSt
   have HIH := Lib.hid ih
   have HTX := Lib.hid htx
   generalize hR : blkR many i 0 [] [] (L.drop a0) = R at hS0 ⊢
   have HS0 := Lib.hid hS0
   clear hR hS0 ih hrd hln hbs hSt htx
   go_enter Tryz.func64, Tryz.ntmps64
   go_wp2_with fail
   go_step3
   go_wp2_with fail
   go_step3
   go_wp2_with fail
   generalize (w.alloc (.cells #[.int .i64 0, .int .i64 0, .string ⟨#[]⟩, .slice none 0 0, .slice none 0 0] 25)).alloc (.cells #[.int .i64 0, .int .i64 0, .string ⟨#[]⟩, .slice none 0 0, .slice none 0 0] 25) = W at HS0 ⊢
   go_loopg [] (L.length - a0) (fun kx wr => ∃ (a : Nat) (kd : Int) (A : List (Dat × Value × Value)) (M : List (List UInt8 × Dat × Value × Value)) (vi vm : Value), L.length - a ≤ kx ∧ a0 ≤ a ∧ Hid (RbS w Br lo (.slice lp L.length lc) L many i R a kd A M vi vm wr))
   case atStart => exact ⟨a0, 0, [], [], _, _, Nat.le_refl _, Nat.le_refl _, HS0⟩
   case round =>
     clear HS0
     obtain ⟨a, kd, A, M, vi, vm, hkx, haa, HS⟩ := hrel
     obtain ⟨ip, ic, rfl⟩ := own_form5 HS.out.dt.its
     obtain ⟨mp, mc, rfl⟩ := own_form5 HS.out.dt.mem
     obtain ⟨⟨c0, c1, c2, c3, c4⟩, ⟨f0, f1, f2, f3, f4⟩, hBl⟩ := HS.out.rd.facts
     go_upto_region 2 with fail
     go_quiet (fail)
     have HS1 := Lib.hid (HS.out.below (below_drewN (Below.refl wr.heap.size wr) nq))
     clear HS c0 c1 c2 c3 c4 f0 f1 f2 f3 f4 hBl
     generalize wr.drewN nq = W1 at HS1 ⊢
     by_cases hlt : a < L.length
     · obtain ⟨lp', lc', LB', e1, hcl⟩ := HS1.out.ln
       cases e1
       obtain ⟨rfl, hlo, hcap, hLB, x0, x1, x2⟩ := hcl a hlt
       obtain ⟨t1, t2, t3, t4⟩ := HTX.out _ (List.getElem_mem hlt)
       have HDR := Lib.hid (show L.drop a = L[a] :: L.drop (a + 1) from List.drop_eq_getElem_cons hlt)
       generalize L[a] = x at x0 x1 x2 t1 t2 t3 t4 HDR
       clear hcl
       have HEQ := Lib.hid (show R = blkR many i kd (A.map fun t => t.1) (M.map fun t => (t.1, t.2.1)) (x :: L.drop (a + 1)) by rw [HS1.out.eq, HDR.out])
       have HDL := Lib.hid (show (x :: L.drop (a + 1)).length = L.length - a by rw [← HDR.out, List.length_drop])
       obtain ⟨⟨c0, c1, c2, c3, c4⟩, ⟨f0, f1, f2, f3, f4⟩, hBl⟩ := HS1.out.rd.facts
       have hN := Blk.new W1 #[.int .i64 (x.ind : Int), .string (S x.txt), .int .i64 (x.no : Int)] 87
       have HN := Lib.hid hN
       have HSN := Lib.hid (HS1.out.below (alloc_below W1 (.cells #[.int .i64 (x.ind : Int), .string (S x.txt), .int .i64 (x.no : Int)] 87)))
       have g0 : (a : Int) < (L.length : Int) := by omega
       clear hN
       go_upto_region 3 with fail
       go_cut [7] (fun v wx => ∃ Bx, v = .pointer (some ⟨Bx, 0, none⟩) ∧ Hid (RbS w Br lo (.slice (some ⟨LB', 0, none⟩) L.length lc) L many i R a kd A M (.slice ip A.length ic) (.slice mp M.length mc) wx) ∧ Hid (Blk wx Bx #[.int .i64 (x.ind : Int), .string (S x.txt), .int .i64 (x.no : Int)] 87))
       case first =>
         go_region
         all_goals
           go_wp2_with fail
           go_meet
           exact ⟨_, rfl, Lib.hid (HSN.out.below (below_drew (Below.refl _ _))), Lib.hid (blk_drew HN.out)⟩
       case rest =>
         clear HN HSN HS1 x0 x1 x2 c0 c1 c2 c3 c4 f0 f1 f2 f3 f4 hBl hLB
         obtain ⟨Bx, rfl, HS2, HX2⟩ := hcut
         have bx0 := HX2.out.cell 0
         have bx1 := HX2.out.cell 1
         have bx2 := HX2.out.cell 2
         simp at bx0 bx1 bx2
         have hbx := HX2.out.lt
         obtain ⟨o0, o1, o2, o3, o4, hol⟩ := dt_cells HS2.out.dt
         by_cases hA : x.ind < i ∧ kd ≠ 0
         · have g1 : (x.ind : Int) < (i : Int) := by omega
           have g1' := decide_eq_true g1
           have g2 : (kd != 0) = true := by simpa using hA.2
           have g3 : (kd == 0) = false := by simpa using hA.2
           have g4 := hA.2
           have HRR : Hid (∃ rest : List Ln, rest.length = L.length - a ∧ R = .ok (.mk kd 0 [] (A.map fun t => t.1) (M.map fun t => (t.1, t.2.1)), rest)) := Lib.hid ⟨x :: L.drop (a + 1), HDL.out, by rw [HEQ.out, blkR_cons, if_pos hA]⟩
           clear hA HEQ HDL o0 o1 o2 o3 o4 hol
           obtain ⟨o0, o1, o2, o3, o4, hol⟩ := dt_cells HS2.out.dt
           obtain ⟨⟨z0, z1, z2, z3, z4⟩, ⟨y0, y1, y2, y3, y4⟩, hlw⟩ := zero_cells HS2.out.res
           go_wp2_with fail
           refine bodyPost_ret (v := .tuple #[.agg #[.int .i64 kd, .int .i64 0, .string ⟨#[]⟩, .slice ip A.length ic, .slice mp M.length mc], .bool true]) (by simp [results, Tryz.results64, go_sem, z0, z1, z2, z3, z4, y0, y1, y2, y3, y4, hlw]) rfl ?_
           exact HS2.out.fin hBw hL HRR.out _ _ _ _ _
         · by_cases hind : x.ind = i
           · have g1 : ¬ (x.ind : Int) < (i : Int) := by omega
             have g1' := decide_eq_false g1
             have g5 : ((x.ind : Int) != (i : Int)) = false := by simp [hind]
             have HEQ2 := Lib.hid (show R = match divY x.txt with
               | none => .error (19, x.no)
               | some (item, l, w) =>
                 if kd ≠ 0 ∧ item ≠ decide (kd = 5) then .error (19, x.no)
                 else if item = false ∧ l ∈ (M.map fun t => (t.1, t.2.1)).map (fun p => p.1) then .error (6, x.no)
                 else match orY w (L.drop (a + 1)) (blkR many (i + 2) 0 [] [] (L.drop (a + 1))) with
                   | .error e => .error e
                   | .ok (d, r') => if item = true then blkR many i 5 ((A.map fun t => t.1) ++ [d]) (M.map fun t => (t.1, t.2.1)) r' else blkR many i 6 (A.map fun t => t.1) ((M.map fun t => (t.1, t.2.1)) ++ [(l, d)]) r' by
               rw [HEQ.out, blkR_cons, if_neg hA, if_neg (fun h => h hind)]
               cases divY x.txt with
               | none => rfl
               | some q => obtain ⟨q1, q2, q3⟩ := q; rfl)
             have HSK := Lib.hid (HST.out.below (HBS.out wc HS2.out.gr))
             clear hA hind HEQ o1 o2 o3 o4 hol
             go_wp2_with fail
             refine (divide_any x.txt t1 t2 wc HSK.out).mono ?_
             rintro e w3 ⟨item, whole, lab, dk, dn, ds, rfl, hdv, hb⟩
             generalize divY x.txt = r at HEQ2 hdv ⊢
             have hP := Blk.new w3 #[.bool item, .bool whole, .string (S lab), .int .i64 dk, .int .i64 dn, .string (S ds), .slice none 0 0, .slice none 0 0] 127
             have hbP := alloc_below w3 (.cells #[.bool item, .bool whole, .string (S lab), .int .i64 dk, .int .i64 dn, .string (S ds), .slice none 0 0, .slice none 0 0] 127)
             have HS3 := Lib.hid ((HS2.out.below hb).below hbP)
             have HX3 := Lib.hid ((HX2.out.below hb).below hbP)
             have HSW := Lib.hid (HS2.out.below hb)
             have HG3 := Lib.hid (below_grown hbP (Nat.le_refl _) (some Br))
             have HPB := Lib.hid hP
             have hw3 : w.heap.size + 1 < w3.heap.size := (HS2.out.below hb).dt.blk.lt
             clear bx0 bx1 bx2 hbx HS2 HX2 HSK hb hP hbP o0
             go_upto_region 8 with fail
             generalize hW3 : w3.alloc (.cells #[.bool item, .bool whole, .string (S lab), .int .i64 dk, .int .i64 dn, .string (S ds), .slice none 0 0, .slice none 0 0] 127) = W3 at HS3 HX3 HPB HG3 ⊢
             clear hW3
             have bx2 := HX3.out.cell 2
             simp at bx2
             have hbx := HX3.out.lt
             cases r with
             | none =>
               have HER := Lib.hid (show R = .error (19, x.no) from HEQ2.out)
               simp only [Option.isSome_none]
               clear HEQ2 hdv
               have HSF := Lib.hid (fun W' (hb : Below W3.heap.size W3 W') => HS3.out.below hb)
               have HBD := Lib.hid (below_drew (Below.refl W3.heap.size W3))
               obtain ⟨o0, o1, o2, o3, o4, hol⟩ := dt_cells HS3.out.dt
               obtain ⟨⟨z0, z1, z2, z3, z4⟩, ⟨y0, y1, y2, y3, y4⟩, hlw⟩ := zero_cells HS3.out.res
               go_upto_region 9 with fail
               go_region_with (go_at_call 63; refine (fail_any (HSF.out _ HBD.out).rd 19 x.no).mono ?_; rintro e w9 ⟨rfl, hrd, hg⟩; have HF9 := Lib.hid ((HSF.out _ HBD.out).fault hBw hrd hg); clear o0 o1 o2 o3 o4 hol z0 z1 z2 z3 z4 y0 y1 y2 y3 y4 hlw hrd hg; obtain ⟨o0, o1, o2, o3, o4, hol⟩ := dt_cells HF9.out.dt; obtain ⟨⟨z0, z1, z2, z3, z4⟩, ⟨y0, y1, y2, y3, y4⟩, hlw⟩ := zero_cells HF9.out.res)
               all_goals
                 go_wp2_with fail
                 refine bodyPost_ret (v := .tuple #[.agg #[.int .i64 kd, .int .i64 0, .string ⟨#[]⟩, .slice ip A.length ic, .slice mp M.length mc], .bool false]) (by simp [results, Tryz.results64, go_sem, z0, z1, z2, z3, z4, y0, y1, y2, y3, y4, hlw]) rfl ?_
                 exact HF9.out.fin hBw HER.out _ _ _ _ _
             | some q =>
               obtain ⟨it, l, dw⟩ := q
               obtain ⟨rfl, rfl, rfl, hdx⟩ := hdv it l dw rfl
               simp only [Option.isSome_some]
               clear hdv
               have pb0 := HPB.out.cell 0
               have pb2 := HPB.out.cell 2
               simp at pb0 pb2
               have hpl := HPB.out.lt
               have hMl : M.length ≤ 1000000 := by have := HS3.out.few; have := HS3.out.le; omega
               by_cases hq : kd ≠ 0 ∧ item ≠ decide (kd = 5)
               · have HER := Lib.hid (show R = .error (19, x.no) by rw [HEQ2.out]; exact if_pos hq)
                 have k1 : (kd != 0) = true := by simpa using hq.1
                 have k3 := kind_ne hq.2
                 have k2 : (item != (kd == 5)) = true := by show (!(item == (kd == 5))) = true; rw [k3]; rfl
                 clear HEQ2 hq pb2
                 obtain ⟨o0', -⟩ := dt_cells HS3.out.dt
                 have HSF := Lib.hid (fun W' (hb : Below W3.heap.size W3 W') => HS3.out.below hb)
                 have HBD := Lib.hid (below_drew (Below.refl W3.heap.size W3))
                 obtain ⟨o0, o1, o2, o3, o4, hol⟩ := dt_cells HS3.out.dt
                 obtain ⟨⟨z0, z1, z2, z3, z4⟩, ⟨y0, y1, y2, y3, y4⟩, hlw⟩ := zero_cells HS3.out.res
                 go_upto_region 9 with fail
                 go_region_with (go_at_call 63; refine (fail_any (HSF.out _ HBD.out).rd 19 x.no).mono ?_; rintro e w9 ⟨rfl, hrd, hg⟩; have HF9 := Lib.hid ((HSF.out _ HBD.out).fault hBw hrd hg); clear o0 o1 o2 o3 o4 hol z0 z1 z2 z3 z4 y0 y1 y2 y3 y4 hlw hrd hg; obtain ⟨o0, o1, o2, o3, o4, hol⟩ := dt_cells HF9.out.dt; obtain ⟨⟨z0, z1, z2, z3, z4⟩, ⟨y0, y1, y2, y3, y4⟩, hlw⟩ := zero_cells HF9.out.res)
                 all_goals
                   go_wp2_with fail
                   refine bodyPost_ret (v := .tuple #[.agg #[.int .i64 kd, .int .i64 0, .string ⟨#[]⟩, .slice ip A.length ic, .slice mp M.length mc], .bool false]) (by simp [results, Tryz.results64, go_sem, z0, z1, z2, z3, z4, y0, y1, y2, y3, y4, hlw]) rfl ?_
                   exact HF9.out.fin hBw HER.out _ _ _ _ _
               · go_cut [70] (fun v wx => v = .bool false ∧ wx = W3)
                 case first =>
                   obtain ⟨o0, -⟩ := dt_cells HS3.out.dt
                   by_cases hk0 : kd = 0
                   · have k1 : (kd != 0) = false := by simpa using hk0
                     clear hq hk0 HEQ2
                     go_wp2_with fail
                     go_meet
                     exact ⟨rfl, rfl⟩
                   · have k1 : (kd != 0) = true := by simpa using hk0
                     have k3 := kind_eq (Classical.byContradiction fun h => hq ⟨hk0, h⟩ : item = decide (kd = 5))
                     have k2 : (item != (kd == 5)) = false := by show (!(item == (kd == 5))) = false; rw [k3]; rfl
                     clear hq hk0 HEQ2
                     go_wp2_with fail
                     go_meet
                     exact ⟨rfl, rfl⟩
                 case rest =>
                   obtain ⟨rfl, hwc⟩ := hcut
                   rw [hwc]
                   clear hwc
                   have HKI := Lib.hid (show kd = 0 ∨ item = decide (kd = 5) from by
                     rcases Classical.em (kd = 0) with h | h
                     · exact .inl h
                     · exact .inr (Classical.byContradiction fun h2 => hq ⟨h, h2⟩))
                   have HEQ3 := Lib.hid (HEQ2.out.trans (if_neg hq))
                   clear HEQ2 hq
                   go_upto_region 10 with fail
                   go_cut [84] (fun v wx => v = .bool (!item && decide (lab ∈ M.map fun t => t.1)) ∧ Hid (Below W3.heap.size W3 wx))
                   case first =>
                     obtain ⟨o0, o1, o2, o3, o4, hol⟩ := dt_cells HS3.out.dt
                     have HHA := Lib.hid (has_any HS3.out.dt lab w3.heap.size pb2 hpl hMl)
                     cases item with
                     | true =>
                       go_wp2_with fail
                       go_meet
                       exact ⟨rfl, Lib.hid (Below.refl _ _)⟩
                     | false =>
                       generalize hg : decide (lab ∈ M.map fun t => t.1) = hb1 at HHA ⊢
                       have HG := Lib.hid hg
                       clear hg
                       go_wp2_with fail
                       refine HHA.out.mono ?_
                       rintro e w4 ⟨rfl, hb⟩
                       have HB4 := Lib.hid hb
                       clear hb
                       go_wp2_with fail
                       go_meet
                       exact ⟨by rw [HG.out]; cases hb1 <;> rfl, HB4⟩
                   case rest =>
                     obtain ⟨rfl, HB4⟩ := hcut
                     have HS4 := Lib.hid (HS3.out.below HB4.out)
                     have HX4 := Lib.hid (HX3.out.below HB4.out)
                     have HP4 := Lib.hid (HPB.out.below HB4.out)
                     have HG4 := Lib.hid (grown_then HG3.out HB4.out)
                     clear bx2 hbx pb0 pb2 hpl HS3 HX3 HPB HB4
                     have bx2 := HX4.out.cell 2
                     simp at bx2
                     have hbx := HX4.out.lt
                     have HLE := Lib.hid (show (M.map fun t => (t.1, t.2.1)).map (fun p => p.1) = M.map fun t => t.1 by rw [List.map_map]; rfl)
                     by_cases hlm : item = false ∧ lab ∈ M.map fun t => t.1
                     · have HER := Lib.hid (show R = .error (6, x.no) by rw [HEQ3.out]; exact if_pos ⟨hlm.1, by rw [HLE.out]; exact hlm.2⟩)
                       have hbT : (!item && decide (lab ∈ M.map fun t => t.1)) = true := by rw [hlm.1, decide_eq_true hlm.2]; rfl
                       rw [hbT]
                       clear HEQ3 hlm hbT HLE
                       have HSF := Lib.hid (fun W' (hb : Below wc.heap.size wc W') => HS4.out.below hb)
                       have HBD := Lib.hid (below_drew (Below.refl wc.heap.size wc))
                       obtain ⟨o0, o1, o2, o3, o4, hol⟩ := dt_cells HS4.out.dt
                       obtain ⟨⟨z0, z1, z2, z3, z4⟩, ⟨y0, y1, y2, y3, y4⟩, hlw⟩ := zero_cells HS4.out.res
                       go_upto_region 11 with fail
                       go_region_with (go_at_call 63; refine (fail_any (HSF.out _ HBD.out).rd 6 x.no).mono ?_; rintro e w9 ⟨rfl, hrd, hg⟩; have HF9 := Lib.hid ((HSF.out _ HBD.out).fault hBw hrd hg); clear o0 o1 o2 o3 o4 hol z0 z1 z2 z3 z4 y0 y1 y2 y3 y4 hlw hrd hg; obtain ⟨o0, o1, o2, o3, o4, hol⟩ := dt_cells HF9.out.dt; obtain ⟨⟨z0, z1, z2, z3, z4⟩, ⟨y0, y1, y2, y3, y4⟩, hlw⟩ := zero_cells HF9.out.res)
                       all_goals
                         go_wp2_with fail
                         refine bodyPost_ret (v := .tuple #[.agg #[.int .i64 kd, .int .i64 0, .string ⟨#[]⟩, .slice ip A.length ic, .slice mp M.length mc], .bool false]) (by simp [results, Tryz.results64, go_sem, z0, z1, z2, z3, z4, y0, y1, y2, y3, y4, hlw]) rfl ?_
                         exact HF9.out.fin hBw HER.out _ _ _ _ _
                     · have HEQ4 := Lib.hid (HEQ3.out.trans (if_neg (fun h => hlm ⟨h.1, by have := h.2; rw [HLE.out] at this; exact this⟩)))
                       have hbF : (!item && decide (lab ∈ M.map fun t => t.1)) = false := by
                         cases item with
                         | true => rfl
                         | false => rw [decide_eq_false (fun h => hlm ⟨rfl, h⟩)]; rfl
                       rw [hbF]
                       have HNL := Lib.hid (show item = true ∨ lab ∉ M.map fun t => t.1 from by
                         cases item with
                         | true => exact .inl rfl
                         | false => exact .inr fun h => hlm ⟨rfl, h⟩)
                       clear HEQ3 hlm hbF HLE bx2 hbx HX4
                       obtain ⟨⟨-, c1, -⟩, ⟨-, f1, -⟩, hBl⟩ := HS4.out.rd.facts
                       obtain ⟨hF5, hL5⟩ := HS4.out.next hBw hBr
                       have hP5 := HP4.out.set_other 1 (.int .i64 ((a : Int) + 1)) (show Br ≠ w3.heap.size by omega)
                       have hfew := HS4.out.few
                       have hG5 := grown_set HG4.out ⟨Br, 1, none⟩ (.int .i64 ((a : Int) + 1)) (.inr rfl)
                       have HZE := Lib.hid HS4.out.zero
                       have ha1 : (a : Int) + 1 ≤ 2000000 := by omega
                       clear HS4 HP4
                       go_upto_region 13 with fail
                       generalize hW5 : wc.setCell ⟨Br, 1, none⟩ (.int .i64 ((a : Int) + 1)) = W5 at hF5 hL5 hP5 hG5 ⊢
                       clear hW5 c1 f1 hBl
                       have HF5 := Lib.hid hF5
                       have HL5 := Lib.hid hL5
                       have HP5 := Lib.hid hP5
                       have HG5 := Lib.hid hG5
                       clear hF5 hL5 hP5 hG5
                       have hi2 : (i : Int) + 2 ≤ 4000002 := by omega
                       have pb1 := HP5.out.cell 1
                       simp at pb1
                       have hpl := HP5.out.lt
                       have HHW := Lib.hid (HSW.out.rd.lt)
                       cases dw with
                       | none =>
                         clear hdx
                         have HCL := Lib.hid (show Calls Tryz.prog 64 #[.pointer (some ⟨Br, 0, none⟩), .int .i64 ((i : Int) + 2)] W5 (RbP W5 Br (.slice (some ⟨LB', 0, none⟩) L.length lc) L.length many (blkR many (i + 2) 0 [] [] (L.drop (a + 1)))) from HIH.out (i + 2) (a + 1) W5 (by omega) (by omega) (by omega) HF5.out.rd HL5.out (HBS.out W5 HF5.out.gr))
                         have HEQ5 := Lib.hid (show R = match blkR many (i + 2) 0 [] [] (L.drop (a + 1)) with | .error e => .error e | .ok (d, r') => if item = true then blkR many i 5 ((A.map fun t => t.1) ++ [d]) (M.map fun t => (t.1, t.2.1)) r' else blkR many i 6 (A.map fun t => t.1) ((M.map fun t => (t.1, t.2.1)) ++ [(lab, d)]) r' from HEQ4.out)
                         have HSF := Lib.hid (fun d r' (h : blkR many (i + 2) 0 [] [] (L.drop (a + 1)) = .ok (d, r')) => suf_drop (blkR_end h) (by omega))
                         generalize blkR many (i + 2) 0 [] [] (L.drop (a + 1)) = q5 at HCL HEQ5 HSF
                         clear HEQ4
                         go_wp2_with fail
                         refine HCL.out.mono ?_
                         rintro e w6 ⟨hg6, h6⟩
                         have HP6 := Lib.hid (HP5.out.kept hg6 (fun e => by injection e; omega))
                         obtain ⟨⟨p0, p1, p2, p3, p4, p5, p6, p7⟩, ⟨r0, r1, r2, r3, r4, r5, r6, r7⟩, hpl⟩ := parts_cells HP6.out
                         clear pb1 HCL
                         cases q5 with
                         | error q =>
                           obtain ⟨q1, q2⟩ := q
                           obtain ⟨k6, s6, ip6, il6, ic6, mp6, ml6, mc6, a6, rfl, hrd6⟩ := h6
                           have HER := Lib.hid (show R = .error (q1, q2) from HEQ5.out)
                           have HF7 := Lib.hid (HSW.out.away hBw HG5.out hg6 hrd6 (Nat.le_refl _) (.int .i64 k6) (.int .i64 0) (.string (S s6)) (.slice ip6 il6 ic6) (.slice mp6 ml6 mc6))
                           unfold put5 at HF7
                           clear HEQ5 HSF HP6 hg6 hrd6
                           go_upto_region 15 with fail
                           generalize hW7 : ((((w6.setCell ⟨w3.heap.size, 3, none⟩ (.int .i64 k6)).setCell ⟨w3.heap.size, 4, none⟩ (.int .i64 0)).setCell ⟨w3.heap.size, 5, none⟩ (.string (S s6))).setCell ⟨w3.heap.size, 6, none⟩ (.slice ip6 il6 ic6)).setCell ⟨w3.heap.size, 7, none⟩ (.slice mp6 ml6 mc6) = W7 at HF7 ⊢
                           clear hW7 p0 p1 p2 p3 p4 p5 p6 p7 r0 r1 r2 r3 r4 r5 r6 r7
                           obtain ⟨o0, o1, o2, o3, o4, hol⟩ := dt_cells HF7.out.dt
                           obtain ⟨⟨z0, z1, z2, z3, z4⟩, ⟨y0, y1, y2, y3, y4⟩, hlw⟩ := zero_cells HF7.out.res
                           go_wp2_with fail
                           refine bodyPost_ret (v := .tuple #[.agg #[.int .i64 kd, .int .i64 0, .string ⟨#[]⟩, .slice ip A.length ic, .slice mp M.length mc], .bool false]) (by simp [results, Tryz.results64, go_sem, z0, z1, z2, z3, z4, y0, y1, y2, y3, y4, hlw]) rfl ?_
                           exact HF7.out.fin hBw HER.out _ _ _ _ _
                         | ok q =>
                           obtain ⟨d, r'⟩ := q
                           obtain ⟨xi, xm, rfl, hx, hrd6⟩ := h6
                           obtain ⟨hr', ha1', ha2'⟩ := HSF.out d r' rfl
                           have HEQ6 := Lib.hid (show R = if item = true then blkR many i 5 ((A.map fun t => t.1) ++ [d]) (M.map fun t => (t.1, t.2.1)) (L.drop (L.length - r'.length)) else blkR many i 6 (A.map fun t => t.1) ((M.map fun t => (t.1, t.2.1)) ++ [(lab, d)]) (L.drop (L.length - r'.length)) from HEQ5.out.trans (by rw [← hr']))
                           obtain ⟨xp, xc, rfl, -, -⟩ := hx.items
                           obtain ⟨yp, yc, rfl, -, -⟩ := hx.members
                           clear HEQ5 HSF hr'
                           generalize L.length - r'.length = a2 at HEQ6 hrd6 ha1' ha2'
                           have HF7 := Lib.hid (HSW.out.away hBw HG5.out hg6 hrd6 (Nat.le_refl _) (.int .i64 d.k) (.int .i64 d.n) (.string (S d.s)) (.slice xp d.its.length xc) (.slice yp d.mem.length yc))
                           have HP7 := Lib.hid (put5_own HP6.out (.int .i64 d.k) (.int .i64 d.n) (.string (S d.s)) (.slice xp d.its.length xc) (.slice yp d.mem.length yc))
                           have HX7 := Lib.hid ((put5_rep hx w3.heap.size (fun C hC => by omega) (.int .i64 d.k) (.int .i64 d.n) (.string (S d.s)) (.slice xp d.its.length xc) (.slice yp d.mem.length yc)).mono (ok' := apY (w.heap.size + 1) (w.heap.size + 1) (.slice ip A.length ic) (.slice mp M.length mc)) (fun B _ hB => HSW.out.dt.apart (Nat.le_refl _) (by omega)))
                           unfold put5 at HF7 HP7 HX7
                           clear HP6 hg6 hrd6 hx
                           unfold dv
                           go_upto_region 15 with fail
                           generalize hW7 : ((((w6.setCell ⟨w3.heap.size, 3, none⟩ (.int .i64 d.k)).setCell ⟨w3.heap.size, 4, none⟩ (.int .i64 d.n)).setCell ⟨w3.heap.size, 5, none⟩ (.string (S d.s))).setCell ⟨w3.heap.size, 6, none⟩ (.slice xp d.its.length xc)).setCell ⟨w3.heap.size, 7, none⟩ (.slice yp d.mem.length yc) = W7 at HF7 HP7 HX7 ⊢
                           clear hW7 p0 p1 p2 p3 p4 p5 p6 p7 r0 r1 r2 r3 r4 r5 r6 r7 hpl
                           have pb0 := HP7.out.cell 0
                           simp at pb0
                           have hpl := HP7.out.lt
                           go_upto_region 17 with fail
                           cases item with
                           | true =>
                             have HR8 := Lib.hid (HEQ6.out.trans (if_pos rfl))
                             have HF8 := Lib.hid (HF7.out.kind hBw 5)
                             have HP8 := Lib.hid (HP7.out.set_other 0 (.int .i64 5) (show w.heap.size + 1 ≠ w3.heap.size by omega))
                             have HX8 := Lib.hid (HX7.out.set ⟨w.heap.size + 1, 0, none⟩ (.int .i64 5) (fun B hB => fun e => hB.2.1 e.symm))
                             have o0 := HF7.out.dt.blk.cell 0
                             have q0 := HF7.out.dt.blk.frozen 0
                             simp at o0
                             have hol := HF7.out.dt.blk.lt
                             clear HF7 HP7 HX7 HEQ6
                             go_upto_region 19 with fail
                             generalize hW8 : W7.setCell ⟨w.heap.size + 1, 0, none⟩ (.int .i64 5) = W8 at HF8 HP8 HX8 ⊢
                             clear hW8 o0 q0 hol pb0
                             have o3 := HF8.out.dt.blk.cell 3
                             have f3 := HF8.out.dt.blk.frozen 3
                             simp at o3
                             have hol := HF8.out.dt.blk.lt
                             obtain ⟨⟨p0, p1, p2, p3, p4, p5, p6, p7⟩, -, hpl⟩ := parts_cells HP8.out
                             have HNEQ := Lib.hid (show some (w.heap.size + 1) ≠ (Value.slice ip A.length ic).ownBlock from fun e => by have := (own_ge HF8.out.dt.its e.symm).1; omega)
                             go_wp2_with (at_builtin; refine wpList_append_lies _ (by rfl) _ _ _ (by rfl) (w.heap.size + 1 + 1) 25 i0 (.agg #[.int .i64 0, .int .i64 0, .string ⟨#[]⟩, .slice none 0 0, .slice none 0 0]) 5 80 Tryz.underlying22 hi hz0 hz1 hz2 rfl (by omega) (.slice ip A.length ic) A.length (flat5 A) (by rfl) (HF8.out.dt.its.alloc _) ⟨W8.heap.size, 0, none⟩ 1 1 [.int .i64 d.k, .int .i64 d.n, .string (S d.s), .slice xp d.its.length xc, .slice yp d.mem.length yc] (by rfl) (by rfl) (cells_new_at rfl rfl) (by simp [Value.oneCell']) (by omega) (by unfold maxLen; omega) (by omega) (by have := HF8.out.dt.nr.2.2; simp; omega) _ rfl ?_; intro g5 c5 w10 hown5 hgrow5 hat5 hlt5; obtain ⟨z2, zf, zl⟩ := out_kept2 hol HNEQ.out o3 f3 hgrow5; have HO5 := Lib.hid hown5; have HG10 := Lib.hid hgrow5; have HA5 := Lib.hid hat5; clear hown5 hgrow5 hat5)
                             go_wp2_with fail
                             go_roundg (L.length - a2)
                             case measure => omega
                             case rel => exact ⟨a2, 5, A ++ [(d, .slice xp d.its.length xc, .slice yp d.mem.length yc)], M, _, _, Nat.le_refl _, by omega, Lib.hid (HF8.out.item (x := d) HLN0.out hBw hBr HX8.out HO5.out HG10.out (HA5.out.imp (fun e => e.symm) fun e => congrArg some e) HR8.out (by omega) (by omega) (by decide))⟩
                           | false =>
                             have HR8 := Lib.hid (HEQ6.out.trans (if_neg (by decide)))
                             have HF8 := Lib.hid (HF7.out.kind hBw 6)
                             have HP8 := Lib.hid (HP7.out.set_other 0 (.int .i64 6) (show w.heap.size + 1 ≠ w3.heap.size by omega))
                             have HX8 := Lib.hid (HX7.out.set ⟨w.heap.size + 1, 0, none⟩ (.int .i64 6) (fun B hB => fun e => hB.2.1 e.symm))
                             have o0 := HF7.out.dt.blk.cell 0
                             have q0 := HF7.out.dt.blk.frozen 0
                             simp at o0
                             have hol := HF7.out.dt.blk.lt
                             clear HF7 HP7 HX7 HEQ6
                             go_upto_region 21 with fail
                             generalize hW8 : W7.setCell ⟨w.heap.size + 1, 0, none⟩ (.int .i64 6) = W8 at HF8 HP8 HX8 ⊢
                             clear hW8 o0 q0 hol pb0
                             have o3 := HF8.out.dt.blk.cell 4
                             have f3 := HF8.out.dt.blk.frozen 4
                             simp at o3
                             have hol := HF8.out.dt.blk.lt
                             obtain ⟨⟨p0, p1, p2, p3, p4, p5, p6, p7⟩, -, hpl⟩ := parts_cells HP8.out
                             have HNEQ := Lib.hid (show some (w.heap.size + 1) ≠ (Value.slice mp M.length mc).ownBlock from fun e => by have := (own_ge HF8.out.dt.mem e.symm).1; omega)
                             go_wp2_with (at_builtin; refine wpList_append_lies _ (by rfl) _ _ _ (by rfl) (w.heap.size + 1 + 1) 43 i1 (.agg #[.string ⟨#[]⟩, .int .i64 0, .int .i64 0, .string ⟨#[]⟩, .slice none 0 0, .slice none 0 0]) 6 96 Tryz.underlying23 hi' hy0 hy1 hy2 rfl (by omega) (.slice mp M.length mc) M.length (flat6 M) (by rfl) (HF8.out.dt.mem.alloc _) ⟨W8.heap.size, 0, none⟩ 1 1 [.string (S lab), .int .i64 d.k, .int .i64 d.n, .string (S d.s), .slice xp d.its.length xc, .slice yp d.mem.length yc] (by rfl) (by rfl) (cells_new_at rfl rfl) (by simp [Value.oneCell']) (by omega) (by unfold maxLen; omega) (by omega) (by have := HF8.out.dt.nr.2.2; simp; omega) _ rfl ?_; intro g5 c5 w10 hown5 hgrow5 hat5 hlt5; obtain ⟨z2, zf, zl⟩ := out_kept2 hol HNEQ.out o3 f3 hgrow5; have HO5 := Lib.hid hown5; have HG10 := Lib.hid hgrow5; have HA5 := Lib.hid hat5; clear hown5 hgrow5 hat5)
                             go_wp2_with fail
                             go_roundg (L.length - a2)
                             case measure => omega
                             case rel => exact ⟨a2, 6, A, M ++ [(lab, d, .slice xp d.its.length xc, .slice yp d.mem.length yc)], _, _, Nat.le_refl _, by omega, Lib.hid (HF8.out.memb (x := d) HLN0.out hBw hBr HX8.out HO5.out HG10.out (HA5.out.imp (fun e => e.symm) fun e => congrArg some e) HR8.out (by omega) (by omega) (by decide))⟩
                       | some d =>
                         obtain rfl := hdx d rfl
                         have HEQ6 := Lib.hid (show R = if item = true then blkR many i 5 ((A.map fun t => t.1) ++ [.mk dk dn ds [] []]) (M.map fun t => (t.1, t.2.1)) (L.drop (a + 1)) else blkR many i 6 (A.map fun t => t.1) ((M.map fun t => (t.1, t.2.1)) ++ [(lab, .mk dk dn ds [] [])]) (L.drop (a + 1)) from HEQ4.out)
                         have HF7 := HF5
                         have HP7 := HP5
                         have HX7 := Lib.hid (rep_leaf W5 (apY (w.heap.size + 1) (w.heap.size + 1) (.slice ip A.length ic) (.slice mp M.length mc)) (d := .mk dk dn ds [] []) rfl rfl none none 0 0)
                         clear HEQ4 HF5 HP5 hdx hpl
                         have pb0 := HP7.out.cell 0
                         simp at pb0
                         have hpl := HP7.out.lt
                         go_upto_region 17 with fail
                         cases item with
                         | true =>
                           have HR8 := Lib.hid (HEQ6.out.trans (if_pos rfl))
                           have HF8 := Lib.hid (HF7.out.kind hBw 5)
                           have HP8 := Lib.hid (HP7.out.set_other 0 (.int .i64 5) (show w.heap.size + 1 ≠ w3.heap.size by omega))
                           have HX8 := Lib.hid (HX7.out.set ⟨w.heap.size + 1, 0, none⟩ (.int .i64 5) (fun B hB => fun e => hB.2.1 e.symm))
                           have o0 := HF7.out.dt.blk.cell 0
                           have q0 := HF7.out.dt.blk.frozen 0
                           simp at o0
                           have hol := HF7.out.dt.blk.lt
                           clear HF7 HP7 HX7 HEQ6
                           go_upto_region 19 with fail
                           generalize hW8 : W5.setCell ⟨w.heap.size + 1, 0, none⟩ (.int .i64 5) = W8 at HF8 HP8 HX8 ⊢
                           clear hW8 o0 q0 hol pb0
                           have o3 := HF8.out.dt.blk.cell 3
                           have f3 := HF8.out.dt.blk.frozen 3
                           simp at o3
                           have hol := HF8.out.dt.blk.lt
                           obtain ⟨⟨p0, p1, p2, p3, p4, p5, p6, p7⟩, -, hpl⟩ := parts_cells HP8.out
                           have HNEQ := Lib.hid (show some (w.heap.size + 1) ≠ (Value.slice ip A.length ic).ownBlock from fun e => by have := (own_ge HF8.out.dt.its e.symm).1; omega)
                           go_wp2_with (at_builtin; refine wpList_append_lies _ (by rfl) _ _ _ (by rfl) (w.heap.size + 1 + 1) 25 i0 (.agg #[.int .i64 0, .int .i64 0, .string ⟨#[]⟩, .slice none 0 0, .slice none 0 0]) 5 80 Tryz.underlying22 hi hz0 hz1 hz2 rfl (by omega) (.slice ip A.length ic) A.length (flat5 A) (by rfl) (HF8.out.dt.its.alloc _) ⟨W8.heap.size, 0, none⟩ 1 1 [.int .i64 dk, .int .i64 dn, .string (S ds), .slice none 0 0, .slice none 0 0] (by rfl) (by rfl) (cells_new_at rfl rfl) (by simp [Value.oneCell']) (by omega) (by unfold maxLen; omega) (by omega) (by have := HF8.out.dt.nr.2.2; simp; omega) _ rfl ?_; intro g5 c5 w10 hown5 hgrow5 hat5 hlt5; obtain ⟨z2, zf, zl⟩ := out_kept2 hol HNEQ.out o3 f3 hgrow5; have HO5 := Lib.hid hown5; have HG10 := Lib.hid hgrow5; have HA5 := Lib.hid hat5; clear hown5 hgrow5 hat5)
                           go_wp2_with fail
                           go_roundg (L.length - (a + 1))
                           case measure => omega
                           case rel => exact ⟨(a + 1), 5, A ++ [(.mk dk dn ds [] [], .slice none 0 0, .slice none 0 0)], M, _, _, Nat.le_refl _, by omega, Lib.hid (HF8.out.item (x := .mk dk dn ds [] []) HLN0.out hBw hBr HX8.out HO5.out HG10.out (HA5.out.imp (fun e => e.symm) fun e => congrArg some e) HR8.out (by omega) (by omega) (by decide))⟩
                         | false =>
                           have HR8 := Lib.hid (HEQ6.out.trans (if_neg (by decide)))
                           have HF8 := Lib.hid (HF7.out.kind hBw 6)
                           have HP8 := Lib.hid (HP7.out.set_other 0 (.int .i64 6) (show w.heap.size + 1 ≠ w3.heap.size by omega))
                           have HX8 := Lib.hid (HX7.out.set ⟨w.heap.size + 1, 0, none⟩ (.int .i64 6) (fun B hB => fun e => hB.2.1 e.symm))
                           have o0 := HF7.out.dt.blk.cell 0
                           have q0 := HF7.out.dt.blk.frozen 0
                           simp at o0
                           have hol := HF7.out.dt.blk.lt
                           clear HF7 HP7 HX7 HEQ6
                           go_upto_region 21 with fail
                           generalize hW8 : W5.setCell ⟨w.heap.size + 1, 0, none⟩ (.int .i64 6) = W8 at HF8 HP8 HX8 ⊢
                           clear hW8 o0 q0 hol pb0
                           have o3 := HF8.out.dt.blk.cell 4
                           have f3 := HF8.out.dt.blk.frozen 4
                           simp at o3
                           have hol := HF8.out.dt.blk.lt
                           obtain ⟨⟨p0, p1, p2, p3, p4, p5, p6, p7⟩, -, hpl⟩ := parts_cells HP8.out
                           have HNEQ := Lib.hid (show some (w.heap.size + 1) ≠ (Value.slice mp M.length mc).ownBlock from fun e => by have := (own_ge HF8.out.dt.mem e.symm).1; omega)
                           go_wp2_with (at_builtin; refine wpList_append_lies _ (by rfl) _ _ _ (by rfl) (w.heap.size + 1 + 1) 43 i1 (.agg #[.string ⟨#[]⟩, .int .i64 0, .int .i64 0, .string ⟨#[]⟩, .slice none 0 0, .slice none 0 0]) 6 96 Tryz.underlying23 hi' hy0 hy1 hy2 rfl (by omega) (.slice mp M.length mc) M.length (flat6 M) (by rfl) (HF8.out.dt.mem.alloc _) ⟨W8.heap.size, 0, none⟩ 1 1 [.string (S lab), .int .i64 dk, .int .i64 dn, .string (S ds), .slice none 0 0, .slice none 0 0] (by rfl) (by rfl) (cells_new_at rfl rfl) (by simp [Value.oneCell']) (by omega) (by unfold maxLen; omega) (by omega) (by have := HF8.out.dt.nr.2.2; simp; omega) _ rfl ?_; intro g5 c5 w10 hown5 hgrow5 hat5 hlt5; obtain ⟨z2, zf, zl⟩ := out_kept2 hol HNEQ.out o3 f3 hgrow5; have HO5 := Lib.hid hown5; have HG10 := Lib.hid hgrow5; have HA5 := Lib.hid hat5; clear hown5 hgrow5 hat5)
                           go_wp2_with fail
                           go_roundg (L.length - (a + 1))
                           case measure => omega
                           case rel => exact ⟨(a + 1), 6, A, M ++ [(lab, .mk dk dn ds [] [], .slice none 0 0, .slice none 0 0)], _, _, Nat.le_refl _, by omega, Lib.hid (HF8.out.memb (x := .mk dk dn ds [] []) HLN0.out hBw hBr HX8.out HO5.out HG10.out (HA5.out.imp (fun e => e.symm) fun e => congrArg some e) HR8.out (by omega) (by omega) (by decide))⟩
           · have g5 : ((x.ind : Int) != (i : Int)) = true := by simp; omega
             have HER := Lib.hid (show R = .error (19, x.no) by rw [HEQ.out, blkR_cons, if_neg hA, if_pos hind])
             by_cases hlt2 : x.ind < i
             · have hk0 : kd = 0 := Classical.byContradiction fun h => hA ⟨hlt2, h⟩
               have g1 : (x.ind : Int) < (i : Int) := by omega
               have g1' := decide_eq_true g1
               have g2 : (kd != 0) = false := by simpa using hk0
               clear hA hk0 hind HEQ HDL o0 o1 o2 o3 o4 hol
               have HSF := Lib.hid (fun W' (hb : Below wc.heap.size wc W') => HS2.out.below hb)
               have HBD := Lib.hid (below_drew (Below.refl wc.heap.size wc))
               obtain ⟨o0, o1, o2, o3, o4, hol⟩ := dt_cells HS2.out.dt
               obtain ⟨⟨z0, z1, z2, z3, z4⟩, ⟨y0, y1, y2, y3, y4⟩, hlw⟩ := zero_cells HS2.out.res
               go_upto_region 6 with fail
               go_region_with (go_at_call 63; refine (fail_any (HSF.out _ HBD.out).rd 19 x.no).mono ?_; rintro e w9 ⟨rfl, hrd, hg⟩; have HF9 := Lib.hid ((HSF.out _ HBD.out).fault hBw hrd hg); clear o0 o1 o2 o3 o4 hol z0 z1 z2 z3 z4 y0 y1 y2 y3 y4 hlw hrd hg; obtain ⟨o0, o1, o2, o3, o4, hol⟩ := dt_cells HF9.out.dt; obtain ⟨⟨z0, z1, z2, z3, z4⟩, ⟨y0, y1, y2, y3, y4⟩, hlw⟩ := zero_cells HF9.out.res)
               all_goals
                 go_wp2_with fail
                 refine bodyPost_ret (v := .tuple #[.agg #[.int .i64 kd, .int .i64 0, .string ⟨#[]⟩, .slice ip A.length ic, .slice mp M.length mc], .bool false]) (by simp [results, Tryz.results64, go_sem, z0, z1, z2, z3, z4, y0, y1, y2, y3, y4, hlw]) rfl ?_
                 exact HF9.out.fin hBw HER.out _ _ _ _ _
             · have g1 : ¬ (x.ind : Int) < (i : Int) := by omega
               have g1' := decide_eq_false g1
               clear hA hind HEQ HDL o0 o1 o2 o3 o4 hol
               have HSF := Lib.hid (fun W' (hb : Below wc.heap.size wc W') => HS2.out.below hb)
               have HBD := Lib.hid (below_drew (Below.refl wc.heap.size wc))
               obtain ⟨o0, o1, o2, o3, o4, hol⟩ := dt_cells HS2.out.dt
               obtain ⟨⟨z0, z1, z2, z3, z4⟩, ⟨y0, y1, y2, y3, y4⟩, hlw⟩ := zero_cells HS2.out.res
               go_upto_region 6 with fail
               go_region_with (go_at_call 63; refine (fail_any (HSF.out _ HBD.out).rd 19 x.no).mono ?_; rintro e w9 ⟨rfl, hrd, hg⟩; have HF9 := Lib.hid ((HSF.out _ HBD.out).fault hBw hrd hg); clear o0 o1 o2 o3 o4 hol z0 z1 z2 z3 z4 y0 y1 y2 y3 y4 hlw hrd hg; obtain ⟨o0, o1, o2, o3, o4, hol⟩ := dt_cells HF9.out.dt; obtain ⟨⟨z0, z1, z2, z3, z4⟩, ⟨y0, y1, y2, y3, y4⟩, hlw⟩ := zero_cells HF9.out.res)
               all_goals
                 go_wp2_with fail
                 refine bodyPost_ret (v := .tuple #[.agg #[.int .i64 kd, .int .i64 0, .string ⟨#[]⟩, .slice ip A.length ic, .slice mp M.length mc], .bool false]) (by simp [results, Tryz.results64, go_sem, z0, z1, z2, z3, z4, y0, y1, y2, y3, y4, hlw]) rfl ?_
                 exact HF9.out.fin hBw HER.out _ _ _ _ _
     · have hea : a = L.length := by have := HS1.out.le; omega
       have HEA := Lib.hid hea
       have g0 : ¬ ((a : Int) < (L.length : Int)) := by omega
       have hw9 : IntKind.i64.wrap ((many : Int) + 1) = (many : Int) + 1 := IntWalk.i64_in _ (by omega)
       have HRE := Lib.hid (show R = if kd = 0 then .error (19, many + 1) else .ok (.mk kd 0 [] (A.map fun t => t.1) (M.map fun t => (t.1, t.2.1)), []) by rw [HS1.out.eq, List.drop_of_length_le (by omega), blkR_nil])
       clear hea
       by_cases hk0 : kd = 0
       · have HER := Lib.hid (show R = .error (19, many + 1) by rw [HRE.out, if_pos hk0])
         have k1 : (kd == 0) = true := by simpa using hk0
         obtain ⟨⟨c0, c1, c2, c3, c4⟩, ⟨f0, f1, f2, f3, f4⟩, hBl⟩ := HS1.out.rd.facts
         clear HRE hk0 hlt
         have HSF := Lib.hid (fun W' (hb : Below W1.heap.size W1 W') => HS1.out.below hb)
         have HBD := Lib.hid (below_drew (Below.refl W1.heap.size W1))
         obtain ⟨o0, o1, o2, o3, o4, hol⟩ := dt_cells HS1.out.dt
         obtain ⟨⟨z0, z1, z2, z3, z4⟩, ⟨y0, y1, y2, y3, y4⟩, hlw⟩ := zero_cells HS1.out.res
         go_upto_region 23 with fail
         go_region_with (go_at_call 63; refine (fail_next (HSF.out _ HBD.out).rd 19 many).mono ?_; rintro e w9 ⟨rfl, hrd, hg⟩; have HF9 := Lib.hid ((HSF.out _ HBD.out).fault hBw hrd hg); clear o0 o1 o2 o3 o4 hol z0 z1 z2 z3 z4 y0 y1 y2 y3 y4 hlw hrd hg; obtain ⟨o0, o1, o2, o3, o4, hol⟩ := dt_cells HF9.out.dt; obtain ⟨⟨z0, z1, z2, z3, z4⟩, ⟨y0, y1, y2, y3, y4⟩, hlw⟩ := zero_cells HF9.out.res)
         all_goals
           go_wp2_with fail
           refine bodyPost_ret (v := .tuple #[.agg #[.int .i64 kd, .int .i64 0, .string ⟨#[]⟩, .slice ip A.length ic, .slice mp M.length mc], .bool false]) (by simp [results, Tryz.results64, go_sem, z0, z1, z2, z3, z4, y0, y1, y2, y3, y4, hlw]) rfl ?_
           exact HF9.out.fin hBw HER.out _ _ _ _ _
       · have HRR : Hid (∃ rest : List Ln, rest.length = L.length - a ∧ R = .ok (.mk kd 0 [] (A.map fun t => t.1) (M.map fun t => (t.1, t.2.1)), rest)) := Lib.hid ⟨[], by rw [HEA.out]; simp, by rw [HRE.out, if_neg hk0]⟩
         have k1 : (kd == 0) = false := by simpa using hk0
         clear HRE hk0 hlt
         obtain ⟨o0, o1, o2, o3, o4, hol⟩ := dt_cells HS1.out.dt
         obtain ⟨⟨z0, z1, z2, z3, z4⟩, ⟨y0, y1, y2, y3, y4⟩, hlw⟩ := zero_cells HS1.out.res
         go_wp2_with fail
         refine bodyPost_ret (v := .tuple #[.agg #[.int .i64 kd, .int .i64 0, .string ⟨#[]⟩, .slice ip A.length ic, .slice mp M.length mc], .bool true]) (by simp [results, Tryz.results64, go_sem, z0, z1, z2, z3, z4, y0, y1, y2, y3, y4, hlw]) rfl ?_
         exact HS1.out.fin hBw hL HRR.out _ _ _ _ _
end Go.Proofs.YtdalfkklkeblaaaGreatDoor
