import Derived.Deep.QuietTactic
import Derived.Deep.DeepCutAuto
import Derived.Deep.CutBlock
import Derived.Test.YtdalfkklkeblaaaGreatDoorN21
import Derived.Test.YtdalfkklkeblaaaGreatDoorN27
import Derived.Test.YtdalfkklkeblaaaGreatDoorYgF
namespace Go.Proofs.YtdalfkklkeblaaaGreatDoor
set_option linter.unusedSimpArgs false
set_option linter.unusedVariables false
open Go.RowKit
theorem wp_opaque {P : Program} {c : Code} {Q : Exit → Act → World → Prop} {a : Act} {w : World} (h : ∀ Q9 : Exit → Act → World → Prop, Hid (∀ e a w, Q e a w → Q9 e a w) → c.wp P Q9 a w) : c.wp P Q a w := h Q (Lib.hid fun _ _ _ h => h)
theorem kind_false {t : List UInt8} (h1 : t ≠ [45]) (h2 : ¬ (1 < t.length ∧ t.take 2 = [45, 32])) : kindR t = 6 := by
 unfold kindR
 rw [if_neg]
 rintro (h | h)
 · exact h1 h
 · exact h2 h
theorem kind_true {t : List UInt8} (h : t = [45] ∨ (1 < t.length ∧ t.take 2 = [45, 32])) : kindR t = 5 := by
 unfold kindR
 rw [if_pos h]
set_option maxRecDepth 100000 in
set_option maxHeartbeats 16000000 in
theorem rparse_any {L : List Ln} (hL : L.length ≤ 1000000) {many en : Nat} (hen : en = many + 1) (hmany : many ≤ 2000000) (htx : ∀ x ∈ L, x.txt ≠ [] ∧ x.txt.length ≤ 65536 ∧ x.ind ≤ 1000000 ∧ x.no ≤ 2000000) (n : Nat) : ∀ (i a0 : Nat) (v : Value) (w : World), L.length - a0 < n → a0 ≤ L.length → LnF w v L →
   Calls Tryz.prog 67 #[v, .int .i64 (a0 : Int), .int .i64 (i : Int), .int .i64 (en : Int)] w (RpP w L.length (blkR many i 0 [] [] (L.drop a0))) := by
 induction n with
 | zero => intro i a0 v w h; exact absurd h (Nat.not_lt_zero _)
 | succ n ih =>
   intro i a0 v w hn ha0 hln
   obtain ⟨i0, hi0, hz0, hz1, hz2⟩ := info_parts infoDat
   obtain ⟨lp, lc, LB, hlv, -⟩ := id hln
   subst hlv
   have hN : Blk ((w.alloc (.cells #[.int .i64 0, .int .i64 0, .string ⟨#[]⟩, .slice none 0 0, .slice none 0 0] 25)).alloc (.cells #[.int .i64 0, .int .i64 0] 33)) w.heap.size #[.int .i64 0, .int .i64 0, .string ⟨#[]⟩, .slice none 0 0, .slice none 0 0] 25 ∧ Blk ((w.alloc (.cells #[.int .i64 0, .int .i64 0, .string ⟨#[]⟩, .slice none 0 0, .slice none 0 0] 25)).alloc (.cells #[.int .i64 0, .int .i64 0] 33)) (w.heap.size + 1) #[.int .i64 0, .int .i64 0] 33 ∧ Below w.heap.size w ((w.alloc (.cells #[.int .i64 0, .int .i64 0, .string ⟨#[]⟩, .slice none 0 0, .slice none 0 0] 25)).alloc (.cells #[.int .i64 0, .int .i64 0] 33)) := val_two w _ _ _ _
   have HLN := Lib.hid (hln.under hN.2.2)
   have HIH := Lib.hid ih
   have HTX := Lib.hid htx
   have HEN := Lib.hid hen
   generalize hR : blkR many i 0 [] [] (L.drop a0) = R
   have HR0 := Lib.hid hR.symm
   clear hR hln ih htx hen
   go_enter Tryz.func67, Tryz.ntmps67
   refine wp_opaque fun Q9 HQ9 => ?_
   let QT : Exit → Act → World → Prop := bodyPost Tryz.prog Tryz.f67 (fun _ _ => True)
   go_upto_region 1 with fail
   generalize (w.alloc (.cells #[.int .i64 0, .int .i64 0, .string ⟨#[]⟩, .slice none 0 0, .slice none 0 0] 25)).alloc (.cells #[.int .i64 0, .int .i64 0] 33) = ws at hN HLN ⊢
   have HN := Lib.hid hN
   clear hN
   by_cases hlt : a0 < L.length
   · obtain ⟨lp', lc', B, e1, hcl⟩ := HLN.out
     cases e1
     obtain ⟨rfl, hcap, hB, x0, x1, x2⟩ := hcl a0 hlt
     obtain ⟨t1, t2, t3, t4⟩ := HTX.out _ (List.getElem_mem hlt)
     have HDR := Lib.hid (show L.drop a0 = L[a0] :: L.drop (a0 + 1) from List.drop_eq_getElem_cons hlt)
     generalize L[a0] = x at x0 x1 x2 t1 t2 t3 t4 HDR
     have g0 : ¬ ((L.length : Int) ≤ (a0 : Int)) := by omega
     have g0' : a0 < lc := by omega
     clear hcl
     by_cases hind : x.ind = i
     · have HR1 := Lib.hid (show R = blkR many i (kindR x.txt) [] [] (L.drop a0) by rw [HR0.out, HDR.out, blk_kind hind])
       have g1 : ((x.ind : Int) == (i : Int)) = true := by simp [hind]
       have g2 : ((x.ind : Int) != (i : Int)) = false := by simp [hind]
       have hD0 := DtS.start ws 6 ws.heap.size (Nat.le_refl _)
       have hbD := alloc_below ws (.cells #[.int .i64 6, .int .i64 0, .string ⟨#[]⟩, .slice none 0 0, .slice none 0 0] 25)
       clear hind HDR HR0
       go_upto_region 6 with fail
       generalize ws.alloc (.cells #[.int .i64 6, .int .i64 0, .string ⟨#[]⟩, .slice none 0 0, .slice none 0 0] 25) = W5 at hD0 hbD ⊢
       replace x2 := (hbD.cell (p := ⟨B, a0 * 3 + 2, none⟩) hB).trans x2
       have hB5 := Nat.lt_of_lt_of_le hB hbD.size
       have HD5 := Lib.hid hD0
       have HB5 := Lib.hid hbD
       clear hD0 hbD x0 x1 g1 g2 g0
       have hpos : 0 < x.txt.length := List.length_pos_iff.2 t1
       go_cut [66] (fun v wx => v = .bool (decide (kindR x.txt = 5)) ∧ wx = W5)
       case first =>
         by_cases h1 : x.txt = [45]
         · have t5 : (x.txt == [45]) = true := by simpa using h1
           have HK := Lib.hid (show decide (kindR x.txt = 5) = true from decide_eq_true (kind_true (.inl h1)))
           clear h1 HR1
           go_wp2_with fail
           go_meet
           exact ⟨by rw [HK.out], rfl⟩
         · have t5 : (x.txt == [45]) = false := by simpa using h1
           by_cases h2 : 1 < x.txt.length
           · have t6 : (1 : Int) < (x.txt.length : Int) := by omega
             have t7 : (2 : Int) ≤ (x.txt.length : Int) := by omega
             have t9 : 2 ≤ x.txt.length := by omega
             have e2 : sl x.txt 0 2 = x.txt.take 2 := sl_head x.txt 2
             by_cases h3 : x.txt.take 2 = [45, 32]
             · have t8 : (sl x.txt 0 2 == [45, 32]) = true := by rw [e2]; simpa using h3
               have HK := Lib.hid (show decide (kindR x.txt = 5) = true from decide_eq_true (kind_true (.inr ⟨h2, h3⟩)))
               clear h1 h2 h3 e2 HR1
               go_wp2_with fail
               go_meet
               exact ⟨by rw [HK.out], rfl⟩
             · have t8 : (sl x.txt 0 2 == [45, 32]) = false := by rw [e2]; simpa using h3
               have HK := Lib.hid (show decide (kindR x.txt = 5) = false from decide_eq_false (by rw [kind_false h1 (fun h => h3 h.2)]; decide))
               clear h1 h2 h3 e2 HR1
               go_wp2_with fail
               go_meet
               exact ⟨by rw [HK.out], rfl⟩
           · have t6 : ¬ ((1 : Int) < (x.txt.length : Int)) := by omega
             have HK := Lib.hid (show decide (kindR x.txt = 5) = false from decide_eq_false (by rw [kind_false h1 (fun h => h2 h.1)]; decide))
             clear h1 h2 HR1
             go_wp2_with fail
             go_meet
             exact ⟨by rw [HK.out], rfl⟩
       case rest =>
         obtain ⟨rfl, hwc⟩ := hcut
         rw [hwc]
         clear hwc x2 hB5
         go_upto_if 66 with fail
         go_cut [1] (fun v wx => v = .int .i64 (a0 : Int) ∧ Hid (DtS ws.heap.size ws.heap.size (ws.heap.size + 1) (kindR x.txt) [] [] (.slice none 0 0) (.slice none 0 0) wx) ∧ Hid (Below ws.heap.size ws wx))
         case first =>
           obtain ⟨o0, o1, o2, o3, o4, hol⟩ := dt_cells HD5.out
           have q0 := HD5.out.blk.frozen 0
           rcases kindR_or x.txt with hk | hk
           · rw [hk]
             have HD6 := Lib.hid (HD5.out.kind 5)
             have HK := Lib.hid hk
             have HB6 := Lib.hid (HB5.out.setCell (p := ⟨ws.heap.size, 0, none⟩) (Nat.le_refl _) (.int .i64 5))
             clear hk HR1
             go_wp2_with fail
             go_meet
             exact ⟨rfl, by rw [HK.out]; exact HD6, HB6⟩
           · rw [hk]
             have HK := Lib.hid hk
             clear hk HR1
             go_wp2_with fail
             go_meet
             exact ⟨rfl, by rw [HK.out]; exact HD5, HB5⟩
         case rest =>
           obtain ⟨rfl, HD6, HB6⟩ := hcut
           have hk := kindR_or x.txt
           have HS0 := Lib.hid (show RpS ws L many i R a0 (kindR x.txt) [] [] (.slice none 0 0) (.slice none 0 0) [] [] wc from ⟨HD6.out, HB6.out, HR1.out, by omega, Nat.zero_le _, rfl, rfl, List.nodup_nil⟩)
           generalize kindR x.txt = k0 at HS0 hk
           clear HD6 HB6 HR1 HD5 HB5 hB t1 t2 t3 t4 hpos g0'
           clear x
           go_wp2_with fail
           go_loopg [1] (L.length - a0) (fun kx v1 wr => ∃ (idx : Nat) (kd : Int) (A : List (Dat × Value × Value)) (M : List (List UInt8 × Dat × Value × Value)) (vi vm : Value) (its : List Dat) (mem : List (List UInt8 × Dat)), v1 = .int .i64 (idx : Int) ∧ L.length - idx ≤ kx ∧ a0 ≤ idx ∧ (kd = 5 ∨ kd = 6) ∧ Hid (RpS ws L many i R idx kd A M vi vm its mem wr))
           case atStart => exact ⟨a0, k0, [], [], _, _, [], [], rfl, Nat.le_refl _, Nat.le_refl _, hk, HS0⟩
           case round =>
             clear HS0 hk hlt
             obtain ⟨idx, kd, A, M, vi, vm, its, mem, rfl, hkx, hai, hkd, HS⟩ := hrel
             obtain ⟨ip, ic, rfl⟩ := own_form5 HS.out.dt.its
             obtain ⟨mp, mc, rfl⟩ := own_form5 HS.out.dt.mem
             by_cases hlt : idx < L.length
             · obtain ⟨lp', lc', B', e1, hcl⟩ := HLN.out
               cases e1
               obtain ⟨hBB, -, hB, x0, x1, x2⟩ := hcl idx hlt
               injection hBB with hBB
               injection hBB with hBB
               subst hBB
               obtain ⟨t1, t2, t3, t4⟩ := HTX.out _ (List.getElem_mem hlt)
               have HDR := Lib.hid (show L.drop idx = L[idx] :: L.drop (idx + 1) from List.drop_eq_getElem_cons hlt)
               have HBOD := Lib.hid (fun W' (hb : Below ws.heap.size ws W') more (hm : more.length ≤ 1000000) => rbody_of (many := many) (en := en) (HLN.out.under hb) hlt hL t3 more hm (fun _ w' hb' => HIH.out (L[idx].ind + 2) (idx + 1) _ w' (by omega) (by omega) ((HLN.out.under hb).under hb')))
               generalize L[idx] = x at x0 x1 x2 t1 t2 t3 t4 HDR HBOD
               clear hcl
               have HX := Lib.hid (fun W' (hb : Below ws.heap.size ws W') => (show W'.cell? ⟨B, idx * 3, none⟩ = some (.int .i64 (x.no : Int)) ∧ W'.cell? ⟨B, idx * 3 + 1, none⟩ = some (.int .i64 (x.ind : Int)) ∧ W'.cell? ⟨B, idx * 3 + 2, none⟩ = some (.string (S x.txt)) ∧ B < W'.heap.size from ⟨(hb.cell (p := ⟨B, idx * 3, none⟩) hB).trans x0, (hb.cell (p := ⟨B, idx * 3 + 1, none⟩) hB).trans x1, (hb.cell (p := ⟨B, idx * 3 + 2, none⟩) hB).trans x2, Nat.lt_of_lt_of_le hB hb.size⟩))
               clear x0 x1 x2 hB
               obtain ⟨x0, x1, x2, hBw⟩ := HX.out wr HS.out.bes
               have g3 : (idx : Int) < (L.length : Int) := by omega
               have g3' : idx < lc := by omega
               by_cases hge : x.ind < i
               · have HRR : Hid (∃ rest : List Ln, rest.length = L.length - idx ∧ R = .ok (.mk kd 0 [] its mem, rest)) := Lib.hid ⟨x :: L.drop (idx + 1), by rw [← HDR.out, List.length_drop], by rw [HS.out.eq, HDR.out, blk_less hge (by omega)]⟩
                 have g4 : ¬ ((i : Int) ≤ (x.ind : Int)) := by omega
                 have g4' : decide ((i : Int) ≤ (x.ind : Int)) = false := decide_eq_false g4
                 clear hge HDR HBOD HX HIH x0
                 obtain ⟨o0, o1, o2, o3, o4, hol⟩ := dt_cells HS.out.dt
                 have hzz := HS.out.bes
                 obtain ⟨⟨z0, z1, z2, z3, z4⟩, ⟨y0, y1, y2, y3, y4⟩, hlw⟩ := zero_cells (HN.out.1.below hzz)
                 have x0 := (HN.out.2.1.below hzz).cell 0
                 have x1 := (HN.out.2.1.below hzz).cell 1
                 have v0 := (HN.out.2.1.below hzz).frozen 0
                 have v1 := (HN.out.2.1.below hzz).frozen 1
                 simp at x0 x1
                 have hlx := (HN.out.2.1.below hzz).lt
                 have HBW := Lib.hid (HN.out.2.2.trans (hzz.mono HN.out.2.2.size))
                 clear hzz
                 have HX := Lib.hid (HS.out.rep hL)
                 have hsz := HN.out.2.1.lt
                 clear HS
                 go_wp2_with fail
                 refine HQ9.out _ _ _ ?_
                 refine bodyPost_ret (v := .tuple #[.agg #[.int .i64 kd, .int .i64 0, .string ⟨#[]⟩, .slice ip A.length ic, .slice mp M.length mc], .int .i64 (idx : Int), .agg #[.int .i64 0, .int .i64 0]]) (by simp [results, Tryz.results67, go_sem, z0, z1, z2, z3, z4, y0, y1, y2, y3, y4, hlw, x0, x1, v0, v1, hlx]) rfl ?_
                 obtain ⟨rest, hrl, hR⟩ := HRR.out
                 rw [hR]
                 refine ⟨?_, _, _, by rw [hrl, show L.length - (L.length - idx) = idx by omega, srtD_eq]; rfl, ?_⟩
                 · have hbw := HBW.out
                   go_grown
                   all_goals exact hbw
                 · exact (((set5_rep HX.out w.heap.size (fun C hC => by omega) _ _ _ _ _).set ⟨w.heap.size + 1, 0, none⟩ _ (fun C hC => by show w.heap.size + 1 ≠ C; omega)).set ⟨w.heap.size + 1, 1, none⟩ _ (fun C hC => by show w.heap.size + 1 ≠ C; omega)).mono fun B _ hB => by omega
               · have g4 : (i : Int) ≤ (x.ind : Int) := by omega
                 have g4' : decide ((i : Int) ≤ (x.ind : Int)) = true := decide_eq_true g4
                 have HEAD := Lib.hid (fun w' => rhead_any x.txt t2 w')
                 have hpos : 0 < x.txt.length := List.length_pos_iff.2 t1
                 have hpos' : (0 : Int) < (x.txt.length : Int) := by omega
                 rcases hkd with rfl | rfl
                 · generalize labelAt x.txt = hq at HEAD
                   unfold hdV at HEAD
                   generalize (hq.getD ([], [])).1 = hl1 at HEAD
                   generalize (hq.getD ([], [])).2 = hl2 at HEAD
                   generalize hq.isSome = hb1 at HEAD
                   go_wp2_with fail
                   refine (HEAD.out _).mono ?_
                   rintro e w3 ⟨rfl, hb⟩
                   have HS3 := Lib.hid (HS.out.below hb)
                   clear x0 x1 x2 hBw HS hb HEAD
                   obtain ⟨x0, x1, x2, hBw⟩ := HX.out w3 HS3.out.bes
                   obtain ⟨o0, -⟩ := dt_cells HS3.out.dt
                   have hol := HS3.out.dt.blk.lt
                   by_cases h45 : byt x.txt 0 = 45
                   · have T1 : (((byt x.txt 0).toNat : Int) == 45) = true := by rw [h45]; rfl
                     by_cases hgt : i < x.ind
                     · have HR := Lib.hid (show R = .error (19, x.no) by rw [HS3.out.eq, HDR.out]; exact blk_bad (.inl rfl) t2 (by omega) (.inr hgt))
                       have g6 : (i : Int) < (x.ind : Int) := by omega
                       clear h45 HDR HBOD
                       go_wp2_with fail
                       refine (rfault_any 19 (x.no : Int) _).mono ?_
                       rintro e w9 ⟨rfl, hb9⟩
                       have hzz := (HS3.out.bes).trans (hb9.mono (HS3.out.bes).size)
                       obtain ⟨⟨z0, z1, z2, z3, z4⟩, ⟨y0, y1, y2, y3, y4⟩, hlw⟩ := zero_cells (HN.out.1.below hzz)
                       have x0 := (HN.out.2.1.below hzz).cell 0
                       have x1 := (HN.out.2.1.below hzz).cell 1
                       have v0 := (HN.out.2.1.below hzz).frozen 0
                       have v1 := (HN.out.2.1.below hzz).frozen 1
                       simp at x0 x1
                       have hlx := (HN.out.2.1.below hzz).lt
                       have HBW := Lib.hid (HN.out.2.2.trans (hzz.mono HN.out.2.2.size))
                       clear hzz
                       clear hb9
                       go_wp2_with fail
                       refine HQ9.out _ _ _ ?_
                       refine bodyPost_ret (v := .tuple #[.agg #[.int .i64 0, .int .i64 0, .string ⟨#[]⟩, .slice none 0 0, .slice none 0 0], .int .i64 0, .agg #[.int .i64 19, .int .i64 (x.no : Int)]]) (by simp [results, Tryz.results67, go_sem, z0, z1, z2, z3, z4, y0, y1, y2, y3, y4, hlw, x0, x1, v0, v1, hlx]) rfl ?_
                       rw [HR.out]
                       refine ⟨?_, rfl⟩
                       have hbw := HBW.out
                       go_grown
                       all_goals exact hbw
                     · have g6 : ¬ ((i : Int) < (x.ind : Int)) := by omega
                       have e1 : sl x.txt 1 x.txt.length = x.txt.drop 1 := sl_rest x.txt 1
                       have HGO := Lib.hid (show R = match tailY (sl x.txt 1 x.txt.length) with
                         | none => .error (19, x.no)
                         | some _ => if (5 : Int) = 6 ∧ ([] : List UInt8) ∈ mem.map (fun p => p.1) then .error (6, x.no)
                           else match bodR many x (sl x.txt 1 x.txt.length) (L.drop (idx + 1)) with
                             | .error e => .error e
                             | .ok (d, r') => if (5 : Int) = 5 then blkR many i 5 (its ++ [d]) mem r' else blkR many i 6 its (mem ++ [([], d)]) r' by
                         rw [HS3.out.eq, HDR.out, e1]
                         exact blk_go (.inl rfl) t2 (by omega) (by unfold lineR; rw [if_pos rfl, if_pos h45]))
                       have hmore : (sl x.txt 1 x.txt.length).length ≤ 1000000 := by rw [e1, List.length_drop]; omega
                       generalize hmq : sl x.txt 1 x.txt.length = more at HGO hmore
                       have HMQ := Lib.hid hmq
                       clear h45 HDR e1 hmq hge
                       go_upto_region 13 with fail
                       rw [HMQ.out]
                       go_upto_region 15 with fail
                       cases htl : tailY more with
                       | none =>
                         have hne := tail_none htl
                         have hmne : more.isEmpty = false := by simpa using hne
                         have HR := Lib.hid (show R = .error (19, x.no) by rw [HGO.out]; simp only [htl])
                         have HC1 := Lib.hid (show Calls Tryz.prog 99 #[(.slice (some ⟨B, 0, none⟩) L.length lc), .int .i64 (idx : Int), .int .i64 (en : Int), .string (S more)] w3 (RpP w3 L.length (.error (19, x.no))) from by have h := HBOD.out w3 HS3.out.bes more hmore; rwa [bod_tail_none htl] at h)
                         clear HGO HBOD htl
                         go_wp2_with fail
                         refine HC1.out.mono ?_
                         rintro e w8 ⟨hb, rfl⟩
                         have hb2 := (val_two w8 #[.int .i64 0, .int .i64 0, .string ⟨#[]⟩, .slice none 0 0, .slice none 0 0] #[.int .i64 19, .int .i64 (x.no : Int)] 25 33).2.2
                         have hn2 := (val_two w8 #[.int .i64 0, .int .i64 0, .string ⟨#[]⟩, .slice none 0 0, .slice none 0 0] #[.int .i64 19, .int .i64 (x.no : Int)] 25 33).2.1
                         have hn1 := (val_two w8 #[.int .i64 0, .int .i64 0, .string ⟨#[]⟩, .slice none 0 0, .slice none 0 0] #[.int .i64 19, .int .i64 (x.no : Int)] 25 33).1
                         have HS9 := Lib.hid ((HS3.out.below hb).below hb2)
                         have hsep : w.heap.size + 1 < w8.heap.size := by have h1 := HN.out.2.1.lt; have h2 := HS3.out.bes.size; have h3 := hb.size; omega
                         clear hb hb2 hn1 HC1 HS3
                         go_upto_region 17 with fail
                         generalize (w8.alloc (.cells #[.int .i64 0, .int .i64 0, .string ⟨#[]⟩, .slice none 0 0, .slice none 0 0] 25)).alloc (.cells #[.int .i64 19, .int .i64 (x.no : Int)] 33) = W9 at hn2 HS9 ⊢
                         have q0 := hn2.cell 0
                         have q1 := hn2.cell 1
                         simp at q0 q1
                         have hql := hn2.lt
                         have hzz := HS9.out.bes
                         obtain ⟨⟨z0, z1, z2, z3, z4⟩, ⟨y0, y1, y2, y3, y4⟩, hlw⟩ := zero_cells (HN.out.1.below hzz)
                         have x0 := (HN.out.2.1.below hzz).cell 0
                         have x1 := (HN.out.2.1.below hzz).cell 1
                         have v0 := (HN.out.2.1.below hzz).frozen 0
                         have v1 := (HN.out.2.1.below hzz).frozen 1
                         simp at x0 x1
                         have hlx := (HN.out.2.1.below hzz).lt
                         have HBW := Lib.hid (HN.out.2.2.trans (hzz.mono HN.out.2.2.size))
                         clear hzz
                         clear hn2 HS9
                         go_upto_region 18 with fail
                         go_region
                         all_goals
                           go_wp2_with fail
                           refine HQ9.out _ _ _ ?_
                           refine bodyPost_ret (v := .tuple #[.agg #[.int .i64 0, .int .i64 0, .string ⟨#[]⟩, .slice none 0 0, .slice none 0 0], .int .i64 0, .agg #[.int .i64 19, .int .i64 (x.no : Int)]]) (by simp [results, Tryz.results67, go_sem, z0, z1, z2, z3, z4, y0, y1, y2, y3, y4, hlw, x0, x1, v0, v1, hlx]) rfl ?_
                           rw [HR.out]
                           refine ⟨?_, rfl⟩
                           have hbw := HBW.out
                           go_grown
                           all_goals exact hbw
                       | some tw =>
                         have HGO1 := Lib.hid (HGO.out.trans (by rw [htl]))
                         have HT1 := Lib.hid (fun (h : more ≠ []) => bod_tail_some (many := many) (x := x) (r := L.drop (idx + 1)) htl h)
                         clear HGO htl
                         go_upto_if 126 with fail
                         generalize hbq : (!more.isEmpty) = bq
                         have HBQ := Lib.hid hbq
                         clear hbq
                         go_cut [13] (fun v wx => v = .string (S more) ∧ Hid (Below w3.heap.size w3 wx))
                         case first =>
                           rcases bool_two bq with hq | hq
                           · subst hq
                             clear HT1 HGO1 HBQ
                             go_wp2_with fail
                             go_meet
                             exact ⟨rfl, Lib.hid (Below.refl _ _)⟩
                           · subst hq
                             obtain ⟨d1, hd1⟩ := HT1.out (fun hm0 => by have hq := HBQ.out; rw [hm0] at hq; cases hq)
                             have HC1 := Lib.hid (show Calls Tryz.prog 99 #[(.slice (some ⟨B, 0, none⟩) L.length lc), .int .i64 (idx : Int), .int .i64 (en : Int), .string (S more)] w3 (RpP w3 L.length (.ok (d1, L.drop (idx + 1)))) from by have h := HBOD.out w3 HS3.out.bes more hmore; rwa [hd1] at h)
                             clear HT1 HGO1 hd1 HBOD HBQ
                             go_wp2_with fail
                             refine HC1.out.mono ?_
                             rintro e w8 ⟨hb, yi, ym, rfl, hx⟩
                             obtain ⟨xp, xc, rfl, -, -⟩ := hx.items
                             obtain ⟨yp, yc, rfl, -, -⟩ := hx.members
                             have hb2 := (val_two w8 #[.int .i64 (srtD d1).k, .int .i64 (srtD d1).n, .string (S (srtD d1).s), .slice xp (srtD d1).its.length xc, .slice yp (srtD d1).mem.length yc] #[.int .i64 0, .int .i64 0] 25 33).2.2
                             have hn2 := (val_two w8 #[.int .i64 (srtD d1).k, .int .i64 (srtD d1).n, .string (S (srtD d1).s), .slice xp (srtD d1).its.length xc, .slice yp (srtD d1).mem.length yc] #[.int .i64 0, .int .i64 0] 25 33).2.1
                             have hn1 := (val_two w8 #[.int .i64 (srtD d1).k, .int .i64 (srtD d1).n, .string (S (srtD d1).s), .slice xp (srtD d1).its.length xc, .slice yp (srtD d1).mem.length yc] #[.int .i64 0, .int .i64 0] 25 33).1
                             have HBB := Lib.hid (hb.trans (hb2.mono hb.size))
                             generalize L.length - (L.drop (idx + 1)).length = a9
                             clear hb hb2 hx hn1 HC1
                             unfold dv
                             go_upto_region 17 with fail
                             generalize (w8.alloc (.cells #[.int .i64 (srtD d1).k, .int .i64 (srtD d1).n, .string (S (srtD d1).s), .slice xp (srtD d1).its.length xc, .slice yp (srtD d1).mem.length yc] 25)).alloc (.cells #[.int .i64 0, .int .i64 0] 33) = W9 at hn2 HBB ⊢
                             have r0 := hn2.cell 0
                             simp at r0
                             have hql := hn2.lt
                             clear hn2
                             go_wp2_with fail
                             go_meet
                             exact ⟨rfl, HBB⟩
                         case rest =>
                           obtain ⟨rfl, HBc⟩ := hcut
                           have HSc := Lib.hid (HS3.out.below HBc.out)
                           clear HS3 HT1 HBc
                           replace x0 := HX.out wc HSc.out.bes
                           obtain ⟨x0, x1, x2, hBw⟩ := x0
                           obtain ⟨o0, -⟩ := dt_cells HSc.out.dt
                           have hol := HSc.out.dt.blk.lt
                           have HGO2 := Lib.hid (show R = match bodR many x more (L.drop (idx + 1)) with | .error e => .error e | .ok (d, r') => blkR many i 5 (its ++ [d]) mem r' from HGO1.out.trans (if_neg (fun h => absurd h.1 (by decide))))
                           clear HGO1
                           go_upto_region 21 with fail
                           clear o0 hol
                           have HC2 := Lib.hid (HBOD.out wc HSc.out.bes more hmore)
                           have HSZ := Lib.hid (fun d r' (h : bodR many x more (L.drop (idx + 1)) = .ok (d, r')) => suf_drop (bod_end h) (by omega))
                           have HER := Lib.hid (fun q (h : bodR many x more (L.drop (idx + 1)) = .error q) => bod_err h)
                           generalize bodR many x more (L.drop (idx + 1)) = b2 at HC2 HGO2 HSZ HER
                           clear HBOD
                           go_wp2_with fail
                           refine HC2.out.mono ?_
                           rintro e w8 ⟨hb, h8⟩
                           clear HC2
                           cases b2 with
                           | error q =>
                             have hq := HER.out q rfl
                             obtain ⟨q1, q2⟩ := q
                             have hq1 : ((q1 : Int) == 0) = false := by simp at hq ⊢; omega
                             have hq2 : ((q1 : Int) != 0) = true := by simp at hq ⊢; omega
                             subst h8
                             have HR := Lib.hid (show R = .error (q1, q2) from HGO2.out)
                             have hb2 := (val_two w8 #[.int .i64 0, .int .i64 0, .string ⟨#[]⟩, .slice none 0 0, .slice none 0 0] #[.int .i64 (q1 : Int), .int .i64 (q2 : Int)] 25 33).2.2
                             have hn2 := (val_two w8 #[.int .i64 0, .int .i64 0, .string ⟨#[]⟩, .slice none 0 0, .slice none 0 0] #[.int .i64 (q1 : Int), .int .i64 (q2 : Int)] 25 33).2.1
                             have hn1 := (val_two w8 #[.int .i64 0, .int .i64 0, .string ⟨#[]⟩, .slice none 0 0, .slice none 0 0] #[.int .i64 (q1 : Int), .int .i64 (q2 : Int)] 25 33).1
                             have HS9 := Lib.hid ((HSc.out.below hb).below hb2)
                             have hsep : w.heap.size + 1 < w8.heap.size := by have h1 := HN.out.2.1.lt; have h2 := HSc.out.bes.size; have h3 := hb.size; omega
                             clear hb hb2 hn1 HSc HGO2 HSZ HER hq
                             go_upto_region 22 with fail
                             generalize (w8.alloc (.cells #[.int .i64 0, .int .i64 0, .string ⟨#[]⟩, .slice none 0 0, .slice none 0 0] 25)).alloc (.cells #[.int .i64 (q1 : Int), .int .i64 (q2 : Int)] 33) = W9 at hn2 HS9 ⊢
                             have r0 := hn2.cell 0
                             have r1 := hn2.cell 1
                             simp at r0 r1
                             have hql := hn2.lt
                             have hzz := HS9.out.bes
                             obtain ⟨⟨z0, z1, z2, z3, z4⟩, ⟨y0, y1, y2, y3, y4⟩, hlw⟩ := zero_cells (HN.out.1.below hzz)
                             have x0 := (HN.out.2.1.below hzz).cell 0
                             have x1 := (HN.out.2.1.below hzz).cell 1
                             have v0 := (HN.out.2.1.below hzz).frozen 0
                             have v1 := (HN.out.2.1.below hzz).frozen 1
                             simp at x0 x1
                             have hlx := (HN.out.2.1.below hzz).lt
                             have HBW := Lib.hid (HN.out.2.2.trans (hzz.mono HN.out.2.2.size))
                             clear hzz
                             clear hn2 HS9
                             go_upto_region 23 with fail
                             go_region
                             all_goals
                               go_wp2_with fail
                               refine HQ9.out _ _ _ ?_
                               refine bodyPost_ret (v := .tuple #[.agg #[.int .i64 0, .int .i64 0, .string ⟨#[]⟩, .slice none 0 0, .slice none 0 0], .int .i64 0, .agg #[.int .i64 (q1 : Int), .int .i64 (q2 : Int)]]) (by simp [results, Tryz.results67, go_sem, z0, z1, z2, z3, z4, y0, y1, y2, y3, y4, hlw, x0, x1, v0, v1, hlx]) rfl ?_
                               rw [HR.out]
                               refine ⟨?_, rfl⟩
                               have hbw := HBW.out
                               go_grown
                               all_goals exact hbw
                           | ok q =>
                             obtain ⟨d, r'⟩ := q
                             obtain ⟨xi, xm, rfl, hx⟩ := h8
                             obtain ⟨hr', ha1', ha2'⟩ := HSZ.out d r' rfl
                             have HEQ6 := Lib.hid (show R = blkR many i 5 (its ++ [d]) mem (L.drop (L.length - r'.length)) from HGO2.out.trans (by rw [← hr']))
                             obtain ⟨xp, xc, rfl, -, -⟩ := hx.items
                             obtain ⟨yp, yc, rfl, -, -⟩ := hx.members
                             clear HGO2 HSZ HER hr'
                             generalize L.length - r'.length = a2 at HEQ6 ha1' ha2' ⊢
                             have hb2 := (val_two w8 #[.int .i64 (srtD d).k, .int .i64 (srtD d).n, .string (S (srtD d).s), .slice xp (srtD d).its.length xc, .slice yp (srtD d).mem.length yc] #[.int .i64 0, .int .i64 0] 25 33).2.2
                             have hn2 := (val_two w8 #[.int .i64 (srtD d).k, .int .i64 (srtD d).n, .string (S (srtD d).s), .slice xp (srtD d).its.length xc, .slice yp (srtD d).mem.length yc] #[.int .i64 0, .int .i64 0] 25 33).2.1
                             have hn1 := (val_two w8 #[.int .i64 (srtD d).k, .int .i64 (srtD d).n, .string (S (srtD d).s), .slice xp (srtD d).its.length xc, .slice yp (srtD d).mem.length yc] #[.int .i64 0, .int .i64 0] 25 33).1
                             have HS9 := Lib.hid ((HSc.out.below hb).below hb2)
                             have HX9 := Lib.hid ((hx.under hb2).mono (ok' := apY ws.heap.size ws.heap.size (.slice ip A.length ic) (.slice mp M.length mc)) (fun B _ hB => HSc.out.dt.apart (Nat.le_refl _) hB))
                             clear hb hb2 hx HSc
                             unfold dv
                             go_upto_region 22 with fail
                             generalize (w8.alloc (.cells #[.int .i64 (srtD d).k, .int .i64 (srtD d).n, .string (S (srtD d).s), .slice xp (srtD d).its.length xc, .slice yp (srtD d).mem.length yc] 25)).alloc (.cells #[.int .i64 0, .int .i64 0] 33) = W9 at hn1 hn2 HS9 HX9 ⊢
                             have r0 := hn2.cell 0
                             simp at r0
                             have hql := hn2.lt
                             have p0 := hn1.cell 0
                             have p1 := hn1.cell 1
                             have p2 := hn1.cell 2
                             have p3 := hn1.cell 3
                             have p4 := hn1.cell 4
                             simp at p0 p1 p2 p3 p4
                             have hpl := hn1.lt
                             obtain ⟨o0, -⟩ := dt_cells HS9.out.dt
                             have o9 := HS9.out.dt.blk.cell 3
                             have f9 := HS9.out.dt.blk.frozen 3
                             simp at o9
                             have hol := HS9.out.dt.blk.lt
                             have hfew : A.length + M.length ≤ idx := by have h1 := HS9.out.lens; have h2 := HS9.out.few; omega
                             have hle9 := HS9.out.le
                             clear hn1 hn2
                             have HNEQ := Lib.hid (show some ws.heap.size ≠ (Value.slice ip A.length ic).ownBlock from fun e => by have := (own_ge HS9.out.dt.its e.symm).1; omega)
                             go_wp2_with (at_builtin; refine wpList_append_lies _ (by rfl) _ _ _ (by rfl) (ws.heap.size + 1) 25 i0 (.agg #[.int .i64 0, .int .i64 0, .string ⟨#[]⟩, .slice none 0 0, .slice none 0 0]) 5 80 Tryz.underlying22 hi0 hz0 hz1 hz2 rfl (by omega) (.slice ip A.length ic) A.length (flat5 A) (by rfl) (HS9.out.dt.its.alloc _) ⟨W9.heap.size, 0, none⟩ 1 1 [.int .i64 (srtD d).k, .int .i64 (srtD d).n, .string (S (srtD d).s), .slice xp (srtD d).its.length xc, .slice yp (srtD d).mem.length yc] (by rfl) (by rfl) (cells_new_at rfl rfl) (by simp [Value.oneCell']) (by omega) (by unfold maxLen; omega) (by omega) (by have := HS9.out.dt.nr.2.2; simp; omega) _ rfl ?_; intro g5 c5 w10 hown5 hgrow5 hat5 hlt5; obtain ⟨k2, kf, kl⟩ := out_kept2 hol HNEQ.out o9 f9 hgrow5; have HO5 := Lib.hid hown5; have HG10 := Lib.hid hgrow5; have HA5 := Lib.hid hat5; clear hown5 hgrow5 hat5)
                             go_wp2_with fail
                             go_roundg (L.length - a2)
                             case measure => omega
                             case rel => exact ⟨a2, 5, A ++ [(srtD d, .slice xp (srtD d).its.length xc, .slice yp (srtD d).mem.length yc)], M, _, _, its ++ [d], mem, rfl, Nat.le_refl _, by omega, .inl rfl, Lib.hid (HS9.out.item HX9.out HO5.out HG10.out (HA5.out.imp (fun e => e.symm) fun e => congrArg some e) HEQ6.out ⟨by omega, by omega⟩)⟩
                   · have T1 : (((byt x.txt 0).toNat : Int) == 45) = false := u8_ne h45
                     have HR := Lib.hid (show R = .error (19, x.no) by rw [HS3.out.eq, HDR.out]; exact blk_bad (.inl rfl) t2 (by omega) (.inl (by unfold lineR; rw [if_pos rfl, if_neg h45])))
                     clear h45 HDR HBOD
                     go_wp2_with fail
                     refine (rfault_any 19 (x.no : Int) _).mono ?_
                     rintro e w9 ⟨rfl, hb9⟩
                     have hzz := (HS3.out.bes).trans (hb9.mono (HS3.out.bes).size)
                     obtain ⟨⟨z0, z1, z2, z3, z4⟩, ⟨y0, y1, y2, y3, y4⟩, hlw⟩ := zero_cells (HN.out.1.below hzz)
                     have x0 := (HN.out.2.1.below hzz).cell 0
                     have x1 := (HN.out.2.1.below hzz).cell 1
                     have v0 := (HN.out.2.1.below hzz).frozen 0
                     have v1 := (HN.out.2.1.below hzz).frozen 1
                     simp at x0 x1
                     have hlx := (HN.out.2.1.below hzz).lt
                     have HBW := Lib.hid (HN.out.2.2.trans (hzz.mono HN.out.2.2.size))
                     clear hzz
                     clear hb9
                     go_wp2_with fail
                     refine HQ9.out _ _ _ ?_
                     refine bodyPost_ret (v := .tuple #[.agg #[.int .i64 0, .int .i64 0, .string ⟨#[]⟩, .slice none 0 0, .slice none 0 0], .int .i64 0, .agg #[.int .i64 19, .int .i64 (x.no : Int)]]) (by simp [results, Tryz.results67, go_sem, z0, z1, z2, z3, z4, y0, y1, y2, y3, y4, hlw, x0, x1, v0, v1, hlx]) rfl ?_
                     rw [HR.out]
                     refine ⟨?_, rfl⟩
                     have hbw := HBW.out
                     go_grown
                     all_goals exact hbw
                 · have HLA := Lib.hid (fun l m (h : labelAt x.txt = some (l, m)) => labAt_lim h (show x.txt.length ≤ 1000000 by omega))
                   have HLR := Lib.hid (show lineR 6 x.txt = labelAt x.txt by unfold lineR; rw [if_neg (by decide)])
                   generalize labelAt x.txt = hq at HEAD HLA HLR
                   go_wp2_with fail
                   refine (HEAD.out _).mono ?_
                   rintro e w3 ⟨rfl, hb⟩
                   have HS3 := Lib.hid (HS.out.below hb)
                   clear x0 x1 x2 hBw HS hb HEAD
                   obtain ⟨x0, x1, x2, hBw⟩ := HX.out w3 HS3.out.bes
                   obtain ⟨o0, -⟩ := dt_cells HS3.out.dt
                   have hol := HS3.out.dt.blk.lt
                   cases hq with
                   | none =>
                     have HR := Lib.hid (show R = .error (19, x.no) by rw [HS3.out.eq, HDR.out]; exact blk_bad (.inr rfl) t2 (by omega) (.inl HLR.out))
                     simp only [hdV, Option.getD_none, Option.isSome_none]
                     clear HDR HBOD HLA HLR
                     go_wp2_with fail
                     refine (rfault_any 19 (x.no : Int) _).mono ?_
                     rintro e w9 ⟨rfl, hb9⟩
                     have hzz := (HS3.out.bes).trans (hb9.mono (HS3.out.bes).size)
                     obtain ⟨⟨z0, z1, z2, z3, z4⟩, ⟨y0, y1, y2, y3, y4⟩, hlw⟩ := zero_cells (HN.out.1.below hzz)
                     have x0 := (HN.out.2.1.below hzz).cell 0
                     have x1 := (HN.out.2.1.below hzz).cell 1
                     have v0 := (HN.out.2.1.below hzz).frozen 0
                     have v1 := (HN.out.2.1.below hzz).frozen 1
                     simp at x0 x1
                     have hlx := (HN.out.2.1.below hzz).lt
                     have HBW := Lib.hid (HN.out.2.2.trans (hzz.mono HN.out.2.2.size))
                     clear hzz
                     clear hb9
                     go_wp2_with fail
                     refine HQ9.out _ _ _ ?_
                     refine bodyPost_ret (v := .tuple #[.agg #[.int .i64 0, .int .i64 0, .string ⟨#[]⟩, .slice none 0 0, .slice none 0 0], .int .i64 0, .agg #[.int .i64 19, .int .i64 (x.no : Int)]]) (by simp [results, Tryz.results67, go_sem, z0, z1, z2, z3, z4, y0, y1, y2, y3, y4, hlw, x0, x1, v0, v1, hlx]) rfl ?_
                     rw [HR.out]
                     refine ⟨?_, rfl⟩
                     have hbw := HBW.out
                     go_grown
                     all_goals exact hbw
                   | some lm =>
                     obtain ⟨lab, more⟩ := lm
                     obtain ⟨hlab, hmore⟩ := HLA.out lab more rfl
                     simp only [hdV, Option.getD_some, Option.isSome_some]
                     by_cases hgt : i < x.ind
                     · have HR := Lib.hid (show R = .error (19, x.no) by rw [HS3.out.eq, HDR.out]; exact blk_bad (.inr rfl) t2 (by omega) (.inr hgt))
                       have g6 : (i : Int) < (x.ind : Int) := by omega
                       clear HDR HBOD HLA HLR
                       go_wp2_with fail
                       refine (rfault_any 19 (x.no : Int) _).mono ?_
                       rintro e w9 ⟨rfl, hb9⟩
                       have hzz := (HS3.out.bes).trans (hb9.mono (HS3.out.bes).size)
                       obtain ⟨⟨z0, z1, z2, z3, z4⟩, ⟨y0, y1, y2, y3, y4⟩, hlw⟩ := zero_cells (HN.out.1.below hzz)
                       have x0 := (HN.out.2.1.below hzz).cell 0
                       have x1 := (HN.out.2.1.below hzz).cell 1
                       have v0 := (HN.out.2.1.below hzz).frozen 0
                       have v1 := (HN.out.2.1.below hzz).frozen 1
                       simp at x0 x1
                       have hlx := (HN.out.2.1.below hzz).lt
                       have HBW := Lib.hid (HN.out.2.2.trans (hzz.mono HN.out.2.2.size))
                       clear hzz
                       clear hb9
                       go_wp2_with fail
                       refine HQ9.out _ _ _ ?_
                       refine bodyPost_ret (v := .tuple #[.agg #[.int .i64 0, .int .i64 0, .string ⟨#[]⟩, .slice none 0 0, .slice none 0 0], .int .i64 0, .agg #[.int .i64 19, .int .i64 (x.no : Int)]]) (by simp [results, Tryz.results67, go_sem, z0, z1, z2, z3, z4, y0, y1, y2, y3, y4, hlw, x0, x1, v0, v1, hlx]) rfl ?_
                       rw [HR.out]
                       refine ⟨?_, rfl⟩
                       have hbw := HBW.out
                       go_grown
                       all_goals exact hbw
                     · have g6 : ¬ ((i : Int) < (x.ind : Int)) := by omega
                       have HGO := Lib.hid (show R = match tailY more with
                         | none => .error (19, x.no)
                         | some _ => if (6 : Int) = 6 ∧ lab ∈ mem.map (fun p => p.1) then .error (6, x.no)
                           else match bodR many x more (L.drop (idx + 1)) with
                             | .error e => .error e
                             | .ok (d, r') => if (6 : Int) = 5 then blkR many i 5 (its ++ [d]) mem r' else blkR many i 6 its (mem ++ [(lab, d)]) r' by
                         rw [HS3.out.eq, HDR.out]
                         exact blk_go (.inr rfl) t2 (by omega) HLR.out)
                       clear HDR HLA HLR hge
                       go_upto_region 15 with fail
                       cases htl : tailY more with
                       | none =>
                         have hne := tail_none htl
                         have hmne : more.isEmpty = false := by simpa using hne
                         have HR := Lib.hid (show R = .error (19, x.no) by rw [HGO.out]; simp only [htl])
                         have HC1 := Lib.hid (show Calls Tryz.prog 99 #[(.slice (some ⟨B, 0, none⟩) L.length lc), .int .i64 (idx : Int), .int .i64 (en : Int), .string (S more)] w3 (RpP w3 L.length (.error (19, x.no))) from by have h := HBOD.out w3 HS3.out.bes more hmore; rwa [bod_tail_none htl] at h)
                         clear HGO HBOD htl
                         go_wp2_with fail
                         refine HC1.out.mono ?_
                         rintro e w8 ⟨hb, rfl⟩
                         have hb2 := (val_two w8 #[.int .i64 0, .int .i64 0, .string ⟨#[]⟩, .slice none 0 0, .slice none 0 0] #[.int .i64 19, .int .i64 (x.no : Int)] 25 33).2.2
                         have hn2 := (val_two w8 #[.int .i64 0, .int .i64 0, .string ⟨#[]⟩, .slice none 0 0, .slice none 0 0] #[.int .i64 19, .int .i64 (x.no : Int)] 25 33).2.1
                         have hn1 := (val_two w8 #[.int .i64 0, .int .i64 0, .string ⟨#[]⟩, .slice none 0 0, .slice none 0 0] #[.int .i64 19, .int .i64 (x.no : Int)] 25 33).1
                         have HS9 := Lib.hid ((HS3.out.below hb).below hb2)
                         have hsep : w.heap.size + 1 < w8.heap.size := by have h1 := HN.out.2.1.lt; have h2 := HS3.out.bes.size; have h3 := hb.size; omega
                         clear hb hb2 hn1 HC1 HS3
                         go_upto_region 17 with fail
                         generalize (w8.alloc (.cells #[.int .i64 0, .int .i64 0, .string ⟨#[]⟩, .slice none 0 0, .slice none 0 0] 25)).alloc (.cells #[.int .i64 19, .int .i64 (x.no : Int)] 33) = W9 at hn2 HS9 ⊢
                         have q0 := hn2.cell 0
                         have q1 := hn2.cell 1
                         simp at q0 q1
                         have hql := hn2.lt
                         have hzz := HS9.out.bes
                         obtain ⟨⟨z0, z1, z2, z3, z4⟩, ⟨y0, y1, y2, y3, y4⟩, hlw⟩ := zero_cells (HN.out.1.below hzz)
                         have x0 := (HN.out.2.1.below hzz).cell 0
                         have x1 := (HN.out.2.1.below hzz).cell 1
                         have v0 := (HN.out.2.1.below hzz).frozen 0
                         have v1 := (HN.out.2.1.below hzz).frozen 1
                         simp at x0 x1
                         have hlx := (HN.out.2.1.below hzz).lt
                         have HBW := Lib.hid (HN.out.2.2.trans (hzz.mono HN.out.2.2.size))
                         clear hzz
                         clear hn2 HS9
                         go_upto_region 18 with fail
                         go_region
                         all_goals
                           go_wp2_with fail
                           refine HQ9.out _ _ _ ?_
                           refine bodyPost_ret (v := .tuple #[.agg #[.int .i64 0, .int .i64 0, .string ⟨#[]⟩, .slice none 0 0, .slice none 0 0], .int .i64 0, .agg #[.int .i64 19, .int .i64 (x.no : Int)]]) (by simp [results, Tryz.results67, go_sem, z0, z1, z2, z3, z4, y0, y1, y2, y3, y4, hlw, x0, x1, v0, v1, hlx]) rfl ?_
                           rw [HR.out]
                           refine ⟨?_, rfl⟩
                           have hbw := HBW.out
                           go_grown
                           all_goals exact hbw
                       | some tw =>
                         have HGO1 := Lib.hid (HGO.out.trans (by rw [htl]))
                         have HT1 := Lib.hid (fun (h : more ≠ []) => bod_tail_some (many := many) (x := x) (r := L.drop (idx + 1)) htl h)
                         clear HGO htl
                         go_upto_if 126 with fail
                         generalize hbq : (!more.isEmpty) = bq
                         have HBQ := Lib.hid hbq
                         clear hbq
                         go_cut [13] (fun v wx => v = .string (S more) ∧ Hid (Below w3.heap.size w3 wx))
                         case first =>
                           rcases bool_two bq with hq | hq
                           · subst hq
                             clear HT1 HGO1 HBQ
                             go_wp2_with fail
                             go_meet
                             exact ⟨rfl, Lib.hid (Below.refl _ _)⟩
                           · subst hq
                             obtain ⟨d1, hd1⟩ := HT1.out (fun hm0 => by have hq := HBQ.out; rw [hm0] at hq; cases hq)
                             have HC1 := Lib.hid (show Calls Tryz.prog 99 #[(.slice (some ⟨B, 0, none⟩) L.length lc), .int .i64 (idx : Int), .int .i64 (en : Int), .string (S more)] w3 (RpP w3 L.length (.ok (d1, L.drop (idx + 1)))) from by have h := HBOD.out w3 HS3.out.bes more hmore; rwa [hd1] at h)
                             clear HT1 HGO1 hd1 HBOD HBQ
                             go_wp2_with fail
                             refine HC1.out.mono ?_
                             rintro e w8 ⟨hb, yi, ym, rfl, hx⟩
                             obtain ⟨xp, xc, rfl, -, -⟩ := hx.items
                             obtain ⟨yp, yc, rfl, -, -⟩ := hx.members
                             have hb2 := (val_two w8 #[.int .i64 (srtD d1).k, .int .i64 (srtD d1).n, .string (S (srtD d1).s), .slice xp (srtD d1).its.length xc, .slice yp (srtD d1).mem.length yc] #[.int .i64 0, .int .i64 0] 25 33).2.2
                             have hn2 := (val_two w8 #[.int .i64 (srtD d1).k, .int .i64 (srtD d1).n, .string (S (srtD d1).s), .slice xp (srtD d1).its.length xc, .slice yp (srtD d1).mem.length yc] #[.int .i64 0, .int .i64 0] 25 33).2.1
                             have hn1 := (val_two w8 #[.int .i64 (srtD d1).k, .int .i64 (srtD d1).n, .string (S (srtD d1).s), .slice xp (srtD d1).its.length xc, .slice yp (srtD d1).mem.length yc] #[.int .i64 0, .int .i64 0] 25 33).1
                             have HBB := Lib.hid (hb.trans (hb2.mono hb.size))
                             generalize L.length - (L.drop (idx + 1)).length = a9
                             clear hb hb2 hx hn1 HC1
                             unfold dv
                             go_upto_region 17 with fail
                             generalize (w8.alloc (.cells #[.int .i64 (srtD d1).k, .int .i64 (srtD d1).n, .string (S (srtD d1).s), .slice xp (srtD d1).its.length xc, .slice yp (srtD d1).mem.length yc] 25)).alloc (.cells #[.int .i64 0, .int .i64 0] 33) = W9 at hn2 HBB ⊢
                             have r0 := hn2.cell 0
                             simp at r0
                             have hql := hn2.lt
                             clear hn2
                             go_wp2_with fail
                             go_meet
                             exact ⟨rfl, HBB⟩
                         case rest =>
                           obtain ⟨rfl, HBc⟩ := hcut
                           have HSc := Lib.hid (HS3.out.below HBc.out)
                           clear HS3 HT1 HBc
                           replace x0 := HX.out wc HSc.out.bes
                           obtain ⟨x0, x1, x2, hBw⟩ := x0
                           obtain ⟨o0, -⟩ := dt_cells HSc.out.dt
                           have hol := HSc.out.dt.blk.lt
                           have HDC := Lib.hid (fun W' (hb : Below wc.heap.size wc W') => rdecl_any (fun t ht => by obtain ⟨p1, c1, e1, -⟩ := (HSc.out.dt.gm t ht).items; obtain ⟨p2, c2, e2, -⟩ := (HSc.out.dt.gm t ht).members; exact ⟨_, _, _, _, _, _, e1, e2⟩) (own_under HSc.out.dt.mem hb) (by have := HSc.out.lens; have := HSc.out.few; have := HSc.out.le; omega) lab)
                           have HLB := Lib.hid (HSc.out.labels lab)
                           have o4 := HSc.out.dt.blk.cell 4
                           simp at o4
                           generalize hdb : decide (lab ∈ M.map fun t => t.1) = db at HDC
                           have HDB := Lib.hid hdb
                           clear hdb
                           go_wp2_with fail
                           refine (HDC.out _ (Below.refl _ _)).mono ?_
                           rintro e w7 ⟨rfl, hb⟩
                           have HS7 := Lib.hid (HSc.out.below hb)
                           have hbs7 := HS7.out.bes
                           clear hb HSc HDC o0 o4 hol x0 x1 x2 hBw
                           obtain ⟨x0, x1, x2, hBw⟩ := HX.out w7 hbs7
                           clear hbs7
                           rcases (bool_two db).symm with hdb | hdb
                           · have HR := Lib.hid (show R = .error (6, x.no) from HGO1.out.trans (if_pos ⟨by trivial, HLB.out.1 (of_decide_eq_true (HDB.out.trans hdb))⟩))
                             rw [hdb]
                             clear hdb HGO1 HBOD HDB HLB
                             go_wp2_with fail
                             refine (rfault_any 6 (x.no : Int) _).mono ?_
                             rintro e w9 ⟨rfl, hb9⟩
                             have hzz := (HS7.out.bes).trans (hb9.mono (HS7.out.bes).size)
                             obtain ⟨⟨z0, z1, z2, z3, z4⟩, ⟨y0, y1, y2, y3, y4⟩, hlw⟩ := zero_cells (HN.out.1.below hzz)
                             have x0 := (HN.out.2.1.below hzz).cell 0
                             have x1 := (HN.out.2.1.below hzz).cell 1
                             have v0 := (HN.out.2.1.below hzz).frozen 0
                             have v1 := (HN.out.2.1.below hzz).frozen 1
                             simp at x0 x1
                             have hlx := (HN.out.2.1.below hzz).lt
                             have HBW := Lib.hid (HN.out.2.2.trans (hzz.mono HN.out.2.2.size))
                             clear hzz
                             clear hb9
                             go_wp2_with fail
                             refine HQ9.out _ _ _ ?_
                             refine bodyPost_ret (v := .tuple #[.agg #[.int .i64 0, .int .i64 0, .string ⟨#[]⟩, .slice none 0 0, .slice none 0 0], .int .i64 0, .agg #[.int .i64 6, .int .i64 (x.no : Int)]]) (by simp [results, Tryz.results67, go_sem, z0, z1, z2, z3, z4, y0, y1, y2, y3, y4, hlw, x0, x1, v0, v1, hlx]) rfl ?_
                             rw [HR.out]
                             refine ⟨?_, rfl⟩
                             have hbw := HBW.out
                             go_grown
                             all_goals exact hbw
                           · have HNEW := Lib.hid (show lab ∉ mem.map fun p => p.1 from fun h => (of_decide_eq_false (HDB.out.trans hdb)) (HLB.out.2 h))
                             have HGO2 := Lib.hid (show R = match bodR many x more (L.drop (idx + 1)) with | .error e => .error e | .ok (d, r') => blkR many i 6 its (mem ++ [(lab, d)]) r' from HGO1.out.trans (if_neg (fun h => HNEW.out h.2)))
                             rw [hdb]
                             clear hdb HGO1 HDB HLB
                             go_upto_region 21 with fail
                             have HC2 := Lib.hid (HBOD.out w7 HS7.out.bes more hmore)
                             have HSZ := Lib.hid (fun d r' (h : bodR many x more (L.drop (idx + 1)) = .ok (d, r')) => suf_drop (bod_end h) (by omega))
                             have HER := Lib.hid (fun q (h : bodR many x more (L.drop (idx + 1)) = .error q) => bod_err h)
                             generalize bodR many x more (L.drop (idx + 1)) = b2 at HC2 HGO2 HSZ HER
                             clear HBOD
                             go_wp2_with fail
                             refine HC2.out.mono ?_
                             rintro e w8 ⟨hb, h8⟩
                             clear HC2
                             cases b2 with
                             | error q =>
                               have hq := HER.out q rfl
                               obtain ⟨q1, q2⟩ := q
                               have hq1 : ((q1 : Int) == 0) = false := by simp at hq ⊢; omega
                               have hq2 : ((q1 : Int) != 0) = true := by simp at hq ⊢; omega
                               subst h8
                               have HR := Lib.hid (show R = .error (q1, q2) from HGO2.out)
                               have hb2 := (val_two w8 #[.int .i64 0, .int .i64 0, .string ⟨#[]⟩, .slice none 0 0, .slice none 0 0] #[.int .i64 (q1 : Int), .int .i64 (q2 : Int)] 25 33).2.2
                               have hn2 := (val_two w8 #[.int .i64 0, .int .i64 0, .string ⟨#[]⟩, .slice none 0 0, .slice none 0 0] #[.int .i64 (q1 : Int), .int .i64 (q2 : Int)] 25 33).2.1
                               have hn1 := (val_two w8 #[.int .i64 0, .int .i64 0, .string ⟨#[]⟩, .slice none 0 0, .slice none 0 0] #[.int .i64 (q1 : Int), .int .i64 (q2 : Int)] 25 33).1
                               have HS9 := Lib.hid ((HS7.out.below hb).below hb2)
                               have hsep : w.heap.size + 1 < w8.heap.size := by have h1 := HN.out.2.1.lt; have h2 := HS7.out.bes.size; have h3 := hb.size; omega
                               clear hb hb2 hn1 HS7 HGO2 HSZ HER hq
                               go_upto_region 22 with fail
                               generalize (w8.alloc (.cells #[.int .i64 0, .int .i64 0, .string ⟨#[]⟩, .slice none 0 0, .slice none 0 0] 25)).alloc (.cells #[.int .i64 (q1 : Int), .int .i64 (q2 : Int)] 33) = W9 at hn2 HS9 ⊢
                               have r0 := hn2.cell 0
                               have r1 := hn2.cell 1
                               simp at r0 r1
                               have hql := hn2.lt
                               have hzz := HS9.out.bes
                               obtain ⟨⟨z0, z1, z2, z3, z4⟩, ⟨y0, y1, y2, y3, y4⟩, hlw⟩ := zero_cells (HN.out.1.below hzz)
                               have x0 := (HN.out.2.1.below hzz).cell 0
                               have x1 := (HN.out.2.1.below hzz).cell 1
                               have v0 := (HN.out.2.1.below hzz).frozen 0
                               have v1 := (HN.out.2.1.below hzz).frozen 1
                               simp at x0 x1
                               have hlx := (HN.out.2.1.below hzz).lt
                               have HBW := Lib.hid (HN.out.2.2.trans (hzz.mono HN.out.2.2.size))
                               clear hzz
                               clear hn2 HS9
                               go_upto_region 23 with fail
                               go_region
                               all_goals
                                 go_wp2_with fail
                                 refine HQ9.out _ _ _ ?_
                                 refine bodyPost_ret (v := .tuple #[.agg #[.int .i64 0, .int .i64 0, .string ⟨#[]⟩, .slice none 0 0, .slice none 0 0], .int .i64 0, .agg #[.int .i64 (q1 : Int), .int .i64 (q2 : Int)]]) (by simp [results, Tryz.results67, go_sem, z0, z1, z2, z3, z4, y0, y1, y2, y3, y4, hlw, x0, x1, v0, v1, hlx]) rfl ?_
                                 rw [HR.out]
                                 refine ⟨?_, rfl⟩
                                 have hbw := HBW.out
                                 go_grown
                                 all_goals exact hbw
                             | ok q =>
                               obtain ⟨d, r'⟩ := q
                               obtain ⟨xi, xm, rfl, hx⟩ := h8
                               obtain ⟨hr', ha1', ha2'⟩ := HSZ.out d r' rfl
                               have HEQ6 := Lib.hid (show R = blkR many i 6 its (mem ++ [(lab, d)]) (L.drop (L.length - r'.length)) from HGO2.out.trans (by rw [← hr']))
                               obtain ⟨xp, xc, rfl, -, -⟩ := hx.items
                               obtain ⟨yp, yc, rfl, -, -⟩ := hx.members
                               clear HGO2 HSZ HER hr'
                               generalize L.length - r'.length = a2 at HEQ6 ha1' ha2' ⊢
                               have hb2 := (val_two w8 #[.int .i64 (srtD d).k, .int .i64 (srtD d).n, .string (S (srtD d).s), .slice xp (srtD d).its.length xc, .slice yp (srtD d).mem.length yc] #[.int .i64 0, .int .i64 0] 25 33).2.2
                               have hn2 := (val_two w8 #[.int .i64 (srtD d).k, .int .i64 (srtD d).n, .string (S (srtD d).s), .slice xp (srtD d).its.length xc, .slice yp (srtD d).mem.length yc] #[.int .i64 0, .int .i64 0] 25 33).2.1
                               have hn1 := (val_two w8 #[.int .i64 (srtD d).k, .int .i64 (srtD d).n, .string (S (srtD d).s), .slice xp (srtD d).its.length xc, .slice yp (srtD d).mem.length yc] #[.int .i64 0, .int .i64 0] 25 33).1
                               have HS9 := Lib.hid ((HS7.out.below hb).below hb2)
                               have HX9 := Lib.hid ((hx.under hb2).mono (ok' := apY ws.heap.size ws.heap.size (.slice ip A.length ic) (.slice mp M.length mc)) (fun B _ hB => HS7.out.dt.apart (Nat.le_refl _) hB))
                               clear hb hb2 hx HS7
                               unfold dv
                               go_upto_region 22 with fail
                               generalize (w8.alloc (.cells #[.int .i64 (srtD d).k, .int .i64 (srtD d).n, .string (S (srtD d).s), .slice xp (srtD d).its.length xc, .slice yp (srtD d).mem.length yc] 25)).alloc (.cells #[.int .i64 0, .int .i64 0] 33) = W9 at hn1 hn2 HS9 HX9 ⊢
                               have r0 := hn2.cell 0
                               simp at r0
                               have hql := hn2.lt
                               have p0 := hn1.cell 0
                               have p1 := hn1.cell 1
                               have p2 := hn1.cell 2
                               have p3 := hn1.cell 3
                               have p4 := hn1.cell 4
                               simp at p0 p1 p2 p3 p4
                               have hpl := hn1.lt
                               obtain ⟨o0, -⟩ := dt_cells HS9.out.dt
                               have o9 := HS9.out.dt.blk.cell 4
                               have f9 := HS9.out.dt.blk.frozen 4
                               simp at o9
                               have hol := HS9.out.dt.blk.lt
                               have hfew : A.length + M.length ≤ idx := by have h1 := HS9.out.lens; have h2 := HS9.out.few; omega
                               have hle9 := HS9.out.le
                               clear hn1 hn2
                               have HMB := Lib.hid (fun W' (hb : Below W9.heap.size W9 W') => rmember_any (own_under HS9.out.dt.mem hb) (flat6_one fun t ht => (HS9.out.dt.gm t ht).one) (by omega) lab (srtD d) xp yp xc yc)
                               go_wp2_with fail
                               refine (HMB.out _ (Below.refl _ _)).mono ?_
                               rintro e w10 ⟨vp, vc, k, rfl, hk, hK, hD, hown, hb⟩
                               have HMM := Lib.hid (HS9.out.memb HX9.out HNEW.out hK hD hown hb HEQ6.out ⟨by omega, by omega⟩)
                               have hlm : (M.take k ++ (lab, srtD d, Value.slice xp (srtD d).its.length xc, Value.slice yp (srtD d).mem.length yc) :: M.drop k).length = M.length + 1 := by
                                 have := congrArg List.length (List.take_append_drop k M)
                                 rw [List.length_append] at this ⊢
                                 rw [List.length_cons]; omega
                               have HLM := Lib.hid hlm
                               have c9 := (hb.cell (p := ⟨ws.heap.size, 4, none⟩) hol).trans o9
                               have g9 := (hb.frozen (p := ⟨ws.heap.size, 4, none⟩) hol).trans f9
                               have hol2 := Nat.lt_of_lt_of_le hol hb.size
                               clear HMB hown hb hK hD hlm o9 f9 o0 p0 p1 p2 p3 p4
                               go_wp2_with fail
                               go_roundg (L.length - a2)
                               case measure => omega
                               case rel => exact ⟨a2, 6, A, _, _, _, its, mem ++ [(lab, d)], rfl, Nat.le_refl _, by omega, .inr rfl, HMM⟩
             · have hea : idx = L.length := by have := HS.out.le; omega
               have g3 : ¬ ((idx : Int) < (L.length : Int)) := by omega
               have HRR : Hid (∃ rest : List Ln, rest.length = L.length - idx ∧ R = .ok (.mk kd 0 [] its mem, rest)) := Lib.hid ⟨[], by rw [hea]; simp, by rw [HS.out.eq, List.drop_of_length_le (by omega), blkR_nil, if_neg (by omega)]⟩
               have hle9 : idx ≤ L.length := by omega
               clear hlt HIH hea
               obtain ⟨o0, o1, o2, o3, o4, hol⟩ := dt_cells HS.out.dt
               have hzz := HS.out.bes
               obtain ⟨⟨z0, z1, z2, z3, z4⟩, ⟨y0, y1, y2, y3, y4⟩, hlw⟩ := zero_cells (HN.out.1.below hzz)
               have x0 := (HN.out.2.1.below hzz).cell 0
               have x1 := (HN.out.2.1.below hzz).cell 1
               have v0 := (HN.out.2.1.below hzz).frozen 0
               have v1 := (HN.out.2.1.below hzz).frozen 1
               simp at x0 x1
               have hlx := (HN.out.2.1.below hzz).lt
               have HBW := Lib.hid (HN.out.2.2.trans (hzz.mono HN.out.2.2.size))
               clear hzz
               have HX := Lib.hid (HS.out.rep hL)
               have hsz := HN.out.2.1.lt
               clear HS
               go_wp2_with fail
               refine HQ9.out _ _ _ ?_
               refine bodyPost_ret (v := .tuple #[.agg #[.int .i64 kd, .int .i64 0, .string ⟨#[]⟩, .slice ip A.length ic, .slice mp M.length mc], .int .i64 (idx : Int), .agg #[.int .i64 0, .int .i64 0]]) (by simp [results, Tryz.results67, go_sem, z0, z1, z2, z3, z4, y0, y1, y2, y3, y4, hlw, x0, x1, v0, v1, hlx]) rfl ?_
               obtain ⟨rest, hrl, hR⟩ := HRR.out
               rw [hR]
               refine ⟨?_, _, _, by rw [hrl, show L.length - (L.length - idx) = idx by omega, srtD_eq]; rfl, ?_⟩
               · have hbw := HBW.out
                 go_grown
                 all_goals exact hbw
               · exact (((set5_rep HX.out w.heap.size (fun C hC => by omega) _ _ _ _ _).set ⟨w.heap.size + 1, 0, none⟩ _ (fun C hC => by show w.heap.size + 1 ≠ C; omega)).set ⟨w.heap.size + 1, 1, none⟩ _ (fun C hC => by show w.heap.size + 1 ≠ C; omega)).mono fun B _ hB => by omega
     · have g1 : ((x.ind : Int) != (i : Int)) = true := by simp; omega
       have g2 : ((x.ind : Int) == (i : Int)) = false := by simp; omega
       have HR := Lib.hid (show R = .error (19, x.no) by rw [HR0.out, HDR.out, blkR_cons, if_neg (by omega), if_pos hind])
       clear hind HDR HR0
       go_wp2_with fail
       refine (rfault_any 19 (x.no : Int) _).mono ?_
       rintro e w9 ⟨rfl, hb9⟩
       have hzz := ((Below.refl ws.heap.size ws)).trans (hb9.mono ((Below.refl ws.heap.size ws)).size)
       obtain ⟨⟨z0, z1, z2, z3, z4⟩, ⟨y0, y1, y2, y3, y4⟩, hlw⟩ := zero_cells (HN.out.1.below hzz)
       have x0 := (HN.out.2.1.below hzz).cell 0
       have x1 := (HN.out.2.1.below hzz).cell 1
       have v0 := (HN.out.2.1.below hzz).frozen 0
       have v1 := (HN.out.2.1.below hzz).frozen 1
       simp at x0 x1
       have hlx := (HN.out.2.1.below hzz).lt
       have HBW := Lib.hid (HN.out.2.2.trans (hzz.mono HN.out.2.2.size))
       clear hzz
       clear hb9
       go_wp2_with fail
       refine HQ9.out _ _ _ ?_
       refine bodyPost_ret (v := .tuple #[.agg #[.int .i64 0, .int .i64 0, .string ⟨#[]⟩, .slice none 0 0, .slice none 0 0], .int .i64 0, .agg #[.int .i64 19, .int .i64 (x.no : Int)]]) (by simp [results, Tryz.results67, go_sem, z0, z1, z2, z3, z4, y0, y1, y2, y3, y4, hlw, x0, x1, v0, v1, hlx]) rfl ?_
       rw [HR.out]
       refine ⟨?_, rfl⟩
       have hbw := HBW.out
       go_grown
       all_goals exact hbw
   · have g0 : (L.length : Int) ≤ (a0 : Int) := by omega
     have HR := Lib.hid (show R = .error (19, en) by rw [HR0.out, List.drop_of_length_le (by omega), blkR_nil, if_pos rfl, HEN.out])
     clear hlt HR0
     go_wp2_with fail
     refine (rfault_any 19 (en : Int) _).mono ?_
     rintro e w9 ⟨rfl, hb9⟩
     have hzz := ((Below.refl ws.heap.size ws)).trans (hb9.mono ((Below.refl ws.heap.size ws)).size)
     obtain ⟨⟨z0, z1, z2, z3, z4⟩, ⟨y0, y1, y2, y3, y4⟩, hlw⟩ := zero_cells (HN.out.1.below hzz)
     have x0 := (HN.out.2.1.below hzz).cell 0
     have x1 := (HN.out.2.1.below hzz).cell 1
     have v0 := (HN.out.2.1.below hzz).frozen 0
     have v1 := (HN.out.2.1.below hzz).frozen 1
     simp at x0 x1
     have hlx := (HN.out.2.1.below hzz).lt
     have HBW := Lib.hid (HN.out.2.2.trans (hzz.mono HN.out.2.2.size))
     clear hzz
     clear hb9
     go_wp2_with fail
     refine HQ9.out _ _ _ ?_
     refine bodyPost_ret (v := .tuple #[.agg #[.int .i64 0, .int .i64 0, .string ⟨#[]⟩, .slice none 0 0, .slice none 0 0], .int .i64 0, .agg #[.int .i64 19, .int .i64 (en : Int)]]) (by simp [results, Tryz.results67, go_sem, z0, z1, z2, z3, z4, y0, y1, y2, y3, y4, hlw, x0, x1, v0, v1, hlx]) rfl ?_
     rw [HR.out]
     refine ⟨?_, rfl⟩
     have hbw := HBW.out
     go_grown
     all_goals exact hbw
end Go.Proofs.YtdalfkklkeblaaaGreatDoor
