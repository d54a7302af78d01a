import Derived.Test.YtdalfkklkeblaaaGreatDoorN28
import Derived.Test.YtdalfkklkeblaaaGreatDoorN16
namespace Go.Proofs.YtdalfkklkeblaaaGreatDoor
set_option linter.unusedSimpArgs false
set_option linter.unusedVariables false
open Go.RowKit
def AllP (w : World) (Br : Nat) (lv : Value) (many : Nat) (r : Except (Nat × Nat) Dat) (e : Ending) (w' : World) : Prop :=
 w.grownBy w' (some Br) ∧
 match r with
 | .error q => ∃ k n s ip il ic mp ml mc a, e = .returned (.tuple #[.agg #[.int .i64 k, .int .i64 n, .string (S s), .slice ip il ic, .slice mp ml mc], .bool false]) ∧ RdB w' Br lv a many q.1 q.2
 | .ok d => ∃ vi vm, e = .returned (.tuple #[dv d vi vm, .bool true]) ∧ Rep w' (fun B => w.heap.size ≤ B) d vi vm ∧ ∃ a, RdB w' Br lv a many 0 0
set_option maxRecDepth 100000 in
set_option maxHeartbeats 8000000 in
theorem all_any {Br lo : Nat} {lv : Value} {L : List Ln} {many : Nat} {ws w : World} (hws : ws.heap.size ≤ Br) (hSt : StOk ws) (hBr : Br < lo) (hL : L.length ≤ 1000000) (hmany : many ≤ 2000000) (htx : ∀ x ∈ L, x.txt ≠ [] ∧ x.txt.length ≤ 1000000 ∧ x.ind ≤ 1000000 ∧ x.no ≤ 2000000) (hrd : RdB w Br lv 0 many 0 0) (hln : LnR w lo lv L) (hbs : Below ws.heap.size ws w) :
   Calls Tryz.prog 38 #[.pointer (some ⟨Br, 0, none⟩)] w (AllP w Br lv many (allY L many)) := by
 obtain ⟨lp, lc, LB, hlv, -⟩ := id hln
 subst hlv
 have hBw := hrd.lt
 have hN := Blk.new w #[.int .i64 0, .int .i64 0, .string ⟨#[]⟩, .slice none 0 0, .slice none 0 0] 25
 have hb := alloc_below w (.cells #[.int .i64 0, .int .i64 0, .string ⟨#[]⟩, .slice none 0 0, .slice none 0 0] 25)
 have HRD := Lib.hid (hrd.below hb)
 have HLN := Lib.hid (hln.under hb)
 have HST := Lib.hid ((hSt.below hbs).below hb)
 have HG := Lib.hid (below_grown hb (Nat.le_refl _) (some Br))
 have HBK := Lib.hid (fun W (h : w.grownBy W (some Br)) (hr : RdB W Br (.slice lp L.length lc) 0 many 0 0) => (show Calls Tryz.prog 64 #[.pointer (some ⟨Br, 0, none⟩), .int .i64 0] W (RbP W Br (.slice lp L.length lc) L.length many (blkR many 0 0 [] [] L)) from rblk_any hws hSt hBr hL hmany htx (L.length + 1) 0 0 W (by omega) (Nat.zero_le _) (by omega) hr (hln.grown h hBr) (hbs.grown h hbs.size (fun k hk => by injection hk with hk; omega))))
 have HTX := Lib.hid htx
 clear hrd hln hbs hSt htx
 go_enter Tryz.func38, Tryz.ntmps38
 go_upto_region 1 with fail
 generalize w.alloc (.cells #[.int .i64 0, .int .i64 0, .string ⟨#[]⟩, .slice none 0 0, .slice none 0 0] 25) = W at hN hb HRD HLN HST HG ⊢
 have HRS := Lib.hid hN
 clear hN hb
 obtain ⟨⟨c0, c1, c2, c3, c4⟩, ⟨f0, f1, f2, f3, f4⟩, hBl⟩ := HRD.out.facts
 by_cases hlt : 0 < L.length
 · obtain ⟨lp', lc', LB', e1, hcl⟩ := HLN.out
   cases e1
   obtain ⟨rfl, hlo, hcap, hLB, x0, x1, x2⟩ := hcl 0 hlt
   obtain ⟨t1, t2, t3, t4⟩ := HTX.out _ (List.getElem_mem hlt)
   have HDR := Lib.hid (show L = L[0] :: L.drop 1 from by have := List.drop_eq_getElem_cons hlt; rwa [List.drop_zero] at this)
   have HY := Lib.hid (fun h1 : 1 < L.length => (show ∃ y r, L.drop 1 = y :: r ∧ W.cell? ⟨LB', 5, none⟩ = some (.int .i64 (y.no : Int)) from ⟨L[1], L.drop 2, List.drop_eq_getElem_cons h1, (hcl 1 h1).2.2.2.2.2.2⟩))
   generalize L[0] = x at x0 x1 x2 t1 t2 t3 t4 HDR
   simp only [Nat.zero_mul, Nat.zero_add] at x0 x1 x2
   clear hcl
   have g0 : (0 : Int) < (L.length : Int) := by omega
   have HAC := Lib.hid (show allY L many = if x.ind = 0 then (match valueY x.txt with
     | some d => (match L.drop 1 with | y :: _ => .error (19, y.no) | [] => .ok d)
     | none => (blkR many 0 0 [] [] L).map fun p => p.1) else (blkR many 0 0 [] [] L).map fun p => p.1 by
       have h := HDR.out
       generalize L.drop 1 = r at h ⊢
       rw [h, all_cons]; rfl)
   by_cases hind : x.ind = 0
   · have g5 : ((x.ind : Int) == 0) = true := by simp [hind]
     have HAC2 := Lib.hid (HAC.out.trans (if_pos hind))
     clear hind HAC
     go_wp2_with fail
     refine (value_any x.txt t2 W HST.out).mono ?_
     rintro e w3 ⟨k, n, s, rfl, hd, hb⟩
     generalize valueY x.txt = v at HAC2 hd ⊢
     have hN := Blk.new w3 #[.int .i64 k, .int .i64 n, .string (S s), .slice none 0 0, .slice none 0 0] 25
     have hbN := hb.trans ((alloc_below w3 (.cells #[.int .i64 k, .int .i64 n, .string (S s), .slice none 0 0, .slice none 0 0] 25)).mono hb.size)
     have HRD3 := Lib.hid (HRD.out.below hbN)
     have HRS3 := Lib.hid (HRS.out.below hbN)
     have HG3 := Lib.hid (grown_then HG.out hbN)
     have HY3 := Lib.hid (fun h1 : 1 < L.length => (show ∃ y r, L.drop 1 = y :: r ∧ (w3.alloc (.cells #[.int .i64 k, .int .i64 n, .string (S s), .slice none 0 0, .slice none 0 0] 25)).cell? ⟨LB', 5, none⟩ = some (.int .i64 (y.no : Int)) from by
       obtain ⟨y, r, h2, h3⟩ := HY.out h1
       exact ⟨y, r, h2, (hbN.cell (p := ⟨LB', 5, none⟩) hLB).trans h3⟩))
     have hLB3 := Nat.lt_of_lt_of_le hLB hbN.size
     have hz3 := hb.size
     have hz0 := HRS.out.lt
     clear HY HRD HRS HG HLN HST hb x0 x1 x2 c0 c1 c2 c3 c4 f0 f1 f2 f3 f4 hBl hLB hbN
     go_upto_region 3 with fail
     generalize hW4 : w3.alloc (.cells #[.int .i64 k, .int .i64 n, .string (S s), .slice none 0 0, .slice none 0 0] 25) = W4 at hN HRD3 HRS3 HG3 HY3 hLB3 ⊢
     clear hW4
     have HN := Lib.hid hN
     clear hN
     cases v with
     | none =>
       have HALL := Lib.hid (show allY L many = (blkR many 0 0 [] [] L).map fun p => p.1 from HAC2.out)
       simp only [Option.isSome_none]
       clear HAC2 hd HY3
       go_upto_region 7 with fail
       have HCL := Lib.hid (HBK.out W4 HG3.out HRD3.out)
       have HRS5 := Lib.hid (HRS3.out)
       have HG5 := Lib.hid (HG3.out)
       generalize blkR many 0 0 [] [] L = q5 at HCL HALL
       go_wp2_with fail
       refine HCL.out.mono ?_
       rintro e w6 ⟨hg6, h6⟩
       have HR6 := Lib.hid (HRS5.out.kept hg6 (fun e => by injection e; omega))
       have HG6 := Lib.hid (HG5.out.trans hg6)
       have hsz := HG5.out.size
       have hsl := HRS5.out.lt
       cases q5 with
       | error q =>
         obtain ⟨q1, q2⟩ := q
         obtain ⟨k6, s6, ip6, il6, ic6, mp6, ml6, mc6, a6, rfl, hrd6⟩ := h6
         clear HCL hg6
         have hN9 := Blk.new w6 #[.int .i64 k6, .int .i64 0, .string (S s6), .slice ip6 il6 ic6, .slice mp6 ml6 mc6] 25
         have hb9 := alloc_below w6 (.cells #[.int .i64 k6, .int .i64 0, .string (S s6), .slice ip6 il6 ic6, .slice mp6 ml6 mc6] 25)
         have HR9 := Lib.hid (HR6.out.below hb9)
         have HG9 := Lib.hid (grown_then HG6.out hb9)
         have HRD9 := Lib.hid (hrd6.below hb9)
         go_upto_region 8 with fail
         generalize w6.alloc (.cells #[.int .i64 k6, .int .i64 0, .string (S s6), .slice ip6 il6 ic6, .slice mp6 ml6 mc6] 25) = w9 at *
         have o0 := hN9.cell 0
         have o1 := hN9.cell 1
         have o2 := hN9.cell 2
         have o3 := hN9.cell 3
         have o4 := hN9.cell 4
         simp at o0 o1 o2 o3 o4
         obtain ⟨⟨z0, z1, z2, z3, z4⟩, ⟨y0, y1, y2, y3, y4⟩, hlw⟩ := zero_cells HR9.out
         clear hN9 hb9 hrd6
         go_wp2_with fail
         refine bodyPost_ret (v := .tuple #[.agg #[.int .i64 k6, .int .i64 0, .string (S s6), .slice ip6 il6 ic6, .slice mp6 ml6 mc6], .bool false]) (by simp [results, Tryz.results38, go_sem, z0, z1, z2, z3, z4, y0, y1, y2, y3, y4, hlw]) rfl ?_
         rw [HALL.out]
         refine ⟨set5_grown HG9.out _ (Nat.le_refl _) _ _ _ _ _, ?_⟩
         exact ⟨k6, 0, s6, ip6, il6, ic6, mp6, ml6, mc6, a6, rfl, set5_blk HRD9.out _ (by omega) _ _ _ _ _⟩
       | ok q =>
         obtain ⟨d, r'⟩ := q
         obtain ⟨xi, xm, rfl, hx, hrd6⟩ := h6
         obtain ⟨xp, xc, rfl, -, -⟩ := hx.items
         obtain ⟨yp, yc, rfl, -, -⟩ := hx.members
         clear HCL hg6
         unfold dv
         have hN9 := Blk.new w6 #[.int .i64 d.k, .int .i64 d.n, .string (S d.s), .slice xp d.its.length xc, .slice yp d.mem.length yc] 25
         have hb9 := alloc_below w6 (.cells #[.int .i64 d.k, .int .i64 d.n, .string (S d.s), .slice xp d.its.length xc, .slice yp d.mem.length yc] 25)
         have HR9 := Lib.hid (HR6.out.below hb9)
         have HG9 := Lib.hid (grown_then HG6.out hb9)
         have HRD9 := Lib.hid (hrd6.below hb9)
         have HX9 := Lib.hid (hx.under hb9)
         clear hx
         go_upto_region 8 with fail
         generalize w6.alloc (.cells #[.int .i64 d.k, .int .i64 d.n, .string (S d.s), .slice xp d.its.length xc, .slice yp d.mem.length yc] 25) = w9 at *
         have o0 := hN9.cell 0
         have o1 := hN9.cell 1
         have o2 := hN9.cell 2
         have o3 := hN9.cell 3
         have o4 := hN9.cell 4
         simp at o0 o1 o2 o3 o4
         obtain ⟨⟨z0, z1, z2, z3, z4⟩, ⟨y0, y1, y2, y3, y4⟩, hlw⟩ := zero_cells HR9.out
         clear hN9 hb9 hrd6
         go_wp2_with fail
         refine bodyPost_ret (v := .tuple #[.agg #[.int .i64 d.k, .int .i64 d.n, .string (S d.s), .slice xp d.its.length xc, .slice yp d.mem.length yc], .bool true]) (by simp [results, Tryz.results38, go_sem, z0, z1, z2, z3, z4, y0, y1, y2, y3, y4, hlw]) rfl ?_
         rw [HALL.out]
         refine ⟨set5_grown HG9.out _ (Nat.le_refl _) _ _ _ _ _, ?_⟩
         exact ⟨_, _, rfl, (set5_rep HX9.out w.heap.size (fun C hC => by omega) _ _ _ _ _).mono fun B _ hB => by omega, _, set5_blk HRD9.out _ (by omega) _ _ _ _ _⟩
     | some d =>
       simp only [Option.isSome_some]
       obtain rfl := hd d rfl
       obtain ⟨⟨c0, c1, c2, c3, c4⟩, ⟨f0, f1, f2, f3, f4⟩, hBl⟩ := HRD3.out.facts
       by_cases h1 : 1 < L.length
       · obtain ⟨y, r, hy, x5⟩ := HY3.out h1
         have HALL := Lib.hid (show allY L many = .error (19, y.no) by rw [HAC2.out, hy])
         have g1 : (1 : Int) < (L.length : Int) := by omega
         have g2 : 1 < lc := by omega
         have o0 := HN.out.cell 0
         have o1 := HN.out.cell 1
         have o2 := HN.out.cell 2
         have o3 := HN.out.cell 3
         have o4 := HN.out.cell 4
         simp at o0 o1 o2 o3 o4
         obtain ⟨⟨z0, z1, z2, z3, z4⟩, ⟨y0, y1, y2, y3, y4⟩, hlw⟩ := zero_cells HRS3.out
         have hol := HN.out.lt
         have HBD := Lib.hid (below_drew (Below.refl W4.heap.size W4))
         clear hy HAC2 hd HY3 h1
         go_upto_region 5 with fail
         go_region_with (go_at_call 63; refine (fail_any (HRD3.out.below HBD.out) 19 y.no).mono ?_; rintro e w9 ⟨rfl, hrd, hg⟩; have HRD9 := Lib.hid hrd; have HG9 := Lib.hid ((grown_then HG3.out HBD.out).trans hg); have HRS9 := Lib.hid ((HRS3.out.below HBD.out).kept hg (fun e => by injection e; omega)); have hN9 := (HN.out.below HBD.out).kept hg (fun e => by injection e; omega); clear o0 o1 o2 o3 o4 hol z0 z1 z2 z3 z4 y0 y1 y2 y3 y4 hlw hrd hg; have o0 := hN9.cell 0; have o1 := hN9.cell 1; have o2 := hN9.cell 2; have o3 := hN9.cell 3; have o4 := hN9.cell 4; simp at o0 o1 o2 o3 o4; have hol := hN9.lt; clear hN9; obtain ⟨⟨z0, z1, z2, z3, z4⟩, ⟨y0, y1, y2, y3, y4⟩, hlw⟩ := zero_cells HRS9.out)
         all_goals
           go_wp2_with fail
           refine bodyPost_ret (v := .tuple #[.agg #[.int .i64 k, .int .i64 n, .string (S s), .slice none 0 0, .slice none 0 0], .bool false]) (by simp [results, Tryz.results38, go_sem, z0, z1, z2, z3, z4, y0, y1, y2, y3, y4, hlw]) rfl ?_
           rw [HALL.out]
           exact ⟨set5_grown HG9.out _ (Nat.le_refl _) _ _ _ _ _, k, n, s, none, 0, 0, none, 0, 0, _, rfl, set5_blk HRD9.out _ (by omega) _ _ _ _ _⟩
       · have HALL := Lib.hid (show allY L many = .ok (.mk k n s [] []) by
           rw [HAC2.out, List.drop_eq_nil_of_le (by omega)])
         have g1 : ¬ ((1 : Int) < (L.length : Int)) := by omega
         have o0 := HN.out.cell 0
         have o1 := HN.out.cell 1
         have o2 := HN.out.cell 2
         have o3 := HN.out.cell 3
         have o4 := HN.out.cell 4
         simp at o0 o1 o2 o3 o4
         obtain ⟨⟨z0, z1, z2, z3, z4⟩, ⟨y0, y1, y2, y3, y4⟩, hlw⟩ := zero_cells HRS3.out
         have hol := HN.out.lt
         clear HAC2 hd HY3 h1
         go_wp2_with fail
         refine bodyPost_ret (v := .tuple #[.agg #[.int .i64 k, .int .i64 n, .string (S s), .slice none 0 0, .slice none 0 0], .bool true]) (by simp [results, Tryz.results38, go_sem, z0, z1, z2, z3, z4, y0, y1, y2, y3, y4, hlw]) rfl ?_
         rw [HALL.out]
         exact ⟨set5_grown HG3.out _ (Nat.le_refl _) _ _ _ _ _, _, _, rfl, rep_leaf _ _ (d := .mk k n s [] []) rfl rfl none none 0 0, _, set5_blk HRD3.out _ (by omega) _ _ _ _ _⟩
   · have g5 : ((x.ind : Int) == 0) = false := by simp; omega
     have HALL := Lib.hid (HAC.out.trans (if_neg hind))
     clear hind HAC HY
     go_upto_region 7 with fail
     clear x0 x1 x2 c0 c1 c2 c3 c4 f0 f1 f2 f3 f4 hBl
     have HCL := Lib.hid (HBK.out W HG.out HRD.out)
     have HRS5 := Lib.hid (HRS.out)
     have HG5 := Lib.hid (HG.out)
     generalize blkR many 0 0 [] [] L = q5 at HCL HALL
     go_wp2_with fail
     refine HCL.out.mono ?_
     rintro e w6 ⟨hg6, h6⟩
     have HR6 := Lib.hid (HRS5.out.kept hg6 (fun e => by injection e; omega))
     have HG6 := Lib.hid (HG5.out.trans hg6)
     have hsz := HG5.out.size
     have hsl := HRS5.out.lt
     cases q5 with
     | error q =>
       obtain ⟨q1, q2⟩ := q
       obtain ⟨k6, s6, ip6, il6, ic6, mp6, ml6, mc6, a6, rfl, hrd6⟩ := h6
       clear HCL hg6
       have hN9 := Blk.new w6 #[.int .i64 k6, .int .i64 0, .string (S s6), .slice ip6 il6 ic6, .slice mp6 ml6 mc6] 25
       have hb9 := alloc_below w6 (.cells #[.int .i64 k6, .int .i64 0, .string (S s6), .slice ip6 il6 ic6, .slice mp6 ml6 mc6] 25)
       have HR9 := Lib.hid (HR6.out.below hb9)
       have HG9 := Lib.hid (grown_then HG6.out hb9)
       have HRD9 := Lib.hid (hrd6.below hb9)
       go_upto_region 8 with fail
       generalize w6.alloc (.cells #[.int .i64 k6, .int .i64 0, .string (S s6), .slice ip6 il6 ic6, .slice mp6 ml6 mc6] 25) = w9 at *
       have o0 := hN9.cell 0
       have o1 := hN9.cell 1
       have o2 := hN9.cell 2
       have o3 := hN9.cell 3
       have o4 := hN9.cell 4
       simp at o0 o1 o2 o3 o4
       obtain ⟨⟨z0, z1, z2, z3, z4⟩, ⟨y0, y1, y2, y3, y4⟩, hlw⟩ := zero_cells HR9.out
       clear hN9 hb9 hrd6
       go_wp2_with fail
       refine bodyPost_ret (v := .tuple #[.agg #[.int .i64 k6, .int .i64 0, .string (S s6), .slice ip6 il6 ic6, .slice mp6 ml6 mc6], .bool false]) (by simp [results, Tryz.results38, go_sem, z0, z1, z2, z3, z4, y0, y1, y2, y3, y4, hlw]) rfl ?_
       rw [HALL.out]
       refine ⟨set5_grown HG9.out _ (Nat.le_refl _) _ _ _ _ _, ?_⟩
       exact ⟨k6, 0, s6, ip6, il6, ic6, mp6, ml6, mc6, a6, rfl, set5_blk HRD9.out _ (by omega) _ _ _ _ _⟩
     | ok q =>
       obtain ⟨d, r'⟩ := q
       obtain ⟨xi, xm, rfl, hx, hrd6⟩ := h6
       obtain ⟨xp, xc, rfl, -, -⟩ := hx.items
       obtain ⟨yp, yc, rfl, -, -⟩ := hx.members
       clear HCL hg6
       unfold dv
       have hN9 := Blk.new w6 #[.int .i64 d.k, .int .i64 d.n, .string (S d.s), .slice xp d.its.length xc, .slice yp d.mem.length yc] 25
       have hb9 := alloc_below w6 (.cells #[.int .i64 d.k, .int .i64 d.n, .string (S d.s), .slice xp d.its.length xc, .slice yp d.mem.length yc] 25)
       have HR9 := Lib.hid (HR6.out.below hb9)
       have HG9 := Lib.hid (grown_then HG6.out hb9)
       have HRD9 := Lib.hid (hrd6.below hb9)
       have HX9 := Lib.hid (hx.under hb9)
       clear hx
       go_upto_region 8 with fail
       generalize w6.alloc (.cells #[.int .i64 d.k, .int .i64 d.n, .string (S d.s), .slice xp d.its.length xc, .slice yp d.mem.length yc] 25) = w9 at *
       have o0 := hN9.cell 0
       have o1 := hN9.cell 1
       have o2 := hN9.cell 2
       have o3 := hN9.cell 3
       have o4 := hN9.cell 4
       simp at o0 o1 o2 o3 o4
       obtain ⟨⟨z0, z1, z2, z3, z4⟩, ⟨y0, y1, y2, y3, y4⟩, hlw⟩ := zero_cells HR9.out
       clear hN9 hb9 hrd6
       go_wp2_with fail
       refine bodyPost_ret (v := .tuple #[.agg #[.int .i64 d.k, .int .i64 d.n, .string (S d.s), .slice xp d.its.length xc, .slice yp d.mem.length yc], .bool true]) (by simp [results, Tryz.results38, go_sem, z0, z1, z2, z3, z4, y0, y1, y2, y3, y4, hlw]) rfl ?_
       rw [HALL.out]
       refine ⟨set5_grown HG9.out _ (Nat.le_refl _) _ _ _ _ _, ?_⟩
       exact ⟨_, _, rfl, (set5_rep HX9.out w.heap.size (fun C hC => by omega) _ _ _ _ _).mono fun B _ hB => by omega, _, set5_blk HRD9.out _ (by omega) _ _ _ _ _⟩
 · have g0 : ¬ ((0 : Int) < (L.length : Int)) := by omega
   have HALL := Lib.hid (show allY L many = (blkR many 0 0 [] [] L).map fun p => p.1 by
     have : L = [] := List.length_eq_zero_iff.1 (by omega)
     subst this; rfl)
   go_upto_region 7 with fail
   clear c0 c1 c2 c3 c4 f0 f1 f2 f3 f4 hBl
   have HCL := Lib.hid (HBK.out W HG.out HRD.out)
   have HRS5 := Lib.hid (HRS.out)
   have HG5 := Lib.hid (HG.out)
   generalize blkR many 0 0 [] [] L = q5 at HCL HALL
   go_wp2_with fail
   refine HCL.out.mono ?_
   rintro e w6 ⟨hg6, h6⟩
   have HR6 := Lib.hid (HRS5.out.kept hg6 (fun e => by injection e; omega))
   have HG6 := Lib.hid (HG5.out.trans hg6)
   have hsz := HG5.out.size
   have hsl := HRS5.out.lt
   cases q5 with
   | error q =>
     obtain ⟨q1, q2⟩ := q
     obtain ⟨k6, s6, ip6, il6, ic6, mp6, ml6, mc6, a6, rfl, hrd6⟩ := h6
     clear HCL hg6
     have hN9 := Blk.new w6 #[.int .i64 k6, .int .i64 0, .string (S s6), .slice ip6 il6 ic6, .slice mp6 ml6 mc6] 25
     have hb9 := alloc_below w6 (.cells #[.int .i64 k6, .int .i64 0, .string (S s6), .slice ip6 il6 ic6, .slice mp6 ml6 mc6] 25)
     have HR9 := Lib.hid (HR6.out.below hb9)
     have HG9 := Lib.hid (grown_then HG6.out hb9)
     have HRD9 := Lib.hid (hrd6.below hb9)
     go_upto_region 8 with fail
     generalize w6.alloc (.cells #[.int .i64 k6, .int .i64 0, .string (S s6), .slice ip6 il6 ic6, .slice mp6 ml6 mc6] 25) = w9 at *
     have o0 := hN9.cell 0
     have o1 := hN9.cell 1
     have o2 := hN9.cell 2
     have o3 := hN9.cell 3
     have o4 := hN9.cell 4
     simp at o0 o1 o2 o3 o4
     obtain ⟨⟨z0, z1, z2, z3, z4⟩, ⟨y0, y1, y2, y3, y4⟩, hlw⟩ := zero_cells HR9.out
     clear hN9 hb9 hrd6
     go_wp2_with fail
     refine bodyPost_ret (v := .tuple #[.agg #[.int .i64 k6, .int .i64 0, .string (S s6), .slice ip6 il6 ic6, .slice mp6 ml6 mc6], .bool false]) (by simp [results, Tryz.results38, go_sem, z0, z1, z2, z3, z4, y0, y1, y2, y3, y4, hlw]) rfl ?_
     rw [HALL.out]
     refine ⟨set5_grown HG9.out _ (Nat.le_refl _) _ _ _ _ _, ?_⟩
     exact ⟨k6, 0, s6, ip6, il6, ic6, mp6, ml6, mc6, a6, rfl, set5_blk HRD9.out _ (by omega) _ _ _ _ _⟩
   | ok q =>
     obtain ⟨d, r'⟩ := q
     obtain ⟨xi, xm, rfl, hx, hrd6⟩ := h6
     obtain ⟨xp, xc, rfl, -, -⟩ := hx.items
     obtain ⟨yp, yc, rfl, -, -⟩ := hx.members
     clear HCL hg6
     unfold dv
     have hN9 := Blk.new w6 #[.int .i64 d.k, .int .i64 d.n, .string (S d.s), .slice xp d.its.length xc, .slice yp d.mem.length yc] 25
     have hb9 := alloc_below w6 (.cells #[.int .i64 d.k, .int .i64 d.n, .string (S d.s), .slice xp d.its.length xc, .slice yp d.mem.length yc] 25)
     have HR9 := Lib.hid (HR6.out.below hb9)
     have HG9 := Lib.hid (grown_then HG6.out hb9)
     have HRD9 := Lib.hid (hrd6.below hb9)
     have HX9 := Lib.hid (hx.under hb9)
     clear hx
     go_upto_region 8 with fail
     generalize w6.alloc (.cells #[.int .i64 d.k, .int .i64 d.n, .string (S d.s), .slice xp d.its.length xc, .slice yp d.mem.length yc] 25) = w9 at *
     have o0 := hN9.cell 0
     have o1 := hN9.cell 1
     have o2 := hN9.cell 2
     have o3 := hN9.cell 3
     have o4 := hN9.cell 4
     simp at o0 o1 o2 o3 o4
     obtain ⟨⟨z0, z1, z2, z3, z4⟩, ⟨y0, y1, y2, y3, y4⟩, hlw⟩ := zero_cells HR9.out
     clear hN9 hb9 hrd6
     go_wp2_with fail
     refine bodyPost_ret (v := .tuple #[.agg #[.int .i64 d.k, .int .i64 d.n, .string (S d.s), .slice xp d.its.length xc, .slice yp d.mem.length yc], .bool true]) (by simp [results, Tryz.results38, go_sem, z0, z1, z2, z3, z4, y0, y1, y2, y3, y4, hlw]) rfl ?_
     rw [HALL.out]
     refine ⟨set5_grown HG9.out _ (Nat.le_refl _) _ _ _ _ _, ?_⟩
     exact ⟨_, _, rfl, (set5_rep HX9.out w.heap.size (fun C hC => by omega) _ _ _ _ _).mono fun B _ hB => by omega, _, set5_blk HRD9.out _ (by omega) _ _ _ _ _⟩
end Go.Proofs.YtdalfkklkeblaaaGreatDoor
