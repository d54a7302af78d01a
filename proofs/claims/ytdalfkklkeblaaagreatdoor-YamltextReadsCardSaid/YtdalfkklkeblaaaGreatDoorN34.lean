import Derived.Test.YtdalfkklkeblaaaGreatDoorN29
import Derived.Test.YtdalfkklkeblaaaGreatDoorN16
import Derived.Test.YtdalfkklkeblaaaGreatDoorN31
import Derived.OpenShut
import Derived.Test.YtdalfkklkeblaaaGreatDoorN32
import Derived.Test.YtdalfkklkeblaaaGreatDoorN33
namespace Go.Proofs.YtdalfkklkeblaaaGreatDoor
set_option linter.unusedSimpArgs false
set_option linter.unusedVariables false
section
open Go.RowKit
set_option maxRecDepth 100000 in
set_option maxHeartbeats 8000000 in
theorem Parse_any (l : List UInt8) (hl : l.length ≤ 1000000) (w : World) (hE : StOk w) (hM : MaxOk w) :
   Calls Tryz.prog 18 #[.string (S l)] w (PrsP w (parseY l)) := by
 have hN : Blk ((w.alloc (.cells #[.int .i64 0, .int .i64 0, .string ⟨#[]⟩, .slice none 0 0, .slice none 0 0] 25)).alloc (.cells #[.int .i64 0, .int .i64 0] 33)) w.heap.size #[.int .i64 0, .int .i64 0, .string ⟨#[]⟩, .slice none 0 0, .slice none 0 0] 25 ∧ Blk ((w.alloc (.cells #[.int .i64 0, .int .i64 0, .string ⟨#[]⟩, .slice none 0 0, .slice none 0 0] 25)).alloc (.cells #[.int .i64 0, .int .i64 0] 33)) (w.heap.size + 1) #[.int .i64 0, .int .i64 0] 33 ∧ Below w.heap.size w ((w.alloc (.cells #[.int .i64 0, .int .i64 0, .string ⟨#[]⟩, .slice none 0 0, .slice none 0 0] 25)).alloc (.cells #[.int .i64 0, .int .i64 0] 33)) := val_two w _ _ _ _
 have hsz2 : w.heap.size + 2 ≤ ((w.alloc (.cells #[.int .i64 0, .int .i64 0, .string ⟨#[]⟩, .slice none 0 0, .slice none 0 0] 25)).alloc (.cells #[.int .i64 0, .int .i64 0] 33)).heap.size := by simp
 have HPD := Lib.hid (show parseY l = if 65536 < l.length then (dat0, 2, 0) else match allY (linesY l) (pieces l).length with | .error e => (dat0, e.1, e.2) | .ok d => if chk (srtD d) 1 = 0 then (srtD d, 0, 0) else (dat0, chk (srtD d) 1, 0) from rfl)
 generalize parseY l = r at HPD ⊢
 have HE := Lib.hid (hE.below hN.2.2)
 have HM := Lib.hid (hM.below hN.2.2)
 clear hE hM
 by_cases hbig : 65536 < l.length
 · have HR := Lib.hid (show r = (dat0, 2, 0) by rw [HPD.out, if_pos hbig])
   have b1 : (65536 : Int) < (l.length : Int) := by omega
   go_enter Tryz.func18, Tryz.ntmps18
   go_upto_region 1 with fail
   generalize (w.alloc (.cells #[.int .i64 0, .int .i64 0, .string ⟨#[]⟩, .slice none 0 0, .slice none 0 0] 25)).alloc (.cells #[.int .i64 0, .int .i64 0] 33) = W at hN hsz2 HE HM ⊢
   obtain ⟨⟨z0, z1, z2, z3, z4⟩, ⟨y0, y1, y2, y3, y4⟩, hlw⟩ := zero_cells hN.1
   have x0 := hN.2.1.cell 0
   have x1 := hN.2.1.cell 1
   have v0 := hN.2.1.frozen 0
   have v1 := hN.2.1.frozen 1
   simp at x0 x1
   have hlx := hN.2.1.lt
   have HB := Lib.hid hN.2.2
   clear hN hbig
   go_wp2_with fail
   refine bodyPost_ret (v := .tuple #[.agg #[.int .i64 0, .int .i64 0, .string ⟨#[]⟩, .slice none 0 0, .slice none 0 0], .agg #[.int .i64 2, .int .i64 0]]) (by simp [results, Tryz.results18, go_sem, z0, z1, z2, z3, z4, y0, y1, y2, y3, y4, hlw, x0, x1, v0, v1, hlx]) rfl ?_
   rw [HR.out]
   refine PrsP.no w ?_
   have hbw := HB.out
   go_grown
   all_goals exact hbw
 · have b1 : ¬ ((65536 : Int) < (l.length : Int)) := by omega
   obtain ⟨n1, n2, n3⟩ := lines_facts (s := l) (by omega)
   have HPD1 := Lib.hid (show r = (match allY (linesY l) (pieces l).length with | .error e => (dat0, e.1, e.2) | .ok d => if chk (srtD d) 1 = 0 then (srtD d, 0, 0) else (dat0, chk (srtD d) 1, 0)) by rw [HPD.out, if_neg hbig])
   have HGD := Lib.hid (fun d (h : allY (linesY l) (pieces l).length = .ok d) => all_good h (by omega) (fun x hx => by have := (n3 x hx).2.1; omega))
   have HN3 := Lib.hid n3
   have HLI := Lib.hid (fun w' (h : MaxOk w') => lines_any l hl w' h)
   clear hbig HPD n3
   go_enter Tryz.func18, Tryz.ntmps18
   go_upto_region 1 with fail
   generalize (w.alloc (.cells #[.int .i64 0, .int .i64 0, .string ⟨#[]⟩, .slice none 0 0, .slice none 0 0] 25)).alloc (.cells #[.int .i64 0, .int .i64 0] 33) = W at hN hsz2 HE HM ⊢
   have HN := Lib.hid hN
   have hR := Blk.new W #[.slice none 0 0, .int .i64 0, .int .i64 0, .int .i64 0, .int .i64 0] 59
   have hbR := alloc_below W (.cells #[.slice none 0 0, .int .i64 0, .int .i64 0, .int .i64 0, .int .i64 0] 59)
   clear hN
   go_upto_region 4 with fail
   generalize hW3 : W.alloc (.cells #[.slice none 0 0, .int .i64 0, .int .i64 0, .int .i64 0, .int .i64 0] 59) = W3 at hR hbR ⊢
   have hsz3 : W.heap.size + 1 ≤ W3.heap.size := by rw [← hW3]; simp
   clear hW3
   have HR3 := Lib.hid hR
   have HB3 := Lib.hid hbR
   clear hR hbR
   go_wp2_with fail
   refine (HLI.out _ (HM.out.below HB3.out)).mono ?_
   rintro e w4 ⟨v, rfl, hlr, hb⟩
   generalize hmany : (pieces l).length = many at HPD1 HGD n2 ⊢
   generalize linesY l = L at HPD1 HGD n1 HN3 hlr
   have hR4 := HR3.out.below hb
   have c0 := hR4.cell 0
   have c2 := hR4.cell 2
   have f0 := hR4.frozen 0
   have f2 := hR4.frozen 2
   simp at c0 c2
   have hBl := hR4.lt
   have HR5 := Lib.hid (show RdB ((w4.setCell ⟨W.heap.size, 0, none⟩ v).setCell ⟨W.heap.size, 2, none⟩ (.int .i64 (many : Int))) W.heap.size v 0 many 0 0 from (hR4.set 0 v).set 2 (.int .i64 (many : Int)))
   have HL5 := Lib.hid (hlr.grown (grown_set (grown_set (World.grownBy.refl w4 (some W.heap.size)) ⟨W.heap.size, 0, none⟩ v (.inr rfl)) ⟨W.heap.size, 2, none⟩ (.int .i64 (many : Int)) (.inr rfl)) (by omega))
   have hb4 := HB3.out.trans (hb.mono (by omega))
   have HB5 := Lib.hid ((hb4.setCell (p := ⟨W.heap.size, 0, none⟩) (Nat.le_refl _) v).setCell (p := ⟨W.heap.size, 2, none⟩) (Nat.le_refl _) (.int .i64 (many : Int)))
   obtain ⟨vp, vl, vc, rfl⟩ : ∃ vp vl vc, v = .slice vp vl vc := by obtain ⟨p, cap, B, h, -⟩ := hlr; exact ⟨_, _, _, h⟩
   clear hb hb4 hlr hR4 hmany HR3 HB3 HLI
   go_upto_region 5 with fail
   generalize hW5 : (w4.setCell ⟨W.heap.size, 0, none⟩ (.slice vp vl vc)).setCell ⟨W.heap.size, 2, none⟩ (.int .i64 (many : Int)) = W5 at HR5 HL5 HB5 ⊢
   clear hW5 c0 c2 f0 f2 hBl
   have HAL := Lib.hid (all_any (lv := .slice vp vl vc) (ws := W) (Nat.le_refl _) HE.out (show W.heap.size < W3.heap.size by omega) (show L.length ≤ 1000000 by omega) (show many ≤ 2000000 by omega) (fun x hx => by obtain ⟨a1, a2, a3, a4⟩ := HN3.out x hx; exact ⟨a1, by omega, by omega, by omega⟩) HR5.out HL5.out HB5.out)
   generalize allY L many = q5 at HPD1 HGD HAL
   clear HN3 HR5 HL5 HM
   go_wp2_with fail
   refine HAL.out.mono ?_
   rintro e w6 ⟨hg6, h6⟩
   have hb6 := HB5.out.grown hg6 HB5.out.size (fun k hk => by injection hk with hk; omega)
   cases q5 with
   | error q =>
     obtain ⟨q1, q2⟩ := q
     obtain ⟨k6, n6, s6, ip6, il6, ic6, mp6, ml6, mc6, a6, rfl, hrd6⟩ := h6
     have HR := Lib.hid (show r = (dat0, q1, q2) from HPD1.out)
     have hb9 := alloc_below w6 (.cells #[.int .i64 k6, .int .i64 n6, .string (S s6), .slice ip6 il6 ic6, .slice mp6 ml6 mc6] 25)
     have hB9 := hb6.trans (hb9.mono hb6.size)
     have hR9 := hrd6.below hb9
     clear HPD1 HGD HAL hg6 hb6 hrd6 HB5 HE
     go_upto_region 6 with fail
     generalize w6.alloc (.cells #[.int .i64 k6, .int .i64 n6, .string (S s6), .slice ip6 il6 ic6, .slice mp6 ml6 mc6] 25) = w9 at hB9 hR9 hb9 ⊢
     have HB := Lib.hid (HN.out.2.2.trans (hB9.mono (by omega)))
     obtain ⟨⟨z0, z1, z2, z3, z4⟩, ⟨y0, y1, y2, y3, y4⟩, hlw⟩ := zero_cells (HN.out.1.below hB9)
     have x0 := (HN.out.2.1.below hB9).cell 0
     have x1 := (HN.out.2.1.below hB9).cell 1
     have v0 := (HN.out.2.1.below hB9).frozen 0
     have v1 := (HN.out.2.1.below hB9).frozen 1
     simp at x0 x1
     have hlx := (HN.out.2.1.below hB9).lt
     obtain ⟨⟨-, -, -, c3, c4⟩, -, hBl⟩ := hR9.facts
     clear hb9 hB9 hR9 HN
     go_upto_region 7 with fail
     go_region
     all_goals
       go_wp2_with fail
       refine bodyPost_ret (v := .tuple #[.agg #[.int .i64 0, .int .i64 0, .string ⟨#[]⟩, .slice none 0 0, .slice none 0 0], .agg #[.int .i64 (q1 : Int), .int .i64 (q2 : Int)]]) (by simp [results, Tryz.results18, go_sem, z0, z1, z2, z3, z4, y0, y1, y2, y3, y4, hlw, x0, x1, v0, v1, hlx]) rfl ?_
       rw [HR.out]
       refine PrsP.no w ?_
       have hbw := HB.out
       go_grown
       all_goals exact hbw
   | ok d =>
     obtain ⟨vi, vm, rfl, hx, a6, hrd6⟩ := h6
     obtain ⟨g1, g2⟩ := HGD.out d rfl
     obtain ⟨xp, xc, rfl, -, -⟩ := hx.items
     obtain ⟨yp, yc, rfl, -, -⟩ := hx.members
     have hN9 := Blk.new w6 #[.int .i64 d.k, .int .i64 d.n, .string (S d.s), .slice xp d.its.length xc, .slice yp d.mem.length yc] 25
     have hb9 := alloc_below w6 (.cells #[.int .i64 d.k, .int .i64 d.n, .string (S d.s), .slice xp d.its.length xc, .slice yp d.mem.length yc] 25)
     have HMK := Lib.hid (fun w' (hb : Below (w6.alloc (.cells #[.int .i64 d.k, .int .i64 d.n, .string (S d.s), .slice xp d.its.length xc, .slice yp d.mem.length yc] 25)).heap.size (w6.alloc (.cells #[.int .i64 d.k, .int .i64 d.n, .string (S d.s), .slice xp d.its.length xc, .slice yp d.mem.length yc] 25)) w') => make_any ((hx.under hb9).under hb) g1 g2)
     have hB9 := hb6.trans (hb9.mono hb6.size)
     have HPD2 := Lib.hid (show r = ((makeY d).1, (makeY d).2, 0) by
       have h := HPD1.out
       unfold makeY
       by_cases hc : chk (srtD d) 1 = 0
       · rw [if_pos hc]; exact h.trans (if_pos hc)
       · rw [if_neg hc]; exact h.trans (if_neg hc))
     have HW6 := Lib.hid hb6.size
     clear HPD1 HGD HAL hg6 hb6 hrd6 HB5 HE g1 g2 hx
     unfold dv
     go_upto_region 6 with fail
     generalize w6.alloc (.cells #[.int .i64 d.k, .int .i64 d.n, .string (S d.s), .slice xp d.its.length xc, .slice yp d.mem.length yc] 25) = w9 at hB9 hN9 hb9 HMK ⊢
     have HB9 := Lib.hid (HN.out.2.2.trans (hB9.mono (by omega)))
     have HN9 := Lib.hid hN9
     have HZ9 := Lib.hid (And.intro (HN.out.1.below hB9) (HN.out.2.1.below hB9))
     have o0 := hN9.cell 0
     have o1 := hN9.cell 1
     have o2 := hN9.cell 2
     have o3 := hN9.cell 3
     have o4 := hN9.cell 4
     simp at o0 o1 o2 o3 o4
     have hol := hN9.lt
     have HZE := Lib.hid (show (makeY d).2 ≠ 0 → (makeY d).1 = dat0 by
       unfold makeY
       by_cases hc : chk (srtD d) 1 = 0
       · rw [if_pos hc]; intro h; exact absurd rfl h
       · rw [if_neg hc]; intro _; rfl)
     generalize makeY d = m at HPD2 HMK HZE
     obtain ⟨c, ce⟩ := m
     clear hN9 hb9 hB9 HN
     go_wp2_with fail
     refine (HMK.out _ (Below.refl _ _)).mono ?_
     rintro e w10 ⟨ci, cm, rfl, hc, hb⟩
     obtain ⟨sp, sc, rfl, -, -⟩ := hc.items
     obtain ⟨tp, tc, rfl, -, -⟩ := hc.members
     have hN10 := HN9.out.below hb
     have hZ10 := And.intro (HZ9.out.1.below hb) (HZ9.out.2.below hb)
     have hB10 := HB9.out.trans (hb.mono HB9.out.size)
     have w6lt : w.heap.size + 2 ≤ w6.heap.size := by have := HW6.out; omega
     clear o0 o1 o2 o3 o4 hol HMK
     have o0 := hN10.cell 0
     have o1 := hN10.cell 1
     have o2 := hN10.cell 2
     have o3 := hN10.cell 3
     have o4 := hN10.cell 4
     have j0 := hN10.frozen 0
     have j1 := hN10.frozen 1
     have j2 := hN10.frozen 2
     have j3 := hN10.frozen 3
     have j4 := hN10.frozen 4
     simp at o0 o1 o2 o3 o4
     have hol := hN10.lt
     have HZ11 := Lib.hid (And.intro (set5_blk hZ10.1 w6.heap.size (by omega) (.int .i64 c.k) (.int .i64 c.n) (.string (S c.s)) (.slice sp c.its.length sc) (.slice tp c.mem.length tc)) (set5_blk hZ10.2 w6.heap.size (by omega) (.int .i64 c.k) (.int .i64 c.n) (.string (S c.s)) (.slice sp c.its.length sc) (.slice tp c.mem.length tc)))
     have HN11 := Lib.hid (show Blk (set5 w10 w6.heap.size (.int .i64 c.k) (.int .i64 c.n) (.string (S c.s)) (.slice sp c.its.length sc) (.slice tp c.mem.length tc)) w6.heap.size #[.int .i64 c.k, .int .i64 c.n, .string (S c.s), .slice sp c.its.length sc, .slice tp c.mem.length tc] 25 from ((((hN10.set 0 (.int .i64 c.k)).set 1 (.int .i64 c.n)).set 2 (.string (S c.s))).set 3 (.slice sp c.its.length sc)).set 4 (.slice tp c.mem.length tc))
     have HX11 := Lib.hid ((set5_rep hc w6.heap.size (fun C hC => by have := HN9.out.lt; omega) (.int .i64 c.k) (.int .i64 c.n) (.string (S c.s)) (.slice sp c.its.length sc) (.slice tp c.mem.length tc)).mono (ok' := fun B => w.heap.size + 2 ≤ B) (fun B _ hB => by have := HN9.out.lt; omega))
     have HB11 := Lib.hid (grown_below (set5_grown (below_grown hB10 (Nat.le_refl _) none) w6.heap.size (by omega) (.int .i64 c.k) (.int .i64 c.n) (.string (S c.s)) (.slice sp c.its.length sc) (.slice tp c.mem.length tc)))
     unfold set5 at HZ11 HN11 HX11 HB11
     clear hN10 hZ10 hB10 hb hc HZ9 HN9 HB9 HW6
     unfold dv
     go_upto_region 9 with fail
     generalize hW11 : ((((w10.setCell ⟨w6.heap.size, 0, none⟩ (.int .i64 c.k)).setCell ⟨w6.heap.size, 1, none⟩ (.int .i64 c.n)).setCell ⟨w6.heap.size, 2, none⟩ (.string (S c.s))).setCell ⟨w6.heap.size, 3, none⟩ (.slice sp c.its.length sc)).setCell ⟨w6.heap.size, 4, none⟩ (.slice tp c.mem.length tc) = W11 at HZ11 HN11 HX11 HB11 ⊢
     clear hW11 o0 o1 o2 o3 o4 j0 j1 j2 j3 j4 hol
     obtain ⟨⟨z0, z1, z2, z3, z4⟩, ⟨y0, y1, y2, y3, y4⟩, hlw⟩ := zero_cells HZ11.out.1
     have x0 := HZ11.out.2.cell 0
     have x1 := HZ11.out.2.cell 1
     have v0 := HZ11.out.2.frozen 0
     have v1 := HZ11.out.2.frozen 1
     simp at x0 x1
     have hlx := HZ11.out.2.lt
     by_cases h0 : ce = 0
     · subst h0
       have HR := Lib.hid (show r = (c, 0, 0) from HPD2.out)
       have o0 := HN11.out.cell 0
       have o1 := HN11.out.cell 1
       have o2 := HN11.out.cell 2
       have o3 := HN11.out.cell 3
       have o4 := HN11.out.cell 4
       simp at o0 o1 o2 o3 o4
       have hol := HN11.out.lt
       clear HPD2
       go_wp2_with fail
       refine bodyPost_ret (v := .tuple #[.agg #[.int .i64 c.k, .int .i64 c.n, .string (S c.s), .slice sp c.its.length sc, .slice tp c.mem.length tc], .agg #[.int .i64 0, .int .i64 0]]) (by simp [results, Tryz.results18, go_sem, z0, z1, z2, z3, z4, y0, y1, y2, y3, y4, hlw, x0, x1, v0, v1, hlx]) rfl ?_
       rw [HR.out]
       refine ⟨_, _, rfl, ?_, ?_⟩
       · exact (((set5_rep HX11.out w.heap.size (fun C hC => by omega) _ _ _ _ _).set ⟨w.heap.size + 1, 0, none⟩ _ (fun C hC => by show w.heap.size + 1 ≠ C; omega)).set ⟨w.heap.size + 1, 1, none⟩ _ (fun C hC => by show w.heap.size + 1 ≠ C; omega)).mono fun B _ hB => by omega
       · have hbw := HB11.out
         go_grown
         all_goals exact hbw
     · have HR := Lib.hid (show r = (dat0, ce, 0) by
         have h := HPD2.out
         have h2 : c = dat0 := HZE.out h0
         rw [h2] at h
         exact h)
       have t1 : ((ce : Int) != 0) = true := by simp; omega
       have t2 : ((ce : Int) == 0) = false := by simp; omega
       have t3 : ¬ ((ce : Int) = 0) := by omega
       clear HPD2 h0
       go_wp2_with fail
       refine bodyPost_ret (v := .tuple #[.agg #[.int .i64 0, .int .i64 0, .string ⟨#[]⟩, .slice none 0 0, .slice none 0 0], .agg #[.int .i64 (ce : Int), .int .i64 0]]) (by simp [results, Tryz.results18, go_sem, z0, z1, z2, z3, z4, y0, y1, y2, y3, y4, hlw, x0, x1, v0, v1, hlx]) rfl ?_
       rw [HR.out]
       refine PrsP.no w ?_
       have hbw := HB11.out
       go_grown
       all_goals exact hbw
end
section
open Go.RowKit
theorem parse_at {w : World} (hO : StOk w ∧ MaxOk w) : ∀ l : List UInt8, l.length ≤ 1000000 → ParseAt w l := fun l hl w' hb => Parse_any l hl w' (hO.1.below hb) (hO.2.below hb)
end
section
open Go.RowKit
theorem lawYamltextWrites (d : Dat) (vi vm : Value) (ok : Nat → Prop) (w : World) (hr : Rep w ok d vi vm) (hO : StOk w ∧ MaxOk w) :
   Calls Tryz.prog 3 #[.agg #[.int .i64 d.k, .int .i64 d.n, .string (S d.s), vi, vm]] w fun e w' => e = .returned (.bool true) ∧ Below w.heap.size w w' := lawYamltextWrites_of d vi vm ok w hr hO.1 (parse_at hO)
end
section
open Go.RowKit
theorem lawYamltextBack (d : Dat) (vi vm : Value) (ok : Nat → Prop) (w : World) (hr : Rep w ok d vi vm) (hO : StOk w ∧ MaxOk w) :
   Calls Tryz.prog 5 #[.agg #[.int .i64 d.k, .int .i64 d.n, .string (S d.s), vi, vm]] w fun e w' => e = .returned (.bool true) ∧ Below w.heap.size w w' := lawYamltextBack_of d vi vm ok w hr hO.1 (parse_at hO)
end
section
open Go.RowKit
theorem lawYamltextLoose (d : Dat) (vi vm : Value) (ok : Nat → Prop) (note : List UInt8) (a : Int) (w : World) (hr : Rep w ok d vi vm) (ha : (Lit.int .u8 a).wf = true) (hO : StOk w ∧ MaxOk w) :
   Calls Tryz.prog 6 #[.agg #[.int .i64 d.k, .int .i64 d.n, .string (S d.s), vi, vm], .string (S note), .int .u8 a] w fun e w' => e = .returned (.bool true) ∧ Below w.heap.size w w' := by
 obtain ⟨h1, h2⟩ := Go.bounds_u8 ha
 obtain ⟨n, rfl⟩ := Int.eq_ofNat_of_zero_le h1
 exact lawYamltextLoose_of d note n (by omega) vi vm ok w hr hO.1 (parse_at hO)
end
section
open Go.RowKit
theorem lawYamltextOrder (d : Dat) (vi vm : Value) (ok : Nat → Prop) (w : World) (hr : Rep w ok d vi vm) (hO : StOk w ∧ MaxOk w) :
   Calls Tryz.prog 7 #[.agg #[.int .i64 d.k, .int .i64 d.n, .string (S d.s), vi, vm]] w fun e w' => e = .returned (.bool true) ∧ Below w.heap.size w w' := lawYamltextOrder_of d vi vm ok w hr hO.1 (parse_at hO)
end
section
open Go.RowKit
theorem lawYamltextTwice (d : Dat) (vi vm : Value) (ok : Nat → Prop) (a : Int) (w : World) (hr : Rep w ok d vi vm) (ha : (Lit.int .u8 a).wf = true) (hO : StOk w ∧ MaxOk w) :
   Calls Tryz.prog 8 #[.agg #[.int .i64 d.k, .int .i64 d.n, .string (S d.s), vi, vm], .int .u8 a] w fun e w' => e = .returned (.bool true) ∧ Below w.heap.size w w' := by
 obtain ⟨h1, h2⟩ := Go.bounds_u8 ha
 obtain ⟨n, rfl⟩ := Int.eq_ofNat_of_zero_le h1
 exact lawYamltextTwice_of d n (by omega) vi vm ok w hr hO.1 (parse_at hO)
end
section
open Go.RowKit
theorem lawYamltextStrings (l : List UInt8) (w : World) (hO : StOk w ∧ MaxOk w) : Calls Tryz.prog 9 #[.string (S l)] w fun e w' => e = .returned (.bool true) ∧ Below w.heap.size w w' := lawYamltextStrings_of l w hO.1 (parse_at hO)
end
section
open Go.RowKit
theorem lawYamltextCut (d : Dat) (vi vm : Value) (ok : Nat → Prop) (a : Int) (w : World) (hr : Rep w ok d vi vm) (ha : (Lit.int .u8 a).wf = true) (hO : StOk w ∧ MaxOk w) :
   Calls Tryz.prog 11 #[.agg #[.int .i64 d.k, .int .i64 d.n, .string (S d.s), vi, vm], .int .u8 a] w fun e w' => e = .returned (.bool true) ∧ Below w.heap.size w w' := by
 obtain ⟨h1, h2⟩ := Go.bounds_u8 ha
 obtain ⟨n, rfl⟩ := Int.eq_ofNat_of_zero_le h1
 exact lawYamltextCut_of d n (by omega) vi vm ok w hr hO.1 (parse_at hO)
end
end Go.Proofs.YtdalfkklkeblaaaGreatDoor
