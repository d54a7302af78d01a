import Derived.Test.YtdalfkklkeblaaaGreatDoorN32
import Derived.Test.YtdalfkklkeblaaaGreatDoorYgG
import Derived.Test.YtdalfkklkeblaaaGreatDoorN16
namespace Go.Proofs.YtdalfkklkeblaaaGreatDoor
set_option linter.unusedSimpArgs false
set_option linter.unusedVariables false
open Go.RowKit
def DocP (w : World) (r : Except (Nat × Nat) Dat) (e : Ending) (w' : World) : Prop :=
 Below w.heap.size w w' ∧
 match r with
 | .error q => e = .returned (.tuple #[.agg #[.int .i64 0, .int .i64 0, .string ⟨#[]⟩, .slice none 0 0, .slice none 0 0], .agg #[.int .i64 (q.1 : Int), .int .i64 (q.2 : Int)]])
 | .ok d => ∃ vi vm, e = .returned (.tuple #[dv (srtD d) vi vm, .agg #[.int .i64 0, .int .i64 0]]) ∧ Rep w' (fun B => w.heap.size ≤ B) (srtD d) vi vm
theorem all_err {ls : List Ln} {many : Nat} {q : Nat × Nat} (h : allY ls many = .error q) : q.1 ≠ 0 := by
 have key : (blkR many 0 0 [] [] ls).map (fun p => p.1) = .error q → q.1 ≠ 0 := by
   intro h
   cases hb : blkR many 0 0 [] [] ls with
   | ok e => rw [hb] at h; cases h
   | error p =>
     rw [hb] at h
     injection h with h
     subst h
     exact blkR_err hb
 unfold allY at h
 split at h
 · split at h
   · split at h
     · split at h
       · injection h with h; rw [← h]; simp
       · cases h
     · exact key h
   · exact key h
 · exact key h
set_option maxRecDepth 100000 in
set_option maxHeartbeats 8000000 in
theorem rdoc_any {L : List Ln} (hL : L.length ≤ 1000000) {many en : Nat} (hen : en = many + 1) (hmany : many ≤ 2000000) (htx : ∀ x ∈ L, x.txt ≠ [] ∧ x.txt.length ≤ 65536 ∧ x.ind ≤ 1000000 ∧ x.no ≤ 2000000) {v : Value} {w : World} (hln : LnF w v L) :
   Calls Tryz.prog 41 #[v, .int .i64 (en : Int)] w (DocP w (allY L many)) := by
 obtain ⟨lp, lc, LB, hlv, -⟩ := id hln
 subst hlv
 have hN : Blk ((w.alloc (.cells #[.int .i64 0, .int .i64 0, .string ⟨#[]⟩, .slice none 0 0, .slice none 0 0] 25)).alloc (.cells #[.int .i64 0, .int .i64 0] 33)) w.heap.size #[.int .i64 0, .int .i64 0, .string ⟨#[]⟩, .slice none 0 0, .slice none 0 0] 25 ∧ Blk ((w.alloc (.cells #[.int .i64 0, .int .i64 0, .string ⟨#[]⟩, .slice none 0 0, .slice none 0 0] 25)).alloc (.cells #[.int .i64 0, .int .i64 0] 33)) (w.heap.size + 1) #[.int .i64 0, .int .i64 0] 33 ∧ Below w.heap.size w ((w.alloc (.cells #[.int .i64 0, .int .i64 0, .string ⟨#[]⟩, .slice none 0 0, .slice none 0 0] 25)).alloc (.cells #[.int .i64 0, .int .i64 0] 33)) := val_two w _ _ _ _
 have HLN := Lib.hid (hln.under hN.2.2)
 have HPR := Lib.hid (fun W (hb : Below ((w.alloc (.cells #[.int .i64 0, .int .i64 0, .string ⟨#[]⟩, .slice none 0 0, .slice none 0 0] 25)).alloc (.cells #[.int .i64 0, .int .i64 0] 33)).heap.size ((w.alloc (.cells #[.int .i64 0, .int .i64 0, .string ⟨#[]⟩, .slice none 0 0, .slice none 0 0] 25)).alloc (.cells #[.int .i64 0, .int .i64 0] 33)) W) => (show Calls Tryz.prog 67 #[.slice lp L.length lc, .int .i64 0, .int .i64 0, .int .i64 (en : Int)] W (RpP W L.length (blkR many 0 0 [] [] L)) from rparse_any hL hen hmany htx (L.length + 1) 0 0 _ W (by omega) (Nat.zero_le _) ((hln.under hN.2.2).under hb)))
 have HTX := Lib.hid htx
 have HERR := Lib.hid (fun q (h : blkR many 0 0 [] [] L = .error q) => blkR_err h)
 generalize har : allY L many = r
 have HAR := Lib.hid har.symm
 clear hln htx har hen
 go_enter Tryz.func41, Tryz.ntmps41
 refine wp_opaque fun Q9 HQ9 => ?_
 let QT : Exit → Act → World → Prop := bodyPost Tryz.prog Tryz.f41 (fun _ _ => True)
 go_upto_region 1 with fail
 generalize (w.alloc (.cells #[.int .i64 0, .int .i64 0, .string ⟨#[]⟩, .slice none 0 0, .slice none 0 0] 25)).alloc (.cells #[.int .i64 0, .int .i64 0] 33) = ws at hN HLN HPR ⊢
 have HN := Lib.hid hN
 clear hN
 by_cases hlt : 0 < L.length
 · obtain ⟨lp', lc', B, e1, hcl⟩ := HLN.out
   cases e1
   obtain ⟨rfl, hcap, hB, x0, x1, x2⟩ := hcl 0 hlt
   obtain ⟨t1, t2, t3, t4⟩ := HTX.out _ (List.getElem_mem hlt)
   have HDR := Lib.hid (show L = L[0] :: L.drop 1 from by have := List.drop_eq_getElem_cons hlt; rwa [List.drop_zero] at this)
   have HY := Lib.hid (fun h1 : 1 < L.length => (show ∃ y r, L.drop 1 = y :: r ∧ ws.cell? ⟨B, 3, none⟩ = some (.int .i64 (y.no : Int)) from ⟨L[1], L.drop 2, List.drop_eq_getElem_cons h1, (hcl 1 h1).2.2.2.1⟩))
   generalize L[0] = x at x0 x1 x2 t1 t2 t3 t4 HDR
   simp only [Nat.zero_mul, Nat.zero_add] at x0 x1 x2
   clear hcl x0
   have g0 : (0 : Int) < (L.length : Int) := by omega
   have HAC := Lib.hid (show r = if x.ind = 0 then (match valueY x.txt with
     | some d => (match L.drop 1 with | y :: _ => .error (19, y.no) | [] => .ok d)
     | none => (blkR many 0 0 [] [] L).map fun p => p.1) else (blkR many 0 0 [] [] L).map fun p => p.1 by
       rw [HAR.out]
       have h := HDR.out
       generalize L.drop 1 = r at h ⊢
       rw [h, all_cons]; rfl)
   by_cases hind : x.ind = 0
   · have g5 : ((x.ind : Int) == 0) = true := by simp [hind]
     have HAC2 := Lib.hid (HAC.out.trans (if_pos hind))
     clear hind HAC
     go_wp2_with fail
     refine (rvalue_any x.txt (by omega) ws).mono ?_
     rintro e w3 ⟨k, n, s, rfl, hd, hb⟩
     generalize valueY x.txt = v at HAC2 hd ⊢
     have hn1 := Blk.new w3 #[.int .i64 k, .int .i64 n, .string (S s), .slice none 0 0, .slice none 0 0] 25
     have hbN := hb.trans ((alloc_below w3 (.cells #[.int .i64 k, .int .i64 n, .string (S s), .slice none 0 0, .slice none 0 0] 25)).mono hb.size)
     clear hb x1 x2
     go_upto_region 3 with fail
     generalize w3.alloc (.cells #[.int .i64 k, .int .i64 n, .string (S s), .slice none 0 0, .slice none 0 0] 25) = W4 at hn1 hbN ⊢
     have HB4 := Lib.hid hbN
     have HN4 := Lib.hid hn1
     clear hbN hn1
     cases v with
     | none =>
       have HALL := Lib.hid (show r = (blkR many 0 0 [] [] L).map fun p => p.1 from HAC2.out)
       simp only [Option.isSome_none]
       clear HAC2 hd HY HN4
       go_upto_region 7 with fail
       have HC := Lib.hid (HPR.out W4 (HB4.out))
       have HB7 := Lib.hid (HB4.out)
       generalize blkR many 0 0 [] [] L = q5 at HC HALL HERR
       go_wp2_with fail
       refine HC.out.mono ?_
       rintro e w8 ⟨hb, h8⟩
       have hb8 := HB7.out.trans (hb.mono HB7.out.size)
       clear HC
       cases q5 with
       | error q =>
         obtain ⟨q1, q2⟩ := q
         subst h8
         have HR := Lib.hid (show r = .error (q1, q2) from HALL.out)
         have hb2 := (val_two w8 #[.int .i64 0, .int .i64 0, .string ⟨#[]⟩, .slice none 0 0, .slice none 0 0] #[.int .i64 (q1 : Int), .int .i64 (q2 : Int)] 25 33).2.2
         have hn2 := (val_two w8 #[.int .i64 0, .int .i64 0, .string ⟨#[]⟩, .slice none 0 0, .slice none 0 0] #[.int .i64 (q1 : Int), .int .i64 (q2 : Int)] 25 33).2.1
         have hn1 := (val_two w8 #[.int .i64 0, .int .i64 0, .string ⟨#[]⟩, .slice none 0 0, .slice none 0 0] #[.int .i64 (q1 : Int), .int .i64 (q2 : Int)] 25 33).1
         have hb9 := hb8.trans (hb2.mono hb8.size)
         have hsep : w.heap.size + 1 < w8.heap.size := by have h1 := HN.out.2.1.lt; have h2 := HB7.out.size; have h3 := hb.size; omega
         clear hb hb2 hb8 HALL HERR
         go_upto_region 8 with fail
         generalize (w8.alloc (.cells #[.int .i64 0, .int .i64 0, .string ⟨#[]⟩, .slice none 0 0, .slice none 0 0] 25)).alloc (.cells #[.int .i64 (q1 : Int), .int .i64 (q2 : Int)] 33) = W9 at hn1 hn2 hb9 ⊢
         have r0 := hn2.cell 0
         have r1 := hn2.cell 1
         simp at r0 r1
         have hql := hn2.lt
         have p0 := hn1.cell 0
         have p1 := hn1.cell 1
         have p2 := hn1.cell 2
         have p3 := hn1.cell 3
         have p4 := hn1.cell 4
         simp at p0 p1 p2 p3 p4
         have hpl := hn1.lt
         have hzz := hb9
         obtain ⟨⟨z0, z1, z2, z3, z4⟩, ⟨y0, y1, y2, y3, y4⟩, hlw⟩ := zero_cells (HN.out.1.below hzz)
         have x0 := (HN.out.2.1.below hzz).cell 0
         have x1 := (HN.out.2.1.below hzz).cell 1
         have v0 := (HN.out.2.1.below hzz).frozen 0
         have v1 := (HN.out.2.1.below hzz).frozen 1
         simp at x0 x1
         have hlx := (HN.out.2.1.below hzz).lt
         have HBW := Lib.hid (HN.out.2.2.trans (hzz.mono HN.out.2.2.size))
         clear hzz
         clear hn1 hn2 hb9
         go_region
         all_goals
           go_wp2_with fail
           refine HQ9.out _ _ _ ?_
           refine bodyPost_ret (v := .tuple #[.agg #[.int .i64 0, .int .i64 0, .string ⟨#[]⟩, .slice none 0 0, .slice none 0 0], .agg #[.int .i64 (q1 : Int), .int .i64 (q2 : Int)]]) (by simp [results, Tryz.results41, go_sem, z0, z1, z2, z3, z4, y0, y1, y2, y3, y4, hlw, x0, x1, v0, v1, hlx]) rfl ?_
           rw [HR.out]
           refine ⟨?_, rfl⟩
           have hbw := HBW.out
           go_grown
           all_goals exact hbw
       | ok q =>
         obtain ⟨d, r'⟩ := q
         obtain ⟨xi, xm, rfl, hx⟩ := h8
         have HR := Lib.hid (show r = .ok d from HALL.out)
         obtain ⟨xp, xc, rfl, -, -⟩ := hx.items
         obtain ⟨yp, yc, rfl, -, -⟩ := hx.members
         generalize L.length - r'.length = nx
         have hb2 := (val_two w8 #[.int .i64 (srtD d).k, .int .i64 (srtD d).n, .string (S (srtD d).s), .slice xp (srtD d).its.length xc, .slice yp (srtD d).mem.length yc] #[.int .i64 0, .int .i64 0] 25 33).2.2
         have hn2 := (val_two w8 #[.int .i64 (srtD d).k, .int .i64 (srtD d).n, .string (S (srtD d).s), .slice xp (srtD d).its.length xc, .slice yp (srtD d).mem.length yc] #[.int .i64 0, .int .i64 0] 25 33).2.1
         have hn1 := (val_two w8 #[.int .i64 (srtD d).k, .int .i64 (srtD d).n, .string (S (srtD d).s), .slice xp (srtD d).its.length xc, .slice yp (srtD d).mem.length yc] #[.int .i64 0, .int .i64 0] 25 33).1
         have hb9 := hb8.trans (hb2.mono hb8.size)
         have hsz := HN.out.2.1.lt
         have hsz2 := HB7.out.size
         have hx9 := (hx.under hb2).mono (ok' := fun B => w.heap.size + 2 ≤ B) (fun B _ hB => by omega)
         have hsep : w.heap.size + 1 < w8.heap.size := by have h1 := HN.out.2.1.lt; have h2 := HB7.out.size; have h3 := hb.size; omega
         clear hb hb2 hb8 HALL HERR hx
         unfold dv
         go_upto_region 8 with fail
         generalize (w8.alloc (.cells #[.int .i64 (srtD d).k, .int .i64 (srtD d).n, .string (S (srtD d).s), .slice xp (srtD d).its.length xc, .slice yp (srtD d).mem.length yc] 25)).alloc (.cells #[.int .i64 0, .int .i64 0] 33) = W9 at hn1 hn2 hb9 hx9 ⊢
         have HX := Lib.hid hx9
         have r0 := hn2.cell 0
         have r1 := hn2.cell 1
         simp at r0 r1
         have hql := hn2.lt
         have p0 := hn1.cell 0
         have p1 := hn1.cell 1
         have p2 := hn1.cell 2
         have p3 := hn1.cell 3
         have p4 := hn1.cell 4
         simp at p0 p1 p2 p3 p4
         have hpl := hn1.lt
         have hzz := hb9
         obtain ⟨⟨z0, z1, z2, z3, z4⟩, ⟨y0, y1, y2, y3, y4⟩, hlw⟩ := zero_cells (HN.out.1.below hzz)
         have x0 := (HN.out.2.1.below hzz).cell 0
         have x1 := (HN.out.2.1.below hzz).cell 1
         have v0 := (HN.out.2.1.below hzz).frozen 0
         have v1 := (HN.out.2.1.below hzz).frozen 1
         simp at x0 x1
         have hlx := (HN.out.2.1.below hzz).lt
         have HBW := Lib.hid (HN.out.2.2.trans (hzz.mono HN.out.2.2.size))
         clear hzz
         clear hn1 hn2 hb9 hx9
         go_region
         all_goals
           go_wp2_with fail
           refine HQ9.out _ _ _ ?_
           refine bodyPost_ret (v := .tuple #[.agg #[.int .i64 (srtD d).k, .int .i64 (srtD d).n, .string (S (srtD d).s), .slice xp (srtD d).its.length xc, .slice yp (srtD d).mem.length yc], .agg #[.int .i64 0, .int .i64 0]]) (by simp [results, Tryz.results41, go_sem, z0, z1, z2, z3, z4, y0, y1, y2, y3, y4, hlw, x0, x1, v0, v1, hlx]) rfl ?_
           rw [HR.out]
           refine ⟨?_, _, _, rfl, ?_⟩
           · have hbw := HBW.out
             go_grown
             all_goals exact hbw
           · refine Rep.mono (ok := fun B => w.heap.size + 2 ≤ B) (fun B _ hB => by omega) ?_
             repeat (first | with_reducible refine Rep.set ?_ _ _ (fun C hC => by dsimp only at hC ⊢; omega) | with_reducible refine Rep.under (below_drew (Below.refl _ _)) ?_)
             exact HX.out
     | some d =>
       simp only [Option.isSome_some]
       obtain rfl := hd d rfl
       by_cases h1 : 1 < L.length
       · obtain ⟨y, r2, hy, x5⟩ := HY.out h1
         have HR := Lib.hid (show r = .error (19, y.no) by rw [HAC2.out, hy])
         have g1 : (1 : Int) < (L.length : Int) := by omega
         have g2 : 1 < lc := by omega
         replace x5 := (HB4.out.cell (p := ⟨B, 3, none⟩) hB).trans x5
         have hB4 := Nat.lt_of_lt_of_le hB HB4.out.size
         clear hy HAC2 hd HY h1
         go_wp2_with fail
         refine (rfault_any 19 (y.no : Int) _).mono ?_
         rintro e w9 ⟨rfl, hb9⟩
         have hzz := HB4.out.trans (hb9.mono HB4.out.size)
         obtain ⟨⟨z0, z1, z2, z3, z4⟩, ⟨y0, y1, y2, y3, y4⟩, hlw⟩ := zero_cells (HN.out.1.below hzz)
         have x0 := (HN.out.2.1.below hzz).cell 0
         have x1 := (HN.out.2.1.below hzz).cell 1
         have v0 := (HN.out.2.1.below hzz).frozen 0
         have v1 := (HN.out.2.1.below hzz).frozen 1
         simp at x0 x1
         have hlx := (HN.out.2.1.below hzz).lt
         have HBW := Lib.hid (HN.out.2.2.trans (hzz.mono HN.out.2.2.size))
         clear hzz
         clear hb9 x5 hB4
         go_wp2_with fail
         refine HQ9.out _ _ _ ?_
         refine bodyPost_ret (v := .tuple #[.agg #[.int .i64 0, .int .i64 0, .string ⟨#[]⟩, .slice none 0 0, .slice none 0 0], .agg #[.int .i64 19, .int .i64 (y.no : Int)]]) (by simp [results, Tryz.results41, go_sem, z0, z1, z2, z3, z4, y0, y1, y2, y3, y4, hlw, x0, x1, v0, v1, hlx]) rfl ?_
         rw [HR.out]
         refine ⟨?_, rfl⟩
         have hbw := HBW.out
         go_grown
         all_goals exact hbw
       · have HR := Lib.hid (show r = .ok (.mk k n s [] []) by
           rw [HAC2.out, List.drop_eq_nil_of_le (by omega)])
         have g1 : ¬ ((1 : Int) < (L.length : Int)) := by omega
         have p0 := HN4.out.cell 0
         have p1 := HN4.out.cell 1
         have p2 := HN4.out.cell 2
         have p3 := HN4.out.cell 3
         have p4 := HN4.out.cell 4
         simp at p0 p1 p2 p3 p4
         have hpl := HN4.out.lt
         have hzz := HB4.out
         obtain ⟨⟨z0, z1, z2, z3, z4⟩, ⟨y0, y1, y2, y3, y4⟩, hlw⟩ := zero_cells (HN.out.1.below hzz)
         have x0 := (HN.out.2.1.below hzz).cell 0
         have x1 := (HN.out.2.1.below hzz).cell 1
         have v0 := (HN.out.2.1.below hzz).frozen 0
         have v1 := (HN.out.2.1.below hzz).frozen 1
         simp at x0 x1
         have hlx := (HN.out.2.1.below hzz).lt
         have HBW := Lib.hid (HN.out.2.2.trans (hzz.mono HN.out.2.2.size))
         clear hzz
         clear HAC2 hd HY h1
         go_wp2_with fail
         refine HQ9.out _ _ _ ?_
         refine bodyPost_ret (v := .tuple #[.agg #[.int .i64 k, .int .i64 n, .string (S s), .slice none 0 0, .slice none 0 0], .agg #[.int .i64 0, .int .i64 0]]) (by simp [results, Tryz.results41, go_sem, z0, z1, z2, z3, z4, y0, y1, y2, y3, y4, hlw, x0, x1, v0, v1, hlx]) rfl ?_
         rw [HR.out]
         refine ⟨?_, .slice none 0 0, .slice none 0 0, by rw [srt_leaf]; rfl, by rw [srt_leaf]; exact rep_leaf _ _ (d := .mk k n s [] []) rfl rfl none none 0 0⟩
         have hbw := HBW.out
         go_grown
         all_goals exact hbw
   · have g5 : ((x.ind : Int) == 0) = false := by simp; omega
     have HALL := Lib.hid (HAC.out.trans (if_neg hind))
     clear hind HAC HY
     go_upto_region 7 with fail
     clear x1 x2
     have HC := Lib.hid (HPR.out ws (Below.refl ws.heap.size ws))
     have HB7 := Lib.hid (Below.refl ws.heap.size ws)
     generalize blkR many 0 0 [] [] L = q5 at HC HALL HERR
     go_wp2_with fail
     refine HC.out.mono ?_
     rintro e w8 ⟨hb, h8⟩
     have hb8 := HB7.out.trans (hb.mono HB7.out.size)
     clear HC
     cases q5 with
     | error q =>
       obtain ⟨q1, q2⟩ := q
       subst h8
       have HR := Lib.hid (show r = .error (q1, q2) from HALL.out)
       have hb2 := (val_two w8 #[.int .i64 0, .int .i64 0, .string ⟨#[]⟩, .slice none 0 0, .slice none 0 0] #[.int .i64 (q1 : Int), .int .i64 (q2 : Int)] 25 33).2.2
       have hn2 := (val_two w8 #[.int .i64 0, .int .i64 0, .string ⟨#[]⟩, .slice none 0 0, .slice none 0 0] #[.int .i64 (q1 : Int), .int .i64 (q2 : Int)] 25 33).2.1
       have hn1 := (val_two w8 #[.int .i64 0, .int .i64 0, .string ⟨#[]⟩, .slice none 0 0, .slice none 0 0] #[.int .i64 (q1 : Int), .int .i64 (q2 : Int)] 25 33).1
       have hb9 := hb8.trans (hb2.mono hb8.size)
       have hsep : w.heap.size + 1 < w8.heap.size := by have h1 := HN.out.2.1.lt; have h2 := HB7.out.size; have h3 := hb.size; omega
       clear hb hb2 hb8 HALL HERR
       go_upto_region 8 with fail
       generalize (w8.alloc (.cells #[.int .i64 0, .int .i64 0, .string ⟨#[]⟩, .slice none 0 0, .slice none 0 0] 25)).alloc (.cells #[.int .i64 (q1 : Int), .int .i64 (q2 : Int)] 33) = W9 at hn1 hn2 hb9 ⊢
       have r0 := hn2.cell 0
       have r1 := hn2.cell 1
       simp at r0 r1
       have hql := hn2.lt
       have p0 := hn1.cell 0
       have p1 := hn1.cell 1
       have p2 := hn1.cell 2
       have p3 := hn1.cell 3
       have p4 := hn1.cell 4
       simp at p0 p1 p2 p3 p4
       have hpl := hn1.lt
       have hzz := hb9
       obtain ⟨⟨z0, z1, z2, z3, z4⟩, ⟨y0, y1, y2, y3, y4⟩, hlw⟩ := zero_cells (HN.out.1.below hzz)
       have x0 := (HN.out.2.1.below hzz).cell 0
       have x1 := (HN.out.2.1.below hzz).cell 1
       have v0 := (HN.out.2.1.below hzz).frozen 0
       have v1 := (HN.out.2.1.below hzz).frozen 1
       simp at x0 x1
       have hlx := (HN.out.2.1.below hzz).lt
       have HBW := Lib.hid (HN.out.2.2.trans (hzz.mono HN.out.2.2.size))
       clear hzz
       clear hn1 hn2 hb9
       go_region
       all_goals
         go_wp2_with fail
         refine HQ9.out _ _ _ ?_
         refine bodyPost_ret (v := .tuple #[.agg #[.int .i64 0, .int .i64 0, .string ⟨#[]⟩, .slice none 0 0, .slice none 0 0], .agg #[.int .i64 (q1 : Int), .int .i64 (q2 : Int)]]) (by simp [results, Tryz.results41, go_sem, z0, z1, z2, z3, z4, y0, y1, y2, y3, y4, hlw, x0, x1, v0, v1, hlx]) rfl ?_
         rw [HR.out]
         refine ⟨?_, rfl⟩
         have hbw := HBW.out
         go_grown
         all_goals exact hbw
     | ok q =>
       obtain ⟨d, r'⟩ := q
       obtain ⟨xi, xm, rfl, hx⟩ := h8
       have HR := Lib.hid (show r = .ok d from HALL.out)
       obtain ⟨xp, xc, rfl, -, -⟩ := hx.items
       obtain ⟨yp, yc, rfl, -, -⟩ := hx.members
       generalize L.length - r'.length = nx
       have hb2 := (val_two w8 #[.int .i64 (srtD d).k, .int .i64 (srtD d).n, .string (S (srtD d).s), .slice xp (srtD d).its.length xc, .slice yp (srtD d).mem.length yc] #[.int .i64 0, .int .i64 0] 25 33).2.2
       have hn2 := (val_two w8 #[.int .i64 (srtD d).k, .int .i64 (srtD d).n, .string (S (srtD d).s), .slice xp (srtD d).its.length xc, .slice yp (srtD d).mem.length yc] #[.int .i64 0, .int .i64 0] 25 33).2.1
       have hn1 := (val_two w8 #[.int .i64 (srtD d).k, .int .i64 (srtD d).n, .string (S (srtD d).s), .slice xp (srtD d).its.length xc, .slice yp (srtD d).mem.length yc] #[.int .i64 0, .int .i64 0] 25 33).1
       have hb9 := hb8.trans (hb2.mono hb8.size)
       have hsz := HN.out.2.1.lt
       have hsz2 := HB7.out.size
       have hx9 := (hx.under hb2).mono (ok' := fun B => w.heap.size + 2 ≤ B) (fun B _ hB => by omega)
       have hsep : w.heap.size + 1 < w8.heap.size := by have h1 := HN.out.2.1.lt; have h2 := HB7.out.size; have h3 := hb.size; omega
       clear hb hb2 hb8 HALL HERR hx
       unfold dv
       go_upto_region 8 with fail
       generalize (w8.alloc (.cells #[.int .i64 (srtD d).k, .int .i64 (srtD d).n, .string (S (srtD d).s), .slice xp (srtD d).its.length xc, .slice yp (srtD d).mem.length yc] 25)).alloc (.cells #[.int .i64 0, .int .i64 0] 33) = W9 at hn1 hn2 hb9 hx9 ⊢
       have HX := Lib.hid hx9
       have r0 := hn2.cell 0
       have r1 := hn2.cell 1
       simp at r0 r1
       have hql := hn2.lt
       have p0 := hn1.cell 0
       have p1 := hn1.cell 1
       have p2 := hn1.cell 2
       have p3 := hn1.cell 3
       have p4 := hn1.cell 4
       simp at p0 p1 p2 p3 p4
       have hpl := hn1.lt
       have hzz := hb9
       obtain ⟨⟨z0, z1, z2, z3, z4⟩, ⟨y0, y1, y2, y3, y4⟩, hlw⟩ := zero_cells (HN.out.1.below hzz)
       have x0 := (HN.out.2.1.below hzz).cell 0
       have x1 := (HN.out.2.1.below hzz).cell 1
       have v0 := (HN.out.2.1.below hzz).frozen 0
       have v1 := (HN.out.2.1.below hzz).frozen 1
       simp at x0 x1
       have hlx := (HN.out.2.1.below hzz).lt
       have HBW := Lib.hid (HN.out.2.2.trans (hzz.mono HN.out.2.2.size))
       clear hzz
       clear hn1 hn2 hb9 hx9
       go_region
       all_goals
         go_wp2_with fail
         refine HQ9.out _ _ _ ?_
         refine bodyPost_ret (v := .tuple #[.agg #[.int .i64 (srtD d).k, .int .i64 (srtD d).n, .string (S (srtD d).s), .slice xp (srtD d).its.length xc, .slice yp (srtD d).mem.length yc], .agg #[.int .i64 0, .int .i64 0]]) (by simp [results, Tryz.results41, go_sem, z0, z1, z2, z3, z4, y0, y1, y2, y3, y4, hlw, x0, x1, v0, v1, hlx]) rfl ?_
         rw [HR.out]
         refine ⟨?_, _, _, rfl, ?_⟩
         · have hbw := HBW.out
           go_grown
           all_goals exact hbw
         · refine Rep.mono (ok := fun B => w.heap.size + 2 ≤ B) (fun B _ hB => by omega) ?_
           repeat (first | with_reducible refine Rep.set ?_ _ _ (fun C hC => by dsimp only at hC ⊢; omega) | with_reducible refine Rep.under (below_drew (Below.refl _ _)) ?_)
           exact HX.out
 · have g0 : ¬ ((0 : Int) < (L.length : Int)) := by omega
   have HALL := Lib.hid (show r = (blkR many 0 0 [] [] L).map fun p => p.1 by
     have : L = [] := List.length_eq_zero_iff.1 (by omega)
     rw [HAR.out]
     subst this; rfl)
   go_upto_region 7 with fail
   have HC := Lib.hid (HPR.out ws (Below.refl ws.heap.size ws))
   have HB7 := Lib.hid (Below.refl ws.heap.size ws)
   generalize blkR many 0 0 [] [] L = q5 at HC HALL HERR
   go_wp2_with fail
   refine HC.out.mono ?_
   rintro e w8 ⟨hb, h8⟩
   have hb8 := HB7.out.trans (hb.mono HB7.out.size)
   clear HC
   cases q5 with
   | error q =>
     obtain ⟨q1, q2⟩ := q
     subst h8
     have HR := Lib.hid (show r = .error (q1, q2) from HALL.out)
     have hb2 := (val_two w8 #[.int .i64 0, .int .i64 0, .string ⟨#[]⟩, .slice none 0 0, .slice none 0 0] #[.int .i64 (q1 : Int), .int .i64 (q2 : Int)] 25 33).2.2
     have hn2 := (val_two w8 #[.int .i64 0, .int .i64 0, .string ⟨#[]⟩, .slice none 0 0, .slice none 0 0] #[.int .i64 (q1 : Int), .int .i64 (q2 : Int)] 25 33).2.1
     have hn1 := (val_two w8 #[.int .i64 0, .int .i64 0, .string ⟨#[]⟩, .slice none 0 0, .slice none 0 0] #[.int .i64 (q1 : Int), .int .i64 (q2 : Int)] 25 33).1
     have hb9 := hb8.trans (hb2.mono hb8.size)
     have hsep : w.heap.size + 1 < w8.heap.size := by have h1 := HN.out.2.1.lt; have h2 := HB7.out.size; have h3 := hb.size; omega
     clear hb hb2 hb8 HALL HERR
     go_upto_region 8 with fail
     generalize (w8.alloc (.cells #[.int .i64 0, .int .i64 0, .string ⟨#[]⟩, .slice none 0 0, .slice none 0 0] 25)).alloc (.cells #[.int .i64 (q1 : Int), .int .i64 (q2 : Int)] 33) = W9 at hn1 hn2 hb9 ⊢
     have r0 := hn2.cell 0
     have r1 := hn2.cell 1
     simp at r0 r1
     have hql := hn2.lt
     have p0 := hn1.cell 0
     have p1 := hn1.cell 1
     have p2 := hn1.cell 2
     have p3 := hn1.cell 3
     have p4 := hn1.cell 4
     simp at p0 p1 p2 p3 p4
     have hpl := hn1.lt
     have hzz := hb9
     obtain ⟨⟨z0, z1, z2, z3, z4⟩, ⟨y0, y1, y2, y3, y4⟩, hlw⟩ := zero_cells (HN.out.1.below hzz)
     have x0 := (HN.out.2.1.below hzz).cell 0
     have x1 := (HN.out.2.1.below hzz).cell 1
     have v0 := (HN.out.2.1.below hzz).frozen 0
     have v1 := (HN.out.2.1.below hzz).frozen 1
     simp at x0 x1
     have hlx := (HN.out.2.1.below hzz).lt
     have HBW := Lib.hid (HN.out.2.2.trans (hzz.mono HN.out.2.2.size))
     clear hzz
     clear hn1 hn2 hb9
     go_region
     all_goals
       go_wp2_with fail
       refine HQ9.out _ _ _ ?_
       refine bodyPost_ret (v := .tuple #[.agg #[.int .i64 0, .int .i64 0, .string ⟨#[]⟩, .slice none 0 0, .slice none 0 0], .agg #[.int .i64 (q1 : Int), .int .i64 (q2 : Int)]]) (by simp [results, Tryz.results41, go_sem, z0, z1, z2, z3, z4, y0, y1, y2, y3, y4, hlw, x0, x1, v0, v1, hlx]) rfl ?_
       rw [HR.out]
       refine ⟨?_, rfl⟩
       have hbw := HBW.out
       go_grown
       all_goals exact hbw
   | ok q =>
     obtain ⟨d, r'⟩ := q
     obtain ⟨xi, xm, rfl, hx⟩ := h8
     have HR := Lib.hid (show r = .ok d from HALL.out)
     obtain ⟨xp, xc, rfl, -, -⟩ := hx.items
     obtain ⟨yp, yc, rfl, -, -⟩ := hx.members
     generalize L.length - r'.length = nx
     have hb2 := (val_two w8 #[.int .i64 (srtD d).k, .int .i64 (srtD d).n, .string (S (srtD d).s), .slice xp (srtD d).its.length xc, .slice yp (srtD d).mem.length yc] #[.int .i64 0, .int .i64 0] 25 33).2.2
     have hn2 := (val_two w8 #[.int .i64 (srtD d).k, .int .i64 (srtD d).n, .string (S (srtD d).s), .slice xp (srtD d).its.length xc, .slice yp (srtD d).mem.length yc] #[.int .i64 0, .int .i64 0] 25 33).2.1
     have hn1 := (val_two w8 #[.int .i64 (srtD d).k, .int .i64 (srtD d).n, .string (S (srtD d).s), .slice xp (srtD d).its.length xc, .slice yp (srtD d).mem.length yc] #[.int .i64 0, .int .i64 0] 25 33).1
     have hb9 := hb8.trans (hb2.mono hb8.size)
     have hsz := HN.out.2.1.lt
     have hsz2 := HB7.out.size
     have hx9 := (hx.under hb2).mono (ok' := fun B => w.heap.size + 2 ≤ B) (fun B _ hB => by omega)
     have hsep : w.heap.size + 1 < w8.heap.size := by have h1 := HN.out.2.1.lt; have h2 := HB7.out.size; have h3 := hb.size; omega
     clear hb hb2 hb8 HALL HERR hx
     unfold dv
     go_upto_region 8 with fail
     generalize (w8.alloc (.cells #[.int .i64 (srtD d).k, .int .i64 (srtD d).n, .string (S (srtD d).s), .slice xp (srtD d).its.length xc, .slice yp (srtD d).mem.length yc] 25)).alloc (.cells #[.int .i64 0, .int .i64 0] 33) = W9 at hn1 hn2 hb9 hx9 ⊢
     have HX := Lib.hid hx9
     have r0 := hn2.cell 0
     have r1 := hn2.cell 1
     simp at r0 r1
     have hql := hn2.lt
     have p0 := hn1.cell 0
     have p1 := hn1.cell 1
     have p2 := hn1.cell 2
     have p3 := hn1.cell 3
     have p4 := hn1.cell 4
     simp at p0 p1 p2 p3 p4
     have hpl := hn1.lt
     have hzz := hb9
     obtain ⟨⟨z0, z1, z2, z3, z4⟩, ⟨y0, y1, y2, y3, y4⟩, hlw⟩ := zero_cells (HN.out.1.below hzz)
     have x0 := (HN.out.2.1.below hzz).cell 0
     have x1 := (HN.out.2.1.below hzz).cell 1
     have v0 := (HN.out.2.1.below hzz).frozen 0
     have v1 := (HN.out.2.1.below hzz).frozen 1
     simp at x0 x1
     have hlx := (HN.out.2.1.below hzz).lt
     have HBW := Lib.hid (HN.out.2.2.trans (hzz.mono HN.out.2.2.size))
     clear hzz
     clear hn1 hn2 hb9 hx9
     go_region
     all_goals
       go_wp2_with fail
       refine HQ9.out _ _ _ ?_
       refine bodyPost_ret (v := .tuple #[.agg #[.int .i64 (srtD d).k, .int .i64 (srtD d).n, .string (S (srtD d).s), .slice xp (srtD d).its.length xc, .slice yp (srtD d).mem.length yc], .agg #[.int .i64 0, .int .i64 0]]) (by simp [results, Tryz.results41, go_sem, z0, z1, z2, z3, z4, y0, y1, y2, y3, y4, hlw, x0, x1, v0, v1, hlx]) rfl ?_
       rw [HR.out]
       refine ⟨?_, _, _, rfl, ?_⟩
       · have hbw := HBW.out
         go_grown
         all_goals exact hbw
       · refine Rep.mono (ok := fun B => w.heap.size + 2 ≤ B) (fun B _ hB => by omega) ?_
         repeat (first | with_reducible refine Rep.set ?_ _ _ (fun C hC => by dsimp only at hC ⊢; omega) | with_reducible refine Rep.under (below_drew (Below.refl _ _)) ?_)
         exact HX.out
set_option maxRecDepth 100000 in
set_option maxHeartbeats 8000000 in
theorem rParse_any (l : List UInt8) (hl : l.length ≤ 1000000) (w : World) :
   Calls Tryz.prog 19 #[.string (S l)] w (PrsP w (parseY l)) := by
 have hN : Blk ((w.alloc (.cells #[.int .i64 0, .int .i64 0, .string ⟨#[]⟩, .slice none 0 0, .slice none 0 0] 25)).alloc (.cells #[.int .i64 0, .int .i64 0] 33)) w.heap.size #[.int .i64 0, .int .i64 0, .string ⟨#[]⟩, .slice none 0 0, .slice none 0 0] 25 ∧ Blk ((w.alloc (.cells #[.int .i64 0, .int .i64 0, .string ⟨#[]⟩, .slice none 0 0, .slice none 0 0] 25)).alloc (.cells #[.int .i64 0, .int .i64 0] 33)) (w.heap.size + 1) #[.int .i64 0, .int .i64 0] 33 ∧ Below w.heap.size w ((w.alloc (.cells #[.int .i64 0, .int .i64 0, .string ⟨#[]⟩, .slice none 0 0, .slice none 0 0] 25)).alloc (.cells #[.int .i64 0, .int .i64 0] 33)) := val_two w _ _ _ _
 have HPD := Lib.hid (show parseY l = if 65536 < l.length then (dat0, 2, 0) else match allY (linesY l) (pieces l).length with | .error e => (dat0, e.1, e.2) | .ok d => if chk (srtD d) 1 = 0 then (srtD d, 0, 0) else (dat0, chk (srtD d) 1, 0) from rfl)
 generalize parseY l = r at HPD ⊢
 by_cases hbig : 65536 < l.length
 · have HR := Lib.hid (show r = (dat0, 2, 0) by rw [HPD.out, if_pos hbig])
   have b1 : (65536 : Int) < (l.length : Int) := by omega
   go_enter Tryz.func19, Tryz.ntmps19
   refine wp_opaque fun Q9 HQ9 => ?_
   let QT : Exit → Act → World → Prop := bodyPost Tryz.prog Tryz.f19 (fun _ _ => True)
   go_upto_region 1 with fail
   generalize (w.alloc (.cells #[.int .i64 0, .int .i64 0, .string ⟨#[]⟩, .slice none 0 0, .slice none 0 0] 25)).alloc (.cells #[.int .i64 0, .int .i64 0] 33) = ws at hN ⊢
   have HN := Lib.hid hN
   clear hN hbig
   go_wp2_with fail
   refine (rfault_any 2 0 _).mono ?_
   rintro e w9 ⟨rfl, hb9⟩
   have hzz := hb9
   obtain ⟨⟨z0, z1, z2, z3, z4⟩, ⟨y0, y1, y2, y3, y4⟩, hlw⟩ := zero_cells (HN.out.1.below hzz)
   have x0 := (HN.out.2.1.below hzz).cell 0
   have x1 := (HN.out.2.1.below hzz).cell 1
   have v0 := (HN.out.2.1.below hzz).frozen 0
   have v1 := (HN.out.2.1.below hzz).frozen 1
   simp at x0 x1
   have hlx := (HN.out.2.1.below hzz).lt
   have HBW := Lib.hid (HN.out.2.2.trans (hzz.mono HN.out.2.2.size))
   clear hzz
   clear hb9
   go_wp2_with fail
   refine HQ9.out _ _ _ ?_
   refine bodyPost_ret (v := .tuple #[.agg #[.int .i64 0, .int .i64 0, .string ⟨#[]⟩, .slice none 0 0, .slice none 0 0], .agg #[.int .i64 2, .int .i64 0]]) (by simp [results, Tryz.results19, go_sem, z0, z1, z2, z3, z4, y0, y1, y2, y3, y4, hlw, x0, x1, v0, v1, hlx]) rfl ?_
   rw [HR.out]
   refine PrsP.no w ?_
   have hbw := HBW.out
   go_grown
   all_goals exact hbw
 · have b1 : ¬ ((65536 : Int) < (l.length : Int)) := by omega
   obtain ⟨n1, n2, n3⟩ := lines_facts (s := l) (by omega)
   have HPD1 := Lib.hid (show r = (match allY (linesY l) (pieces l).length with | .error e => (dat0, e.1, e.2) | .ok d => if chk (srtD d) 1 = 0 then (srtD d, 0, 0) else (dat0, chk (srtD d) 1, 0)) by rw [HPD.out, if_neg hbig])
   have HGD := Lib.hid (fun d (h : allY (linesY l) (pieces l).length = .ok d) => all_chk h (by omega) (fun x hx => by have := (n3 x hx).2.1; omega))
   have HER := Lib.hid (fun q (h : allY (linesY l) (pieces l).length = .error q) => all_err h)
   have HN3 := Lib.hid n3
   have HLI := Lib.hid (fun w' => rlines_any l (by omega) w')
   have HPC := Lib.hid (fun w' => rpieces_any l (by omega) w')
   unfold LnfP at HLI
   unfold PcsP at HPC
   clear hbig HPD n3
   go_enter Tryz.func19, Tryz.ntmps19
   refine wp_opaque fun Q9 HQ9 => ?_
   let QT : Exit → Act → World → Prop := bodyPost Tryz.prog Tryz.f19 (fun _ _ => True)
   go_upto_region 1 with fail
   generalize (w.alloc (.cells #[.int .i64 0, .int .i64 0, .string ⟨#[]⟩, .slice none 0 0, .slice none 0 0] 25)).alloc (.cells #[.int .i64 0, .int .i64 0] 33) = ws at hN ⊢
   have HN := Lib.hid hN
   clear hN
   go_wp2_with fail
   refine (HLI.out _).mono ?_
   rintro e w3 ⟨v, rfl, hln, hb⟩
   have HB3 := Lib.hid hb
   have HL3 := Lib.hid hln
   obtain ⟨vp, vc, hv⟩ : ∃ vp vc, v = .slice vp (linesY l).length vc := by obtain ⟨p, cap, B, h, -⟩ := hln; exact ⟨_, _, h⟩
   subst hv
   clear hb hln HLI
   go_wp2_with fail
   refine (HPC.out _).mono ?_
   rintro e w4 ⟨pp, pc, rfl, -, hb⟩
   have HB4 := Lib.hid (HB3.out.trans (hb.mono HB3.out.size))
   have HL4 := Lib.hid (HL3.out.under hb)
   clear hb HL3 HB3 HPC
   generalize hmany : (pieces l).length = many at HPD1 HGD HER n2 ⊢
   generalize linesY l = L at HPD1 HGD HER n1 HN3 HL4 ⊢
   have HDO := Lib.hid (show Calls Tryz.prog 41 #[.slice vp L.length vc, .int .i64 ((many : Int) + 1)] w4 (DocP w4 (allY L many)) from rdoc_any (en := many + 1) (by omega) rfl (by omega) (fun x hx => by obtain ⟨a1, a2, a3, a4⟩ := HN3.out x hx; exact ⟨a1, a2, by omega, by omega⟩) HL4.out)
   have hw9 : IntKind.i64.wrap ((many : Int) + 1) = (many : Int) + 1 := IntWalk.i64_in _ (by omega)
   clear HL4 HN3 hmany
   generalize allY L many = q5 at HPD1 HGD HER HDO
   go_wp2_with fail
   refine HDO.out.mono ?_
   rintro e w6 ⟨hb, h6⟩
   have hb6 := HB4.out.trans (hb.mono HB4.out.size)
   have hsz4 := HB4.out.size
   clear HDO HB4
   cases q5 with
   | error q =>
     have hq := HER.out q rfl
     obtain ⟨q1, q2⟩ := q
     have hq1 : ((q1 : Int) == 0) = false := by simp at hq ⊢; omega
     have hq2 : ((q1 : Int) != 0) = true := by simp at hq ⊢; omega
     subst h6
     have HR := Lib.hid (show r = (dat0, q1, q2) from HPD1.out)
     have hn2 := (val_two w6 #[.int .i64 0, .int .i64 0, .string ⟨#[]⟩, .slice none 0 0, .slice none 0 0] #[.int .i64 (q1 : Int), .int .i64 (q2 : Int)] 25 33).2.1
     have hb2 := (val_two w6 #[.int .i64 0, .int .i64 0, .string ⟨#[]⟩, .slice none 0 0, .slice none 0 0] #[.int .i64 (q1 : Int), .int .i64 (q2 : Int)] 25 33).2.2
     have hb9 := hb6.trans (hb2.mono hb6.size)
     have hsep : w.heap.size + 1 < w6.heap.size := by have h1 := HN.out.2.1.lt; have h3 := hb.size; omega
     clear hq HPD1 HGD HER hb6 hb2 hb
     go_upto_region 4 with fail
     generalize (w6.alloc (.cells #[.int .i64 0, .int .i64 0, .string ⟨#[]⟩, .slice none 0 0, .slice none 0 0] 25)).alloc (.cells #[.int .i64 (q1 : Int), .int .i64 (q2 : Int)] 33) = W9 at hn2 hb9 ⊢
     have r0 := hn2.cell 0
     have r1 := hn2.cell 1
     simp at r0 r1
     have hql := hn2.lt
     have hzz := hb9
     obtain ⟨⟨z0, z1, z2, z3, z4⟩, ⟨y0, y1, y2, y3, y4⟩, hlw⟩ := zero_cells (HN.out.1.below hzz)
     have x0 := (HN.out.2.1.below hzz).cell 0
     have x1 := (HN.out.2.1.below hzz).cell 1
     have v0 := (HN.out.2.1.below hzz).frozen 0
     have v1 := (HN.out.2.1.below hzz).frozen 1
     simp at x0 x1
     have hlx := (HN.out.2.1.below hzz).lt
     have HBW := Lib.hid (HN.out.2.2.trans (hzz.mono HN.out.2.2.size))
     clear hzz
     clear hn2 hb9
     go_upto_region 5 with fail
     go_region
     all_goals
       go_wp2_with fail
       refine HQ9.out _ _ _ ?_
       refine bodyPost_ret (v := .tuple #[.agg #[.int .i64 0, .int .i64 0, .string ⟨#[]⟩, .slice none 0 0, .slice none 0 0], .agg #[.int .i64 (q1 : Int), .int .i64 (q2 : Int)]]) (by simp [results, Tryz.results19, go_sem, z0, z1, z2, z3, z4, y0, y1, y2, y3, y4, hlw, x0, x1, v0, v1, hlx]) rfl ?_
       rw [HR.out]
       refine PrsP.no w ?_
       have hbw := HBW.out
       go_grown
       all_goals exact hbw
   | ok d =>
     obtain ⟨xi, xm, rfl, hx⟩ := h6
     have hg := HGD.out d rfl
     obtain ⟨xp, xc, rfl, -, -⟩ := hx.items
     obtain ⟨yp, yc, rfl, -, -⟩ := hx.members
     have HPD2 := Lib.hid (show r = if chk (srtD d) 1 = 0 then (srtD d, 0, 0) else (dat0, chk (srtD d) 1, 0) from HPD1.out)
     have hn1 := (val_two w6 #[.int .i64 (srtD d).k, .int .i64 (srtD d).n, .string (S (srtD d).s), .slice xp (srtD d).its.length xc, .slice yp (srtD d).mem.length yc] #[.int .i64 0, .int .i64 0] 25 33).1
     have hn2 := (val_two w6 #[.int .i64 (srtD d).k, .int .i64 (srtD d).n, .string (S (srtD d).s), .slice xp (srtD d).its.length xc, .slice yp (srtD d).mem.length yc] #[.int .i64 0, .int .i64 0] 25 33).2.1
     have hb2 := (val_two w6 #[.int .i64 (srtD d).k, .int .i64 (srtD d).n, .string (S (srtD d).s), .slice xp (srtD d).its.length xc, .slice yp (srtD d).mem.length yc] #[.int .i64 0, .int .i64 0] 25 33).2.2
     have hb9 := hb6.trans (hb2.mono hb6.size)
     have hsz := HN.out.2.1.lt
     have hx9 := (hx.under hb2).mono (ok' := fun B => w.heap.size + 2 ≤ B) (fun B _ hB => by omega)
     have HCK := Lib.hid (fun w' (hb' : Below ((w6.alloc (.cells #[.int .i64 (srtD d).k, .int .i64 (srtD d).n, .string (S (srtD d).s), .slice xp (srtD d).its.length xc, .slice yp (srtD d).mem.length yc] 25)).alloc (.cells #[.int .i64 0, .int .i64 0] 33)).heap.size ((w6.alloc (.cells #[.int .i64 (srtD d).k, .int .i64 (srtD d).n, .string (S (srtD d).s), .slice xp (srtD d).its.length xc, .slice yp (srtD d).mem.length yc] 25)).alloc (.cells #[.int .i64 0, .int .i64 0] 33)) w') => refChk_any ((hx.under hb2).under hb'))
     have hsep : w.heap.size + 1 < w6.heap.size := by have h1 := HN.out.2.1.lt; have h3 := hb.size; omega
     clear HPD1 HGD HER hb6 hb2 hb hx
     unfold dv
     go_upto_region 4 with fail
     generalize (w6.alloc (.cells #[.int .i64 (srtD d).k, .int .i64 (srtD d).n, .string (S (srtD d).s), .slice xp (srtD d).its.length xc, .slice yp (srtD d).mem.length yc] 25)).alloc (.cells #[.int .i64 0, .int .i64 0] 33) = W9 at hn1 hn2 hb9 hx9 HCK ⊢
     have r0 := hn2.cell 0
     simp at r0
     have hql := hn2.lt
     have p0 := hn1.cell 0
     have p1 := hn1.cell 1
     have p2 := hn1.cell 2
     have p3 := hn1.cell 3
     have p4 := hn1.cell 4
     simp at p0 p1 p2 p3 p4
     have hpl := hn1.lt
     have HN9 := Lib.hid hn1
     have HX9 := Lib.hid hx9
     have HB9 := Lib.hid hb9
     clear hn1 hn2 hb9 hx9
     go_wp2_with fail
     refine (HCK.out _ (Below.refl _ _)).mono ?_
     rintro e w10 ⟨rfl, hb⟩
     have hn10 := HN9.out.below hb
     have HX := Lib.hid (HX9.out.under hb)
     have hb10 := HB9.out.trans (hb.mono HB9.out.size)
     clear HCK p0 p1 p2 p3 p4 hpl r0 hql HN9 HX9 HB9 hb
     generalize chk (srtD d) 1 = ck at HPD2 hg ⊢
     rcases hg with rfl | rfl
     · have HR := Lib.hid (show r = (srtD d, 0, 0) by rw [HPD2.out, if_pos rfl])
       have p0 := hn10.cell 0
       have p1 := hn10.cell 1
       have p2 := hn10.cell 2
       have p3 := hn10.cell 3
       have p4 := hn10.cell 4
       simp at p0 p1 p2 p3 p4
       have hpl := hn10.lt
       have hzz := hb10
       obtain ⟨⟨z0, z1, z2, z3, z4⟩, ⟨y0, y1, y2, y3, y4⟩, hlw⟩ := zero_cells (HN.out.1.below hzz)
       have x0 := (HN.out.2.1.below hzz).cell 0
       have x1 := (HN.out.2.1.below hzz).cell 1
       have v0 := (HN.out.2.1.below hzz).frozen 0
       have v1 := (HN.out.2.1.below hzz).frozen 1
       simp at x0 x1
       have hlx := (HN.out.2.1.below hzz).lt
       have HBW := Lib.hid (HN.out.2.2.trans (hzz.mono HN.out.2.2.size))
       clear hzz
       clear hn10 hb10 HPD2
       go_wp2_with fail
       refine HQ9.out _ _ _ ?_
       refine bodyPost_ret (v := .tuple #[.agg #[.int .i64 (srtD d).k, .int .i64 (srtD d).n, .string (S (srtD d).s), .slice xp (srtD d).its.length xc, .slice yp (srtD d).mem.length yc], .agg #[.int .i64 0, .int .i64 0]]) (by simp [results, Tryz.results19, go_sem, z0, z1, z2, z3, z4, y0, y1, y2, y3, y4, hlw, x0, x1, v0, v1, hlx]) rfl ?_
       rw [HR.out]
       refine ⟨_, _, rfl, ?_, ?_⟩
       · exact (((set5_rep HX.out w.heap.size (fun C hC => by omega) _ _ _ _ _).set ⟨w.heap.size + 1, 0, none⟩ _ (fun C hC => by show w.heap.size + 1 ≠ C; omega)).set ⟨w.heap.size + 1, 1, none⟩ _ (fun C hC => by show w.heap.size + 1 ≠ C; omega)).mono fun B _ hB => by omega
       · have hbw := HBW.out
         go_grown
         all_goals exact hbw
     · have HR := Lib.hid (show r = (dat0, 9, 0) by rw [HPD2.out, if_neg (by decide)])
       clear hn10 HPD2 HX
       go_wp2_with fail
       refine (rfault_any 9 0 _).mono ?_
       rintro e w11 ⟨rfl, hb11⟩
       have hzz := hb10.trans (hb11.mono hb10.size)
       obtain ⟨⟨z0, z1, z2, z3, z4⟩, ⟨y0, y1, y2, y3, y4⟩, hlw⟩ := zero_cells (HN.out.1.below hzz)
       have x0 := (HN.out.2.1.below hzz).cell 0
       have x1 := (HN.out.2.1.below hzz).cell 1
       have v0 := (HN.out.2.1.below hzz).frozen 0
       have v1 := (HN.out.2.1.below hzz).frozen 1
       simp at x0 x1
       have hlx := (HN.out.2.1.below hzz).lt
       have HBW := Lib.hid (HN.out.2.2.trans (hzz.mono HN.out.2.2.size))
       clear hzz
       clear hb10 hb11
       go_wp2_with fail
       refine HQ9.out _ _ _ ?_
       refine bodyPost_ret (v := .tuple #[.agg #[.int .i64 0, .int .i64 0, .string ⟨#[]⟩, .slice none 0 0, .slice none 0 0], .agg #[.int .i64 9, .int .i64 0]]) (by simp [results, Tryz.results19, go_sem, z0, z1, z2, z3, z4, y0, y1, y2, y3, y4, hlw, x0, x1, v0, v1, hlx]) rfl ?_
       rw [HR.out]
       refine PrsP.no w ?_
       have hbw := HBW.out
       go_grown
       all_goals exact hbw
end Go.Proofs.YtdalfkklkeblaaaGreatDoor
