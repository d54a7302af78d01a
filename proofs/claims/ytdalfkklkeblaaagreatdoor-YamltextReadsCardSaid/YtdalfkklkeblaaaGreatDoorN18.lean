import Derived.Test.YtdalfkklkeblaaaGreatDoorN17
namespace Go.Proofs.YtdalfkklkeblaaaGreatDoor
set_option linter.unusedSimpArgs false
set_option linter.unusedVariables false
open Go.RowKit
theorem scan_le : ∀ (l : List UInt8) (k i : Nat) (acc : List UInt8), (scan l k i acc).1.length ≤ acc.length + l.length
 | [], k, _, _ => by cases k <;> simp [scan]
 | _ :: t, k + 1, i, acc => by
   simp only [scan]; have := scan_le t k i acc; rw [List.length_cons]; omega
 | c :: t, 0, i, acc => by
   simp only [scan]
   split
   · split <;> simp
   · split
     · split
       · simp
       · have := scan_le t ((unesc (c :: t)).2 - 1) (i + (unesc (c :: t)).2) (acc ++ [(unesc (c :: t)).1])
         simp at this ⊢; omega
     · split
       · simp
       · have := scan_le t 0 (i + 1) (acc ++ [c])
         simp at this ⊢; omega
theorem unq_len (l : List UInt8) : (unqL l).1.length ≤ l.length := by
 unfold unqL
 by_cases h : 65536 < l.length
 · rw [if_pos h]; simp
 · rw [if_neg h]
   cases l with
   | nil => simp
   | cons c t =>
     by_cases hc : c = 34
     · simp only [hc, if_true]; have := scan_le t 0 1 []; simp at this ⊢; omega
     · simp only [hc, if_false]; simp
def SclY (w : World) (W : World) (x : List UInt8) (e p : Nat) (f : Nat) : Prop :=
 Blk W (w.heap.size + 1) #[.int .i64 4, .int .i64 0, .string (S x), .slice none 0 0, .slice none 0 0] 25 ∧ Blk W f #[.int .i64 (e : Int), .int .i64 (p : Int)] 33 ∧ Blk W w.heap.size #[.int .i64 0, .int .i64 0, .string ⟨#[]⟩, .slice none 0 0, .slice none 0 0] 25 ∧ Below w.heap.size w W
theorem SclY.below {w W W' : World} {x : List UInt8} {e p f : Nat} (h : SclY w W x e p f) (hb : Below W.heap.size W W') : SclY w W' x e p f := ⟨h.1.below hb, h.2.1.below hb, h.2.2.1.below hb, h.2.2.2.trans (hb.mono h.2.2.2.size)⟩
theorem SclY.facts {w W : World} {x : List UInt8} {e p f : Nat} (h : SclY w W x e p f) :
   (W.cell? ⟨w.heap.size + 1, 0, none⟩ = some (.int .i64 4) ∧ W.cell? ⟨w.heap.size + 1, 1, none⟩ = some (.int .i64 0) ∧ W.cell? ⟨w.heap.size + 1, 2, none⟩ = some (.string (S x)) ∧ W.cell? ⟨w.heap.size + 1, 3, none⟩ = some (.slice none 0 0) ∧ W.cell? ⟨w.heap.size + 1, 4, none⟩ = some (.slice none 0 0)) ∧
   W.cell? ⟨f, 0, none⟩ = some (.int .i64 (e : Int)) ∧
   (W.cell? ⟨w.heap.size, 0, none⟩ = some (.int .i64 0) ∧ W.cell? ⟨w.heap.size, 1, none⟩ = some (.int .i64 0) ∧ W.cell? ⟨w.heap.size, 2, none⟩ = some (.string ⟨#[]⟩) ∧ W.cell? ⟨w.heap.size, 3, none⟩ = some (.slice none 0 0) ∧ W.cell? ⟨w.heap.size, 4, none⟩ = some (.slice none 0 0)) ∧
   (W.frozen? ⟨w.heap.size, 0, none⟩ = false ∧ W.frozen? ⟨w.heap.size, 1, none⟩ = false ∧ W.frozen? ⟨w.heap.size, 2, none⟩ = false ∧ W.frozen? ⟨w.heap.size, 3, none⟩ = false ∧ W.frozen? ⟨w.heap.size, 4, none⟩ = false) ∧ w.heap.size < W.heap.size :=
 ⟨⟨h.1.cell 0, h.1.cell 1, h.1.cell 2, h.1.cell 3, h.1.cell 4⟩, h.2.1.cell 0, ⟨h.2.2.1.cell 0, h.2.2.1.cell 1, h.2.2.1.cell 2, h.2.2.1.cell 3, h.2.2.1.cell 4⟩, ⟨h.2.2.1.frozen 0, h.2.2.1.frozen 1, h.2.2.1.frozen 2, h.2.2.1.frozen 3, h.2.2.1.frozen 4⟩, h.2.2.1.lt⟩
set_option maxRecDepth 100000 in
set_option maxHeartbeats 8000000 in
theorem value_rest (l : List UInt8) (hl : l.length ≤ 1000000) (w : World) (hE : StOk w) (hn : l ≠ []) (h0 : l ≠ [110, 117, 108, 108]) (h1 : l ≠ [116, 114, 117, 101]) (h2 : l ≠ [102, 97, 108, 115, 101]) (h3 : l ≠ [91, 93]) (h4 : l ≠ [123, 125]) :
   Calls Tryz.prog 62 #[.string (S l)] w (ValP w (valueY l)) := by
 have qn : l.isEmpty = false := by rw [List.isEmpty_eq_false_iff]; exact hn
 have q0 : (l == [110, 117, 108, 108]) = false := beq_eq_false_iff_ne.2 h0
 have q1 : (l == [116, 114, 117, 101]) = false := beq_eq_false_iff_ne.2 h1
 have q2 : (l == [102, 97, 108, 115, 101]) = false := beq_eq_false_iff_ne.2 h2
 have q3 : (l == [91, 93]) = false := beq_eq_false_iff_ne.2 h3
 have q4 : (l == [123, 125]) = false := beq_eq_false_iff_ne.2 h4
 have hpos : (0 : Int) < (l.length : Int) := by have := List.length_pos_iff.2 hn; omega
 have HSC := Lib.hid (show valueY l = if (parseI l).2 = 0 then some (.mk 3 (parseI l).1 [] [] []) else if byt l 0 = 34 then (if (unqL l).2.1 = 0 ∧ strY (unqL l).1 = l then some (.mk 4 0 (unqL l).1 [] []) else none) else if strY l = l then some (.mk 4 0 l [] []) else none by
   unfold valueY; rw [if_neg hn, if_neg h0, if_neg h1, if_neg h2, if_neg h3, if_neg h4])
 generalize valueY l = r at HSC ⊢
 have HE := Lib.hid hE
 have HUL := Lib.hid (unq_len l)
 clear hn h0 h1 h2 h3 h4 hE
 have h2 := val_two w #[.int .i64 0, .int .i64 0, .string ⟨#[]⟩, .slice none 0 0, .slice none 0 0] #[.int .i64 4, .int .i64 0, .string (S l), .slice none 0 0, .slice none 0 0] 25 25
 go_enter Tryz.func62, Tryz.ntmps62
 go_upto_region 2 with fail
 generalize (w.alloc (.cells #[.int .i64 0, .int .i64 0, .string ⟨#[]⟩, .slice none 0 0, .slice none 0 0] 25)).alloc (.cells #[.int .i64 4, .int .i64 0, .string (S l), .slice none 0 0, .slice none 0 0] 25) = W at h2 ⊢
 have H2 := Lib.hid h2
 clear h2
 go_wp2_with fail
 refine (fxParse_any l _ hl (HE.out.num.below H2.out.2.2)).mono ?_
 rintro e w1 ⟨rfl, hb⟩
 have h2 : Blk w1 w.heap.size #[.int .i64 0, .int .i64 0, .string ⟨#[]⟩, .slice none 0 0, .slice none 0 0] 25 ∧ Blk w1 (w.heap.size + 1) #[.int .i64 4, .int .i64 0, .string (S l), .slice none 0 0, .slice none 0 0] 25 ∧ Below w.heap.size w w1 := ⟨H2.out.1.below hb, H2.out.2.1.below hb, H2.out.2.2.trans (hb.mono H2.out.2.2.size)⟩
 have HB := Lib.hid h2.2.2
 have H3 := Lib.hid h2
 simp only [pr]
 generalize hpi : parseI l = pi at HSC
 obtain ⟨u, pe⟩ := pi
 simp only at HSC ⊢
 clear hpi hb H2 q0 q1 q2 q3 q4 qn
 by_cases hpe : pe = 0
 · have HR := Lib.hid (show r = some (.mk 3 u [] [] []) by rw [HSC.out, if_pos hpe])
   subst hpe
   have z0 := h2.1.cell 0
   have y0 := h2.1.frozen 0
   have k0 := h2.2.1.cell 0
   have f0 := h2.2.1.frozen 0
   have z1 := h2.1.cell 1
   have y1 := h2.1.frozen 1
   have k1 := h2.2.1.cell 1
   have f1 := h2.2.1.frozen 1
   have z2 := h2.1.cell 2
   have y2 := h2.1.frozen 2
   have k2 := h2.2.1.cell 2
   have f2 := h2.2.1.frozen 2
   have z3 := h2.1.cell 3
   have y3 := h2.1.frozen 3
   have k3 := h2.2.1.cell 3
   have f3 := h2.2.1.frozen 3
   have z4 := h2.1.cell 4
   have y4 := h2.1.frozen 4
   have k4 := h2.2.1.cell 4
   have f4 := h2.2.1.frozen 4
   simp at z0 z1 z2 z3 z4 k0 k1 k2 k3 k4
   have hzl := h2.1.lt
   have hkl := h2.2.1.lt
   clear h2
   go_wp2_with fail
   refine bodyPost_ret (v := .tuple #[.agg #[.int .i64 3, .int .i64 u, .string ⟨#[]⟩, .slice none 0 0, .slice none 0 0], .bool true]) (by simp [results, Tryz.results62, go_sem, z0, z1, z2, z3, z4, y0, y1, y2, y3, y4, hzl]) rfl ?_
   rw [HR.out]
   refine ⟨3, u, [], rfl, fun d h => by injection h with h; exact h.symm, ?_⟩
   have hbw := HB.out
   go_grown
   all_goals exact hbw
 have a1 : (pe == 0) = false := by rw [beq_eq_false_iff_ne]; exact hpe
 by_cases h34 : byt l 0 = 34
 · have HS2 := Lib.hid (show r = if (unqL l).2.1 = 0 ∧ strY (unqL l).1 = l then some (.mk 4 0 (unqL l).1 [] []) else none by rw [HSC.out, if_neg hpe, if_pos h34])
   have t34 : (((byt l 0).toNat : Int) == 34) = true := by rw [h34]; rfl
   clear h2 HSC h34
   go_wp2_with fail
   refine (Unquote_any l hl _ (HE.out.err.below HB.out)).mono ?_
   rintro e w2 ⟨rfl, hb⟩
   have h2 : Blk w2 w.heap.size #[.int .i64 0, .int .i64 0, .string ⟨#[]⟩, .slice none 0 0, .slice none 0 0] 25 ∧ Blk w2 (w.heap.size + 1) #[.int .i64 4, .int .i64 0, .string (S l), .slice none 0 0, .slice none 0 0] 25 ∧ Below w.heap.size w w2 := ⟨H3.out.1.below hb, H3.out.2.1.below hb, H3.out.2.2.trans (hb.mono H3.out.2.2.size)⟩
   simp only [uqVal]
   generalize unqL l = uq at HS2 HUL
   obtain ⟨x, en, ep⟩ := uq
   simp only at HS2 HUL ⊢
   have hxl : x.length ≤ 1000000 := Nat.le_trans HUL.out hl
   have hF := Blk.new w2 #[.int .i64 (en : Int), .int .i64 (ep : Int)] 33
   have hA := h2.1.alloc (.cells #[.int .i64 (en : Int), .int .i64 (ep : Int)] 33)
   have hD := h2.2.1.alloc (.cells #[.int .i64 (en : Int), .int .i64 (ep : Int)] 33)
   have hB4 := h2.2.2.alloc h2.2.2.size (.cells #[.int .i64 (en : Int), .int .i64 (ep : Int)] 33)
   have hw2 : w.heap.size + 1 < w2.heap.size := h2.2.1.lt
   clear hb h2 H3 a1 hpe HB t34
   go_upto_region 22 with fail
   generalize w2.alloc (.cells #[.int .i64 (en : Int), .int .i64 (ep : Int)] 33) = W4 at hF hA hD hB4 ⊢
   have HF := Lib.hid hF
   have HA := Lib.hid hA
   have HD := Lib.hid hD
   have HB4 := Lib.hid hB4
   clear hF hA hD hB4
   go_cut [8] (fun xx wx => xx = .string (S x) ∧ Hid (SclY w wx x en ep w2.heap.size))
   case first =>
     have k0 := HD.out.cell 0
     have k1 := HD.out.cell 1
     have k2 := HD.out.cell 2
     have k3 := HD.out.cell 3
     have k4 := HD.out.cell 4
     have y0 := HD.out.frozen 0
     have y1 := HD.out.frozen 1
     have y2 := HD.out.frozen 2
     have y3 := HD.out.frozen 3
     have y4 := HD.out.frozen 4
     simp at k0 k1 k2 k3 k4
     have hkl := HD.out.lt
     go_wp2_with fail
     go_meet
     refine ⟨rfl, Lib.hid ⟨HD.out.set 2 _, HF.out.set_other 2 _ (by omega), HA.out.set_other 2 _ (by omega), ?_⟩⟩
     have hbw := HB4.out
     go_grown
     all_goals exact hbw
   case rest =>
     obtain ⟨rfl, HC⟩ := hcut
     clear HF HA HD HB4
     obtain ⟨⟨k0, k1, k2, k3, k4⟩, g0, ⟨z0, z1, z2, z3, z4⟩, ⟨y0, y1, y2, y3, y4⟩, hzl⟩ := HC.out.facts
     have HC0 := Lib.hid (HC.out.below (below_drew (Below.refl wc.heap.size wc)))
     have hun : undef = Value.tuple #[] := rfl
     go_upto_region 23 with fail
     by_cases hen : en = 0
     · subst hen
       have g1 : wc.cell? ⟨w2.heap.size, 0, none⟩ = some (.int .i64 0) := g0
       clear g0
       rcases Bool.eq_false_or_eq_true (decide (strY x = l)) with hq | hq
       · have HR := Lib.hid (show r = some (.mk 4 0 x [] []) by rw [HS2.out, if_pos ⟨rfl, of_decide_eq_true hq⟩])
         have hb : (strY x == l) = true := by rw [beq_iff_eq]; exact of_decide_eq_true hq
         clear hq
         first
           | go_region_with (first
               | (go_at_call 51; refine (str_any x hxl _).mono ?_; rintro e w9 ⟨rfl, hb9⟩; have HC1 := Lib.hid (HC0.out.below hb9); obtain ⟨⟨k0, k1, k2, k3, k4⟩, g0, ⟨z0, z1, z2, z3, z4⟩, ⟨y0, y1, y2, y3, y4⟩, hzl⟩ := HC1.out.facts; clear hb9))
           | fail
         all_goals
           go_wp2_with fail
           refine bodyPost_ret (v := .tuple #[.agg #[.int .i64 4, .int .i64 0, .string (S x), .slice none 0 0, .slice none 0 0], .bool true]) (by simp [results, Tryz.results62, go_sem, z0, z1, z2, z3, z4, y0, y1, y2, y3, y4, hzl]) rfl ?_
           rw [HR.out]
           refine ⟨4, 0, x, rfl, fun d h => by injection h with h; exact h.symm, ?_⟩
           have hbw := HC1.out.2.2.2
           go_grown
           all_goals exact hbw
       · have HR := Lib.hid (show r = none by rw [HS2.out, if_neg (fun h => (of_decide_eq_false hq) h.2)])
         have hb : (strY x == l) = false := by rw [beq_eq_false_iff_ne]; exact of_decide_eq_false hq
         clear hq
         first
           | go_region_with (first
               | (go_at_call 51; refine (str_any x hxl _).mono ?_; rintro e w9 ⟨rfl, hb9⟩; have HC1 := Lib.hid (HC0.out.below hb9); obtain ⟨⟨k0, k1, k2, k3, k4⟩, g0, ⟨z0, z1, z2, z3, z4⟩, ⟨y0, y1, y2, y3, y4⟩, hzl⟩ := HC1.out.facts; clear hb9))
           | fail
         all_goals
           go_wp2_with fail
           refine bodyPost_ret (v := .tuple #[.agg #[.int .i64 4, .int .i64 0, .string (S x), .slice none 0 0, .slice none 0 0], .bool false]) (by simp [results, Tryz.results62, go_sem, z0, z1, z2, z3, z4, y0, y1, y2, y3, y4, hzl]) rfl ?_
           rw [HR.out]
           refine ⟨4, 0, x, rfl, (fun d h => nomatch h), ?_⟩
           have hbw := HC1.out.2.2.2
           go_grown
           all_goals exact hbw
     · have HR := Lib.hid (show r = none by rw [HS2.out, if_neg (fun h => hen h.1)])
       have a1 : ((en : Int) == 0) = false := by rw [beq_eq_false_iff_ne]; omega
       have a2 : ¬ ((en : Int) = 0) := by omega
       clear hen
       first
         | go_region_with (fail)
         | fail
       all_goals
         go_wp2_with fail
         refine bodyPost_ret (v := .tuple #[.agg #[.int .i64 4, .int .i64 0, .string (S x), .slice none 0 0, .slice none 0 0], .bool false]) (by simp [results, Tryz.results62, go_sem, z0, z1, z2, z3, z4, y0, y1, y2, y3, y4, hzl]) rfl ?_
         rw [HR.out]
         refine ⟨4, 0, x, rfl, (fun d h => nomatch h), ?_⟩
         have hbw := HC.out.2.2.2
         go_grown
         all_goals exact hbw
 · have t34 : (((byt l 0).toNat : Int) == 34) = false := u8_ne h34
   have hFx := H3.out
   have HC : Hid (Blk w1 (w.heap.size + 1) #[.int .i64 4, .int .i64 0, .string (S l), .slice none 0 0, .slice none 0 0] 25 ∧ Blk w1 w.heap.size #[.int .i64 0, .int .i64 0, .string ⟨#[]⟩, .slice none 0 0, .slice none 0 0] 25 ∧ Below w.heap.size w w1) := Lib.hid ⟨h2.2.1, h2.1, h2.2.2⟩
   rcases Bool.eq_false_or_eq_true (decide (strY l = l)) with hq | hq
   · have HR := Lib.hid (show r = some (.mk 4 0 l [] []) by rw [HSC.out, if_neg hpe, if_neg h34, if_pos (of_decide_eq_true hq)])
     have hb : (strY l == l) = true := by rw [beq_iff_eq]; exact of_decide_eq_true hq
     have z0 := h2.1.cell 0
     have y0 := h2.1.frozen 0
     have k0 := h2.2.1.cell 0
     have f0 := h2.2.1.frozen 0
     have z1 := h2.1.cell 1
     have y1 := h2.1.frozen 1
     have k1 := h2.2.1.cell 1
     have f1 := h2.2.1.frozen 1
     have z2 := h2.1.cell 2
     have y2 := h2.1.frozen 2
     have k2 := h2.2.1.cell 2
     have f2 := h2.2.1.frozen 2
     have z3 := h2.1.cell 3
     have y3 := h2.1.frozen 3
     have k3 := h2.2.1.cell 3
     have f3 := h2.2.1.frozen 3
     have z4 := h2.1.cell 4
     have y4 := h2.1.frozen 4
     have k4 := h2.2.1.cell 4
     have f4 := h2.2.1.frozen 4
     simp at z0 z1 z2 z3 z4 k0 k1 k2 k3 k4
     have hzl := h2.1.lt
     have hkl := h2.2.1.lt
     have HKE := Lib.hid (fun w' (hb : Below w1.heap.size w1 w') => (show (Blk w' w.heap.size #[.int .i64 0, .int .i64 0, .string ⟨#[]⟩, .slice none 0 0, .slice none 0 0] 25 ∧ Blk w' (w.heap.size + 1) #[.int .i64 4, .int .i64 0, .string (S l), .slice none 0 0, .slice none 0 0] 25 ∧ Below w.heap.size w w') from ⟨h2.1.below hb, h2.2.1.below hb, h2.2.2.trans (hb.mono h2.2.2.size)⟩))
     have HB0 := Lib.hid (below_drew (Below.refl w1.heap.size w1))
     clear hq h2 HSC h34 H3 HC hFx hpe
     go_upto_region 24 with fail
     first
       | go_region_with (first
           | (go_at_call 51; refine (str_any l hl _).mono ?_; rintro e w9 ⟨rfl, hb9⟩; have HK9 := Lib.hid (HKE.out _ (HB0.out.trans (hb9.mono HB0.out.size))); clear hb9; have h9 := HK9.out; have z0 := h9.1.cell 0; have y0 := h9.1.frozen 0; have k0 := h9.2.1.cell 0; have f0 := h9.2.1.frozen 0; have z1 := h9.1.cell 1; have y1 := h9.1.frozen 1; have k1 := h9.2.1.cell 1; have f1 := h9.2.1.frozen 1; have z2 := h9.1.cell 2; have y2 := h9.1.frozen 2; have k2 := h9.2.1.cell 2; have f2 := h9.2.1.frozen 2; have z3 := h9.1.cell 3; have y3 := h9.1.frozen 3; have k3 := h9.2.1.cell 3; have f3 := h9.2.1.frozen 3; have z4 := h9.1.cell 4; have y4 := h9.1.frozen 4; have k4 := h9.2.1.cell 4; have f4 := h9.2.1.frozen 4; simp at z0 z1 z2 z3 z4 k0 k1 k2 k3 k4; have hzl := h9.1.lt; have hkl := h9.2.1.lt))
       | fail
     all_goals
       go_wp2_with fail
       refine bodyPost_ret (v := .tuple #[.agg #[.int .i64 4, .int .i64 0, .string (S l), .slice none 0 0, .slice none 0 0], .bool true]) (by simp [results, Tryz.results62, go_sem, z0, z1, z2, z3, z4, y0, y1, y2, y3, y4, hzl]) rfl ?_
       rw [HR.out]
       refine ⟨4, 0, l, rfl, fun d h => by injection h with h; exact h.symm, ?_⟩
       have hbw := HK9.out.2.2
       go_grown
       all_goals exact hbw
   · have HR := Lib.hid (show r = none by rw [HSC.out, if_neg hpe, if_neg h34, if_neg (of_decide_eq_false hq)])
     have hb : (strY l == l) = false := by rw [beq_eq_false_iff_ne]; exact of_decide_eq_false hq
     have z0 := h2.1.cell 0
     have y0 := h2.1.frozen 0
     have k0 := h2.2.1.cell 0
     have f0 := h2.2.1.frozen 0
     have z1 := h2.1.cell 1
     have y1 := h2.1.frozen 1
     have k1 := h2.2.1.cell 1
     have f1 := h2.2.1.frozen 1
     have z2 := h2.1.cell 2
     have y2 := h2.1.frozen 2
     have k2 := h2.2.1.cell 2
     have f2 := h2.2.1.frozen 2
     have z3 := h2.1.cell 3
     have y3 := h2.1.frozen 3
     have k3 := h2.2.1.cell 3
     have f3 := h2.2.1.frozen 3
     have z4 := h2.1.cell 4
     have y4 := h2.1.frozen 4
     have k4 := h2.2.1.cell 4
     have f4 := h2.2.1.frozen 4
     simp at z0 z1 z2 z3 z4 k0 k1 k2 k3 k4
     have hzl := h2.1.lt
     have hkl := h2.2.1.lt
     have HKE := Lib.hid (fun w' (hb : Below w1.heap.size w1 w') => (show (Blk w' w.heap.size #[.int .i64 0, .int .i64 0, .string ⟨#[]⟩, .slice none 0 0, .slice none 0 0] 25 ∧ Blk w' (w.heap.size + 1) #[.int .i64 4, .int .i64 0, .string (S l), .slice none 0 0, .slice none 0 0] 25 ∧ Below w.heap.size w w') from ⟨h2.1.below hb, h2.2.1.below hb, h2.2.2.trans (hb.mono h2.2.2.size)⟩))
     have HB0 := Lib.hid (below_drew (Below.refl w1.heap.size w1))
     clear hq h2 HSC h34 H3 HC hFx hpe
     go_upto_region 24 with fail
     first
       | go_region_with (first
           | (go_at_call 51; refine (str_any l hl _).mono ?_; rintro e w9 ⟨rfl, hb9⟩; have HK9 := Lib.hid (HKE.out _ (HB0.out.trans (hb9.mono HB0.out.size))); clear hb9; have h9 := HK9.out; have z0 := h9.1.cell 0; have y0 := h9.1.frozen 0; have k0 := h9.2.1.cell 0; have f0 := h9.2.1.frozen 0; have z1 := h9.1.cell 1; have y1 := h9.1.frozen 1; have k1 := h9.2.1.cell 1; have f1 := h9.2.1.frozen 1; have z2 := h9.1.cell 2; have y2 := h9.1.frozen 2; have k2 := h9.2.1.cell 2; have f2 := h9.2.1.frozen 2; have z3 := h9.1.cell 3; have y3 := h9.1.frozen 3; have k3 := h9.2.1.cell 3; have f3 := h9.2.1.frozen 3; have z4 := h9.1.cell 4; have y4 := h9.1.frozen 4; have k4 := h9.2.1.cell 4; have f4 := h9.2.1.frozen 4; simp at z0 z1 z2 z3 z4 k0 k1 k2 k3 k4; have hzl := h9.1.lt; have hkl := h9.2.1.lt))
       | fail
     all_goals
       go_wp2_with fail
       refine bodyPost_ret (v := .tuple #[.agg #[.int .i64 4, .int .i64 0, .string (S l), .slice none 0 0, .slice none 0 0], .bool false]) (by simp [results, Tryz.results62, go_sem, z0, z1, z2, z3, z4, y0, y1, y2, y3, y4, hzl]) rfl ?_
       rw [HR.out]
       refine ⟨4, 0, l, rfl, (fun d h => nomatch h), ?_⟩
       have hbw := HK9.out.2.2
       go_grown
       all_goals exact hbw
theorem value_any (l : List UInt8) (hl : l.length ≤ 1000000) (w : World) (hE : StOk w) : Calls Tryz.prog 62 #[.string (S l)] w (ValP w (valueY l)) := by
 by_cases hn : l = []
 · subst hn; exact value_0 w
 by_cases h0 : l = [110, 117, 108, 108]
 · subst h0; exact value_1 w
 by_cases h1 : l = [116, 114, 117, 101]
 · subst h1; exact value_2 w
 by_cases h2 : l = [102, 97, 108, 115, 101]
 · subst h2; exact value_3 w
 by_cases h3 : l = [91, 93]
 · subst h3; exact value_4 w
 by_cases h4 : l = [123, 125]
 · subst h4; exact value_5 w
 exact value_rest l hl w hE hn h0 h1 h2 h3 h4
end Go.Proofs.YtdalfkklkeblaaaGreatDoor
