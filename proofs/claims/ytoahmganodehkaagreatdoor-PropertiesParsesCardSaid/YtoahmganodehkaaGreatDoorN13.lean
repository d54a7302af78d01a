import Derived.Test.YtoahmganodehkaaGreatDoorN05
import Derived.Test.YtoahmganodehkaaGreatDoorN04
import Derived.Test.YtoahmganodehkaaGreatDoorN02
import Derived.Test.YtoahmganodehkaaGreatDoorN12
import Derived.Test.YtoahmganodehkaaGreatDoorN01
import Derived.Deep.RegionHeld3
import Derived.Deep.DeepCutAuto
import Derived.Deep.CutBlock
import Derived.Test.YtoahmganodehkaaGreatDoorN06
import Derived.IntWalk
namespace Go.Proofs.YtoahmganodehkaaGreatDoor
set_option linter.unusedSimpArgs false
set_option linter.unusedVariables false
section
open Go.RowKit
set_option maxRecDepth 100000 in
set_option maxHeartbeats 4000000 in
theorem leaf_10 (w : World) : Calls Tryz.prog 89 #[.string (S [110, 117, 108, 108])] w (ScaP w (some (.mk 1 0 [] [] []))) := by
 have q0 : (S [110, 117, 108, 108] == ByteArray.mk #[110, 117, 108, 108]) = true := (S_beq [110, 117, 108, 108] [110, 117, 108, 108]).trans (by decide)
 have q1 : (S [110, 117, 108, 108] == ByteArray.mk #[116, 114, 117, 101]) = false := (S_beq [110, 117, 108, 108] [116, 114, 117, 101]).trans (by decide)
 have q2 : (S [110, 117, 108, 108] == ByteArray.mk #[102, 97, 108, 115, 101]) = false := (S_beq [110, 117, 108, 108] [102, 97, 108, 115, 101]).trans (by decide)
 have q3 : (S [110, 117, 108, 108] == ByteArray.mk #[91, 93]) = false := (S_beq [110, 117, 108, 108] [91, 93]).trans (by decide)
 have q4 : (S [110, 117, 108, 108] == ByteArray.mk #[123, 125]) = false := (S_beq [110, 117, 108, 108] [123, 125]).trans (by decide)
 have hN : Blk (w.alloc (.cells #[.int .i64 0, .int .i64 0, .string ⟨#[]⟩, .slice none 0 0, .slice none 0 0] 26)) w.heap.size #[.int .i64 0, .int .i64 0, .string ⟨#[]⟩, .slice none 0 0, .slice none 0 0] 26 := Blk.new w _ _
 have hB : Below w.heap.size w (w.alloc (.cells #[.int .i64 0, .int .i64 0, .string ⟨#[]⟩, .slice none 0 0, .slice none 0 0] 26)) := (Below.refl _ _).alloc (Nat.le_refl _) _
 go_enter Tryz.func89, Tryz.ntmps89
 go_upto_region 1 with fail
 generalize w.alloc (.cells #[.int .i64 0, .int .i64 0, .string ⟨#[]⟩, .slice none 0 0, .slice none 0 0] 26) = W at hN hB ⊢
 have z0 := hN.cell 0
 have z1 := hN.cell 1
 have z2 := hN.cell 2
 have z3 := hN.cell 3
 have z4 := hN.cell 4
 have y0 := hN.frozen 0
 have y1 := hN.frozen 1
 have y2 := hN.frozen 2
 have y3 := hN.frozen 3
 have y4 := hN.frozen 4
 simp at z0 z1 z2 z3 z4
 have hzl := hN.lt
 have HB := Lib.hid hB
 clear hN hB
 go_wp2_with fail
 refine bodyPost_ret (v := .tuple #[.agg #[.int .i64 1, .int .i64 0, .string ⟨#[]⟩, .slice none 0 0, .slice none 0 0], .bool true]) (by simp [results, Tryz.results89, go_sem, z0, z1, z2, z3, z4, y0, y1, y2, y3, y4, hzl]) rfl ?_
 refine ⟨1, 0, [], rfl, fun d h => by injection h with h; exact h.symm, ?_⟩
 have hbw := HB.out
 go_grown
 all_goals exact hbw
set_option maxRecDepth 100000 in
set_option maxHeartbeats 4000000 in
theorem leaf_21 (w : World) : Calls Tryz.prog 89 #[.string (S [116, 114, 117, 101])] w (ScaP w (some (.mk 2 1 [] [] []))) := by
 have q0 : (S [116, 114, 117, 101] == ByteArray.mk #[110, 117, 108, 108]) = false := (S_beq [116, 114, 117, 101] [110, 117, 108, 108]).trans (by decide)
 have q1 : (S [116, 114, 117, 101] == ByteArray.mk #[116, 114, 117, 101]) = true := (S_beq [116, 114, 117, 101] [116, 114, 117, 101]).trans (by decide)
 have q2 : (S [116, 114, 117, 101] == ByteArray.mk #[102, 97, 108, 115, 101]) = false := (S_beq [116, 114, 117, 101] [102, 97, 108, 115, 101]).trans (by decide)
 have q3 : (S [116, 114, 117, 101] == ByteArray.mk #[91, 93]) = false := (S_beq [116, 114, 117, 101] [91, 93]).trans (by decide)
 have q4 : (S [116, 114, 117, 101] == ByteArray.mk #[123, 125]) = false := (S_beq [116, 114, 117, 101] [123, 125]).trans (by decide)
 have hN : Blk (w.alloc (.cells #[.int .i64 0, .int .i64 0, .string ⟨#[]⟩, .slice none 0 0, .slice none 0 0] 26)) w.heap.size #[.int .i64 0, .int .i64 0, .string ⟨#[]⟩, .slice none 0 0, .slice none 0 0] 26 := Blk.new w _ _
 have hB : Below w.heap.size w (w.alloc (.cells #[.int .i64 0, .int .i64 0, .string ⟨#[]⟩, .slice none 0 0, .slice none 0 0] 26)) := (Below.refl _ _).alloc (Nat.le_refl _) _
 go_enter Tryz.func89, Tryz.ntmps89
 go_upto_region 1 with fail
 generalize w.alloc (.cells #[.int .i64 0, .int .i64 0, .string ⟨#[]⟩, .slice none 0 0, .slice none 0 0] 26) = W at hN hB ⊢
 have z0 := hN.cell 0
 have z1 := hN.cell 1
 have z2 := hN.cell 2
 have z3 := hN.cell 3
 have z4 := hN.cell 4
 have y0 := hN.frozen 0
 have y1 := hN.frozen 1
 have y2 := hN.frozen 2
 have y3 := hN.frozen 3
 have y4 := hN.frozen 4
 simp at z0 z1 z2 z3 z4
 have hzl := hN.lt
 have HB := Lib.hid hB
 clear hN hB
 go_wp2_with fail
 refine bodyPost_ret (v := .tuple #[.agg #[.int .i64 2, .int .i64 1, .string ⟨#[]⟩, .slice none 0 0, .slice none 0 0], .bool true]) (by simp [results, Tryz.results89, go_sem, z0, z1, z2, z3, z4, y0, y1, y2, y3, y4, hzl]) rfl ?_
 refine ⟨2, 1, [], rfl, fun d h => by injection h with h; exact h.symm, ?_⟩
 have hbw := HB.out
 go_grown
 all_goals exact hbw
set_option maxRecDepth 100000 in
set_option maxHeartbeats 4000000 in
theorem leaf_20 (w : World) : Calls Tryz.prog 89 #[.string (S [102, 97, 108, 115, 101])] w (ScaP w (some (.mk 2 0 [] [] []))) := by
 have q0 : (S [102, 97, 108, 115, 101] == ByteArray.mk #[110, 117, 108, 108]) = false := (S_beq [102, 97, 108, 115, 101] [110, 117, 108, 108]).trans (by decide)
 have q1 : (S [102, 97, 108, 115, 101] == ByteArray.mk #[116, 114, 117, 101]) = false := (S_beq [102, 97, 108, 115, 101] [116, 114, 117, 101]).trans (by decide)
 have q2 : (S [102, 97, 108, 115, 101] == ByteArray.mk #[102, 97, 108, 115, 101]) = true := (S_beq [102, 97, 108, 115, 101] [102, 97, 108, 115, 101]).trans (by decide)
 have q3 : (S [102, 97, 108, 115, 101] == ByteArray.mk #[91, 93]) = false := (S_beq [102, 97, 108, 115, 101] [91, 93]).trans (by decide)
 have q4 : (S [102, 97, 108, 115, 101] == ByteArray.mk #[123, 125]) = false := (S_beq [102, 97, 108, 115, 101] [123, 125]).trans (by decide)
 have hN : Blk (w.alloc (.cells #[.int .i64 0, .int .i64 0, .string ⟨#[]⟩, .slice none 0 0, .slice none 0 0] 26)) w.heap.size #[.int .i64 0, .int .i64 0, .string ⟨#[]⟩, .slice none 0 0, .slice none 0 0] 26 := Blk.new w _ _
 have hB : Below w.heap.size w (w.alloc (.cells #[.int .i64 0, .int .i64 0, .string ⟨#[]⟩, .slice none 0 0, .slice none 0 0] 26)) := (Below.refl _ _).alloc (Nat.le_refl _) _
 go_enter Tryz.func89, Tryz.ntmps89
 go_upto_region 1 with fail
 generalize w.alloc (.cells #[.int .i64 0, .int .i64 0, .string ⟨#[]⟩, .slice none 0 0, .slice none 0 0] 26) = W at hN hB ⊢
 have z0 := hN.cell 0
 have z1 := hN.cell 1
 have z2 := hN.cell 2
 have z3 := hN.cell 3
 have z4 := hN.cell 4
 have y0 := hN.frozen 0
 have y1 := hN.frozen 1
 have y2 := hN.frozen 2
 have y3 := hN.frozen 3
 have y4 := hN.frozen 4
 simp at z0 z1 z2 z3 z4
 have hzl := hN.lt
 have HB := Lib.hid hB
 clear hN hB
 go_wp2_with fail
 refine bodyPost_ret (v := .tuple #[.agg #[.int .i64 2, .int .i64 0, .string ⟨#[]⟩, .slice none 0 0, .slice none 0 0], .bool true]) (by simp [results, Tryz.results89, go_sem, z0, z1, z2, z3, z4, y0, y1, y2, y3, y4, hzl]) rfl ?_
 refine ⟨2, 0, [], rfl, fun d h => by injection h with h; exact h.symm, ?_⟩
 have hbw := HB.out
 go_grown
 all_goals exact hbw
set_option maxRecDepth 100000 in
set_option maxHeartbeats 4000000 in
theorem leaf_50 (w : World) : Calls Tryz.prog 89 #[.string (S [91, 93])] w (ScaP w (some (.mk 5 0 [] [] []))) := by
 have q0 : (S [91, 93] == ByteArray.mk #[110, 117, 108, 108]) = false := (S_beq [91, 93] [110, 117, 108, 108]).trans (by decide)
 have q1 : (S [91, 93] == ByteArray.mk #[116, 114, 117, 101]) = false := (S_beq [91, 93] [116, 114, 117, 101]).trans (by decide)
 have q2 : (S [91, 93] == ByteArray.mk #[102, 97, 108, 115, 101]) = false := (S_beq [91, 93] [102, 97, 108, 115, 101]).trans (by decide)
 have q3 : (S [91, 93] == ByteArray.mk #[91, 93]) = true := (S_beq [91, 93] [91, 93]).trans (by decide)
 have q4 : (S [91, 93] == ByteArray.mk #[123, 125]) = false := (S_beq [91, 93] [123, 125]).trans (by decide)
 have hN : Blk (w.alloc (.cells #[.int .i64 0, .int .i64 0, .string ⟨#[]⟩, .slice none 0 0, .slice none 0 0] 26)) w.heap.size #[.int .i64 0, .int .i64 0, .string ⟨#[]⟩, .slice none 0 0, .slice none 0 0] 26 := Blk.new w _ _
 have hB : Below w.heap.size w (w.alloc (.cells #[.int .i64 0, .int .i64 0, .string ⟨#[]⟩, .slice none 0 0, .slice none 0 0] 26)) := (Below.refl _ _).alloc (Nat.le_refl _) _
 go_enter Tryz.func89, Tryz.ntmps89
 go_upto_region 1 with fail
 generalize w.alloc (.cells #[.int .i64 0, .int .i64 0, .string ⟨#[]⟩, .slice none 0 0, .slice none 0 0] 26) = W at hN hB ⊢
 have z0 := hN.cell 0
 have z1 := hN.cell 1
 have z2 := hN.cell 2
 have z3 := hN.cell 3
 have z4 := hN.cell 4
 have y0 := hN.frozen 0
 have y1 := hN.frozen 1
 have y2 := hN.frozen 2
 have y3 := hN.frozen 3
 have y4 := hN.frozen 4
 simp at z0 z1 z2 z3 z4
 have hzl := hN.lt
 have HB := Lib.hid hB
 clear hN hB
 go_wp2_with fail
 refine bodyPost_ret (v := .tuple #[.agg #[.int .i64 5, .int .i64 0, .string ⟨#[]⟩, .slice none 0 0, .slice none 0 0], .bool true]) (by simp [results, Tryz.results89, go_sem, z0, z1, z2, z3, z4, y0, y1, y2, y3, y4, hzl]) rfl ?_
 refine ⟨5, 0, [], rfl, fun d h => by injection h with h; exact h.symm, ?_⟩
 have hbw := HB.out
 go_grown
 all_goals exact hbw
set_option maxRecDepth 100000 in
set_option maxHeartbeats 4000000 in
theorem leaf_60 (w : World) : Calls Tryz.prog 89 #[.string (S [123, 125])] w (ScaP w (some (.mk 6 0 [] [] []))) := by
 have q0 : (S [123, 125] == ByteArray.mk #[110, 117, 108, 108]) = false := (S_beq [123, 125] [110, 117, 108, 108]).trans (by decide)
 have q1 : (S [123, 125] == ByteArray.mk #[116, 114, 117, 101]) = false := (S_beq [123, 125] [116, 114, 117, 101]).trans (by decide)
 have q2 : (S [123, 125] == ByteArray.mk #[102, 97, 108, 115, 101]) = false := (S_beq [123, 125] [102, 97, 108, 115, 101]).trans (by decide)
 have q3 : (S [123, 125] == ByteArray.mk #[91, 93]) = false := (S_beq [123, 125] [91, 93]).trans (by decide)
 have q4 : (S [123, 125] == ByteArray.mk #[123, 125]) = true := (S_beq [123, 125] [123, 125]).trans (by decide)
 have hN : Blk (w.alloc (.cells #[.int .i64 0, .int .i64 0, .string ⟨#[]⟩, .slice none 0 0, .slice none 0 0] 26)) w.heap.size #[.int .i64 0, .int .i64 0, .string ⟨#[]⟩, .slice none 0 0, .slice none 0 0] 26 := Blk.new w _ _
 have hB : Below w.heap.size w (w.alloc (.cells #[.int .i64 0, .int .i64 0, .string ⟨#[]⟩, .slice none 0 0, .slice none 0 0] 26)) := (Below.refl _ _).alloc (Nat.le_refl _) _
 go_enter Tryz.func89, Tryz.ntmps89
 go_upto_region 1 with fail
 generalize w.alloc (.cells #[.int .i64 0, .int .i64 0, .string ⟨#[]⟩, .slice none 0 0, .slice none 0 0] 26) = W at hN hB ⊢
 have z0 := hN.cell 0
 have z1 := hN.cell 1
 have z2 := hN.cell 2
 have z3 := hN.cell 3
 have z4 := hN.cell 4
 have y0 := hN.frozen 0
 have y1 := hN.frozen 1
 have y2 := hN.frozen 2
 have y3 := hN.frozen 3
 have y4 := hN.frozen 4
 simp at z0 z1 z2 z3 z4
 have hzl := hN.lt
 have HB := Lib.hid hB
 clear hN hB
 go_wp2_with fail
 refine bodyPost_ret (v := .tuple #[.agg #[.int .i64 6, .int .i64 0, .string ⟨#[]⟩, .slice none 0 0, .slice none 0 0], .bool true]) (by simp [results, Tryz.results89, go_sem, z0, z1, z2, z3, z4, y0, y1, y2, y3, y4, hzl]) rfl ?_
 refine ⟨6, 0, [], rfl, fun d h => by injection h with h; exact h.symm, ?_⟩
 have hbw := HB.out
 go_grown
 all_goals exact hbw
set_option maxRecDepth 100000 in
set_option maxHeartbeats 8000000 in
theorem leaf_rest (l : List UInt8) (hl : l.length ≤ 1000000) (w : World) (h0 : l ≠ [110, 117, 108, 108]) (h1 : l ≠ [116, 114, 117, 101]) (h2 : l ≠ [102, 97, 108, 115, 101]) (h3 : l ≠ [91, 93]) (h4 : l ≠ [123, 125]) :
   Calls Tryz.prog 89 #[.string (S l)] w (ScaP w (scalarP l)) := by
 have q0 : (l == [110, 117, 108, 108]) = false := beq_eq_false_iff_ne.2 h0
 have q1 : (l == [116, 114, 117, 101]) = false := beq_eq_false_iff_ne.2 h1
 have q2 : (l == [102, 97, 108, 115, 101]) = false := beq_eq_false_iff_ne.2 h2
 have q3 : (l == [91, 93]) = false := beq_eq_false_iff_ne.2 h3
 have q4 : (l == [123, 125]) = false := beq_eq_false_iff_ne.2 h4
 have HSC := Lib.hid (show scalarP l = if (parseI l).2 = 0 then some (.mk 3 (parseI l).1 [] [] []) else if (unqL l).2.1 = 0 ∧ quoteL (unqL l).1 = l then some (.mk 4 0 (unqL l).1 [] []) else none by
   unfold scalarP; rw [if_neg h0, if_neg h1, if_neg h2, if_neg h3, if_neg h4])
 generalize scalarP l = r at HSC ⊢
 have HUL := Lib.hid (unq_len l)
 clear h0 h1 h2 h3 h4
 have hN : Blk (w.alloc (.cells #[.int .i64 0, .int .i64 0, .string ⟨#[]⟩, .slice none 0 0, .slice none 0 0] 26)) w.heap.size #[.int .i64 0, .int .i64 0, .string ⟨#[]⟩, .slice none 0 0, .slice none 0 0] 26 := Blk.new w _ _
 have hB : Below w.heap.size w (w.alloc (.cells #[.int .i64 0, .int .i64 0, .string ⟨#[]⟩, .slice none 0 0, .slice none 0 0] 26)) := (Below.refl _ _).alloc (Nat.le_refl _) _
 go_enter Tryz.func89, Tryz.ntmps89
 go_upto_region 1 with fail
 generalize w.alloc (.cells #[.int .i64 0, .int .i64 0, .string ⟨#[]⟩, .slice none 0 0, .slice none 0 0] 26) = W at hN hB ⊢
 have HN := Lib.hid hN
 have HB := Lib.hid hB
 clear hN hB
 go_wp2_with fail
 refine (fxRefParse_any l _ hl).mono ?_
 rintro e w1 ⟨rfl, hb⟩
 have HN1 := Lib.hid (HN.out.below hb)
 have HB1 := Lib.hid (HB.out.trans (hb.mono HB.out.size))
 simp only [pr]
 generalize hpi : parseI l = pi at HSC
 obtain ⟨u, pe⟩ := pi
 simp only at HSC ⊢
 clear hpi hb HN HB q0 q1 q2 q3 q4
 by_cases hpe : pe = 0
 · have HR := Lib.hid (show r = some (.mk 3 u [] [] []) by rw [HSC.out, if_pos hpe])
   subst hpe
   have hN := HN1.out
   have z0 := hN.cell 0
   have z1 := hN.cell 1
   have z2 := hN.cell 2
   have z3 := hN.cell 3
   have z4 := hN.cell 4
   have y0 := hN.frozen 0
   have y1 := hN.frozen 1
   have y2 := hN.frozen 2
   have y3 := hN.frozen 3
   have y4 := hN.frozen 4
   simp at z0 z1 z2 z3 z4
   have hzl := hN.lt
   clear hN HN1
   go_wp2_with fail
   refine bodyPost_ret (v := .tuple #[.agg #[.int .i64 3, .int .i64 u, .string ⟨#[]⟩, .slice none 0 0, .slice none 0 0], .bool true]) (by simp [results, Tryz.results89, go_sem, z0, z1, z2, z3, z4, y0, y1, y2, y3, y4, hzl]) rfl ?_
   rw [HR.out]
   refine ⟨3, u, [], rfl, fun d h => by injection h with h; exact h.symm, ?_⟩
   have hbw := HB1.out
   go_grown
   all_goals exact hbw
 · have HS2 := Lib.hid (show r = if (unqL l).2.1 = 0 ∧ quoteL (unqL l).1 = l then some (.mk 4 0 (unqL l).1 [] []) else none by rw [HSC.out, if_neg hpe])
   have a1 : (pe == 0) = false := by rw [beq_eq_false_iff_ne]; exact hpe
   clear HSC
   go_wp2_with fail
   refine (refUnquote_any l hl _).mono ?_
   rintro e w2 ⟨rfl, hb⟩
   simp only [uqVal]
   generalize unqL l = uq at HS2 HUL
   obtain ⟨x, en, ep⟩ := uq
   simp only at HS2 HUL ⊢
   have hxl : x.length ≤ 1000000 := Nat.le_trans HUL.out hl
   have hF := Blk.new w2 #[.int .i64 (en : Int), .int .i64 (ep : Int)] 29
   have hN := (HN1.out.below hb).alloc (.cells #[.int .i64 (en : Int), .int .i64 (ep : Int)] 29)
   have hB4 := (HB1.out.trans (hb.mono HB1.out.size)).alloc (HB1.out.trans (hb.mono HB1.out.size)).size (.cells #[.int .i64 (en : Int), .int .i64 (ep : Int)] 29)
   clear hb HN1 HB1 a1 hpe
   go_upto_region 16 with fail
   generalize w2.alloc (.cells #[.int .i64 (en : Int), .int .i64 (ep : Int)] 29) = W4 at hF hN hB4 ⊢
   have g0 := hF.cell 0
   simp at g0
   have HN4 := Lib.hid hN
   have HB4 := Lib.hid hB4
   clear hF hN hB4
   by_cases hen : en = 0
   · subst hen
     have g1 : W4.cell? ⟨w2.heap.size, 0, none⟩ = some (.int .i64 0) := g0
     clear g0
     go_wp2_with fail
     refine (refQuote_any x hxl _).mono ?_
     rintro e w5 ⟨rfl, hb⟩
     have hN := HN4.out.below hb
     have z0 := hN.cell 0
     have z1 := hN.cell 1
     have z2 := hN.cell 2
     have z3 := hN.cell 3
     have z4 := hN.cell 4
     have y0 := hN.frozen 0
     have y1 := hN.frozen 1
     have y2 := hN.frozen 2
     have y3 := hN.frozen 3
     have y4 := hN.frozen 4
     simp at z0 z1 z2 z3 z4
     have hzl := hN.lt
     have HB5 := Lib.hid (HB4.out.trans (hb.mono HB4.out.size))
     clear hb hN g1 HN4 HB4
     rcases Bool.eq_false_or_eq_true (decide (quoteL x = l)) with hq | hq
     · have HR := Lib.hid (show r = some (.mk 4 0 x [] []) by rw [HS2.out, if_pos ⟨by first | rfl | trivial, of_decide_eq_true hq⟩])
       have hb : (quoteL x == l) = true := by rw [beq_iff_eq]; exact of_decide_eq_true hq
       clear hq
       go_wp2_with fail
       refine bodyPost_ret (v := .tuple #[.agg #[.int .i64 4, .int .i64 0, .string (S x), .slice none 0 0, .slice none 0 0], .bool true]) (by simp [results, Tryz.results89, go_sem, z0, z1, z2, z3, z4, y0, y1, y2, y3, y4, hzl]) rfl ?_
       rw [HR.out]
       refine ⟨4, 0, x, rfl, fun d h => by injection h with h; exact h.symm, ?_⟩
       have hbw := HB5.out
       go_grown
       all_goals exact hbw
     · have HR := Lib.hid (show r = none by rw [HS2.out, if_neg (fun h => (of_decide_eq_false hq) h.2)])
       have hb : (quoteL x == l) = false := by rw [beq_eq_false_iff_ne]; exact of_decide_eq_false hq
       clear hq
       go_wp2_with fail
       refine bodyPost_ret (v := .tuple #[.agg #[.int .i64 0, .int .i64 0, .string ⟨#[]⟩, .slice none 0 0, .slice none 0 0], .bool false]) (by simp [results, Tryz.results89, go_sem, z0, z1, z2, z3, z4, y0, y1, y2, y3, y4, hzl]) rfl ?_
       rw [HR.out]
       refine ⟨0, 0, [], rfl, (fun d h => nomatch h), ?_⟩
       have hbw := HB5.out
       go_grown
       all_goals exact hbw
   · have HR := Lib.hid (show r = none by rw [HS2.out, if_neg (fun h => hen h.1)])
     have a1 : ((en : Int) == 0) = false := by rw [beq_eq_false_iff_ne]; omega
     have a2 : ¬ ((en : Int) = 0) := by omega
     have hN := HN4.out
     have z0 := hN.cell 0
     have z1 := hN.cell 1
     have z2 := hN.cell 2
     have z3 := hN.cell 3
     have z4 := hN.cell 4
     have y0 := hN.frozen 0
     have y1 := hN.frozen 1
     have y2 := hN.frozen 2
     have y3 := hN.frozen 3
     have y4 := hN.frozen 4
     simp at z0 z1 z2 z3 z4
     have hzl := hN.lt
     clear hen hN HN4
     go_wp2_with fail
     refine bodyPost_ret (v := .tuple #[.agg #[.int .i64 0, .int .i64 0, .string ⟨#[]⟩, .slice none 0 0, .slice none 0 0], .bool false]) (by simp [results, Tryz.results89, go_sem, z0, z1, z2, z3, z4, y0, y1, y2, y3, y4, hzl]) rfl ?_
     rw [HR.out]
     refine ⟨0, 0, [], rfl, (fun d h => nomatch h), ?_⟩
     have hbw := HB4.out
     go_grown
     all_goals exact hbw
theorem leaf_any (l : List UInt8) (hl : l.length ≤ 1000000) (w : World) : Calls Tryz.prog 89 #[.string (S l)] w (ScaP w (scalarP l)) := by
 by_cases h0 : l = [110, 117, 108, 108]
 · subst h0; exact leaf_10 w
 by_cases h1 : l = [116, 114, 117, 101]
 · subst h1; exact leaf_21 w
 by_cases h2 : l = [102, 97, 108, 115, 101]
 · subst h2; exact leaf_20 w
 by_cases h3 : l = [91, 93]
 · subst h3; exact leaf_50 w
 by_cases h4 : l = [123, 125]
 · subst h4; exact leaf_60 w
 exact leaf_rest l hl w h0 h1 h2 h3 h4
end
section
open Go.RowKit
def rdC (s : List UInt8) (a : Nat) (F : Bool) : Array Value := #[.string (S s), .int .i64 (a : Int), .bool F]
def RdAt (W : World) (B : Nat) (s : List UInt8) (a : Nat) (F : Bool) : Prop := Blk W B (rdC s a F) 141
theorem RdAt.cells {W : World} {B : Nat} {s : List UInt8} {a : Nat} {F : Bool} (h : RdAt W B s a F) : W.cell? ⟨B, 0, none⟩ = some (.string (S s)) ∧ W.cell? ⟨B, 1, none⟩ = some (.int .i64 (a : Int)) ∧ W.cell? ⟨B, 2, none⟩ = some (.bool F) :=
 ⟨Blk.cell h 0, Blk.cell h 1, Blk.cell h 2⟩
def RdIn (W0 : World) (B : Nat) (s : List UInt8) (a : Nat) (F : Bool) (W : World) : Prop := W.cell? ⟨B, 0, none⟩ = some (.string (S s)) ∧ W.cell? ⟨B, 1, none⟩ = some (.int .i64 (a : Int)) ∧ W.cell? ⟨B, 2, none⟩ = some (.bool F) ∧ Below W0.heap.size W0 W
theorem RdIn.below {W0 W W' : World} {B : Nat} {s : List UInt8} {a : Nat} {F : Bool} (hB : B < W0.heap.size) (h : RdIn W0 B s a F W) (hb : Below W.heap.size W W') : RdIn W0 B s a F W' := by
 have hs := h.2.2.2.size
 exact ⟨(hb.cell (p := ⟨B, 0, none⟩) (show B < _ by omega)).trans h.1, (hb.cell (p := ⟨B, 1, none⟩) (show B < _ by omega)).trans h.2.1, (hb.cell (p := ⟨B, 2, none⟩) (show B < _ by omega)).trans h.2.2.1, h.2.2.2.trans (hb.mono hs)⟩
set_option maxRecDepth 100000 in
set_option maxHeartbeats 2000000 in
theorem more_any (s : List UInt8) (a : Nat) (F : Bool) (B : Nat) (w : World) (hR : RdAt w B s a F) : Calls Tryz.prog 213 #[.pointer (some ⟨B, 0, none⟩)] w fun e w' => e = .returned (.bool (!F && decide (a < s.length))) ∧ Below w.heap.size w w' := by
 have hB : B < w.heap.size := Blk.lt hR
 obtain ⟨x0, x1, x2⟩ := hR.cells
 have HI : Hid (w.drew.cell? ⟨B, 0, none⟩ = some (.string (S s)) ∧ w.drew.cell? ⟨B, 1, none⟩ = some (.int .i64 (a : Int)) ∧ w.drew.cell? ⟨B, 2, none⟩ = some (.bool F) ∧ Below w.heap.size w w.drew) := Lib.hid ⟨x0, x1, x2, below_drew (Below.refl _ _)⟩
 clear hR
 rcases bool_two F with rfl | rfl
 · obtain ⟨b, hb⟩ : ∃ b, decide ((a : Int) < (s.length : Int)) = b := ⟨_, rfl⟩
   have hb' : decide (a < s.length) = b := by rw [← hb]; simp
   rw [hb']
   clear hb'
   go_enter Tryz.func213, Tryz.ntmps213
   go_upto_region 1 with fail
   go_region_held3 (fun w' => w'.cell? ⟨B, 0, none⟩ = some (.string (S s)) ∧ w'.cell? ⟨B, 1, none⟩ = some (.int .i64 (a : Int)) ∧ w'.cell? ⟨B, 2, none⟩ = some (.bool false) ∧ Below w.heap.size w w')
     (first | with_reducible exact HI.out | go_keep) (fail)
   all_goals
     go_wp2_with fail
     go_ret
     exact ⟨by rw [← hb]; simp, below_drew (Below.refl _ _)⟩
 · go_enter Tryz.func213, Tryz.ntmps213
   go_upto_region 1 with fail
   refine wp_region_noPanic ?_
   refine wp_region_held_drew (S := fun w' => w'.cell? ⟨B, 0, none⟩ = some (.string (S s)) ∧ w'.cell? ⟨B, 1, none⟩ = some (.int .i64 (a : Int)) ∧ w'.cell? ⟨B, 2, none⟩ = some (.bool true) ∧ Below w.heap.size w w') (by kernel_rfl) (HI.out) (fun hS => ?_)
   generalize hV0 : w.drew = V0 at hS ⊢
   refine tL (i := 0) hS ?_
   try simp only [gA, gB, gC, Act.put, pB, pC, pD]
   refine tL (i := 1) hS ?_
   try simp only [gA, gB, gC, Act.put, pB, pC, pD]
   refine tL (i := 2) hS ?_
   try simp only [gA, gB, gC, Act.put, pB, pC, pD]
   refine tL (i := 3) hS ?_
   try simp only [gA, gB, gC, Act.put, pB, pC, pD]
   refine tL (i := 4) hS ?_
   try simp only [gA, gB, gC, Act.put, pB, pC, pD]
   refine tL (i := 5) hS ?_
   try simp only [gA, gB, gC, Act.put, pB, pC, pD]
   refine tR (i := 6) hS ?_
   try simp only [gA, gB, gC, Act.put, pB, pC, pD]
   refine tR (i := 7) hS ?_
   try simp only [gA, gB, gC, Act.put, pB, pC, pD]
   refine tR (i := 8) hS ?_
   try simp only [gA, gB, gC, Act.put, pB, pC, pD]
   refine tR (i := 9) hS ?_
   try simp only [gA, gB, gC, Act.put, pB, pC, pD]
   refine tR (i := 10) hS ?_
   try simp only [gA, gB, gC, Act.put, pB, pC, pD]
   refine tR (i := 11) hS ?_
   try simp only [gA, gB, gC, Act.put, pB, pC, pD]
   refine tR (i := 12) hS ?_
   try simp only [gA, gB, gC, Act.put, pB, pC, pD]
   refine tR (i := 13) hS ?_
   try simp only [gA, gB, gC, Act.put, pB, pC, pD]
   refine tR (i := 14) hS ?_
   try simp only [gA, gB, gC, Act.put, pB, pC, pD]
   refine tR (i := 15) hS ?_
   try simp only [gA, gB, gC, Act.put, pB, pC, pD]
   refine tL (i := 16) hS ?_
   try simp only [gA, gB, gC, Act.put, pB, pC, pD]
   refine tL (i := 17) hS ?_
   try simp only [gA, gB, gC, Act.put, pB, pC, pD]
   refine wpAnyH_done (by kernel_rfl) ?_ _
   refine NoPanic.normal ?_
   go_wp2_with fail
   go_ret
   exact ⟨rfl, hS.2.2.2⟩
theorem RdAt.below {W W' : World} {B : Nat} {s : List UInt8} {a : Nat} {F : Bool} (h : RdAt W B s a F) (hb : Below W.heap.size W W') : RdAt W' B s a F := Blk.below h hb
theorem RdAt.kept {W W' : World} {B : Nat} {s : List UInt8} {a : Nat} {F : Bool} (h : RdAt W B s a F) {row : Option Nat} (hg : W.grownBy W' row) (hne : some B ≠ row) : RdAt W' B s a F := Blk.kept h hg hne
theorem rdS {w W : World} {B : Nat} {s : List UInt8} {a : Nat} {F : Bool} (h : RdAt W B s a F) (hb : Below w.heap.size w W) : W.cell? ⟨B, 0, none⟩ = some (.string (S s)) ∧ W.cell? ⟨B, 1, none⟩ = some (.int .i64 (a : Int)) ∧ W.cell? ⟨B, 2, none⟩ = some (.bool F) ∧ RdAt W B s a F ∧ Below w.heap.size w W :=
 ⟨h.cells.1, h.cells.2.1, h.cells.2.2, h, hb⟩
theorem rdS_on {w W W' : World} {B : Nat} {s : List UInt8} {a : Nat} {F : Bool} (hS : W.cell? ⟨B, 0, none⟩ = some (.string (S s)) ∧ W.cell? ⟨B, 1, none⟩ = some (.int .i64 (a : Int)) ∧ W.cell? ⟨B, 2, none⟩ = some (.bool F) ∧ RdAt W B s a F ∧ Below w.heap.size w W) (hb : Below W.heap.size W W') :
   W'.cell? ⟨B, 0, none⟩ = some (.string (S s)) ∧ W'.cell? ⟨B, 1, none⟩ = some (.int .i64 (a : Int)) ∧ W'.cell? ⟨B, 2, none⟩ = some (.bool F) ∧ RdAt W' B s a F ∧ Below w.heap.size w W' :=
 rdS (hS.2.2.2.1.below hb) (hS.2.2.2.2.trans (hb.mono hS.2.2.2.2.size))
theorem RdAt.setAt {W : World} {B : Nat} {s : List UInt8} {a : Nat} {F : Bool} (h : RdAt W B s a F) (n : Nat) : RdAt (W.setCell ⟨B, 1, none⟩ (.int .i64 (n : Int))) B s n F := Blk.set h 1 _
theorem RdAt.fail {W : World} {B : Nat} {s : List UInt8} {a : Nat} {F : Bool} (h : RdAt W B s a F) : RdAt (W.setCell ⟨B, 2, none⟩ (.bool true)) B s a true := Blk.set h 2 _
theorem below_grown {W W' : World} (h : Below W.heap.size W W') (row : Option Nat) : W.grownBy W' row := ⟨h.os, h.tape, h.output, h.size, fun k hk _ => h.block k hk⟩
theorem grown_trans {a b c : World} {row : Option Nat} (h : a.grownBy b row) (k : b.grownBy c row) : a.grownBy c row :=
 ⟨k.os.trans h.os, k.tape.trans h.tape, k.output.trans h.output, Nat.le_trans h.size k.size, fun i hi hn => (k.block i (Nat.lt_of_lt_of_le hi h.size) hn).trans (h.block i hi hn)⟩
theorem grown_set (W : World) (B i : Nat) (v : Value) : W.grownBy (W.setCell ⟨B, i, none⟩ v) (some B) := by
 refine ⟨rfl, rfl, rfl, by simp [World.setCell], fun k _ hn => ?_⟩
 simp only [World.setCell, Array.getElem?_modify]
 rw [if_neg (fun e => hn (by rw [e]))]
set_option maxRecDepth 100000 in
set_option maxHeartbeats 2000000 in
theorem is_no (s : List UInt8) (a : Nat) (b : UInt8) (B : Nat) (w : World) (hl : s.length ≤ 100000) (hR : RdAt w B s a false) (hno : s.length ≤ a ∨ byt s a ≠ b) : Calls Tryz.prog 171 #[.pointer (some ⟨B, 0, none⟩), .int .u8 (b.toNat : Int)] w fun e w' => e = .returned (.bool false) ∧ Below w.heap.size w w' := by
 have hB : B < w.heap.size := Blk.lt hR
 have HI := Lib.hid (rdS (w := w) (Blk.drew hR) (below_drew (Below.refl _ _)))
 clear hR
 by_cases hlt : a < s.length
 · have hne : byt s a ≠ b := by rcases hno with h | h; (omega); exact h
   have HM : Hid ((!false && decide (a < s.length)) = true) := Lib.hid (by rw [decide_eq_true hlt]; rfl)
   have a0 : (0 : Int) ≤ (a : Int) := by omega
   have a1 : (a : Int) < (s.length : Int) := by omega
   have e1 : (((byt s a).toNat : Int) != (b.toNat : Int)) = true := by
     rw [bne_iff_ne]; intro e; exact hne (UInt8.toNat_inj.1 (Int.ofNat_inj.1 e))
   clear hno hne hlt
   go_enter Tryz.func171, Tryz.ntmps171
   go_upto_region 1 with fail
   refine wp_region_noPanic ?_
   refine wp_region_held_drew (S := fun w' => w'.cell? ⟨B, 0, none⟩ = some (.string (S s)) ∧ w'.cell? ⟨B, 1, none⟩ = some (.int .i64 (a : Int)) ∧ w'.cell? ⟨B, 2, none⟩ = some (.bool false) ∧ RdAt w' B s a false ∧ Below w.heap.size w w') (by kernel_rfl) (HI.out) (fun hS => ?_)
   generalize hV0 : w.drew = V0 at hS ⊢
   refine tL (i := 0) hS ?_
   try simp only [gA, gB, gC, Act.put, pB, pC, pD]
   refine wpAnyH_ready (rs := [1]) (by kernel_rfl) (by simp) ?_
   refine AllReadyH.cons rfl (fun K hK => ?_) AllReadyH.nil
   try simp only [gA, gB, gC]
   go_simp
   refine (more_any s a false B _ hS.2.2.2.1).mono ?_
   rintro e w9 ⟨rfl, hb9⟩
   rw [HM.out]
   try go_wp2_with fail
   refine hK.out _ _ (rdS_on hS hb9) (fun hS' => ?_)
   clear hK K hS hb9
   have hS := hS'
   clear hS'
   try simp only [Act.put, pB, pC, pD]
   refine tL (i := 2) hS ?_
   try simp only [gA, gB, gC, Act.put, pB, pC, pD]
   refine tL (i := 3) hS ?_
   try simp only [gA, gB, gC, Act.put, pB, pC, pD]
   refine tL (i := 4) hS ?_
   try simp only [gA, gB, gC, Act.put, pB, pC, pD]
   refine tL (i := 5) hS ?_
   try simp only [gA, gB, gC, Act.put, pB, pC, pD]
   refine tL (i := 6) hS ?_
   try simp only [gA, gB, gC, Act.put, pB, pC, pD]
   refine tL (i := 7) hS ?_
   try simp only [gA, gB, gC, Act.put, pB, pC, pD]
   refine tL (i := 8) hS ?_
   try simp only [gA, gB, gC, Act.put, pB, pC, pD]
   refine tL (i := 9) hS ?_
   try simp only [gA, gB, gC, Act.put, pB, pC, pD]
   refine tL (i := 10) hS ?_
   try simp only [gA, gB, gC, Act.put, pB, pC, pD]
   refine tL (i := 11) hS ?_
   try simp only [gA, gB, gC, Act.put, pB, pC, pD]
   refine tL (i := 12) hS ?_
   try simp only [gA, gB, gC, Act.put, pB, pC, pD]
   refine tL (i := 13) hS ?_
   try simp only [gA, gB, gC, Act.put, pB, pC, pD]
   refine tL (i := 14) hS ?_
   try simp only [gA, gB, gC, Act.put, pB, pC, pD]
   refine tL (i := 15) hS ?_
   try simp only [gA, gB, gC, Act.put, pB, pC, pD]
   refine wpAnyH_done (by kernel_rfl) ?_ _
   refine NoPanic.normal ?_
   go_wp2_with fail
   go_ret
   exact ⟨rfl, hS.2.2.2.2⟩
 · have HM : Hid ((!false && decide (a < s.length)) = false) := Lib.hid (by rw [decide_eq_false hlt]; rfl)
   clear hno hlt
   go_enter Tryz.func171, Tryz.ntmps171
   go_upto_region 1 with fail
   refine wp_region_noPanic ?_
   refine wp_region_held_drew (S := fun w' => w'.cell? ⟨B, 0, none⟩ = some (.string (S s)) ∧ w'.cell? ⟨B, 1, none⟩ = some (.int .i64 (a : Int)) ∧ w'.cell? ⟨B, 2, none⟩ = some (.bool false) ∧ RdAt w' B s a false ∧ Below w.heap.size w w') (by kernel_rfl) (HI.out) (fun hS => ?_)
   generalize hV0 : w.drew = V0 at hS ⊢
   refine tL (i := 0) hS ?_
   try simp only [gA, gB, gC, Act.put, pB, pC, pD]
   refine wpAnyH_ready (rs := [1]) (by kernel_rfl) (by simp) ?_
   refine AllReadyH.cons rfl (fun K hK => ?_) AllReadyH.nil
   try simp only [gA, gB, gC]
   go_simp
   refine (more_any s a false B _ hS.2.2.2.1).mono ?_
   rintro e w9 ⟨rfl, hb9⟩
   rw [HM.out]
   try go_wp2_with fail
   refine hK.out _ _ (rdS_on hS hb9) (fun hS' => ?_)
   clear hK K hS hb9
   have hS := hS'
   clear hS'
   try simp only [Act.put, pB, pC, pD]
   refine tL (i := 2) hS ?_
   try simp only [gA, gB, gC, Act.put, pB, pC, pD]
   refine tL (i := 3) hS ?_
   try simp only [gA, gB, gC, Act.put, pB, pC, pD]
   refine tR (i := 4) hS ?_
   try simp only [gA, gB, gC, Act.put, pB, pC, pD]
   refine tR (i := 5) hS ?_
   try simp only [gA, gB, gC, Act.put, pB, pC, pD]
   refine tR (i := 6) hS ?_
   try simp only [gA, gB, gC, Act.put, pB, pC, pD]
   refine tR (i := 7) hS ?_
   try simp only [gA, gB, gC, Act.put, pB, pC, pD]
   refine tR (i := 8) hS ?_
   try simp only [gA, gB, gC, Act.put, pB, pC, pD]
   refine tR (i := 9) hS ?_
   try simp only [gA, gB, gC, Act.put, pB, pC, pD]
   refine tR (i := 10) hS ?_
   try simp only [gA, gB, gC, Act.put, pB, pC, pD]
   refine tR (i := 11) hS ?_
   try simp only [gA, gB, gC, Act.put, pB, pC, pD]
   refine tR (i := 12) hS ?_
   try simp only [gA, gB, gC, Act.put, pB, pC, pD]
   refine tR (i := 13) hS ?_
   try simp only [gA, gB, gC, Act.put, pB, pC, pD]
   refine tR (i := 14) hS ?_
   try simp only [gA, gB, gC, Act.put, pB, pC, pD]
   refine tL (i := 15) hS ?_
   try simp only [gA, gB, gC, Act.put, pB, pC, pD]
   refine wpAnyH_done (by kernel_rfl) ?_ _
   refine NoPanic.normal ?_
   go_wp2_with fail
   go_ret
   exact ⟨rfl, hS.2.2.2.2⟩
set_option maxRecDepth 100000 in
set_option maxHeartbeats 2000000 in
theorem is_yes (s : List UInt8) (a : Nat) (b : UInt8) (B : Nat) (w : World) (hl : s.length ≤ 100000) (hR : RdAt w B s a false) (hlt : a < s.length) (hb : byt s a = b) : Calls Tryz.prog 171 #[.pointer (some ⟨B, 0, none⟩), .int .u8 (b.toNat : Int)] w fun e w' => e = .returned (.bool true) ∧ w.grownBy w' (some B) ∧ RdAt w' B s (a + 1) false := by
 have hB : B < w.heap.size := Blk.lt hR
 have HI := Lib.hid (rdS (w := w) (Blk.drew hR) (below_drew (Below.refl _ _)))
 clear hR
 have HM : Hid ((!false && decide (a < s.length)) = true) := Lib.hid (by rw [decide_eq_true hlt]; rfl)
 have a0 : (0 : Int) ≤ (a : Int) := by omega
 have a1 : (a : Int) < (s.length : Int) := by omega
 have e1 : (((byt s a).toNat : Int) != (b.toNat : Int)) = false := by rw [hb]; simp
 clear hb hlt
 go_enter Tryz.func171, Tryz.ntmps171
 go_upto_region 1 with fail
 refine wp_region_noPanic ?_
 refine wp_region_held_drew (S := fun w' => w'.cell? ⟨B, 0, none⟩ = some (.string (S s)) ∧ w'.cell? ⟨B, 1, none⟩ = some (.int .i64 (a : Int)) ∧ w'.cell? ⟨B, 2, none⟩ = some (.bool false) ∧ RdAt w' B s a false ∧ Below w.heap.size w w') (by kernel_rfl) (HI.out) (fun hS => ?_)
 generalize hV0 : w.drew = V0 at hS ⊢
 refine tL (i := 0) hS ?_
 try simp only [gA, gB, gC, Act.put, pB, pC, pD]
 refine wpAnyH_ready (rs := [1]) (by kernel_rfl) (by simp) ?_
 refine AllReadyH.cons rfl (fun K hK => ?_) AllReadyH.nil
 try simp only [gA, gB, gC]
 go_simp
 refine (more_any s a false B _ hS.2.2.2.1).mono ?_
 rintro e w9 ⟨rfl, hb9⟩
 rw [HM.out]
 try go_wp2_with fail
 refine hK.out _ _ (rdS_on hS hb9) (fun hS' => ?_)
 clear hK K hS hb9
 have hS := hS'
 clear hS'
 try simp only [Act.put, pB, pC, pD]
 refine tL (i := 2) hS ?_
 try simp only [gA, gB, gC, Act.put, pB, pC, pD]
 refine tL (i := 3) hS ?_
 try simp only [gA, gB, gC, Act.put, pB, pC, pD]
 refine tL (i := 4) hS ?_
 try simp only [gA, gB, gC, Act.put, pB, pC, pD]
 refine tL (i := 5) hS ?_
 try simp only [gA, gB, gC, Act.put, pB, pC, pD]
 refine tL (i := 6) hS ?_
 try simp only [gA, gB, gC, Act.put, pB, pC, pD]
 refine tL (i := 7) hS ?_
 try simp only [gA, gB, gC, Act.put, pB, pC, pD]
 refine tL (i := 8) hS ?_
 try simp only [gA, gB, gC, Act.put, pB, pC, pD]
 refine tL (i := 9) hS ?_
 try simp only [gA, gB, gC, Act.put, pB, pC, pD]
 refine tL (i := 10) hS ?_
 try simp only [gA, gB, gC, Act.put, pB, pC, pD]
 refine tL (i := 11) hS ?_
 try simp only [gA, gB, gC, Act.put, pB, pC, pD]
 refine tL (i := 12) hS ?_
 try simp only [gA, gB, gC, Act.put, pB, pC, pD]
 refine tL (i := 13) hS ?_
 try simp only [gA, gB, gC, Act.put, pB, pC, pD]
 refine tL (i := 14) hS ?_
 try simp only [gA, gB, gC, Act.put, pB, pC, pD]
 refine tL (i := 15) hS ?_
 try simp only [gA, gB, gC, Act.put, pB, pC, pD]
 refine wpAnyH_done (by kernel_rfl) ?_ _
 refine NoPanic.normal ?_
 have HS := Lib.hid hS
 obtain ⟨x0, x1, x2, hr, hb⟩ := hS
 have f1 := Blk.frozen hr 1
 clear hr hb
 go_wp2_with fail
 go_ret
 refine ⟨rfl, grown_trans (below_grown HS.out.2.2.2.2 _) (grown_set _ _ _ _), ?_⟩
 exact HS.out.2.2.2.1.setAt (a + 1)
def dgI (c : UInt8) : Int := if 48 ≤ c.toNat ∧ c.toNat ≤ 57 then (c.toNat : Int) - 48 else if 97 ≤ c.toNat ∧ c.toNat ≤ 102 then (c.toNat : Int) - 87 else -1
def dgAt (s : List UInt8) (a : Nat) : Int := if a < s.length then dgI (byt s a) else -1
set_option maxRecDepth 100000 in
set_option maxHeartbeats 4000000 in
theorem digit_any (s : List UInt8) (a : Nat) (B : Nat) (w : World) (hl : s.length ≤ 100000) (hR : RdAt w B s a false) : Calls Tryz.prog 243 #[.pointer (some ⟨B, 0, none⟩)] w fun e w' => e = .returned (.int .i64 (dgAt s a)) ∧ Below w.heap.size w w' := by
 have HR := Lib.hid hR
 clear hR
 by_cases hlt : a < s.length
 · have HM : Hid ((!false && decide (a < s.length)) = true) := Lib.hid (by rw [decide_eq_true hlt]; rfl)
   have a0 : (0 : Int) ≤ (a : Int) := by omega
   have a1 : (a : Int) < (s.length : Int) := by omega
   have hd : dgAt s a = dgI (byt s a) := by unfold dgAt; rw [if_pos hlt]
   rw [hd]
   obtain ⟨c, hc⟩ : ∃ c, byt s a = c := ⟨_, rfl⟩
   rw [hc]
   have hcl := byt_lt s a
   rw [hc] at hcl
   obtain ⟨r, hr⟩ : ∃ r, dgI c = r := ⟨_, rfl⟩
   rw [hr]
   have HC := Lib.hid hc
   clear hd hlt hc
   have hw : (decide ((48 : Int) ≤ (c.toNat : Int)) = true ∧ decide ((c.toNat : Int) ≤ 57) = true ∧ IntKind.u8.wrap ((c.toNat : Int) - 48) = (c.toNat : Int) - 48 ∧ (0 : Int) ≤ (c.toNat : Int) - 48 ∧ (c.toNat : Int) - 48 < 256 ∧ r = (c.toNat : Int) - 48) ∨
       ((decide ((48 : Int) ≤ (c.toNat : Int)) = false ∨ (decide ((48 : Int) ≤ (c.toNat : Int)) = true ∧ decide ((c.toNat : Int) ≤ 57) = false)) ∧ ((decide ((97 : Int) ≤ (c.toNat : Int)) = true ∧ decide ((c.toNat : Int) ≤ 102) = true ∧ IntKind.u8.wrap ((c.toNat : Int) - 97) = (c.toNat : Int) - 97 ∧ (0 : Int) ≤ (c.toNat : Int) - 97 ∧ (c.toNat : Int) - 97 < 256 ∧ r = (c.toNat : Int) - 97 + 10) ∨
         (decide ((97 : Int) ≤ (c.toNat : Int)) = false ∧ r = -1) ∨ (decide ((97 : Int) ≤ (c.toNat : Int)) = true ∧ decide ((c.toNat : Int) ≤ 102) = false ∧ r = -1))) := by
     unfold dgI at hr
     by_cases h1 : 48 ≤ c.toNat ∧ c.toNat ≤ 57
     · rw [if_pos h1] at hr
       exact .inl ⟨by simp; omega, by simp; omega, IntWalk.u8_in _ (by omega), by omega, by omega, hr.symm⟩
     · rw [if_neg h1] at hr
       refine .inr ⟨?_, ?_⟩
       · by_cases h2 : 48 ≤ c.toNat
         · exact .inr ⟨by simp; omega, by simp; omega⟩
         · exact .inl (by simp; omega)
       · by_cases h3 : 97 ≤ c.toNat
         · by_cases h4 : c.toNat ≤ 102
           · rw [if_pos ⟨h3, h4⟩] at hr
             exact .inl ⟨by simp; omega, by simp; omega, IntWalk.u8_in _ (by omega), by omega, by omega, by omega⟩
           · rw [if_neg (by omega)] at hr
             exact .inr (.inr ⟨by simp; omega, by simp; omega, hr.symm⟩)
         · rw [if_neg (by omega)] at hr
           exact .inr (.inl ⟨by simp; omega, hr.symm⟩)
   clear hr hcl
   rcases hw with ⟨h1, h2, h3, h4, h5, rfl⟩ | ⟨h1 | ⟨h1, h1'⟩, ⟨h2, h3, h4, h5, h6, rfl⟩ | ⟨h2, rfl⟩ | ⟨h2, h3, rfl⟩⟩
   all_goals
     go_enter Tryz.func243, Tryz.ntmps243
     go_wp2_with fail
     refine (more_any s a false B _ HR.out).mono ?_
     rintro e w1 ⟨rfl, hb1⟩
     rw [HM.out]
     have HI := Lib.hid (rdS (w := w) (Blk.drew (HR.out.below hb1)) (below_drew hb1))
     clear hb1
     go_upto_region 3 with fail
     go_region_held3 (fun w' => w'.cell? ⟨B, 0, none⟩ = some (.string (S s)) ∧ w'.cell? ⟨B, 1, none⟩ = some (.int .i64 (a : Int)) ∧ w'.cell? ⟨B, 2, none⟩ = some (.bool false) ∧ RdAt w' B s a false ∧ Below w.heap.size w w')
       (first | with_reducible exact HI.out | go_keep) (fail)
     all_goals
       rw [HC.out]
       go_wp2_with fail
       go_ret
       exact ⟨rfl, HI.out.2.2.2.2⟩
 · have HM : Hid ((!false && decide (a < s.length)) = false) := Lib.hid (by rw [decide_eq_false hlt]; rfl)
   have hd : dgAt s a = -1 := by unfold dgAt; rw [if_neg hlt]
   rw [hd]
   clear hd hlt
   go_enter Tryz.func243, Tryz.ntmps243
   go_wp2_with fail
   refine (more_any s a false B _ HR.out).mono ?_
   rintro e w1 ⟨rfl, hb1⟩
   rw [HM.out]
   go_wp2_with fail
   go_ret
   exact ⟨rfl, hb1⟩
set_option maxRecDepth 100000 in
set_option maxHeartbeats 4000000 in
theorem refWritten_any (n : Nat) (w : World) : Calls Tryz.prog 244 #[.int .i64 (n : Int)] w fun e w' => e = .returned (.bool (wrN n)) ∧ w = w' := by
 have hw : (wrN n = false ∧ decide ((n : Int) < 32) = false ∧ decide ((126 : Int) < (n : Int)) = false) ∨ (wrN n = false ∧ decide ((n : Int) < 32) = true ∧ ((n : Int) != 9) = false ∧ decide ((126 : Int) < (n : Int)) = false) ∨ (wrN n = false ∧ decide ((n : Int) < 32) = true ∧ ((n : Int) != 9) = true ∧ ((n : Int) != 10) = false ∧ decide ((126 : Int) < (n : Int)) = false) ∨
     (wrN n = false ∧ decide ((n : Int) < 32) = true ∧ ((n : Int) != 9) = true ∧ ((n : Int) != 10) = true ∧ ((n : Int) != 13) = false ∧ decide ((126 : Int) < (n : Int)) = false) ∨ (wrN n = true ∧ decide ((n : Int) < 32) = true ∧ ((n : Int) != 9) = true ∧ ((n : Int) != 10) = true ∧ ((n : Int) != 13) = true) ∨ (wrN n = true ∧ decide ((n : Int) < 32) = false ∧ decide ((126 : Int) < (n : Int)) = true) := by
   rcases wrN_ways n with ⟨hw, h1, h2⟩ | ⟨hw, h1, h2⟩ | ⟨hw, h1, h2, h3⟩ | ⟨hw, h1, h2, h3, h4⟩ | ⟨hw, h1, h2, h3, h4⟩ | ⟨hw, h1, h2, h3, h4⟩
   · exact .inl ⟨hw, by simp; omega, by simp; omega⟩
   · exact .inr (.inl ⟨hw, by simp; omega, by rw [bne, h2]; rfl, by simp; omega⟩)
   · exact .inr (.inr (.inl ⟨hw, by simp; omega, by rw [bne, h2]; rfl, by rw [bne, h3]; rfl, by simp; omega⟩))
   · exact .inr (.inr (.inr (.inl ⟨hw, by simp; omega, by rw [bne, h2]; rfl, by rw [bne, h3]; rfl, by rw [bne, h4]; rfl, by simp; omega⟩)))
   · exact .inr (.inr (.inr (.inr (.inl ⟨hw, by simp; omega, by rw [bne, h2]; rfl, by rw [bne, h3]; rfl, by rw [bne, h4]; rfl⟩))))
   · exact .inr (.inr (.inr (.inr (.inr ⟨hw, by simp; omega, by simp; omega⟩))))
 rcases hw with ⟨hw, h1, h2⟩ | ⟨hw, h1, h2, h3⟩ | ⟨hw, h1, h2, h3, h4⟩ | ⟨hw, h1, h2, h3, h4, h5⟩ | ⟨hw, h1, h2, h3, h4⟩ | ⟨hw, h1, h2⟩
 all_goals
   rw [hw]
   clear hw
   go_enter Tryz.func244, Tryz.ntmps244
   go_wp2_with fail
   go_ret
   exact ⟨rfl, rfl⟩
end
section
open Go.RowKit
def rescP (s : List UInt8) (a : Nat) : List UInt8 × Nat × Bool :=
 if a < s.length then
   (if byt s a = 34 then ([34], a + 1, false) else if byt s a = 92 then ([92], a + 1, false) else if byt s a = 110 then ([10], a + 1, false) else if byt s a = 116 then ([9], a + 1, false) else if byt s a = 114 then ([13], a + 1, false)
   else if byt s a = 120 then
     (if dgAt s (a + 1) < 0 ∨ (1 < dgAt s (a + 1) ∧ dgAt s (a + 1) < 7) then ([], a + 1, true)
     else if dgAt s (a + 2) < 0 ∨ wrN (16 * dgAt s (a + 1) + dgAt s (a + 2)).toNat = false then ([], a + 2, true)
     else ([UInt8.ofNat (16 * dgAt s (a + 1) + dgAt s (a + 2)).toNat], a + 3, false))
   else ([], a, true))
 else ([], a, true)
def RdP (s : List UInt8) (B : Nat) (w : World) (r : List UInt8 × Nat × Bool) (e : Ending) (w' : World) : Prop := e = .returned (.string (S r.1)) ∧ w.grownBy w' (some B) ∧ RdAt w' B s r.2.1 r.2.2
theorem dgI_range (c : UInt8) : -1 ≤ dgI c ∧ dgI c < 16 := by unfold dgI; split; omega; split <;> omega
theorem dgAt_range (s : List UInt8) (a : Nat) : -1 ≤ dgAt s a ∧ dgAt s a < 16 := by unfold dgAt; split; exact dgI_range _; omega
theorem dgAt_lt {s : List UInt8} {a : Nat} (h : 0 ≤ dgAt s a) : a < s.length := by unfold dgAt at h; split at h; assumption; omega
def RdG (s : List UInt8) (B : Nat) (w W : World) (a : Nat) (F : Bool) : Prop := w.grownBy W (some B) ∧ RdAt W B s a F
theorem RdG.refl {s : List UInt8} {B : Nat} {w : World} {a : Nat} {F : Bool} (h : RdAt w B s a F) : RdG s B w w a F := ⟨World.grownBy.refl _ _, h⟩
theorem RdG.below {s : List UInt8} {B : Nat} {w W W' : World} {a : Nat} {F : Bool} (h : RdG s B w W a F) (hb : Below W.heap.size W W') : RdG s B w W' a F := ⟨grown_trans h.1 (below_grown hb _), h.2.below hb⟩
theorem RdG.step {s : List UInt8} {B : Nat} {w W W' : World} {a n : Nat} {F G : Bool} (h : RdG s B w W a F) (hg : W.grownBy W' (some B)) (hr : RdAt W' B s n G) : RdG s B w W' n G := ⟨grown_trans h.1 hg, hr⟩
theorem RdG.setAt {s : List UInt8} {B : Nat} {w W : World} {a : Nat} {F : Bool} (h : RdG s B w W a F) (n : Nat) : RdG s B w (W.setCell ⟨B, 1, none⟩ (.int .i64 (n : Int))) n F := ⟨grown_trans h.1 (grown_set _ _ _ _), h.2.setAt n⟩
theorem RdG.fail {s : List UInt8} {B : Nat} {w W : World} {a : Nat} {F : Bool} (h : RdG s B w W a F) : RdG s B w (W.setCell ⟨B, 2, none⟩ (.bool true)) a true := ⟨grown_trans h.1 (grown_set _ _ _ _), h.2.fail⟩
theorem RdG.alloc {s : List UInt8} {B : Nat} {w W : World} {a : Nat} {F : Bool} (h : RdG s B w W a F) (o : Obj) : RdG s B w (W.alloc o) a F := h.below ((Below.refl _ _).alloc (Nat.le_refl _) _)
theorem RdG.drew {s : List UInt8} {B : Nat} {w W : World} {a : Nat} {F : Bool} (h : RdG s B w W a F) : RdG s B w W.drew a F := h.below (below_drew (Below.refl _ _))
theorem RdP.of {s : List UInt8} {B : Nat} {w W : World} {r : List UInt8 × Nat × Bool} {l : List UInt8} {a : Nat} {F : Bool} (h : r = (l, a, F)) (g : RdG s B w W a F) : RdP s B w r (.returned (.string (S l))) W := by
 subst h; exact ⟨rfl, g.1, g.2⟩
theorem conv_one_at {P : Program} (W : World) (H : Nat) (hH : W.heap.size = H) (src dst e t : TypeId) (c : UInt8) (cap : Nat) (hs : P.underlying src = some (.slice e)) (he : P.underlying e = some (.int .u8)) (hd : P.underlying dst = some .string) :
   (convert src dst (.slice (some ⟨H, 0, none⟩) 1 cap)).run P (W.alloc (.cells #[.int .u8 (c.toNat : Int)] t)) = .ok (.string (S [c])) (W.alloc (.cells #[.int .u8 (c.toNat : Int)] t)) := by
 subst hH; exact conv_one W src dst e t c cap hs he hd
set_option maxRecDepth 100000 in
set_option maxHeartbeats 8000000 in
theorem escape_ref (s : List UInt8) (a : Nat) (B : Nat) (w : World) (hl : s.length ≤ 100000) (hR : RdAt w B s a false) : Calls Tryz.prog 232 #[.pointer (some ⟨B, 0, none⟩)] w (RdP s B w (rescP s a)) := by
 have G0 := Lib.hid (RdG.refl hR)
 clear hR
 obtain ⟨r, hr⟩ : ∃ r, rescP s a = r := ⟨_, rfl⟩
 rw [hr]
 by_cases hlt : a < s.length
 · skip
   by_cases hb : byt s a = 34
   · have HN : Hid (∀ k : UInt8, k ≠ 34 → (s.length ≤ a ∨ byt s a ≠ k)) := Lib.hid fun k hk => .inr fun e => hk (e.symm.trans hb)
     have HV := Lib.hid (show r = ([34], a + 1, false) by rw [← hr]; unfold rescP; rw [if_pos hlt, hb]; rfl)
     clear hr
     go_enter Tryz.func232, Tryz.ntmps232
     go_wp2_with fail
     refine (is_yes s a 34 B _ hl G0.out.2 hlt hb).mono ?_
     rintro e w1 ⟨rfl, hg1, hr1⟩
     have G1 := Lib.hid (G0.out.step hg1 hr1)
     clear hg1 hr1
     go_wp2_with fail
     go_ret
     exact RdP.of HV.out G1.out
   by_cases hb : byt s a = 92
   · have HN : Hid (∀ k : UInt8, k ≠ 92 → (s.length ≤ a ∨ byt s a ≠ k)) := Lib.hid fun k hk => .inr fun e => hk (e.symm.trans hb)
     have HV := Lib.hid (show r = ([92], a + 1, false) by rw [← hr]; unfold rescP; rw [if_pos hlt, hb]; rfl)
     clear hr
     go_enter Tryz.func232, Tryz.ntmps232
     go_wp2_with fail
     refine (is_no s a 34 B _ hl G0.out.2 (HN.out 34 (by decide))).mono ?_
     rintro e w1 ⟨rfl, hb1⟩
     have G1 := Lib.hid (G0.out.below hb1)
     clear hb1
     go_wp2_with fail
     refine (is_yes s a 92 B _ hl G1.out.2 hlt hb).mono ?_
     rintro e w2 ⟨rfl, hg2, hr2⟩
     have G2 := Lib.hid (G1.out.step hg2 hr2)
     clear hg2 hr2
     go_wp2_with fail
     go_ret
     exact RdP.of HV.out G2.out
   by_cases hb : byt s a = 110
   · have HN : Hid (∀ k : UInt8, k ≠ 110 → (s.length ≤ a ∨ byt s a ≠ k)) := Lib.hid fun k hk => .inr fun e => hk (e.symm.trans hb)
     have HV := Lib.hid (show r = ([10], a + 1, false) by rw [← hr]; unfold rescP; rw [if_pos hlt, hb]; rfl)
     clear hr
     go_enter Tryz.func232, Tryz.ntmps232
     go_wp2_with fail
     refine (is_no s a 34 B _ hl G0.out.2 (HN.out 34 (by decide))).mono ?_
     rintro e w1 ⟨rfl, hb1⟩
     have G1 := Lib.hid (G0.out.below hb1)
     clear hb1
     go_wp2_with fail
     refine (is_no s a 92 B _ hl G1.out.2 (HN.out 92 (by decide))).mono ?_
     rintro e w2 ⟨rfl, hb2⟩
     have G2 := Lib.hid (G1.out.below hb2)
     clear hb2
     go_wp2_with fail
     refine (is_yes s a 110 B _ hl G2.out.2 hlt hb).mono ?_
     rintro e w3 ⟨rfl, hg3, hr3⟩
     have G3 := Lib.hid (G2.out.step hg3 hr3)
     clear hg3 hr3
     go_wp2_with fail
     go_ret
     exact RdP.of HV.out G3.out
   by_cases hb : byt s a = 116
   · have HN : Hid (∀ k : UInt8, k ≠ 116 → (s.length ≤ a ∨ byt s a ≠ k)) := Lib.hid fun k hk => .inr fun e => hk (e.symm.trans hb)
     have HV := Lib.hid (show r = ([9], a + 1, false) by rw [← hr]; unfold rescP; rw [if_pos hlt, hb]; rfl)
     clear hr
     go_enter Tryz.func232, Tryz.ntmps232
     go_wp2_with fail
     refine (is_no s a 34 B _ hl G0.out.2 (HN.out 34 (by decide))).mono ?_
     rintro e w1 ⟨rfl, hb1⟩
     have G1 := Lib.hid (G0.out.below hb1)
     clear hb1
     go_wp2_with fail
     refine (is_no s a 92 B _ hl G1.out.2 (HN.out 92 (by decide))).mono ?_
     rintro e w2 ⟨rfl, hb2⟩
     have G2 := Lib.hid (G1.out.below hb2)
     clear hb2
     go_wp2_with fail
     refine (is_no s a 110 B _ hl G2.out.2 (HN.out 110 (by decide))).mono ?_
     rintro e w3 ⟨rfl, hb3⟩
     have G3 := Lib.hid (G2.out.below hb3)
     clear hb3
     go_wp2_with fail
     refine (is_yes s a 116 B _ hl G3.out.2 hlt hb).mono ?_
     rintro e w4 ⟨rfl, hg4, hr4⟩
     have G4 := Lib.hid (G3.out.step hg4 hr4)
     clear hg4 hr4
     go_wp2_with fail
     go_ret
     exact RdP.of HV.out G4.out
   by_cases hb : byt s a = 114
   · have HN : Hid (∀ k : UInt8, k ≠ 114 → (s.length ≤ a ∨ byt s a ≠ k)) := Lib.hid fun k hk => .inr fun e => hk (e.symm.trans hb)
     have HV := Lib.hid (show r = ([13], a + 1, false) by rw [← hr]; unfold rescP; rw [if_pos hlt, hb]; rfl)
     clear hr
     go_enter Tryz.func232, Tryz.ntmps232
     go_wp2_with fail
     refine (is_no s a 34 B _ hl G0.out.2 (HN.out 34 (by decide))).mono ?_
     rintro e w1 ⟨rfl, hb1⟩
     have G1 := Lib.hid (G0.out.below hb1)
     clear hb1
     go_wp2_with fail
     refine (is_no s a 92 B _ hl G1.out.2 (HN.out 92 (by decide))).mono ?_
     rintro e w2 ⟨rfl, hb2⟩
     have G2 := Lib.hid (G1.out.below hb2)
     clear hb2
     go_wp2_with fail
     refine (is_no s a 110 B _ hl G2.out.2 (HN.out 110 (by decide))).mono ?_
     rintro e w3 ⟨rfl, hb3⟩
     have G3 := Lib.hid (G2.out.below hb3)
     clear hb3
     go_wp2_with fail
     refine (is_no s a 116 B _ hl G3.out.2 (HN.out 116 (by decide))).mono ?_
     rintro e w4 ⟨rfl, hb4⟩
     have G4 := Lib.hid (G3.out.below hb4)
     clear hb4
     go_wp2_with fail
     refine (is_yes s a 114 B _ hl G4.out.2 hlt hb).mono ?_
     rintro e w5 ⟨rfl, hg5, hr5⟩
     have G5 := Lib.hid (G4.out.step hg5 hr5)
     clear hg5 hr5
     go_wp2_with fail
     go_ret
     exact RdP.of HV.out G5.out
   by_cases hb : byt s a = 120
   · have HN : Hid (∀ k : UInt8, k ≠ 120 → (s.length ≤ a ∨ byt s a ≠ k)) := Lib.hid fun k hk => .inr fun e => hk (e.symm.trans hb)
     have hr' : r = (if dgAt s (a + 1) < 0 ∨ (1 < dgAt s (a + 1) ∧ dgAt s (a + 1) < 7) then ([], a + 1, true) else if dgAt s (a + 2) < 0 ∨ wrN (16 * dgAt s (a + 1) + dgAt s (a + 2)).toNat = false then ([], a + 2, true) else ([UInt8.ofNat (16 * dgAt s (a + 1) + dgAt s (a + 2)).toNat], a + 3, false)) := by rw [← hr]; unfold rescP; rw [if_pos hlt, hb]; rfl
     clear hr
     have hq1 := dgAt_range s (a + 1)
     have hq2 := dgAt_range s (a + 2)
     have hq3 := fun h => dgAt_lt (s := s) (a := a + 1) h
     obtain ⟨p, hp⟩ : ∃ p, dgAt s (a + 1) = p := ⟨_, rfl⟩
     obtain ⟨q, hq⟩ : ∃ q, dgAt s (a + 2) = q := ⟨_, rfl⟩
     rw [hp, hq] at hr'
     rw [hp] at hq1 hq3
     rw [hq] at hq2
     have HP := Lib.hid hp
     have HQ := Lib.hid hq
     clear hp hq
     have way : (r = ([], a + 1, true) ∧ (decide (p < 0) = true ∨ (decide (p < 0) = false ∧ decide ((1 : Int) < p) = true ∧ decide (p < 7) = true))) ∨ (0 ≤ p ∧ (decide (p < 0) = false ∧ (decide ((1 : Int) < p) = false ∨ (decide ((1 : Int) < p) = true ∧ decide (p < 7) = false))) ∧ ((r = ([], a + 2, true) ∧ decide (q < 0) = true) ∨ (decide (q < 0) = false ∧ ∃ m : Nat, m < 256 ∧ 16 * p + q = (m : Int) ∧ ((wrN m = false ∧ r = ([], a + 2, true)) ∨ (wrN m = true ∧ r = ([UInt8.ofNat m], a + 3, false)))))) := by
       by_cases h1 : p < 0 ∨ (1 < p ∧ p < 7)
       · rw [if_pos h1] at hr'
         refine .inl ⟨hr', ?_⟩
         by_cases h2 : p < 0
         · exact .inl (decide_eq_true h2)
         · exact .inr ⟨decide_eq_false h2, decide_eq_true (by omega), decide_eq_true (by omega)⟩
       · rw [if_neg h1] at hr'
         refine .inr ⟨by omega, ⟨decide_eq_false (by omega), ?_⟩, ?_⟩
         · by_cases h2 : 1 < p
           · exact .inr ⟨decide_eq_true h2, decide_eq_false (by omega)⟩
           · exact .inl (decide_eq_false h2)
         · by_cases h3 : q < 0
           · rw [if_pos (.inl h3)] at hr'; exact .inl ⟨hr', decide_eq_true h3⟩
           · refine .inr ⟨decide_eq_false h3, (16 * p + q).toNat, by omega, by omega, ?_⟩
             rcases bool_two (wrN (16 * p + q).toNat) with h4 | h4
             · rw [if_pos (.inr h4)] at hr'; exact .inl ⟨h4, hr'⟩
             · rw [if_neg (by rw [h4]; simp; omega)] at hr'; exact .inr ⟨h4, hr'⟩
     clear hr'
     rcases way with ⟨hv, h1 | ⟨h1, h2, h3⟩⟩ | ⟨hp0, hpw, hw⟩
     iterate 2
       · have HV := Lib.hid hv
         clear hv hq1 hq2 hq3
         go_enter Tryz.func232, Tryz.ntmps232
         go_wp2_with fail
         refine (is_no s a 34 B _ hl G0.out.2 (HN.out 34 (by decide))).mono ?_
         rintro e w1 ⟨rfl, hb1⟩
         have G1 := Lib.hid (G0.out.below hb1)
         clear hb1
         go_wp2_with fail
         refine (is_no s a 92 B _ hl G1.out.2 (HN.out 92 (by decide))).mono ?_
         rintro e w2 ⟨rfl, hb2⟩
         have G2 := Lib.hid (G1.out.below hb2)
         clear hb2
         go_wp2_with fail
         refine (is_no s a 110 B _ hl G2.out.2 (HN.out 110 (by decide))).mono ?_
         rintro e w3 ⟨rfl, hb3⟩
         have G3 := Lib.hid (G2.out.below hb3)
         clear hb3
         go_wp2_with fail
         refine (is_no s a 116 B _ hl G3.out.2 (HN.out 116 (by decide))).mono ?_
         rintro e w4 ⟨rfl, hb4⟩
         have G4 := Lib.hid (G3.out.below hb4)
         clear hb4
         go_wp2_with fail
         refine (is_no s a 114 B _ hl G4.out.2 (HN.out 114 (by decide))).mono ?_
         rintro e w5 ⟨rfl, hb5⟩
         have G5 := Lib.hid (G4.out.below hb5)
         clear hb5
         go_wp2_with fail
         refine (is_yes s a 120 B _ hl G5.out.2 hlt hb).mono ?_
         rintro e w6 ⟨rfl, hg6, hr6⟩
         have G6 := Lib.hid (G5.out.step hg6 hr6)
         clear hg6 hr6
         go_wp2_with fail
         refine (digit_any s (a + 1) B _ hl G6.out.2).mono ?_
         rintro e w7 ⟨rfl, hb7⟩
         rw [HP.out]
         have G7 := Lib.hid (G6.out.below hb7)
         clear hb7
         obtain ⟨x0, x1, x2⟩ := G7.out.2.cells
         have f1 := Blk.frozen G7.out.2 1
         have f2 := Blk.frozen G7.out.2 2
         go_wp2_with fail
         go_ret
         exact RdP.of HV.out G7.out.fail
     · have ha1 := hq3 hp0
       have c1 : ((a : Int) + 1) + 1 = ((a + 2 : Nat) : Int) := by omega
       rcases hpw with ⟨h1, h2 | ⟨h2, h3⟩⟩
       all_goals
         rcases hw with ⟨hv, h4⟩ | ⟨h4, m, hm, hpq, ⟨hwr, hv⟩ | ⟨hwr, hv⟩⟩
         · have HV := Lib.hid hv
           clear hv hq1 hq2 hq3
           go_enter Tryz.func232, Tryz.ntmps232
           go_wp2_with fail
           refine (is_no s a 34 B _ hl G0.out.2 (HN.out 34 (by decide))).mono ?_
           rintro e w1 ⟨rfl, hb1⟩
           have G1 := Lib.hid (G0.out.below hb1)
           clear hb1
           go_wp2_with fail
           refine (is_no s a 92 B _ hl G1.out.2 (HN.out 92 (by decide))).mono ?_
           rintro e w2 ⟨rfl, hb2⟩
           have G2 := Lib.hid (G1.out.below hb2)
           clear hb2
           go_wp2_with fail
           refine (is_no s a 110 B _ hl G2.out.2 (HN.out 110 (by decide))).mono ?_
           rintro e w3 ⟨rfl, hb3⟩
           have G3 := Lib.hid (G2.out.below hb3)
           clear hb3
           go_wp2_with fail
           refine (is_no s a 116 B _ hl G3.out.2 (HN.out 116 (by decide))).mono ?_
           rintro e w4 ⟨rfl, hb4⟩
           have G4 := Lib.hid (G3.out.below hb4)
           clear hb4
           go_wp2_with fail
           refine (is_no s a 114 B _ hl G4.out.2 (HN.out 114 (by decide))).mono ?_
           rintro e w5 ⟨rfl, hb5⟩
           have G5 := Lib.hid (G4.out.below hb5)
           clear hb5
           go_wp2_with fail
           refine (is_yes s a 120 B _ hl G5.out.2 hlt hb).mono ?_
           rintro e w6 ⟨rfl, hg6, hr6⟩
           have G6 := Lib.hid (G5.out.step hg6 hr6)
           clear hg6 hr6
           go_wp2_with fail
           refine (digit_any s (a + 1) B _ hl G6.out.2).mono ?_
           rintro e w7 ⟨rfl, hb7⟩
           rw [HP.out]
           have G7 := Lib.hid (G6.out.below hb7)
           clear hb7
           obtain ⟨x0, x1, x2⟩ := G7.out.2.cells
           have f1 := Blk.frozen G7.out.2 1
           have f2 := Blk.frozen G7.out.2 2
           go_wp2_with fail
           have G8 := Lib.hid (G7.out.setAt (a + 2))
           rw [show (w7.setCell ⟨B, 1, none⟩ (.int .i64 ((a + 2 : Nat) : Int))) = w7.setCell ⟨B, 1, none⟩ (.int .i64 ((a : Int) + 1 + 1)) by rw [c1]] at G8
           clear x0 x1 x2 f1 f2
           refine (digit_any s (a + 2) B _ hl G8.out.2).mono ?_
           rintro e w9 ⟨rfl, hb9⟩
           rw [HQ.out]
           have G9 := Lib.hid (G8.out.below hb9)
           clear hb9
           obtain ⟨x0, x1, x2⟩ := G9.out.2.cells
           have f1 := Blk.frozen G9.out.2 1
           have f2 := Blk.frozen G9.out.2 2
           go_wp2_with fail
           go_ret
           exact RdP.of HV.out G9.out.fail
         · have HV := Lib.hid hv
           have HW := Lib.hid hwr
           have HM := Lib.hid hpq
           clear hv hq3 hwr
           go_enter Tryz.func232, Tryz.ntmps232
           go_wp2_with fail
           refine (is_no s a 34 B _ hl G0.out.2 (HN.out 34 (by decide))).mono ?_
           rintro e w1 ⟨rfl, hb1⟩
           have G1 := Lib.hid (G0.out.below hb1)
           clear hb1
           go_wp2_with fail
           refine (is_no s a 92 B _ hl G1.out.2 (HN.out 92 (by decide))).mono ?_
           rintro e w2 ⟨rfl, hb2⟩
           have G2 := Lib.hid (G1.out.below hb2)
           clear hb2
           go_wp2_with fail
           refine (is_no s a 110 B _ hl G2.out.2 (HN.out 110 (by decide))).mono ?_
           rintro e w3 ⟨rfl, hb3⟩
           have G3 := Lib.hid (G2.out.below hb3)
           clear hb3
           go_wp2_with fail
           refine (is_no s a 116 B _ hl G3.out.2 (HN.out 116 (by decide))).mono ?_
           rintro e w4 ⟨rfl, hb4⟩
           have G4 := Lib.hid (G3.out.below hb4)
           clear hb4
           go_wp2_with fail
           refine (is_no s a 114 B _ hl G4.out.2 (HN.out 114 (by decide))).mono ?_
           rintro e w5 ⟨rfl, hb5⟩
           have G5 := Lib.hid (G4.out.below hb5)
           clear hb5
           go_wp2_with fail
           refine (is_yes s a 120 B _ hl G5.out.2 hlt hb).mono ?_
           rintro e w6 ⟨rfl, hg6, hr6⟩
           have G6 := Lib.hid (G5.out.step hg6 hr6)
           clear hg6 hr6
           go_wp2_with fail
           refine (digit_any s (a + 1) B _ hl G6.out.2).mono ?_
           rintro e w7 ⟨rfl, hb7⟩
           rw [HP.out]
           have G7 := Lib.hid (G6.out.below hb7)
           clear hb7
           obtain ⟨x0, x1, x2⟩ := G7.out.2.cells
           have f1 := Blk.frozen G7.out.2 1
           have f2 := Blk.frozen G7.out.2 2
           go_wp2_with fail
           have G8 := Lib.hid (G7.out.setAt (a + 2))
           rw [show (w7.setCell ⟨B, 1, none⟩ (.int .i64 ((a + 2 : Nat) : Int))) = w7.setCell ⟨B, 1, none⟩ (.int .i64 ((a : Int) + 1 + 1)) by rw [c1]] at G8
           clear x0 x1 x2 f1 f2
           refine (digit_any s (a + 2) B _ hl G8.out.2).mono ?_
           rintro e w9 ⟨rfl, hb9⟩
           rw [HQ.out]
           have G9 := Lib.hid (G8.out.below hb9)
           clear hb9
           obtain ⟨x0, x1, x2⟩ := G9.out.2.cells
           have f1 := Blk.frozen G9.out.2 1
           have f2 := Blk.frozen G9.out.2 2
           go_wp2_with fail
           refine (refWritten_any m _).mono ?_
           rintro e w10 ⟨rfl, rfl⟩
           rw [HW.out]
           go_wp2_with fail
           go_ret
           exact RdP.of HV.out G9.out.fail
         · have HV := Lib.hid hv
           have HW := Lib.hid hwr
           have HM := Lib.hid hpq
           clear hv hq3 hwr
           go_enter Tryz.func232, Tryz.ntmps232
           go_wp2_with fail
           refine (is_no s a 34 B _ hl G0.out.2 (HN.out 34 (by decide))).mono ?_
           rintro e w1 ⟨rfl, hb1⟩
           have G1 := Lib.hid (G0.out.below hb1)
           clear hb1
           go_wp2_with fail
           refine (is_no s a 92 B _ hl G1.out.2 (HN.out 92 (by decide))).mono ?_
           rintro e w2 ⟨rfl, hb2⟩
           have G2 := Lib.hid (G1.out.below hb2)
           clear hb2
           go_wp2_with fail
           refine (is_no s a 110 B _ hl G2.out.2 (HN.out 110 (by decide))).mono ?_
           rintro e w3 ⟨rfl, hb3⟩
           have G3 := Lib.hid (G2.out.below hb3)
           clear hb3
           go_wp2_with fail
           refine (is_no s a 116 B _ hl G3.out.2 (HN.out 116 (by decide))).mono ?_
           rintro e w4 ⟨rfl, hb4⟩
           have G4 := Lib.hid (G3.out.below hb4)
           clear hb4
           go_wp2_with fail
           refine (is_no s a 114 B _ hl G4.out.2 (HN.out 114 (by decide))).mono ?_
           rintro e w5 ⟨rfl, hb5⟩
           have G5 := Lib.hid (G4.out.below hb5)
           clear hb5
           go_wp2_with fail
           refine (is_yes s a 120 B _ hl G5.out.2 hlt hb).mono ?_
           rintro e w6 ⟨rfl, hg6, hr6⟩
           have G6 := Lib.hid (G5.out.step hg6 hr6)
           clear hg6 hr6
           go_wp2_with fail
           refine (digit_any s (a + 1) B _ hl G6.out.2).mono ?_
           rintro e w7 ⟨rfl, hb7⟩
           rw [HP.out]
           have G7 := Lib.hid (G6.out.below hb7)
           clear hb7
           obtain ⟨x0, x1, x2⟩ := G7.out.2.cells
           have f1 := Blk.frozen G7.out.2 1
           have f2 := Blk.frozen G7.out.2 2
           go_wp2_with fail
           have G8 := Lib.hid (G7.out.setAt (a + 2))
           rw [show (w7.setCell ⟨B, 1, none⟩ (.int .i64 ((a + 2 : Nat) : Int))) = w7.setCell ⟨B, 1, none⟩ (.int .i64 ((a : Int) + 1 + 1)) by rw [c1]] at G8
           clear x0 x1 x2 f1 f2
           refine (digit_any s (a + 2) B _ hl G8.out.2).mono ?_
           rintro e w9 ⟨rfl, hb9⟩
           rw [HQ.out]
           have G9 := Lib.hid (G8.out.below hb9)
           clear hb9
           obtain ⟨x0, x1, x2⟩ := G9.out.2.cells
           have f1 := Blk.frozen G9.out.2 1
           have f2 := Blk.frozen G9.out.2 2
           go_wp2_with fail
           refine (refWritten_any m _).mono ?_
           rintro e w10 ⟨rfl, rfl⟩
           rw [HW.out]
           have hu : (UInt8.ofNat m).toNat = m := u8_ofNat_toNat m hm
           have hcv := fun v cap => conv_one_at (P := Tryz.prog) (w9.setCell ⟨B, 1, none⟩ v) w9.heap.size (by simp [World.setCell]) 138 9 5 5 (UInt8.ofNat m) cap Tryz.underlying138 Tryz.underlying5 Tryz.underlying9
           simp only [hu] at hcv
           have q0 : IntKind.u8.wrap (m : Int) = (m : Int) := IntWalk.u8_in _ (by omega)
           have c2 : ((a + 2 : Nat) : Int) + 1 = ((a + 3 : Nat) : Int) := by omega
           have G10 := Lib.hid (G9.out.setAt (a + 3))
           go_wp2_with fail
           go_ret
           exact RdP.of HV.out (G10.out.alloc _)
   have HN : Hid (∀ k : UInt8, k = 34 ∨ k = 92 ∨ k = 110 ∨ k = 116 ∨ k = 114 ∨ k = 120 → (s.length ≤ a ∨ byt s a ≠ k)) := Lib.hid fun k hk => .inr fun e => by rcases hk with rfl | rfl | rfl | rfl | rfl | rfl <;> contradiction
   have HV := Lib.hid (show r = ([], a, true) by rw [← hr]; unfold rescP; rw [if_pos hlt]; simp [*])
   clear hr
   go_enter Tryz.func232, Tryz.ntmps232
   go_wp2_with fail
   refine (is_no s a 34 B _ hl G0.out.2 (HN.out 34 (by decide))).mono ?_
   rintro e w1 ⟨rfl, hb1⟩
   have G1 := Lib.hid (G0.out.below hb1)
   clear hb1
   go_wp2_with fail
   refine (is_no s a 92 B _ hl G1.out.2 (HN.out 92 (by decide))).mono ?_
   rintro e w2 ⟨rfl, hb2⟩
   have G2 := Lib.hid (G1.out.below hb2)
   clear hb2
   go_wp2_with fail
   refine (is_no s a 110 B _ hl G2.out.2 (HN.out 110 (by decide))).mono ?_
   rintro e w3 ⟨rfl, hb3⟩
   have G3 := Lib.hid (G2.out.below hb3)
   clear hb3
   go_wp2_with fail
   refine (is_no s a 116 B _ hl G3.out.2 (HN.out 116 (by decide))).mono ?_
   rintro e w4 ⟨rfl, hb4⟩
   have G4 := Lib.hid (G3.out.below hb4)
   clear hb4
   go_wp2_with fail
   refine (is_no s a 114 B _ hl G4.out.2 (HN.out 114 (by decide))).mono ?_
   rintro e w5 ⟨rfl, hb5⟩
   have G5 := Lib.hid (G4.out.below hb5)
   clear hb5
   go_wp2_with fail
   refine (is_no s a 120 B _ hl G5.out.2 (HN.out 120 (by decide))).mono ?_
   rintro e w6 ⟨rfl, hb6⟩
   have G6 := Lib.hid (G5.out.below hb6)
   clear hb6
   obtain ⟨x0, x1, x2⟩ := G6.out.2.cells
   have f1 := Blk.frozen G6.out.2 1
   have f2 := Blk.frozen G6.out.2 2
   go_wp2_with fail
   go_ret
   exact RdP.of HV.out G6.out.fail
 · have HN : Hid (∀ k : UInt8, k = k → (s.length ≤ a ∨ byt s a ≠ k)) := Lib.hid fun k _ => .inl (by omega)
   have HV := Lib.hid (show r = ([], a, true) by rw [← hr]; unfold rescP; rw [if_neg hlt])
   clear hr
   go_enter Tryz.func232, Tryz.ntmps232
   go_wp2_with fail
   refine (is_no s a 34 B _ hl G0.out.2 (HN.out 34 (by decide))).mono ?_
   rintro e w1 ⟨rfl, hb1⟩
   have G1 := Lib.hid (G0.out.below hb1)
   clear hb1
   go_wp2_with fail
   refine (is_no s a 92 B _ hl G1.out.2 (HN.out 92 (by decide))).mono ?_
   rintro e w2 ⟨rfl, hb2⟩
   have G2 := Lib.hid (G1.out.below hb2)
   clear hb2
   go_wp2_with fail
   refine (is_no s a 110 B _ hl G2.out.2 (HN.out 110 (by decide))).mono ?_
   rintro e w3 ⟨rfl, hb3⟩
   have G3 := Lib.hid (G2.out.below hb3)
   clear hb3
   go_wp2_with fail
   refine (is_no s a 116 B _ hl G3.out.2 (HN.out 116 (by decide))).mono ?_
   rintro e w4 ⟨rfl, hb4⟩
   have G4 := Lib.hid (G3.out.below hb4)
   clear hb4
   go_wp2_with fail
   refine (is_no s a 114 B _ hl G4.out.2 (HN.out 114 (by decide))).mono ?_
   rintro e w5 ⟨rfl, hb5⟩
   have G5 := Lib.hid (G4.out.below hb5)
   clear hb5
   go_wp2_with fail
   refine (is_no s a 120 B _ hl G5.out.2 (HN.out 120 (by decide))).mono ?_
   rintro e w6 ⟨rfl, hb6⟩
   have G6 := Lib.hid (G5.out.below hb6)
   clear hb6
   obtain ⟨x0, x1, x2⟩ := G6.out.2.cells
   have f1 := Blk.frozen G6.out.2 1
   have f2 := Blk.frozen G6.out.2 2
   go_wp2_with fail
   go_ret
   exact RdP.of HV.out G6.out.fail
end
section
open Go.RowKit
theorem isB_eq (c : UInt8) (n : Nat) (hn : n < 256) : isB c (n : Int) = decide (c = UInt8.ofNat n) := u8_eq hn
theorem isB_iff (c : UInt8) (n : Nat) (hn : n < 256) : isB c (n : Int) = true ↔ c = UInt8.ofNat n := by rw [isB_eq c n hn, decide_eq_true_eq]
theorem sl_sl (t : List UInt8) (i j k : Nat) : sl (sl t i t.length) j k = sl t (i + j) (i + k) := by
 rw [sl_from]; unfold sl; rw [List.drop_drop]; congr 1; omega
theorem byt_sl (t : List UInt8) (i k : Nat) : byt (sl t i t.length) k = byt t (i + k) := by
 rw [sl_from]; simp [byt, List.getD]
theorem sl_cat (t : List UInt8) (i j k : Nat) (h1 : i ≤ j) (h2 : j ≤ k) : sl t i k = sl t i j ++ sl t j k := by
 unfold sl
 rw [show k - i = (j - i) + (k - j) by omega, List.take_add, List.drop_drop, show i + (j - i) = j by omega]
theorem sl_nil (t : List UInt8) (i : Nat) : sl t i i = [] := by unfold sl; rw [Nat.sub_self, List.take_zero]
theorem sl_one (t : List UInt8) (i : Nat) (h : i < t.length) : sl t i (i + 1) = [byt t i] := by
 unfold sl; rw [show i + 1 - i = 1 by omega, drop_byt t i h]; rfl
theorem take_cat (t : List UInt8) (i j : Nat) (h : i ≤ j) : t.take j = t.take i ++ sl t i j := by
 have := sl_cat t 0 i j (by omega) h
 rwa [sl_to, sl_to] at this
theorem esc_wr : ∀ c : UInt8, wrN c.toNat = true → escB c = 92 :: 120 :: pairH c.toNat :=
 forall_u8 (P := fun c => wrN c.toNat = true → escB c = 92 :: 120 :: pairH c.toNat) (by decide +kernel)
theorem esc_plain : ∀ c : UInt8, okB c = true → c ≠ 34 → c ≠ 92 → escB c = [c] :=
 forall_u8 (P := fun c => okB c = true → c ≠ 34 → c ≠ 92 → escB c = [c]) (by decide +kernel)
theorem hexP_some {s : List UInt8} (hs : s.length = 2) (h : hexP s = true) : ∃ n, n < 256 ∧ wrN n = true ∧ pairH n = s := by
 unfold hexP at h
 obtain ⟨n, hn, ha⟩ := List.any_eq_true.1 h
 rw [List.mem_range] at hn
 unfold hexAt at ha
 rw [Bool.and_eq_true, beq_iff_eq, hs, List.take_of_length_le (by rw [pairH_len n hn]; exact Nat.le_refl _)] at ha
 exact ⟨n, hn, ha.1, ha.2⟩
theorem esc_some (t : List UInt8) (h : (escP t).2 = true) (h0 : byt t 0 = 92) : ∃ c, t.take (escP t).1 = escB c ∧ (escB c).length = (escP t).1 := by
 match t, h, h0 with
 | [], h, _ => cases h
 | [_], h, _ => cases h
 | a :: b :: r, h, h0 =>
   have ha : a = 92 := h0
   subst ha
   have hb : byt (92 :: b :: r) 1 = b := rfl
   unfold escP at h ⊢
   rw [hb] at h ⊢
   rw [if_neg (by simp)] at h ⊢
   rcases bool_two (isB b 34 || isB b 92 || isB b 110 || isB b 116 || isB b 114) with hq | hq
   · rw [hq] at h ⊢
     simp only [Bool.false_eq_true, if_false] at h ⊢
     rcases bool_two (isB b 120) with hx | hx
     · rw [hx] at h; cases h
     · rw [hx] at h ⊢
       simp only [if_true] at h ⊢
       have hb2 : b = 120 := (isB_iff b 120 (by decide)).1 hx
       subst hb2
       match r, h with
       | [], h => cases h
       | [_], h => simp at h; split at h <;> cases h
       | c :: d :: r, h =>
         rw [if_neg (by simp)] at h ⊢
         have hs : sl (92 :: 120 :: c :: d :: r) 2 4 = [c, d] := rfl
         rw [hs] at h ⊢
         rcases bool_two (hexP (sl (92 :: 120 :: c :: d :: r) 2 3)) with h3 | h3
         · rw [if_pos h3] at h; cases h
         · rw [if_neg (by rw [h3]; decide), if_neg (by simp)] at h ⊢
           rcases bool_two (hexP [c, d]) with h4 | h4
           · rw [if_pos h4] at h; cases h
           · rw [if_neg (by rw [h4]; decide)]
             obtain ⟨n, hn, hw, hp⟩ := hexP_some rfl h4
             have hu : (UInt8.ofNat n).toNat = n := u8_ofNat_toNat n hn
             have he := esc_wr (UInt8.ofNat n) (by rw [hu]; exact hw)
             rw [hu, hp] at he
             exact ⟨UInt8.ofNat n, he.symm, by rw [he]; rfl⟩
   · rw [hq]
     simp only [if_true]
     simp only [Bool.or_eq_true] at hq
     rcases hq with (((hq | hq) | hq) | hq) | hq
     · have := (isB_iff b 34 (by decide)).1 hq; subst this; exact ⟨34, by rw [show escB 34 = [92, 34] by decide]; rfl, by decide⟩
     · have := (isB_iff b 92 (by decide)).1 hq; subst this; exact ⟨92, by rw [show escB 92 = [92, 92] by decide]; rfl, by decide⟩
     · have := (isB_iff b 110 (by decide)).1 hq; subst this; exact ⟨10, by rw [show escB 10 = [92, 110] by decide]; rfl, by decide⟩
     · have := (isB_iff b 116 (by decide)).1 hq; subst this; exact ⟨9, by rw [show escB 9 = [92, 116] by decide]; rfl, by decide⟩
     · have := (isB_iff b 114 (by decide)).1 hq; subst this; exact ⟨13, by rw [show escB 13 = [92, 114] by decide]; rfl, by decide⟩
theorem qscan_some (t : List UInt8) : ∀ f i j, t.length ≤ f + i → i ≤ t.length → qscan t f i = (j, true) → j < t.length → byt t j = 34 ∧ i ≤ j ∧ ∃ l : List UInt8, sl t i j = l.flatMap escB
 | 0, i, j, h1, h2, h, hj => by
   rw [qscan] at h; injection h with h3 _; omega
 | f + 1, i, j, h1, h2, h, hj => by
   rw [qscan] at h
   split at h
   · injection h with h3 _; omega
   rename_i hi
   split at h
   · rename_i h34
     injection h with h3 _
     subst h3
     exact ⟨(isB_iff _ 34 (by decide)).1 h34, Nat.le_refl _, [], sl_nil t i⟩
   rename_i h34
   split at h
   · rename_i h92
     split at h
     · rename_i he
       have hb : byt (sl t i t.length) 0 = 92 := by rw [byt_sl]; exact (isB_iff _ 92 (by decide)).1 h92
       have hl := sl_len t i t.length h2 (Nat.le_refl _)
       have hle := (escP_le (sl t i t.length)).2 he
       rw [hl] at hle
       obtain ⟨c, hc, hcl⟩ := esc_some _ he hb
       obtain ⟨k1, k2, l, hk⟩ := qscan_some t f _ j (by omega) (by omega) h hj
       refine ⟨k1, by omega, c :: l, ?_⟩
       rw [sl_cat t i _ j (Nat.le_add_right _ _) k2, hk, List.flatMap_cons, ← hc, ← sl_to, sl_sl, Nat.add_zero]
     · cases h
   · rename_i h92
     split at h
     · rename_i hok
       obtain ⟨k1, k2, l, hk⟩ := qscan_some t f _ j (by omega) (by omega) h hj
       refine ⟨k1, by omega, byt t i :: l, ?_⟩
       have n34 : byt t i ≠ 34 := fun e => h34 ((isB_iff _ 34 (by decide)).2 e)
       have n92 : byt t i ≠ 92 := fun e => h92 ((isB_iff _ 92 (by decide)).2 e)
       rw [sl_cat t i (i + 1) j (Nat.le_succ _) k2, hk, List.flatMap_cons, esc_plain _ hok n34 n92, sl_one t i (by omega)]
     · cases h
theorem qscan_no (t : List UInt8) : ∀ f i, i ≤ t.length → (qscan t f i).2 = false → (qscan t f i).1 ≤ t.length
 | 0, i, h, hf => by cases hf
 | f + 1, i, h, hf => by
   rw [qscan] at hf ⊢
   split at hf
   · cases hf
   rename_i hi
   rw [if_neg hi]
   split at hf
   · cases hf
   rename_i h34
   rw [if_neg h34]
   split at hf
   · rename_i h92
     rw [if_pos h92]
     have he := escP_le (sl t i t.length)
     have hl := sl_len t i t.length h (Nat.le_refl _)
     rw [hl] at he
     split at hf
     · rename_i h1; rw [if_pos h1]; exact qscan_no t f _ (by have := he.2 h1; omega) hf
     · rename_i h1
       rw [if_neg h1]
       have hx : (escP (sl t i t.length)).1 ≤ t.length - i := by
         have hp : 1 ≤ (sl t i t.length).length := by rw [hl]; omega
         have h2 : (escP (sl t i t.length)).1 ≤ (sl t i t.length).length := by
           unfold escP
           repeat' split
           all_goals simp
           all_goals omega
         rw [hl] at h2; exact h2
       simp only; omega
   · rename_i h92
     rw [if_neg h92]
     split at hf
     · rename_i h1; rw [if_pos h1]; exact qscan_no t f _ (by omega) hf
     · rename_i h1; rw [if_neg h1]; exact h
def RdOk (t : List UInt8) (b : List UInt8) (x : Stp) (n : Nat) : Prop := okS x = true ∧ n ≤ t.length ∧ 1 ≤ n ∧ t.take n = b
theorem okS_lab {l : List UInt8} (h : l ≠ []) : okS ⟨l, 0⟩ = true := by unfold okS; rw [if_neg h]; exact decide_eq_true rfl
theorem name_some {t : List UInt8} {x : Stp} {n : Nat} (h : nameP t = (x, n, true)) : x.lab ≠ [] ∧ RdOk t (labelL x.lab) x n := by
 have hle := (nameP_le t).2 (by rw [h])
 rw [h] at hle
 unfold nameP at h
 split at h
 · rename_i hi
   injection h with h1 h2
   injection h2 with h2 _
   subst h1 h2
   have hn : t.take (runW t) ≠ [] := fun e => by rw [e, identB_nil] at hi; cases hi
   exact ⟨hn, okS_lab hn, hle.2, hle.1, by unfold labelL; rw [if_pos hi]⟩
 · injection h with _ h2; injection h2 with _ h2; cases h2
theorem lab_some {t : List UInt8} {x : Stp} {n : Nat} (ht : t.length ≤ 65536) (h : labP t = (x, n, true)) : x.lab ≠ [] ∧ RdOk t (labelL x.lab) x n := by
 have hle := (labP_le t).2 (by rw [h])
 rw [h] at hle
 unfold labP at h
 split at h
 · exact name_some h
 · rename_i h0
   rw [Bool.not_eq_true, Bool.or_eq_false_iff, Bool.not_eq_false'] at h0
   have h34 : byt t 0 = 34 := (isB_iff _ 34 (by decide)).1 h0.2
   have hl : 1 ≤ t.length := by cases t with
     | nil => exact absurd h0.1 (by decide)
     | cons => simp
   generalize hq : qscan t t.length 1 = q at h
   obtain ⟨j, b⟩ := q
   unfold labQ at h
   split at h
   · injection h with _ h2; injection h2 with _ h2; cases h2
   · rename_i hb
     have hb' : b = true := by simpa using hb
     subst hb'
     split at h
     · injection h with _ h2; injection h2 with _ h2; cases h2
     · rename_i hj
       simp only [Nat.not_le] at hj
       obtain ⟨k1, k2, l, hk⟩ := qscan_some t _ 1 j (by omega) hl hq hj
       have hu : sl t 0 (j + 1) = quoteL l := by
         rw [sl_cat t 0 1 (j + 1) (by omega) (by omega), sl_cat t 1 j (j + 1) k2 (by omega), hk, sl_one t j hj, k1, sl_one t 0 (by omega), h34]; rfl
       have hun := unq_quote l (by rw [← hu, sl_to, List.length_take]; omega)
       simp only at h
       rw [hu, hun] at h
       split at h
       · injection h with _ h2; injection h2 with _ h2; cases h2
       · rename_i hc
         rw [Bool.not_eq_true, Bool.or_eq_false_iff] at hc
         injection h with h1 h2
         injection h2 with h2 _
         subst h1 h2
         have hn : l ≠ [] := fun e => by rw [e] at hc; exact absurd hc.1 (by decide)
         refine ⟨hn, okS_lab hn, hle.2, hle.1, ?_⟩
         rw [← sl_to, hu]
         unfold labelL
         rw [if_neg (by simp [hc.2])]
theorem lab_no {t : List UInt8} {x : Stp} {n : Nat} (h : labP t = (x, n, false)) : n ≤ t.length := by
 unfold labP at h
 split at h
 · unfold nameP at h
   split at h
   · injection h with _ h2; injection h2 with _ h2; cases h2
   · injection h with _ h2
     injection h2 with h2 _
     subst h2
     have := wrongN_le (t.take (runW t))
     have h1 := runW_le t
     rw [List.length_take] at this; omega
 · rename_i h0
   rw [Bool.not_eq_true, Bool.or_eq_false_iff] at h0
   have hl : 1 ≤ t.length := by cases t with
     | nil => exact absurd h0.1 (by decide)
     | cons => simp
   have hno := qscan_no t t.length 1 hl
   generalize qscan t t.length 1 = q at h hno
   unfold labQ at h
   split at h
   · rename_i hb
     injection h with _ h2; injection h2 with h2 _; subst h2
     exact hno hb
   · split at h
     · injection h with _ h2; injection h2 with h2 _; omega
     · split at h
       · injection h with _ h2; injection h2 with h2 _; omega
       · injection h with _ h2; injection h2 with _ h2; cases h2
end
section
open Go.RowKit
theorem valD_pos (c : UInt8) (r : List UInt8) (hc : dgt c) (h : c ≠ 48) : 1 ≤ valD (c :: r) := by
 have h1 : c.toNat ≠ 48 := fun e => h (UInt8.toNat_inj.1 e)
 have h2 := hc.1
 have := valA_le (0 * 10 + (c.toNat - 48)) r
 unfold valD; rw [valA_cons]; omega
theorem dec_canon : ∀ (n : Nat) (d : List UInt8), d.length = n → (∀ c ∈ d, dgt c) → 0 < n → (n = 1 ∨ byt d 0 ≠ 48) → Lib.decDigits (valD d) = d
 | 0, _, _, _, h, _ => absurd h (by decide)
 | n + 1, d, hn, hd, _, hc => by
   have hl := take_last d (by omega)
   have hlast : dgt (byt d (d.length - 1)) := hd _ (by rw [byt_get d _ (by omega)]; exact List.getElem_mem _)
   generalize byt d (d.length - 1) = c at hl hlast
   generalize he : d.take (d.length - 1) = e at hl
   have hel : e.length = n := by rw [← he, List.length_take]; omega
   have hc48 := hlast.1
   have hc57 := hlast.2
   have hch : UInt8.ofNat (48 + (c.toNat - 48)) = c := by rw [show 48 + (c.toNat - 48) = c.toNat by omega]; simp
   rcases Nat.eq_zero_or_pos n with h0 | h0
   · have he0 : e = [] := List.eq_nil_of_length_eq_zero (by omega)
     rw [hl, he0, List.nil_append, valD_one, Lib.decDigits, dif_pos (by omega), hch]
   · have hde : ∀ x ∈ e, dgt x := fun x hx => hd x (by rw [← he] at hx; exact List.mem_of_mem_take hx)
     have hb : byt e 0 = byt d 0 := by
       rw [byt_get e 0 (by omega), byt_get d 0 (by omega)]
       subst he
       exact List.getElem_take
     have hne : byt e 0 ≠ 48 := by rw [hb]; rcases hc with hc | hc; (omega); exact hc
     have ih := dec_canon n e hel hde h0 (.inr hne)
     have hp : 1 ≤ valD e := by
       cases e with
       | nil => simp at hel; omega
       | cons a r => exact valD_pos a r (hde a (List.mem_cons_self ..)) hne
     have hv : valD (e ++ [c]) = valD e * 10 + (c.toNat - 48) := valD_snoc e c
     rw [hl, hv, Lib.decDigits, dif_neg (by omega), show (valD e * 10 + (c.toNat - 48)) / 10 = valD e by omega, show (valD e * 10 + (c.toNat - 48)) % 10 = c.toNat - 48 by omega, hch, ih]
def IdxIn (t : List UInt8) (i : Nat) : Prop := (∀ c ∈ sl t 1 i, dgt c) ∧ valD (sl t 1 i) ≤ 1000000 ∧ (i ≤ 2 ∨ byt t 1 ≠ 48)
theorem iscan_some (t : List UInt8) : ∀ f i j, 1 ≤ i → i ≤ t.length → IdxIn t i → iscan t f i = (j, true) → j ≤ t.length ∧ i ≤ j ∧ IdxIn t j
 | 0, i, j, h1, h2, hp, h => by rw [iscan] at h; injection h with h3 _; subst h3; exact ⟨h2, Nat.le_refl _, hp⟩
 | f + 1, i, j, h1, h2, hp, h => by
   rw [iscan] at h
   split at h
   · injection h with h3 _; subst h3; exact ⟨h2, Nat.le_refl _, hp⟩
   rename_i hi
   split at h
   · injection h with h3 _; subst h3; exact ⟨h2, Nat.le_refl _, hp⟩
   rename_i hd
   split at h
   · cases h
   rename_i h48
   split at h
   · cases h
   rename_i hv
   have hdg : dgt (byt t i) := (digB_iff _).1 (by simpa using hd)
   obtain ⟨k1, k2, k3⟩ := iscan_some t f (i + 1) j (by omega) (by omega) ⟨fun c hc => by
     rw [sl_snoc t i h1 (by omega), List.mem_append, List.mem_singleton] at hc
     rcases hc with hc | rfl
     · exact hp.1 c hc
     · exact hdg, by omega, by
     rcases Nat.lt_or_ge 1 i with h | h
     · refine .inr fun e => h48 ?_
       rw [decide_eq_true h, Bool.true_and]; exact (isB_iff _ 48 (by decide)).2 e
     · exact .inl (by omega)⟩ h
   exact ⟨k1, by omega, k3⟩
theorem idx_some {t : List UInt8} {x : Stp} {n : Nat} (h0 : 0 < t.length) (hb : byt t 0 = 91) (h : idxP t = (x, n, true)) : x.lab = [] ∧ RdOk t (91 :: (Lib.decDigits x.idx.toNat ++ [93])) x n := by
 have hle := (idxP_le t h0).2 (by rw [h])
 rw [h] at hle
 unfold idxP at h
 generalize hq : iscan t t.length 1 = q at h
 obtain ⟨j, b⟩ := q
 unfold idxQ at h
 split at h
 · injection h with _ h2; injection h2 with _ h2; cases h2
 rename_i hb1
 have hb' : b = true := by simpa using hb1
 subst hb'
 split at h
 · injection h with _ h2; injection h2 with _ h2; cases h2
 rename_i hc
 simp only [Bool.not_eq_true, Bool.or_eq_false_iff, decide_eq_false_iff_not, Bool.not_eq_false', beq_eq_false_iff_ne] at hc
 obtain ⟨⟨hj1, hjl⟩, h93⟩ := hc
 have h93 := (isB_iff _ 93 (by decide)).1 h93
 obtain ⟨k1, k2, k3, k4, k5⟩ := iscan_some t _ 1 j (Nat.le_refl _) h0 ⟨fun c hc => (by rw [sl_nil] at hc; cases hc), by rw [sl_nil]; decide, .inl (by decide)⟩ hq
 injection h with h1 h2
 injection h2 with h2 _
 subst h1 h2
 have hlen := sl_len t 1 j k2 k1
 have hdec : Lib.decDigits (valD (sl t 1 j)) = sl t 1 j := by
   refine dec_canon _ _ hlen k3 (by omega) ?_
   rcases k5 with k5 | k5
   · exact .inl (by omega)
   · refine .inr ?_
     have : byt (sl t 1 j) 0 = byt t 1 := by
       rw [byt_get _ 0 (by omega), byt_get t 1 (by omega)]
       simp [sl]
     rw [this]; exact k5
 refine ⟨rfl, ?_, hle.2, hle.1, ?_⟩
 · unfold okS; rw [if_pos rfl]; simp; omega
 · show t.take (j + 1) = 91 :: (Lib.decDigits (Int.toNat (valD (sl t 1 j) : Int)) ++ [93])
   rw [Int.toNat_natCast, hdec, ← sl_to, sl_cat t 0 1 (j + 1) (by omega) (by omega), sl_cat t 1 j (j + 1) k2 (by omega), sl_one t j (by omega), h93, sl_one t 0 h0, hb]; rfl
theorem idx_no {t : List UInt8} {x : Stp} {n : Nat} (h0 : 0 < t.length) (h : idxP t = (x, n, false)) : n ≤ t.length := by
 have hi := iscan_le t t.length 1 h0
 unfold idxP at h
 generalize iscan t t.length 1 = q at h hi
 unfold idxQ at h
 split at h
 · injection h with _ h2; injection h2 with h2 _; omega
 · split at h
   · injection h with _ h2; injection h2 with h2 _; omega
   · injection h with _ h2; injection h2 with _ h2; cases h2
theorem bodyS_snoc (L : List Stp) (x : Stp) : bodyS (L ++ [x]) = bodyS L ++ bitS x L.isEmpty := by
 cases L with
 | nil => show bitS x true ++ restS [] = [] ++ bitS x true; simp [restS]
 | cons y r =>
   show bitS y true ++ restS (r ++ [x]) = bitS y true ++ restS r ++ bitS x false
   unfold restS
   rw [List.flatMap_append, List.append_assoc]; simp
theorem rd_some {s : List UInt8} {a : Nat} {L : List Stp} {x : Stp} {n b : Nat} (hs : s.length ≤ 65536) (ha : a ≤ s.length)
   (hsep : (!(decide (a < s.length) && isB (byt s a) 91) && (!L.isEmpty && !isB (byt s a) 46)) = false) (hmore : (!decide (a < s.length) && !L.isEmpty) = false)
   (h : rdAt s a L = ((x, n, true), b)) : okS x = true ∧ b + n ≤ s.length ∧ a < b + n ∧ s.take (b + n) = s.take a ++ bitS x L.isEmpty := by
 unfold rdAt at h
 split at h
 · rename_i hb
   rw [Bool.and_eq_true, decide_eq_true_eq] at hb
   injection h with h1 h2
   subst h2
   have hl := sl_len s a s.length ha (Nat.le_refl _)
   obtain ⟨hx, k1, k2, k3, k4⟩ := idx_some (by omega) (by rw [byt_sl]; exact (isB_iff _ 91 (by decide)).1 hb.2) h1
   refine ⟨k1, by omega, by omega, ?_⟩
   rw [take_cat s a (a + n) (by omega)]
   rw [← sl_to, sl_sl, Nat.add_zero] at k4
   rw [k4]; unfold bitS; rw [if_pos hx]
 · rename_i hb
   split at h
   · rename_i hL
     injection h with h1 h2
     subst h2
     have hl := sl_len s a s.length ha (Nat.le_refl _)
     obtain ⟨hx, k1, k2, k3, k4⟩ := lab_some (by omega) h1
     refine ⟨k1, by omega, by omega, ?_⟩
     rw [take_cat s a (a + n) (by omega)]
     rw [← sl_to, sl_sl, Nat.add_zero] at k4
     rw [k4]; unfold bitS; rw [if_neg hx, if_pos hL]
   · rename_i hL
     injection h with h1 h2
     subst h2
     have hL' : L.isEmpty = false := by simpa using hL
     rw [hL'] at hsep hmore ⊢
     simp only [Bool.not_false, Bool.and_true, Bool.true_and, Bool.not_eq_false', decide_eq_true_eq] at hmore
     have hb' : (decide (a < s.length) && isB (byt s a) 91) = false := by simpa using hb
     rw [hb'] at hsep
     simp only [Bool.not_false, Bool.true_and, Bool.not_eq_false'] at hsep
     have h46 := (isB_iff _ 46 (by decide)).1 hsep
     have hl := sl_len s (a + 1) s.length hmore (Nat.le_refl _)
     obtain ⟨hx, k1, k2, k3, k4⟩ := lab_some (by omega) h1
     refine ⟨k1, by omega, by omega, ?_⟩
     rw [take_cat s a (a + 1 + n) (by omega), sl_cat s a (a + 1) _ (by omega) (by omega), sl_one s a hmore, h46]
     rw [← sl_to, sl_sl, Nat.add_zero] at k4
     rw [k4]; unfold bitS; rw [if_neg hx]; rfl
theorem rd_no {s : List UInt8} {a : Nat} {L : List Stp} {x : Stp} {n b : Nat} (ha : a ≤ s.length)
   (hmore : (!decide (a < s.length) && !L.isEmpty) = false) (h : rdAt s a L = ((x, n, false), b)) : b + n ≤ s.length := by
 unfold rdAt at h
 split at h
 · rename_i hb
   rw [Bool.and_eq_true, decide_eq_true_eq] at hb
   injection h with h1 h2
   have hl := sl_len s a s.length ha (Nat.le_refl _)
   have := idx_no (by omega) h1
   omega
 · split at h
   · injection h with h1 h2
     have hl := sl_len s a s.length ha (Nat.le_refl _)
     have := lab_no h1
     omega
   · rename_i hL
     injection h with h1 h2
     have hL' : L.isEmpty = false := by simpa using hL
     rw [hL'] at hmore
     simp only [Bool.not_false, Bool.and_true, Bool.not_eq_false', decide_eq_true_eq] at hmore
     have hl := sl_len s (a + 1) s.length hmore (Nat.le_refl _)
     have := lab_no h1
     omega
def OnlyR (s : List UInt8) (r : List Stp × Nat × Nat) : Prop := (r.2.1 = 0 ∧ r.2.2 = 0 ∧ okL r.1 = true ∧ r.1 ≠ [] ∧ bodyS r.1 = s) ∨ (r.1 = [] ∧ r.2.1 = 8 ∧ r.2.2 ≤ s.length)
theorem pgo_only (s : List UInt8) (hs : s.length ≤ 65536) : ∀ f a L, s.length + 1 ≤ f + a → a ≤ s.length → okL L = true → s.take a = bodyS L → OnlyR s (pgo s f a L)
 | 0, a, L, h1, h2, _, _ => by omega
 | f + 1, a, L, h1, h2, hk, hb => by
   rw [pgo]
   split
   · rename_i hm
     rw [Bool.and_eq_true, Bool.not_eq_true', decide_eq_false_iff_not, Bool.not_eq_true'] at hm
     refine .inl ⟨rfl, rfl, hk, fun e => ?_, ?_⟩
     · simp only at e; rw [e] at hm; exact absurd hm.2 (by decide)
     · show bodyS L = s; rw [← hb, List.take_of_length_le (by omega)]
   · rename_i hm
     have hm' : (!decide (a < s.length) && !L.isEmpty) = false := by simpa using hm
     split
     · exact .inr ⟨rfl, rfl, h2⟩
     · rename_i hp
       have hp' : (!(decide (a < s.length) && isB (byt s a) 91) && (!L.isEmpty && !isB (byt s a) 46)) = false := by
         rcases bool_two (!(decide (a < s.length) && isB (byt s a) 91) && (!L.isEmpty && !isB (byt s a) 46)) with h | h
         · exact h
         · exact absurd h hp
       clear hp hm
       generalize hr : rdAt s a L = r
       obtain ⟨⟨x, n, ok⟩, b⟩ := r
       split
       · rename_i hok
         have hok' : ok = true := hok
         subst hok'
         obtain ⟨k1, k2, k3, k4⟩ := rd_some hs h2 hp' hm' hr
         exact pgo_only s hs f (b + n) (L ++ [x]) (by omega) k2 (by unfold okL at *; rw [List.all_append, hk]; simpa using k1) (by rw [k4, hb, bodyS_snoc])
       · rename_i hok
         have hok' : ok = false := by simpa using hok
         subst hok'
         exact .inr ⟨rfl, rfl, rd_no h2 hm' hr⟩
theorem parse_only (s : List UInt8) (hs : s.length ≤ 65536) : ((parseP s).2.1 = 0 ∧ (parseP s).2.2 = 0 ∧ okL (parseP s).1 = true ∧ textS (parseP s).1 = s) ∨ ((parseP s).1 = [] ∧ (parseP s).2.1 = 8 ∧ (parseP s).2.2 ≤ s.length) := by
 unfold parseP
 rw [if_neg (by omega)]
 split
 · rename_i h
   rw [beq_iff_eq] at h
   subst h
   exact .inl ⟨rfl, rfl, rfl, rfl⟩
 · split
   · rename_i h
     refine .inr ⟨rfl, rfl, ?_⟩
     cases s with
     | nil => cases h
     | cons => simp
   · rcases pgo_only s hs (s.length + 1) 0 [] (by omega) (Nat.zero_le _) rfl rfl with ⟨h1, h2, h3, h4, h5⟩ | h
     · exact .inl ⟨h1, h2, h3, by rw [textS_body _ h3 h4]; exact h5⟩
     · exact .inr h
end
section
open Go.RowKit
theorem isB_no (c : UInt8) (n : Nat) (hn : n < 256) (h : c ≠ UInt8.ofNat n) : isB c (n : Int) = false := by rw [isB_eq c n hn]; exact decide_eq_false h
end
section
open Go.RowKit
def rquo (s : List UInt8) : Nat → Nat → List UInt8 → List UInt8 × Nat × Bool
 | 0, a, _ => ([], a, true)
 | f + 1, a, acc =>
   if s.length ≤ a then ([], a, true)
   else if byt s a = 34 then (if acc.isEmpty || identB acc then ([], a, true) else (acc, a + 1, false))
   else if okB (byt s a) = false then ([], a, true)
   else if byt s a = 92 then (if (rescP s (a + 1)).2.2 then ([], (rescP s (a + 1)).2.1, true) else rquo s f (rescP s (a + 1)).2.1 (acc ++ (rescP s (a + 1)).1))
   else rquo s f (a + 1) (acc ++ [byt s a])
def rrun (s : List UInt8) (from_ : Nat) : Nat → Nat → Nat × Bool
 | 0, a => (a, false)
 | f + 1, a => if s.length ≤ a then (a, false) else if idByte (byt s a) = false then (a, false) else if a - from_ = 32 then (a, true) else rrun s from_ f (a + 1)
def rhd (s : List UInt8) (a : Nat) : Nat := if a < s.length ∧ (byt s a = 95 ∨ byt s a = 35) then a + 1 else a
def ridn (s : List UInt8) (a : Nat) (q : Nat × Bool) : List UInt8 × Nat × Bool :=
 if q.2 then ([], q.1, true) else if wordsL.contains (sl s a q.1) then ([], q.1, true) else (sl s a q.1, q.1, false)
def rlab (s : List UInt8) (a : Nat) : List UInt8 × Nat × Bool :=
 if a < s.length ∧ byt s a = 34 then rquo s (s.length + 1) (a + 1) []
 else if s.length ≤ rhd s a then ([], rhd s a, true) else if letterB (byt s (rhd s a)) = false then ([], rhd s a, true)
 else ridn s a (rrun s a (s.length + 1) (rhd s a))
def ridx (s : List UInt8) : Nat → Nat → Nat → Nat → Nat × Nat × Bool
 | 0, a, n, _ => (n, a, true)
 | f + 1, a, n, d =>
   if a < s.length ∧ digB (byt s a) = true then
     (if 1000000 < n * 10 + ((byt s a).toNat - 48) ∨ (0 < d ∧ n = 0) then (0, a, true) else ridx s f (a + 1) (n * 10 + ((byt s a).toNat - 48)) (d + 1))
   else if d = 0 then (n, a, true) else if a < s.length ∧ byt s a = 93 then (n, a + 1, false) else (n, a, true)
def rgo (s : List UInt8) : Nat → Nat → List Stp → List Stp × Nat × Nat
 | 0, _, L => (L, 0, 0)
 | f + 1, a, L =>
   if s.length ≤ a ∧ L.isEmpty = false then (L, 0, 0)
   else if a < s.length ∧ byt s a = 91 then
     (if (ridx s (s.length + 1) (a + 1) 0 0).2.2 then ([], 8, (ridx s (s.length + 1) (a + 1) 0 0).2.1) else rgo s f (ridx s (s.length + 1) (a + 1) 0 0).2.1 (L ++ [⟨[], ((ridx s (s.length + 1) (a + 1) 0 0).1 : Int)⟩]))
   else if L.isEmpty then
     (if a < s.length ∧ byt s a = 46 then ([], 8, a + 1)
     else if (rlab s a).2.2 then ([], 8, (rlab s a).2.1) else rgo s f (rlab s a).2.1 (L ++ [⟨(rlab s a).1, 0⟩]))
   else if a < s.length ∧ byt s a = 46 then (if (rlab s (a + 1)).2.2 then ([], 8, (rlab s (a + 1)).2.1) else rgo s f (rlab s (a + 1)).2.1 (L ++ [⟨(rlab s (a + 1)).1, 0⟩]))
   else ([], 8, a)
def rparse (s : List UInt8) : List Stp × Nat × Nat :=
 if 65536 < s.length then ([], 2, 0) else if s == [46] then ([], 0, 0) else rgo s (s.length + 2) 0 []
theorem b34y {c : UInt8} (h : c = 34) : isB c 34 = true := (isB_iff c 34 (by decide)).2 h
theorem b34n {c : UInt8} (h : c ≠ 34) : isB c 34 = false := isB_no c 34 (by decide) h
theorem b92y {c : UInt8} (h : c = 92) : isB c 92 = true := (isB_iff c 92 (by decide)).2 h
theorem b92n {c : UInt8} (h : c ≠ 92) : isB c 92 = false := isB_no c 92 (by decide) h
theorem b110n {c : UInt8} (h : c ≠ 110) : isB c 110 = false := isB_no c 110 (by decide) h
theorem b116n {c : UInt8} (h : c ≠ 116) : isB c 116 = false := isB_no c 116 (by decide) h
theorem b114n {c : UInt8} (h : c ≠ 114) : isB c 114 = false := isB_no c 114 (by decide) h
theorem b120y {c : UInt8} (h : c = 120) : isB c 120 = true := (isB_iff c 120 (by decide)).2 h
theorem b120n {c : UInt8} (h : c ≠ 120) : isB c 120 = false := isB_no c 120 (by decide) h
theorem b91y {c : UInt8} (h : c = 91) : isB c 91 = true := (isB_iff c 91 (by decide)).2 h
theorem b91n {c : UInt8} (h : c ≠ 91) : isB c 91 = false := isB_no c 91 (by decide) h
theorem b46y {c : UInt8} (h : c = 46) : isB c 46 = true := (isB_iff c 46 (by decide)).2 h
theorem b46n {c : UInt8} (h : c ≠ 46) : isB c 46 = false := isB_no c 46 (by decide) h
theorem b48y {c : UInt8} (h : c = 48) : isB c 48 = true := (isB_iff c 48 (by decide)).2 h
theorem b48n {c : UInt8} (h : c ≠ 48) : isB c 48 = false := isB_no c 48 (by decide) h
theorem b93n {c : UInt8} (h : c ≠ 93) : isB c 93 = false := isB_no c 93 (by decide) h
theorem pairH_eq : ∀ n : Fin 256, pairH n.val = [byt hexS (n.val / 16), byt hexS (n.val % 16)] := by decide +kernel
theorem dg_hx : ∀ k : Fin 16, dgI (byt hexS k.val) = (k.val : Int) := by decide +kernel
theorem hx_dg : ∀ c : UInt8, 0 ≤ dgI c → byt hexS (dgI c).toNat = c := forall_u8 (P := fun c => 0 ≤ dgI c → byt hexS (dgI c).toNat = c) (by decide +kernel)
theorem wr_one (n : Nat) (hn : n < 256) (h : wrN n = true) : ¬ (1 < n / 16 ∧ n / 16 < 7) := by
 intro hh
 unfold wrN at h
 simp only [Bool.not_eq_true', Bool.or_eq_false_iff, Bool.and_eq_false_iff, decide_eq_false_iff_not, beq_eq_false_iff_ne] at h
 omega
theorem wr_of (p : Nat) (hp : p < 16) (h : ¬ (1 < p ∧ p < 7)) : wrN (16 * p + 15) = true := by
 unfold wrN
 simp only [Bool.not_eq_true', Bool.or_eq_false_iff, Bool.and_eq_false_iff, decide_eq_false_iff_not, beq_eq_false_iff_ne]
 omega
theorem hex_one (c : UInt8) : hexP [c] = !decide (dgI c < 0 ∨ (1 < dgI c ∧ dgI c < 7)) := by
 have hr := dgI_range c
 rw [Bool.eq_iff_iff, Bool.not_eq_true', decide_eq_false_iff_not]
 constructor
 · intro h
   unfold hexP at h
   obtain ⟨n, hn, ha⟩ := List.any_eq_true.1 h
   rw [List.mem_range] at hn
   unfold hexAt at ha
   rw [Bool.and_eq_true, beq_iff_eq, pairH_eq ⟨n, hn⟩] at ha
   have hc : byt hexS (n / 16) = c := by have := ha.2; simpa using this
   have hd := dg_hx ⟨n / 16, by omega⟩
   simp only at hd
   rw [hc] at hd
   have := wr_one n hn ha.1
   omega
 · intro h
   have hx := hx_dg c (by omega)
   have hw := wr_of (dgI c).toNat (by omega) (by omega)
   refine hexP_yes _ (16 * (dgI c).toNat + 15) (by omega) ?_
   unfold hexAt
   rw [hw, pairH_eq ⟨16 * (dgI c).toNat + 15, by omega⟩]
   simp only
   rw [show (16 * (dgI c).toNat + 15) / 16 = (dgI c).toNat by omega, hx]
   simp
theorem hex_two (c d : UInt8) (hc : 0 ≤ dgI c) : hexP [c, d] = !decide (dgI d < 0 ∨ wrN (16 * dgI c + dgI d).toNat = false) := by
 have hr := dgI_range c
 have hr2 := dgI_range d
 rw [Bool.eq_iff_iff, Bool.not_eq_true', decide_eq_false_iff_not]
 constructor
 · intro h
   obtain ⟨n, hn, hw, hp⟩ := hexP_some rfl h
   rw [pairH_eq ⟨n, hn⟩] at hp
   simp only [List.cons.injEq, and_true] at hp
   have h1 := dg_hx ⟨n / 16, by omega⟩
   have h2 := dg_hx ⟨n % 16, by omega⟩
   simp only at h1 h2
   rw [hp.1] at h1
   rw [hp.2] at h2
   have e : (16 * dgI c + dgI d).toNat = n := by omega
   rw [e, hw]
   simp; omega
 · intro h
   have hd : 0 ≤ dgI d := by omega
   have hw : wrN (16 * dgI c + dgI d).toNat = true := by
     rcases bool_two (wrN (16 * dgI c + dgI d).toNat) with hb | hb
     · exact absurd (.inr hb) h
     · exact hb
   have hn : (16 * dgI c + dgI d).toNat < 256 := by omega
   refine hexP_yes _ _ hn ?_
   unfold hexAt
   rw [hw, pairH_eq ⟨_, hn⟩]
   simp only
   rw [show (16 * dgI c + dgI d).toNat / 16 = (dgI c).toNat by omega, show (16 * dgI c + dgI d).toNat % 16 = (dgI d).toNat by omega, hx_dg c hc, hx_dg d hd]
   simp
theorem esc_dg (c d : UInt8) (hc : 0 ≤ dgI c) (hd : 0 ≤ dgI d) (hw : wrN (16 * dgI c + dgI d).toNat = true) : escB (UInt8.ofNat (16 * dgI c + dgI d).toNat) = [92, 120, c, d] := by
 have hr := dgI_range c
 have hr2 := dgI_range d
 have hn : (16 * dgI c + dgI d).toNat < 256 := by omega
 have hu := u8_ofNat_toNat _ hn
 have := esc_wr (UInt8.ofNat (16 * dgI c + dgI d).toNat) (by rw [hu]; exact hw)
 rw [hu, pairH_eq ⟨_, hn⟩] at this
 simp only at this
 rw [show (16 * dgI c + dgI d).toNat / 16 = (dgI c).toNat by omega, show (16 * dgI c + dgI d).toNat % 16 = (dgI d).toNat by omega, hx_dg c hc, hx_dg d hd] at this
 exact this
theorem esc_both (s : List UInt8) (a : Nat) (ha : a < s.length) (h0 : byt s a = 92) :
   ((escP (sl s a s.length)).2 = false ∧ ∃ l, rescP s (a + 1) = (l, a + (escP (sl s a s.length)).1, true)) ∨
   ((escP (sl s a s.length)).2 = true ∧ ∃ c, rescP s (a + 1) = ([c], a + (escP (sl s a s.length)).1, false) ∧ sl s a (a + (escP (sl s a s.length)).1) = escB c) := by
 have htl : (sl s a s.length).length = s.length - a := sl_len s a s.length (by omega) (Nat.le_refl _)
 have hb : byt (sl s a s.length) 1 = byt s (a + 1) := byt_sl s a 1
 unfold escP rescP
 by_cases h2 : a + 1 < s.length
 · rw [if_neg (by omega), if_pos h2, hb]
   have hs2 : ∀ b, sl s a (a + 2) = [92, byt s (a + 1)] ∧ (byt s (a + 1) = b → sl s a (a + 2) = [92, b]) := by
     intro b
     have : sl s a (a + 2) = [92, byt s (a + 1)] := by
       rw [sl_cat s a (a + 1) (a + 2) (by omega) (by omega), sl_one s a ha, h0, sl_one s (a + 1) h2]; rfl
     exact ⟨this, fun e => by rw [this, e]⟩
   by_cases e1 : byt s (a + 1) = 34
   · rw [e1]; exact .inr ⟨rfl, 34, rfl, by rw [show escB 34 = [92, 34] by decide]; exact (hs2 34).2 e1⟩
   by_cases e2 : byt s (a + 1) = 92
   · rw [e2]; exact .inr ⟨rfl, 92, rfl, by rw [show escB 92 = [92, 92] by decide]; exact (hs2 92).2 e2⟩
   by_cases e3 : byt s (a + 1) = 110
   · rw [e3]; exact .inr ⟨rfl, 10, rfl, by rw [show escB 10 = [92, 110] by decide]; exact (hs2 110).2 e3⟩
   by_cases e4 : byt s (a + 1) = 116
   · rw [e4]; exact .inr ⟨rfl, 9, rfl, by rw [show escB 9 = [92, 116] by decide]; exact (hs2 116).2 e4⟩
   by_cases e5 : byt s (a + 1) = 114
   · rw [e5]; exact .inr ⟨rfl, 13, rfl, by rw [show escB 13 = [92, 114] by decide]; exact (hs2 114).2 e5⟩
   rw [if_neg e1, if_neg e2, if_neg e3, if_neg e4, if_neg e5]
   have f1 := b34n e1
   have f2 := b92n e2
   have f3 := b110n e3
   have f4 := b116n e4
   have f5 := b114n e5
   have ff : (isB (byt s (a + 1)) 34 || isB (byt s (a + 1)) 92 || isB (byt s (a + 1)) 110 || isB (byt s (a + 1)) 116 || isB (byt s (a + 1)) 114) = false := by
     rw [show isB (byt s (a + 1)) 34 = false from f1, show isB (byt s (a + 1)) 92 = false from f2, show isB (byt s (a + 1)) 110 = false from f3, show isB (byt s (a + 1)) 116 = false from f4, show isB (byt s (a + 1)) 114 = false from f5]; rfl
   rw [if_neg (by rw [ff]; decide)]
   by_cases e6 : byt s (a + 1) = 120
   · rw [if_pos e6, if_pos (b120y e6)]
     by_cases h3 : a + 2 < s.length
     · rw [if_neg (by omega)]
       have hd1 : dgAt s (a + 1 + 1) = dgI (byt s (a + 2)) := by unfold dgAt; rw [if_pos (by omega)]
       have hs3 : sl (sl s a s.length) 2 3 = [byt s (a + 2)] := by rw [sl_sl, sl_one s (a + 2) h3]
       rw [hd1, hs3, hex_one]
       by_cases g1 : dgI (byt s (a + 2)) < 0 ∨ (1 < dgI (byt s (a + 2)) ∧ dgI (byt s (a + 2)) < 7)
       · rw [if_pos g1, if_pos (by simp [g1])]
         exact .inl ⟨rfl, _, rfl⟩
       · rw [if_neg g1, if_neg (by simp only [Bool.not_eq_false', decide_eq_true_eq]; exact g1)]
         by_cases h4 : a + 3 < s.length
         · rw [if_neg (by omega)]
           have hd2 : dgAt s (a + 1 + 2) = dgI (byt s (a + 3)) := by unfold dgAt; rw [if_pos (by omega)]
           have hs4 : sl (sl s a s.length) 2 4 = [byt s (a + 2), byt s (a + 3)] := by
             rw [sl_sl, sl_cat s (a + 2) (a + 3) (a + 4) (by omega) (by omega), sl_one s (a + 2) h3, sl_one s (a + 3) h4]; rfl
           rw [hd2, hs4, hex_two _ _ (by omega)]
           by_cases g2 : dgI (byt s (a + 3)) < 0 ∨ wrN (16 * dgI (byt s (a + 2)) + dgI (byt s (a + 3))).toNat = false
           · rw [if_pos g2, if_pos (by simp only [Bool.not_eq_false', decide_eq_true_eq]; exact g2)]
             exact .inl ⟨rfl, _, rfl⟩
           · rw [if_neg g2, if_neg (by simp only [Bool.not_eq_false', decide_eq_true_eq]; exact g2)]
             refine .inr ⟨rfl, _, rfl, ?_⟩
             have hw : wrN (16 * dgI (byt s (a + 2)) + dgI (byt s (a + 3))).toNat = true := by
               rcases bool_two (wrN (16 * dgI (byt s (a + 2)) + dgI (byt s (a + 3))).toNat) with hb | hb
               · exact absurd (.inr hb) g2
               · exact hb
             rw [esc_dg _ _ (by omega) (by omega) hw]
             show sl s a (a + 4) = _
             rw [sl_cat s a (a + 2) (a + 4) (by omega) (by omega), (hs2 120).2 e6, sl_cat s (a + 2) (a + 3) (a + 4) (by omega) (by omega), sl_one s (a + 2) h3, sl_one s (a + 3) h4]; rfl
         · have hd2 : dgAt s (a + 1 + 2) = -1 := by unfold dgAt; rw [if_neg (by omega)]
           rw [if_pos (by omega), if_pos (by rw [hd2]; exact .inl (by decide))]
           exact .inl ⟨rfl, [], by simp only; congr 2; omega⟩
     · have hd1 : dgAt s (a + 1 + 1) = -1 := by unfold dgAt; rw [if_neg (by omega)]
       rw [if_pos (by omega), if_pos (by rw [hd1]; exact .inl (by decide))]
       exact .inl ⟨rfl, [], by simp only; congr 2; omega⟩
   · rw [if_neg e6, if_neg (by rw [b120n e6]; decide)]
     exact .inl ⟨rfl, _, rfl⟩
 · rw [if_pos (by omega), if_neg h2]
   exact .inl ⟨rfl, _, rfl⟩
theorem quo_both (s : List UInt8) (b : Nat) (t : List UInt8) (ht : t = sl s b s.length) (hb : b ≤ s.length) : ∀ f i f' acc, t.length ≤ f + i → i ≤ t.length → s.length + 1 ≤ f' + (b + i) →
   ((qscan t f i).2 = false ∧ rquo s f' (b + i) acc = ([], b + (qscan t f i).1, true)) ∨
   ((qscan t f i).2 = true ∧ t.length ≤ (qscan t f i).1 ∧ rquo s f' (b + i) acc = ([], b + t.length, true)) ∨
   ((qscan t f i).2 = true ∧ (qscan t f i).1 < t.length ∧ byt t (qscan t f i).1 = 34 ∧ i ≤ (qscan t f i).1 ∧ ∃ l : List UInt8, sl t i (qscan t f i).1 = l.flatMap escB ∧ rquo s f' (b + i) acc = (if (acc ++ l).isEmpty || identB (acc ++ l) then ([], b + (qscan t f i).1, true) else (acc ++ l, b + (qscan t f i).1 + 1, false))) := by
 have htl : t.length = s.length - b := by rw [ht]; exact sl_len s b s.length hb (Nat.le_refl _)
 intro f
 induction f with
 | zero =>
   intro i f' acc h1 h2 h3
   obtain ⟨g, rfl⟩ : ∃ g, f' = g + 1 := ⟨f' - 1, by omega⟩
   rw [qscan, rquo, if_pos (by omega)]
   exact .inr (.inl ⟨rfl, by simp only; omega, by rw [show b + i = b + t.length by omega]⟩)
 | succ f ih =>
   intro i f' acc h1 h2 h3
   obtain ⟨g, rfl⟩ : ∃ g, f' = g + 1 := ⟨f' - 1, by omega⟩
   have hbt : byt t i = byt s (b + i) := by rw [ht]; exact byt_sl s b i
   rw [qscan, rquo]
   by_cases hi : t.length ≤ i
   · rw [if_pos hi, if_pos (show s.length ≤ b + i by omega)]
     exact .inr (.inl ⟨rfl, hi, by rw [show b + i = b + t.length by omega]⟩)
   rw [if_neg hi, if_neg (show ¬ s.length ≤ b + i by omega), ← hbt]
   by_cases e34 : byt t i = 34
   · rw [if_pos (b34y e34), if_pos e34]
     refine .inr (.inr ⟨rfl, by simp only; omega, e34, Nat.le_refl _, [], sl_nil t i, ?_⟩)
     rw [List.append_nil]
   rw [if_neg (by rw [b34n e34]; decide), if_neg e34]
   by_cases e92 : byt t i = 92
   · rw [if_pos (b92y e92), if_neg (show ¬ okB (byt t i) = false by rw [e92]; decide), if_pos e92]
     have hts : sl t i t.length = sl s (b + i) s.length := by
       rw [htl]
       rw [ht, sl_sl]; congr 1; omega
     rw [hts]
     have hle := escP_le (sl s (b + i) s.length)
     rw [sl_len s (b + i) s.length (by omega) (Nat.le_refl _)] at hle
     rcases esc_both s (b + i) (by omega) (hbt ▸ e92) with ⟨h4, l, h5⟩ | ⟨h4, c, h5, h6⟩
     · rw [if_neg (show ¬ (escP (sl s (b + i) s.length)).2 = true by rw [h4]; decide), h5]
       exact .inl ⟨rfl, by simp only [if_true]; rw [Nat.add_assoc]⟩
     · rw [if_pos h4, h5]
       simp only [Bool.false_eq_true, if_false]
       have hl2 := hle.2 h4
       have h7 := ih (i + (escP (sl s (b + i) s.length)).1) g (acc ++ [c]) (by omega) (by omega) (by omega)
       rw [Nat.add_assoc] at h7 ⊢
       rcases h7 with h7 | h7 | ⟨k1, k2, k3, k4, l, k5, k6⟩
       · exact .inl h7
       · exact .inr (.inl h7)
       · refine .inr (.inr ⟨k1, k2, k3, by omega, c :: l, ?_, ?_⟩)
         · have hce : sl t i (i + (escP (sl s (b + i) s.length)).1) = escB c := by
             rw [ht, sl_sl]; rw [← h6]; congr 1; omega
           rw [sl_cat t i _ _ (Nat.le_add_right _ _) k4, k5, hce]; rfl
         · rw [k6, List.append_assoc]; rfl
   · rw [if_neg (by rw [b92n e92]; decide)]
     rcases bool_two (okB (byt t i)) with ho | ho
     · rw [if_neg (by rw [ho]; decide), if_pos ho]
       exact .inl ⟨rfl, rfl⟩
     · rw [if_pos ho, if_neg (by rw [ho]; decide), if_neg e92]
       have h7 := ih (i + 1) g (acc ++ [byt t i]) (by omega) (by omega) (by omega)
       rw [← Nat.add_assoc] at h7
       rcases h7 with h7 | h7 | ⟨k1, k2, k3, k4, l, k5, k6⟩
       · exact .inl h7
       · exact .inr (.inl h7)
       · refine .inr (.inr ⟨k1, k2, k3, by omega, byt t i :: l, ?_, ?_⟩)
         · rw [sl_cat t i (i + 1) _ (Nat.le_succ _) k4, k5, List.flatMap_cons, esc_plain _ ho e34 e92, sl_one t i (by omega)]
         · rw [k6, List.append_assoc]; rfl
end
end Go.Proofs.YtoahmganodehkaaGreatDoor
