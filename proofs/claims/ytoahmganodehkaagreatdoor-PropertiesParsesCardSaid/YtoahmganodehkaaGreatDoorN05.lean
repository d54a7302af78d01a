import Derived.Deep.RegionWith
import Derived.Test.YtoahmganodehkaaGreatDoorN03
import Derived.Test.YtoahmganodehkaaGreatDoorN04
import Derived.Test.YtoahmganodehkaaGreatDoorN02
import Derived.Test.YtoahmganodehkaaGreatDoorN01
namespace Go.Proofs.YtoahmganodehkaaGreatDoor
set_option linter.unusedSimpArgs false
set_option linter.unusedVariables false
open Go.RowKit
def ScaP (w : World) (r : Option Dat) (e : Ending) (w' : World) : Prop :=
 ∃ k n s, e = .returned (.tuple #[.agg #[.int .i64 k, .int .i64 n, .string (S s), .slice none 0 0, .slice none 0 0], .bool r.isSome]) ∧ (∀ d, r = some d → d = .mk k n s [] []) ∧ Below w.heap.size w w'
theorem S_beq (a b : List UInt8) : (S a == S b) = decide (a = b) := by
 show (a.toArray == b.toArray) = _
 by_cases h : a = b
 · subst h; simp
 · rw [decide_eq_false h, beq_eq_false_iff_ne]; simpa using h
set_option maxRecDepth 100000 in
set_option maxHeartbeats 4000000 in
theorem scalar_10 (w : World) : Calls Tryz.prog 52 #[.string (S [110, 117, 108, 108])] w (ScaP w (some (.mk 1 0 [] [] []))) := by
 have h2 := two_new w #[.int .i64 0, .int .i64 0, .string ⟨#[]⟩, .slice none 0 0, .slice none 0 0] #[.int .i64 0, .int .i64 0, .string ⟨#[]⟩, .slice none 0 0, .slice none 0 0] 26 26
 have q0 : (S [110, 117, 108, 108] == ByteArray.mk #[110, 117, 108, 108]) = true := (S_beq [110, 117, 108, 108] [110, 117, 108, 108]).trans (by decide)
 have q1 : (S [110, 117, 108, 108] == ByteArray.mk #[116, 114, 117, 101]) = false := (S_beq [110, 117, 108, 108] [116, 114, 117, 101]).trans (by decide)
 have q2 : (S [110, 117, 108, 108] == ByteArray.mk #[102, 97, 108, 115, 101]) = false := (S_beq [110, 117, 108, 108] [102, 97, 108, 115, 101]).trans (by decide)
 have q3 : (S [110, 117, 108, 108] == ByteArray.mk #[91, 93]) = false := (S_beq [110, 117, 108, 108] [91, 93]).trans (by decide)
 have q4 : (S [110, 117, 108, 108] == ByteArray.mk #[123, 125]) = false := (S_beq [110, 117, 108, 108] [123, 125]).trans (by decide)
 go_enter Tryz.func52, Tryz.ntmps52
 go_upto_region 2 with fail
 generalize (w.alloc (.cells #[.int .i64 0, .int .i64 0, .string ⟨#[]⟩, .slice none 0 0, .slice none 0 0] 26)).alloc (.cells #[.int .i64 0, .int .i64 0, .string ⟨#[]⟩, .slice none 0 0, .slice none 0 0] 26) = W at h2 ⊢
 have z0 := h2.1.cell 0
 have y0 := h2.1.frozen 0
 have k0 := h2.2.1.cell 0
 have f0 := h2.2.1.frozen 0
 have z1 := h2.1.cell 1
 have y1 := h2.1.frozen 1
 have k1 := h2.2.1.cell 1
 have f1 := h2.2.1.frozen 1
 have z2 := h2.1.cell 2
 have y2 := h2.1.frozen 2
 have k2 := h2.2.1.cell 2
 have f2 := h2.2.1.frozen 2
 have z3 := h2.1.cell 3
 have y3 := h2.1.frozen 3
 have k3 := h2.2.1.cell 3
 have f3 := h2.2.1.frozen 3
 have z4 := h2.1.cell 4
 have y4 := h2.1.frozen 4
 have k4 := h2.2.1.cell 4
 have f4 := h2.2.1.frozen 4
 simp at z0 z1 z2 z3 z4 k0 k1 k2 k3 k4
 have hzl := h2.1.lt
 have hkl := h2.2.1.lt
 have HB := Lib.hid h2.2.2
 clear h2
 go_wp2_with fail
 refine bodyPost_ret (v := .tuple #[.agg #[.int .i64 1, .int .i64 0, .string ⟨#[]⟩, .slice none 0 0, .slice none 0 0], .bool true]) (by simp [results, Tryz.results52, go_sem, z0, z1, z2, z3, z4, y0, y1, y2, y3, y4, hzl]) rfl ?_
 refine ⟨1, 0, [], rfl, fun d h => by injection h with h; exact h.symm, ?_⟩
 have hbw := HB.out
 go_grown
 all_goals exact hbw
set_option maxRecDepth 100000 in
set_option maxHeartbeats 4000000 in
theorem scalar_21 (w : World) : Calls Tryz.prog 52 #[.string (S [116, 114, 117, 101])] w (ScaP w (some (.mk 2 1 [] [] []))) := by
 have h2 := two_new w #[.int .i64 0, .int .i64 0, .string ⟨#[]⟩, .slice none 0 0, .slice none 0 0] #[.int .i64 0, .int .i64 0, .string ⟨#[]⟩, .slice none 0 0, .slice none 0 0] 26 26
 have q0 : (S [116, 114, 117, 101] == ByteArray.mk #[110, 117, 108, 108]) = false := (S_beq [116, 114, 117, 101] [110, 117, 108, 108]).trans (by decide)
 have q1 : (S [116, 114, 117, 101] == ByteArray.mk #[116, 114, 117, 101]) = true := (S_beq [116, 114, 117, 101] [116, 114, 117, 101]).trans (by decide)
 have q2 : (S [116, 114, 117, 101] == ByteArray.mk #[102, 97, 108, 115, 101]) = false := (S_beq [116, 114, 117, 101] [102, 97, 108, 115, 101]).trans (by decide)
 have q3 : (S [116, 114, 117, 101] == ByteArray.mk #[91, 93]) = false := (S_beq [116, 114, 117, 101] [91, 93]).trans (by decide)
 have q4 : (S [116, 114, 117, 101] == ByteArray.mk #[123, 125]) = false := (S_beq [116, 114, 117, 101] [123, 125]).trans (by decide)
 go_enter Tryz.func52, Tryz.ntmps52
 go_upto_region 2 with fail
 generalize (w.alloc (.cells #[.int .i64 0, .int .i64 0, .string ⟨#[]⟩, .slice none 0 0, .slice none 0 0] 26)).alloc (.cells #[.int .i64 0, .int .i64 0, .string ⟨#[]⟩, .slice none 0 0, .slice none 0 0] 26) = W at h2 ⊢
 have z0 := h2.1.cell 0
 have y0 := h2.1.frozen 0
 have k0 := h2.2.1.cell 0
 have f0 := h2.2.1.frozen 0
 have z1 := h2.1.cell 1
 have y1 := h2.1.frozen 1
 have k1 := h2.2.1.cell 1
 have f1 := h2.2.1.frozen 1
 have z2 := h2.1.cell 2
 have y2 := h2.1.frozen 2
 have k2 := h2.2.1.cell 2
 have f2 := h2.2.1.frozen 2
 have z3 := h2.1.cell 3
 have y3 := h2.1.frozen 3
 have k3 := h2.2.1.cell 3
 have f3 := h2.2.1.frozen 3
 have z4 := h2.1.cell 4
 have y4 := h2.1.frozen 4
 have k4 := h2.2.1.cell 4
 have f4 := h2.2.1.frozen 4
 simp at z0 z1 z2 z3 z4 k0 k1 k2 k3 k4
 have hzl := h2.1.lt
 have hkl := h2.2.1.lt
 have HB := Lib.hid h2.2.2
 clear h2
 go_wp2_with fail
 refine bodyPost_ret (v := .tuple #[.agg #[.int .i64 2, .int .i64 1, .string ⟨#[]⟩, .slice none 0 0, .slice none 0 0], .bool true]) (by simp [results, Tryz.results52, go_sem, z0, z1, z2, z3, z4, y0, y1, y2, y3, y4, hzl]) rfl ?_
 refine ⟨2, 1, [], rfl, fun d h => by injection h with h; exact h.symm, ?_⟩
 have hbw := HB.out
 go_grown
 all_goals exact hbw
set_option maxRecDepth 100000 in
set_option maxHeartbeats 4000000 in
theorem scalar_20 (w : World) : Calls Tryz.prog 52 #[.string (S [102, 97, 108, 115, 101])] w (ScaP w (some (.mk 2 0 [] [] []))) := by
 have h2 := two_new w #[.int .i64 0, .int .i64 0, .string ⟨#[]⟩, .slice none 0 0, .slice none 0 0] #[.int .i64 0, .int .i64 0, .string ⟨#[]⟩, .slice none 0 0, .slice none 0 0] 26 26
 have q0 : (S [102, 97, 108, 115, 101] == ByteArray.mk #[110, 117, 108, 108]) = false := (S_beq [102, 97, 108, 115, 101] [110, 117, 108, 108]).trans (by decide)
 have q1 : (S [102, 97, 108, 115, 101] == ByteArray.mk #[116, 114, 117, 101]) = false := (S_beq [102, 97, 108, 115, 101] [116, 114, 117, 101]).trans (by decide)
 have q2 : (S [102, 97, 108, 115, 101] == ByteArray.mk #[102, 97, 108, 115, 101]) = true := (S_beq [102, 97, 108, 115, 101] [102, 97, 108, 115, 101]).trans (by decide)
 have q3 : (S [102, 97, 108, 115, 101] == ByteArray.mk #[91, 93]) = false := (S_beq [102, 97, 108, 115, 101] [91, 93]).trans (by decide)
 have q4 : (S [102, 97, 108, 115, 101] == ByteArray.mk #[123, 125]) = false := (S_beq [102, 97, 108, 115, 101] [123, 125]).trans (by decide)
 go_enter Tryz.func52, Tryz.ntmps52
 go_upto_region 2 with fail
 generalize (w.alloc (.cells #[.int .i64 0, .int .i64 0, .string ⟨#[]⟩, .slice none 0 0, .slice none 0 0] 26)).alloc (.cells #[.int .i64 0, .int .i64 0, .string ⟨#[]⟩, .slice none 0 0, .slice none 0 0] 26) = W at h2 ⊢
 have z0 := h2.1.cell 0
 have y0 := h2.1.frozen 0
 have k0 := h2.2.1.cell 0
 have f0 := h2.2.1.frozen 0
 have z1 := h2.1.cell 1
 have y1 := h2.1.frozen 1
 have k1 := h2.2.1.cell 1
 have f1 := h2.2.1.frozen 1
 have z2 := h2.1.cell 2
 have y2 := h2.1.frozen 2
 have k2 := h2.2.1.cell 2
 have f2 := h2.2.1.frozen 2
 have z3 := h2.1.cell 3
 have y3 := h2.1.frozen 3
 have k3 := h2.2.1.cell 3
 have f3 := h2.2.1.frozen 3
 have z4 := h2.1.cell 4
 have y4 := h2.1.frozen 4
 have k4 := h2.2.1.cell 4
 have f4 := h2.2.1.frozen 4
 simp at z0 z1 z2 z3 z4 k0 k1 k2 k3 k4
 have hzl := h2.1.lt
 have hkl := h2.2.1.lt
 have HB := Lib.hid h2.2.2
 clear h2
 go_wp2_with fail
 refine bodyPost_ret (v := .tuple #[.agg #[.int .i64 2, .int .i64 0, .string ⟨#[]⟩, .slice none 0 0, .slice none 0 0], .bool true]) (by simp [results, Tryz.results52, go_sem, z0, z1, z2, z3, z4, y0, y1, y2, y3, y4, hzl]) rfl ?_
 refine ⟨2, 0, [], rfl, fun d h => by injection h with h; exact h.symm, ?_⟩
 have hbw := HB.out
 go_grown
 all_goals exact hbw
set_option maxRecDepth 100000 in
set_option maxHeartbeats 4000000 in
theorem scalar_50 (w : World) : Calls Tryz.prog 52 #[.string (S [91, 93])] w (ScaP w (some (.mk 5 0 [] [] []))) := by
 have h2 := two_new w #[.int .i64 0, .int .i64 0, .string ⟨#[]⟩, .slice none 0 0, .slice none 0 0] #[.int .i64 0, .int .i64 0, .string ⟨#[]⟩, .slice none 0 0, .slice none 0 0] 26 26
 have q0 : (S [91, 93] == ByteArray.mk #[110, 117, 108, 108]) = false := (S_beq [91, 93] [110, 117, 108, 108]).trans (by decide)
 have q1 : (S [91, 93] == ByteArray.mk #[116, 114, 117, 101]) = false := (S_beq [91, 93] [116, 114, 117, 101]).trans (by decide)
 have q2 : (S [91, 93] == ByteArray.mk #[102, 97, 108, 115, 101]) = false := (S_beq [91, 93] [102, 97, 108, 115, 101]).trans (by decide)
 have q3 : (S [91, 93] == ByteArray.mk #[91, 93]) = true := (S_beq [91, 93] [91, 93]).trans (by decide)
 have q4 : (S [91, 93] == ByteArray.mk #[123, 125]) = false := (S_beq [91, 93] [123, 125]).trans (by decide)
 go_enter Tryz.func52, Tryz.ntmps52
 go_upto_region 2 with fail
 generalize (w.alloc (.cells #[.int .i64 0, .int .i64 0, .string ⟨#[]⟩, .slice none 0 0, .slice none 0 0] 26)).alloc (.cells #[.int .i64 0, .int .i64 0, .string ⟨#[]⟩, .slice none 0 0, .slice none 0 0] 26) = W at h2 ⊢
 have z0 := h2.1.cell 0
 have y0 := h2.1.frozen 0
 have k0 := h2.2.1.cell 0
 have f0 := h2.2.1.frozen 0
 have z1 := h2.1.cell 1
 have y1 := h2.1.frozen 1
 have k1 := h2.2.1.cell 1
 have f1 := h2.2.1.frozen 1
 have z2 := h2.1.cell 2
 have y2 := h2.1.frozen 2
 have k2 := h2.2.1.cell 2
 have f2 := h2.2.1.frozen 2
 have z3 := h2.1.cell 3
 have y3 := h2.1.frozen 3
 have k3 := h2.2.1.cell 3
 have f3 := h2.2.1.frozen 3
 have z4 := h2.1.cell 4
 have y4 := h2.1.frozen 4
 have k4 := h2.2.1.cell 4
 have f4 := h2.2.1.frozen 4
 simp at z0 z1 z2 z3 z4 k0 k1 k2 k3 k4
 have hzl := h2.1.lt
 have hkl := h2.2.1.lt
 have HB := Lib.hid h2.2.2
 clear h2
 go_wp2_with fail
 refine bodyPost_ret (v := .tuple #[.agg #[.int .i64 5, .int .i64 0, .string ⟨#[]⟩, .slice none 0 0, .slice none 0 0], .bool true]) (by simp [results, Tryz.results52, go_sem, z0, z1, z2, z3, z4, y0, y1, y2, y3, y4, hzl]) rfl ?_
 refine ⟨5, 0, [], rfl, fun d h => by injection h with h; exact h.symm, ?_⟩
 have hbw := HB.out
 go_grown
 all_goals exact hbw
set_option maxRecDepth 100000 in
set_option maxHeartbeats 4000000 in
theorem scalar_60 (w : World) : Calls Tryz.prog 52 #[.string (S [123, 125])] w (ScaP w (some (.mk 6 0 [] [] []))) := by
 have h2 := two_new w #[.int .i64 0, .int .i64 0, .string ⟨#[]⟩, .slice none 0 0, .slice none 0 0] #[.int .i64 0, .int .i64 0, .string ⟨#[]⟩, .slice none 0 0, .slice none 0 0] 26 26
 have q0 : (S [123, 125] == ByteArray.mk #[110, 117, 108, 108]) = false := (S_beq [123, 125] [110, 117, 108, 108]).trans (by decide)
 have q1 : (S [123, 125] == ByteArray.mk #[116, 114, 117, 101]) = false := (S_beq [123, 125] [116, 114, 117, 101]).trans (by decide)
 have q2 : (S [123, 125] == ByteArray.mk #[102, 97, 108, 115, 101]) = false := (S_beq [123, 125] [102, 97, 108, 115, 101]).trans (by decide)
 have q3 : (S [123, 125] == ByteArray.mk #[91, 93]) = false := (S_beq [123, 125] [91, 93]).trans (by decide)
 have q4 : (S [123, 125] == ByteArray.mk #[123, 125]) = true := (S_beq [123, 125] [123, 125]).trans (by decide)
 go_enter Tryz.func52, Tryz.ntmps52
 go_upto_region 2 with fail
 generalize (w.alloc (.cells #[.int .i64 0, .int .i64 0, .string ⟨#[]⟩, .slice none 0 0, .slice none 0 0] 26)).alloc (.cells #[.int .i64 0, .int .i64 0, .string ⟨#[]⟩, .slice none 0 0, .slice none 0 0] 26) = W at h2 ⊢
 have z0 := h2.1.cell 0
 have y0 := h2.1.frozen 0
 have k0 := h2.2.1.cell 0
 have f0 := h2.2.1.frozen 0
 have z1 := h2.1.cell 1
 have y1 := h2.1.frozen 1
 have k1 := h2.2.1.cell 1
 have f1 := h2.2.1.frozen 1
 have z2 := h2.1.cell 2
 have y2 := h2.1.frozen 2
 have k2 := h2.2.1.cell 2
 have f2 := h2.2.1.frozen 2
 have z3 := h2.1.cell 3
 have y3 := h2.1.frozen 3
 have k3 := h2.2.1.cell 3
 have f3 := h2.2.1.frozen 3
 have z4 := h2.1.cell 4
 have y4 := h2.1.frozen 4
 have k4 := h2.2.1.cell 4
 have f4 := h2.2.1.frozen 4
 simp at z0 z1 z2 z3 z4 k0 k1 k2 k3 k4
 have hzl := h2.1.lt
 have hkl := h2.2.1.lt
 have HB := Lib.hid h2.2.2
 clear h2
 go_wp2_with fail
 refine bodyPost_ret (v := .tuple #[.agg #[.int .i64 6, .int .i64 0, .string ⟨#[]⟩, .slice none 0 0, .slice none 0 0], .bool true]) (by simp [results, Tryz.results52, go_sem, z0, z1, z2, z3, z4, y0, y1, y2, y3, y4, hzl]) rfl ?_
 refine ⟨6, 0, [], rfl, fun d h => by injection h with h; exact h.symm, ?_⟩
 have hbw := HB.out
 go_grown
 all_goals exact hbw
def SclB (w : World) (W : World) (x : List UInt8) (e p : Nat) (f : Nat) : Prop :=
 Blk W (w.heap.size + 1) #[.int .i64 4, .int .i64 0, .string (S x), .slice none 0 0, .slice none 0 0] 26 ∧ Blk W f #[.int .i64 (e : Int), .int .i64 (p : Int)] 29 ∧ Blk W w.heap.size #[.int .i64 0, .int .i64 0, .string ⟨#[]⟩, .slice none 0 0, .slice none 0 0] 26 ∧ Below w.heap.size w W
theorem SclB.below {w W W' : World} {x : List UInt8} {e p f : Nat} (h : SclB w W x e p f) (hb : Below W.heap.size W W') : SclB w W' x e p f := ⟨h.1.below hb, h.2.1.below hb, h.2.2.1.below hb, h.2.2.2.trans (hb.mono h.2.2.2.size)⟩
theorem SclB.facts {w W : World} {x : List UInt8} {e p f : Nat} (h : SclB w W x e p f) :
   (W.cell? ⟨w.heap.size + 1, 0, none⟩ = some (.int .i64 4) ∧ W.cell? ⟨w.heap.size + 1, 1, none⟩ = some (.int .i64 0) ∧ W.cell? ⟨w.heap.size + 1, 2, none⟩ = some (.string (S x)) ∧ W.cell? ⟨w.heap.size + 1, 3, none⟩ = some (.slice none 0 0) ∧ W.cell? ⟨w.heap.size + 1, 4, none⟩ = some (.slice none 0 0)) ∧
   W.cell? ⟨f, 0, none⟩ = some (.int .i64 (e : Int)) ∧
   (W.cell? ⟨w.heap.size, 0, none⟩ = some (.int .i64 0) ∧ W.cell? ⟨w.heap.size, 1, none⟩ = some (.int .i64 0) ∧ W.cell? ⟨w.heap.size, 2, none⟩ = some (.string ⟨#[]⟩) ∧ W.cell? ⟨w.heap.size, 3, none⟩ = some (.slice none 0 0) ∧ W.cell? ⟨w.heap.size, 4, none⟩ = some (.slice none 0 0)) ∧
   (W.frozen? ⟨w.heap.size, 0, none⟩ = false ∧ W.frozen? ⟨w.heap.size, 1, none⟩ = false ∧ W.frozen? ⟨w.heap.size, 2, none⟩ = false ∧ W.frozen? ⟨w.heap.size, 3, none⟩ = false ∧ W.frozen? ⟨w.heap.size, 4, none⟩ = false) ∧ w.heap.size < W.heap.size :=
 ⟨⟨h.1.cell 0, h.1.cell 1, h.1.cell 2, h.1.cell 3, h.1.cell 4⟩, h.2.1.cell 0, ⟨h.2.2.1.cell 0, h.2.2.1.cell 1, h.2.2.1.cell 2, h.2.2.1.cell 3, h.2.2.1.cell 4⟩, ⟨h.2.2.1.frozen 0, h.2.2.1.frozen 1, h.2.2.1.frozen 2, h.2.2.1.frozen 3, h.2.2.1.frozen 4⟩, h.2.2.1.lt⟩
set_option maxRecDepth 100000 in
set_option maxHeartbeats 8000000 in
theorem scalar_rest (l : List UInt8) (hl : l.length ≤ 1000000) (w : World) (hE : StOk w) (h0 : l ≠ [110, 117, 108, 108]) (h1 : l ≠ [116, 114, 117, 101]) (h2 : l ≠ [102, 97, 108, 115, 101]) (h3 : l ≠ [91, 93]) (h4 : l ≠ [123, 125]) :
   Calls Tryz.prog 52 #[.string (S l)] w (ScaP w (scalarP l)) := by
 have q0 : (l == [110, 117, 108, 108]) = false := beq_eq_false_iff_ne.2 h0
 have q1 : (l == [116, 114, 117, 101]) = false := beq_eq_false_iff_ne.2 h1
 have q2 : (l == [102, 97, 108, 115, 101]) = false := beq_eq_false_iff_ne.2 h2
 have q3 : (l == [91, 93]) = false := beq_eq_false_iff_ne.2 h3
 have q4 : (l == [123, 125]) = false := beq_eq_false_iff_ne.2 h4
 have HSC := Lib.hid (show scalarP l = if (parseI l).2 = 0 then some (.mk 3 (parseI l).1 [] [] []) else if (unqL l).2.1 = 0 ∧ quoteL (unqL l).1 = l then some (.mk 4 0 (unqL l).1 [] []) else none by
   unfold scalarP; rw [if_neg h0, if_neg h1, if_neg h2, if_neg h3, if_neg h4])
 generalize scalarP l = r at HSC ⊢
 have HE := Lib.hid hE
 have HUL := Lib.hid (unq_len l)
 clear h0 h1 h2 h3 h4 hE
 have h2 := two_new w #[.int .i64 0, .int .i64 0, .string ⟨#[]⟩, .slice none 0 0, .slice none 0 0] #[.int .i64 0, .int .i64 0, .string ⟨#[]⟩, .slice none 0 0, .slice none 0 0] 26 26
 go_enter Tryz.func52, Tryz.ntmps52
 go_upto_region 2 with fail
 generalize (w.alloc (.cells #[.int .i64 0, .int .i64 0, .string ⟨#[]⟩, .slice none 0 0, .slice none 0 0] 26)).alloc (.cells #[.int .i64 0, .int .i64 0, .string ⟨#[]⟩, .slice none 0 0, .slice none 0 0] 26) = W at h2 ⊢
 have H2 := Lib.hid h2
 clear h2
 go_wp2_with fail
 refine (fxParse_any l _ hl (HE.out.num.below H2.out.2.2)).mono ?_
 rintro e w1 ⟨rfl, hb⟩
 have h2 : Blk w1 w.heap.size #[.int .i64 0, .int .i64 0, .string ⟨#[]⟩, .slice none 0 0, .slice none 0 0] 26 ∧ Blk w1 (w.heap.size + 1) #[.int .i64 0, .int .i64 0, .string ⟨#[]⟩, .slice none 0 0, .slice none 0 0] 26 ∧ Below w.heap.size w w1 := ⟨H2.out.1.below hb, H2.out.2.1.below hb, H2.out.2.2.trans (hb.mono H2.out.2.2.size)⟩
 have HB := Lib.hid h2.2.2
 have H3 := Lib.hid h2
 simp only [pr]
 generalize hpi : parseI l = pi at HSC
 obtain ⟨u, pe⟩ := pi
 simp only at HSC ⊢
 clear hpi hb H2 q0 q1 q2 q3 q4
 by_cases hpe : pe = 0
 · have HR := Lib.hid (show r = some (.mk 3 u [] [] []) by rw [HSC.out, if_pos hpe])
   subst hpe
   have z0 := h2.1.cell 0
   have y0 := h2.1.frozen 0
   have k0 := h2.2.1.cell 0
   have f0 := h2.2.1.frozen 0
   have z1 := h2.1.cell 1
   have y1 := h2.1.frozen 1
   have k1 := h2.2.1.cell 1
   have f1 := h2.2.1.frozen 1
   have z2 := h2.1.cell 2
   have y2 := h2.1.frozen 2
   have k2 := h2.2.1.cell 2
   have f2 := h2.2.1.frozen 2
   have z3 := h2.1.cell 3
   have y3 := h2.1.frozen 3
   have k3 := h2.2.1.cell 3
   have f3 := h2.2.1.frozen 3
   have z4 := h2.1.cell 4
   have y4 := h2.1.frozen 4
   have k4 := h2.2.1.cell 4
   have f4 := h2.2.1.frozen 4
   simp at z0 z1 z2 z3 z4 k0 k1 k2 k3 k4
   have hzl := h2.1.lt
   clear h2
   go_wp2_with fail
   refine bodyPost_ret (v := .tuple #[.agg #[.int .i64 3, .int .i64 u, .string ⟨#[]⟩, .slice none 0 0, .slice none 0 0], .bool true]) (by simp [results, Tryz.results52, go_sem, z0, z1, z2, z3, z4, y0, y1, y2, y3, y4, hzl]) rfl ?_
   rw [HR.out]
   refine ⟨3, u, [], rfl, fun d h => by injection h with h; exact h.symm, ?_⟩
   have hbw := HB.out
   go_grown
   all_goals exact hbw
 · have HS2 := Lib.hid (show r = if (unqL l).2.1 = 0 ∧ quoteL (unqL l).1 = l then some (.mk 4 0 (unqL l).1 [] []) else none by rw [HSC.out, if_neg hpe])
   have a1 : (pe == 0) = false := by rw [beq_eq_false_iff_ne]; exact hpe
   clear h2 HSC
   go_wp2_with fail
   refine (Unquote_any l hl _ (HE.out.err.below HB.out)).mono ?_
   rintro e w2 ⟨rfl, hb⟩
   have h2 : Blk w2 w.heap.size #[.int .i64 0, .int .i64 0, .string ⟨#[]⟩, .slice none 0 0, .slice none 0 0] 26 ∧ Blk w2 (w.heap.size + 1) #[.int .i64 0, .int .i64 0, .string ⟨#[]⟩, .slice none 0 0, .slice none 0 0] 26 ∧ Below w.heap.size w w2 := ⟨H3.out.1.below hb, H3.out.2.1.below hb, H3.out.2.2.trans (hb.mono H3.out.2.2.size)⟩
   simp only [uqVal]
   generalize unqL l = uq at HS2 HUL
   obtain ⟨x, en, ep⟩ := uq
   simp only at HS2 HUL ⊢
   have hxl : x.length ≤ 1000000 := Nat.le_trans HUL.out hl
   have hF := Blk.new w2 #[.int .i64 (en : Int), .int .i64 (ep : Int)] 29
   have hA := h2.1.alloc (.cells #[.int .i64 (en : Int), .int .i64 (ep : Int)] 29)
   have hD := h2.2.1.alloc (.cells #[.int .i64 (en : Int), .int .i64 (ep : Int)] 29)
   have hB4 := h2.2.2.alloc h2.2.2.size (.cells #[.int .i64 (en : Int), .int .i64 (ep : Int)] 29)
   have hw2 : w.heap.size + 1 < w2.heap.size := h2.2.1.lt
   clear hb h2 H3 a1 hpe HB
   go_upto_region 7 with fail
   generalize w2.alloc (.cells #[.int .i64 (en : Int), .int .i64 (ep : Int)] 29) = W4 at hF hA hD hB4 ⊢
   have HF := Lib.hid hF
   have HA := Lib.hid hA
   have HD := Lib.hid hD
   have HB4 := Lib.hid hB4
   clear hF hA hD hB4
   go_cut [7] (fun xx wx => xx = .string (S x) ∧ Hid (SclB w wx x en ep w2.heap.size))
   case first =>
     have k0 := HD.out.cell 0
     have k1 := HD.out.cell 1
     have k2 := HD.out.cell 2
     have k3 := HD.out.cell 3
     have k4 := HD.out.cell 4
     have y0 := HD.out.frozen 0
     have y1 := HD.out.frozen 1
     have y2 := HD.out.frozen 2
     have y3 := HD.out.frozen 3
     have y4 := HD.out.frozen 4
     simp at k0 k1 k2 k3 k4
     have hkl := HD.out.lt
     go_wp2_with fail
     go_meet
     refine ⟨rfl, Lib.hid ⟨((((HD.out.set 0 _).set 1 _).set 2 _).set 3 _).set 4 _, ((((HF.out.set_other 0 _ (by omega)).set_other 1 _ (by omega)).set_other 2 _ (by omega)).set_other 3 _ (by omega)).set_other 4 _ (by omega), ((((HA.out.set_other 0 _ (by omega)).set_other 1 _ (by omega)).set_other 2 _ (by omega)).set_other 3 _ (by omega)).set_other 4 _ (by omega), ?_⟩⟩
     have hbw := HB4.out
     go_grown
     all_goals exact hbw
   case rest =>
     obtain ⟨rfl, HC⟩ := hcut
     clear HF HA HD HB4
     obtain ⟨⟨k0, k1, k2, k3, k4⟩, g0, ⟨z0, z1, z2, z3, z4⟩, ⟨y0, y1, y2, y3, y4⟩, hzl⟩ := HC.out.facts
     have HC0 := Lib.hid (HC.out.below (below_drew (Below.refl wc.heap.size wc)))
     have hun : undef = Value.tuple #[] := rfl
     go_upto_region 8 with fail
     by_cases hen : en = 0
     · subst hen
       have g1 : wc.cell? ⟨w2.heap.size, 0, none⟩ = some (.int .i64 0) := g0
       clear g0
       rcases Bool.eq_false_or_eq_true (decide (quoteL x = l)) with hq | hq
       · have HR := Lib.hid (show r = some (.mk 4 0 x [] []) by rw [HS2.out, if_pos ⟨rfl, of_decide_eq_true hq⟩])
         have hb : (quoteL x == l) = true := by rw [beq_iff_eq]; exact of_decide_eq_true hq
         clear hq
         first
           | go_region_with (first
               | (go_at_call 94; refine (quote_any x hxl _).mono ?_; rintro e w9 ⟨rfl, hb9⟩; have HC1 := Lib.hid (HC0.out.below hb9); obtain ⟨⟨k0, k1, k2, k3, k4⟩, g0, ⟨z0, z1, z2, z3, z4⟩, ⟨y0, y1, y2, y3, y4⟩, hzl⟩ := HC1.out.facts; clear hb9))
           | fail
         all_goals
           go_wp2_with fail
           refine bodyPost_ret (v := .tuple #[.agg #[.int .i64 4, .int .i64 0, .string (S x), .slice none 0 0, .slice none 0 0], .bool true]) (by simp [results, Tryz.results52, go_sem, z0, z1, z2, z3, z4, y0, y1, y2, y3, y4, hzl]) rfl ?_
           rw [HR.out]
           refine ⟨4, 0, x, rfl, fun d h => by injection h with h; exact h.symm, ?_⟩
           have hbw := HC1.out.2.2.2
           go_grown
           all_goals exact hbw
       · have HR := Lib.hid (show r = none by rw [HS2.out, if_neg (fun h => (of_decide_eq_false hq) h.2)])
         have hb : (quoteL x == l) = false := by rw [beq_eq_false_iff_ne]; exact of_decide_eq_false hq
         clear hq
         first
           | go_region_with (first
               | (go_at_call 94; refine (quote_any x hxl _).mono ?_; rintro e w9 ⟨rfl, hb9⟩; have HC1 := Lib.hid (HC0.out.below hb9); obtain ⟨⟨k0, k1, k2, k3, k4⟩, g0, ⟨z0, z1, z2, z3, z4⟩, ⟨y0, y1, y2, y3, y4⟩, hzl⟩ := HC1.out.facts; clear hb9))
           | fail
         all_goals
           go_wp2_with fail
           refine bodyPost_ret (v := .tuple #[.agg #[.int .i64 4, .int .i64 0, .string (S x), .slice none 0 0, .slice none 0 0], .bool false]) (by simp [results, Tryz.results52, go_sem, z0, z1, z2, z3, z4, y0, y1, y2, y3, y4, hzl]) rfl ?_
           rw [HR.out]
           refine ⟨4, 0, x, rfl, (fun d h => nomatch h), ?_⟩
           have hbw := HC1.out.2.2.2
           go_grown
           all_goals exact hbw
     · have HR := Lib.hid (show r = none by rw [HS2.out, if_neg (fun h => hen h.1)])
       have a1 : ((en : Int) == 0) = false := by rw [beq_eq_false_iff_ne]; omega
       have a2 : ¬ ((en : Int) = 0) := by omega
       clear hen
       first
         | go_region_with (fail)
         | fail
       all_goals
         go_wp2_with fail
         refine bodyPost_ret (v := .tuple #[.agg #[.int .i64 4, .int .i64 0, .string (S x), .slice none 0 0, .slice none 0 0], .bool false]) (by simp [results, Tryz.results52, go_sem, z0, z1, z2, z3, z4, y0, y1, y2, y3, y4, hzl]) rfl ?_
         rw [HR.out]
         refine ⟨4, 0, x, rfl, (fun d h => nomatch h), ?_⟩
         have hbw := HC.out.2.2.2
         go_grown
         all_goals exact hbw
theorem scalar_any (l : List UInt8) (hl : l.length ≤ 1000000) (w : World) (hE : StOk w) : Calls Tryz.prog 52 #[.string (S l)] w (ScaP w (scalarP l)) := by
 by_cases h0 : l = [110, 117, 108, 108]
 · subst h0; exact scalar_10 w
 by_cases h1 : l = [116, 114, 117, 101]
 · subst h1; exact scalar_21 w
 by_cases h2 : l = [102, 97, 108, 115, 101]
 · subst h2; exact scalar_20 w
 by_cases h3 : l = [91, 93]
 · subst h3; exact scalar_50 w
 by_cases h4 : l = [123, 125]
 · subst h4; exact scalar_60 w
 exact scalar_rest l hl w hE h0 h1 h2 h3 h4
end Go.Proofs.YtoahmganodehkaaGreatDoor
