import Derived.Deep.RegionWith
import Derived.Test.YtdalfkklkeblaaaGreatDoorN04
import Derived.Test.YtdalfkklkeblaaaGreatDoorN01
import Derived.Test.YtdalfkklkeblaaaGreatDoorN15
namespace Go.Proofs.YtdalfkklkeblaaaGreatDoor
set_option linter.unusedSimpArgs false
set_option linter.unusedVariables false
open Go.RowKit
theorem S_eqb (a b : List UInt8) : (S a == S b) = decide (a = b) := by
 show (a.toArray == b.toArray) = _
 by_cases h : a = b
 · subst h; simp
 · rw [decide_eq_false h, beq_eq_false_iff_ne]; simpa using h
structure StOk (w : World) : Prop where
 num : NumOk w
 err : ErrOk w
theorem StOk.below {w w' : World} (h : StOk w) (hb : Below w.heap.size w w') : StOk w' := ⟨h.num.below hb, h.err.below hb⟩
def ValP (w : World) (r : Option Dat) (e : Ending) (w' : World) : Prop :=
 ∃ k n s, e = .returned (.tuple #[.agg #[.int .i64 k, .int .i64 n, .string (S s), .slice none 0 0, .slice none 0 0], .bool r.isSome]) ∧ (∀ d, r = some d → d = .mk k n s [] []) ∧ Below w.heap.size w w'
theorem val_two (w : World) (c1 c2 : Array Value) (t1 t2 : TypeId) : Blk ((w.alloc (.cells c1 t1)).alloc (.cells c2 t2)) w.heap.size c1 t1 ∧ Blk ((w.alloc (.cells c1 t1)).alloc (.cells c2 t2)) (w.heap.size + 1) c2 t2 ∧ Below w.heap.size w ((w.alloc (.cells c1 t1)).alloc (.cells c2 t2)) := by
 refine ⟨(Blk.new w c1 t1).alloc _, ?_, ((Below.refl _ w).alloc (Nat.le_refl _) _).alloc (by simp) _⟩
 have := Blk.new (w.alloc (.cells c1 t1)) c2 t2
 rwa [show (w.alloc (.cells c1 t1)).heap.size = w.heap.size + 1 by simp] at this
set_option maxRecDepth 100000 in
set_option maxHeartbeats 4000000 in
theorem value_0 (w : World) : Calls Tryz.prog 62 #[.string (S [])] w (ValP w none) := by
 have h2 := val_two w #[.int .i64 0, .int .i64 0, .string ⟨#[]⟩, .slice none 0 0, .slice none 0 0] #[.int .i64 4, .int .i64 0, .string (S []), .slice none 0 0, .slice none 0 0] 25 25
 have q0 : (S [] == ByteArray.mk #[]) = true := (S_eqb [] []).trans (by decide)
 have q1 : (S [] == ByteArray.mk #[110, 117, 108, 108]) = false := (S_eqb [] [110, 117, 108, 108]).trans (by decide)
 have q2 : (S [] == ByteArray.mk #[116, 114, 117, 101]) = false := (S_eqb [] [116, 114, 117, 101]).trans (by decide)
 have q3 : (S [] == ByteArray.mk #[102, 97, 108, 115, 101]) = false := (S_eqb [] [102, 97, 108, 115, 101]).trans (by decide)
 have q4 : (S [] == ByteArray.mk #[91, 93]) = false := (S_eqb [] [91, 93]).trans (by decide)
 have q5 : (S [] == ByteArray.mk #[123, 125]) = false := (S_eqb [] [123, 125]).trans (by decide)
 go_enter Tryz.func62, Tryz.ntmps62
 go_upto_region 2 with fail
 generalize (w.alloc (.cells #[.int .i64 0, .int .i64 0, .string ⟨#[]⟩, .slice none 0 0, .slice none 0 0] 25)).alloc (.cells #[.int .i64 4, .int .i64 0, .string (S []), .slice none 0 0, .slice none 0 0] 25) = W at h2 ⊢
 have z0 := h2.1.cell 0
 have y0 := h2.1.frozen 0
 have k0 := h2.2.1.cell 0
 have f0 := h2.2.1.frozen 0
 have z1 := h2.1.cell 1
 have y1 := h2.1.frozen 1
 have k1 := h2.2.1.cell 1
 have f1 := h2.2.1.frozen 1
 have z2 := h2.1.cell 2
 have y2 := h2.1.frozen 2
 have k2 := h2.2.1.cell 2
 have f2 := h2.2.1.frozen 2
 have z3 := h2.1.cell 3
 have y3 := h2.1.frozen 3
 have k3 := h2.2.1.cell 3
 have f3 := h2.2.1.frozen 3
 have z4 := h2.1.cell 4
 have y4 := h2.1.frozen 4
 have k4 := h2.2.1.cell 4
 have f4 := h2.2.1.frozen 4
 simp at z0 z1 z2 z3 z4 k0 k1 k2 k3 k4
 have hzl := h2.1.lt
 have hkl := h2.2.1.lt
 have HB := Lib.hid h2.2.2
 clear h2
 go_wp2_with fail
 refine bodyPost_ret (v := .tuple #[.agg #[.int .i64 4, .int .i64 0, .string (S []), .slice none 0 0, .slice none 0 0], .bool false]) (by simp [results, Tryz.results62, go_sem, z0, z1, z2, z3, z4, y0, y1, y2, y3, y4, hzl]) rfl ?_
 refine ⟨4, 0, [], rfl, (fun d h => nomatch h), ?_⟩
 have hbw := HB.out
 go_grown
 all_goals exact hbw
set_option maxRecDepth 100000 in
set_option maxHeartbeats 4000000 in
theorem value_1 (w : World) : Calls Tryz.prog 62 #[.string (S [110, 117, 108, 108])] w (ValP w (some (.mk 1 0 [] [] []))) := by
 have h2 := val_two w #[.int .i64 0, .int .i64 0, .string ⟨#[]⟩, .slice none 0 0, .slice none 0 0] #[.int .i64 4, .int .i64 0, .string (S [110, 117, 108, 108]), .slice none 0 0, .slice none 0 0] 25 25
 have q0 : (S [110, 117, 108, 108] == ByteArray.mk #[]) = false := (S_eqb [110, 117, 108, 108] []).trans (by decide)
 have q1 : (S [110, 117, 108, 108] == ByteArray.mk #[110, 117, 108, 108]) = true := (S_eqb [110, 117, 108, 108] [110, 117, 108, 108]).trans (by decide)
 have q2 : (S [110, 117, 108, 108] == ByteArray.mk #[116, 114, 117, 101]) = false := (S_eqb [110, 117, 108, 108] [116, 114, 117, 101]).trans (by decide)
 have q3 : (S [110, 117, 108, 108] == ByteArray.mk #[102, 97, 108, 115, 101]) = false := (S_eqb [110, 117, 108, 108] [102, 97, 108, 115, 101]).trans (by decide)
 have q4 : (S [110, 117, 108, 108] == ByteArray.mk #[91, 93]) = false := (S_eqb [110, 117, 108, 108] [91, 93]).trans (by decide)
 have q5 : (S [110, 117, 108, 108] == ByteArray.mk #[123, 125]) = false := (S_eqb [110, 117, 108, 108] [123, 125]).trans (by decide)
 go_enter Tryz.func62, Tryz.ntmps62
 go_upto_region 2 with fail
 generalize (w.alloc (.cells #[.int .i64 0, .int .i64 0, .string ⟨#[]⟩, .slice none 0 0, .slice none 0 0] 25)).alloc (.cells #[.int .i64 4, .int .i64 0, .string (S [110, 117, 108, 108]), .slice none 0 0, .slice none 0 0] 25) = W at h2 ⊢
 have z0 := h2.1.cell 0
 have y0 := h2.1.frozen 0
 have k0 := h2.2.1.cell 0
 have f0 := h2.2.1.frozen 0
 have z1 := h2.1.cell 1
 have y1 := h2.1.frozen 1
 have k1 := h2.2.1.cell 1
 have f1 := h2.2.1.frozen 1
 have z2 := h2.1.cell 2
 have y2 := h2.1.frozen 2
 have k2 := h2.2.1.cell 2
 have f2 := h2.2.1.frozen 2
 have z3 := h2.1.cell 3
 have y3 := h2.1.frozen 3
 have k3 := h2.2.1.cell 3
 have f3 := h2.2.1.frozen 3
 have z4 := h2.1.cell 4
 have y4 := h2.1.frozen 4
 have k4 := h2.2.1.cell 4
 have f4 := h2.2.1.frozen 4
 simp at z0 z1 z2 z3 z4 k0 k1 k2 k3 k4
 have hzl := h2.1.lt
 have hkl := h2.2.1.lt
 have HB := Lib.hid h2.2.2
 clear h2
 go_wp2_with fail
 refine bodyPost_ret (v := .tuple #[.agg #[.int .i64 1, .int .i64 0, .string ⟨#[]⟩, .slice none 0 0, .slice none 0 0], .bool true]) (by simp [results, Tryz.results62, go_sem, z0, z1, z2, z3, z4, y0, y1, y2, y3, y4, hzl]) rfl ?_
 refine ⟨1, 0, [], rfl, fun d h => by injection h with h; exact h.symm, ?_⟩
 have hbw := HB.out
 go_grown
 all_goals exact hbw
set_option maxRecDepth 100000 in
set_option maxHeartbeats 4000000 in
theorem value_2 (w : World) : Calls Tryz.prog 62 #[.string (S [116, 114, 117, 101])] w (ValP w (some (.mk 2 1 [] [] []))) := by
 have h2 := val_two w #[.int .i64 0, .int .i64 0, .string ⟨#[]⟩, .slice none 0 0, .slice none 0 0] #[.int .i64 4, .int .i64 0, .string (S [116, 114, 117, 101]), .slice none 0 0, .slice none 0 0] 25 25
 have q0 : (S [116, 114, 117, 101] == ByteArray.mk #[]) = false := (S_eqb [116, 114, 117, 101] []).trans (by decide)
 have q1 : (S [116, 114, 117, 101] == ByteArray.mk #[110, 117, 108, 108]) = false := (S_eqb [116, 114, 117, 101] [110, 117, 108, 108]).trans (by decide)
 have q2 : (S [116, 114, 117, 101] == ByteArray.mk #[116, 114, 117, 101]) = true := (S_eqb [116, 114, 117, 101] [116, 114, 117, 101]).trans (by decide)
 have q3 : (S [116, 114, 117, 101] == ByteArray.mk #[102, 97, 108, 115, 101]) = false := (S_eqb [116, 114, 117, 101] [102, 97, 108, 115, 101]).trans (by decide)
 have q4 : (S [116, 114, 117, 101] == ByteArray.mk #[91, 93]) = false := (S_eqb [116, 114, 117, 101] [91, 93]).trans (by decide)
 have q5 : (S [116, 114, 117, 101] == ByteArray.mk #[123, 125]) = false := (S_eqb [116, 114, 117, 101] [123, 125]).trans (by decide)
 go_enter Tryz.func62, Tryz.ntmps62
 go_upto_region 2 with fail
 generalize (w.alloc (.cells #[.int .i64 0, .int .i64 0, .string ⟨#[]⟩, .slice none 0 0, .slice none 0 0] 25)).alloc (.cells #[.int .i64 4, .int .i64 0, .string (S [116, 114, 117, 101]), .slice none 0 0, .slice none 0 0] 25) = W at h2 ⊢
 have z0 := h2.1.cell 0
 have y0 := h2.1.frozen 0
 have k0 := h2.2.1.cell 0
 have f0 := h2.2.1.frozen 0
 have z1 := h2.1.cell 1
 have y1 := h2.1.frozen 1
 have k1 := h2.2.1.cell 1
 have f1 := h2.2.1.frozen 1
 have z2 := h2.1.cell 2
 have y2 := h2.1.frozen 2
 have k2 := h2.2.1.cell 2
 have f2 := h2.2.1.frozen 2
 have z3 := h2.1.cell 3
 have y3 := h2.1.frozen 3
 have k3 := h2.2.1.cell 3
 have f3 := h2.2.1.frozen 3
 have z4 := h2.1.cell 4
 have y4 := h2.1.frozen 4
 have k4 := h2.2.1.cell 4
 have f4 := h2.2.1.frozen 4
 simp at z0 z1 z2 z3 z4 k0 k1 k2 k3 k4
 have hzl := h2.1.lt
 have hkl := h2.2.1.lt
 have HB := Lib.hid h2.2.2
 clear h2
 go_wp2_with fail
 refine bodyPost_ret (v := .tuple #[.agg #[.int .i64 2, .int .i64 1, .string ⟨#[]⟩, .slice none 0 0, .slice none 0 0], .bool true]) (by simp [results, Tryz.results62, go_sem, z0, z1, z2, z3, z4, y0, y1, y2, y3, y4, hzl]) rfl ?_
 refine ⟨2, 1, [], rfl, fun d h => by injection h with h; exact h.symm, ?_⟩
 have hbw := HB.out
 go_grown
 all_goals exact hbw
set_option maxRecDepth 100000 in
set_option maxHeartbeats 4000000 in
theorem value_3 (w : World) : Calls Tryz.prog 62 #[.string (S [102, 97, 108, 115, 101])] w (ValP w (some (.mk 2 0 [] [] []))) := by
 have h2 := val_two w #[.int .i64 0, .int .i64 0, .string ⟨#[]⟩, .slice none 0 0, .slice none 0 0] #[.int .i64 4, .int .i64 0, .string (S [102, 97, 108, 115, 101]), .slice none 0 0, .slice none 0 0] 25 25
 have q0 : (S [102, 97, 108, 115, 101] == ByteArray.mk #[]) = false := (S_eqb [102, 97, 108, 115, 101] []).trans (by decide)
 have q1 : (S [102, 97, 108, 115, 101] == ByteArray.mk #[110, 117, 108, 108]) = false := (S_eqb [102, 97, 108, 115, 101] [110, 117, 108, 108]).trans (by decide)
 have q2 : (S [102, 97, 108, 115, 101] == ByteArray.mk #[116, 114, 117, 101]) = false := (S_eqb [102, 97, 108, 115, 101] [116, 114, 117, 101]).trans (by decide)
 have q3 : (S [102, 97, 108, 115, 101] == ByteArray.mk #[102, 97, 108, 115, 101]) = true := (S_eqb [102, 97, 108, 115, 101] [102, 97, 108, 115, 101]).trans (by decide)
 have q4 : (S [102, 97, 108, 115, 101] == ByteArray.mk #[91, 93]) = false := (S_eqb [102, 97, 108, 115, 101] [91, 93]).trans (by decide)
 have q5 : (S [102, 97, 108, 115, 101] == ByteArray.mk #[123, 125]) = false := (S_eqb [102, 97, 108, 115, 101] [123, 125]).trans (by decide)
 go_enter Tryz.func62, Tryz.ntmps62
 go_upto_region 2 with fail
 generalize (w.alloc (.cells #[.int .i64 0, .int .i64 0, .string ⟨#[]⟩, .slice none 0 0, .slice none 0 0] 25)).alloc (.cells #[.int .i64 4, .int .i64 0, .string (S [102, 97, 108, 115, 101]), .slice none 0 0, .slice none 0 0] 25) = W at h2 ⊢
 have z0 := h2.1.cell 0
 have y0 := h2.1.frozen 0
 have k0 := h2.2.1.cell 0
 have f0 := h2.2.1.frozen 0
 have z1 := h2.1.cell 1
 have y1 := h2.1.frozen 1
 have k1 := h2.2.1.cell 1
 have f1 := h2.2.1.frozen 1
 have z2 := h2.1.cell 2
 have y2 := h2.1.frozen 2
 have k2 := h2.2.1.cell 2
 have f2 := h2.2.1.frozen 2
 have z3 := h2.1.cell 3
 have y3 := h2.1.frozen 3
 have k3 := h2.2.1.cell 3
 have f3 := h2.2.1.frozen 3
 have z4 := h2.1.cell 4
 have y4 := h2.1.frozen 4
 have k4 := h2.2.1.cell 4
 have f4 := h2.2.1.frozen 4
 simp at z0 z1 z2 z3 z4 k0 k1 k2 k3 k4
 have hzl := h2.1.lt
 have hkl := h2.2.1.lt
 have HB := Lib.hid h2.2.2
 clear h2
 go_wp2_with fail
 refine bodyPost_ret (v := .tuple #[.agg #[.int .i64 2, .int .i64 0, .string ⟨#[]⟩, .slice none 0 0, .slice none 0 0], .bool true]) (by simp [results, Tryz.results62, go_sem, z0, z1, z2, z3, z4, y0, y1, y2, y3, y4, hzl]) rfl ?_
 refine ⟨2, 0, [], rfl, fun d h => by injection h with h; exact h.symm, ?_⟩
 have hbw := HB.out
 go_grown
 all_goals exact hbw
set_option maxRecDepth 100000 in
set_option maxHeartbeats 4000000 in
theorem value_4 (w : World) : Calls Tryz.prog 62 #[.string (S [91, 93])] w (ValP w (some (.mk 5 0 [] [] []))) := by
 have h2 := val_two w #[.int .i64 0, .int .i64 0, .string ⟨#[]⟩, .slice none 0 0, .slice none 0 0] #[.int .i64 4, .int .i64 0, .string (S [91, 93]), .slice none 0 0, .slice none 0 0] 25 25
 have q0 : (S [91, 93] == ByteArray.mk #[]) = false := (S_eqb [91, 93] []).trans (by decide)
 have q1 : (S [91, 93] == ByteArray.mk #[110, 117, 108, 108]) = false := (S_eqb [91, 93] [110, 117, 108, 108]).trans (by decide)
 have q2 : (S [91, 93] == ByteArray.mk #[116, 114, 117, 101]) = false := (S_eqb [91, 93] [116, 114, 117, 101]).trans (by decide)
 have q3 : (S [91, 93] == ByteArray.mk #[102, 97, 108, 115, 101]) = false := (S_eqb [91, 93] [102, 97, 108, 115, 101]).trans (by decide)
 have q4 : (S [91, 93] == ByteArray.mk #[91, 93]) = true := (S_eqb [91, 93] [91, 93]).trans (by decide)
 have q5 : (S [91, 93] == ByteArray.mk #[123, 125]) = false := (S_eqb [91, 93] [123, 125]).trans (by decide)
 go_enter Tryz.func62, Tryz.ntmps62
 go_upto_region 2 with fail
 generalize (w.alloc (.cells #[.int .i64 0, .int .i64 0, .string ⟨#[]⟩, .slice none 0 0, .slice none 0 0] 25)).alloc (.cells #[.int .i64 4, .int .i64 0, .string (S [91, 93]), .slice none 0 0, .slice none 0 0] 25) = W at h2 ⊢
 have z0 := h2.1.cell 0
 have y0 := h2.1.frozen 0
 have k0 := h2.2.1.cell 0
 have f0 := h2.2.1.frozen 0
 have z1 := h2.1.cell 1
 have y1 := h2.1.frozen 1
 have k1 := h2.2.1.cell 1
 have f1 := h2.2.1.frozen 1
 have z2 := h2.1.cell 2
 have y2 := h2.1.frozen 2
 have k2 := h2.2.1.cell 2
 have f2 := h2.2.1.frozen 2
 have z3 := h2.1.cell 3
 have y3 := h2.1.frozen 3
 have k3 := h2.2.1.cell 3
 have f3 := h2.2.1.frozen 3
 have z4 := h2.1.cell 4
 have y4 := h2.1.frozen 4
 have k4 := h2.2.1.cell 4
 have f4 := h2.2.1.frozen 4
 simp at z0 z1 z2 z3 z4 k0 k1 k2 k3 k4
 have hzl := h2.1.lt
 have hkl := h2.2.1.lt
 have HB := Lib.hid h2.2.2
 clear h2
 go_wp2_with fail
 refine bodyPost_ret (v := .tuple #[.agg #[.int .i64 5, .int .i64 0, .string ⟨#[]⟩, .slice none 0 0, .slice none 0 0], .bool true]) (by simp [results, Tryz.results62, go_sem, z0, z1, z2, z3, z4, y0, y1, y2, y3, y4, hzl]) rfl ?_
 refine ⟨5, 0, [], rfl, fun d h => by injection h with h; exact h.symm, ?_⟩
 have hbw := HB.out
 go_grown
 all_goals exact hbw
set_option maxRecDepth 100000 in
set_option maxHeartbeats 4000000 in
theorem value_5 (w : World) : Calls Tryz.prog 62 #[.string (S [123, 125])] w (ValP w (some (.mk 6 0 [] [] []))) := by
 have h2 := val_two w #[.int .i64 0, .int .i64 0, .string ⟨#[]⟩, .slice none 0 0, .slice none 0 0] #[.int .i64 4, .int .i64 0, .string (S [123, 125]), .slice none 0 0, .slice none 0 0] 25 25
 have q0 : (S [123, 125] == ByteArray.mk #[]) = false := (S_eqb [123, 125] []).trans (by decide)
 have q1 : (S [123, 125] == ByteArray.mk #[110, 117, 108, 108]) = false := (S_eqb [123, 125] [110, 117, 108, 108]).trans (by decide)
 have q2 : (S [123, 125] == ByteArray.mk #[116, 114, 117, 101]) = false := (S_eqb [123, 125] [116, 114, 117, 101]).trans (by decide)
 have q3 : (S [123, 125] == ByteArray.mk #[102, 97, 108, 115, 101]) = false := (S_eqb [123, 125] [102, 97, 108, 115, 101]).trans (by decide)
 have q4 : (S [123, 125] == ByteArray.mk #[91, 93]) = false := (S_eqb [123, 125] [91, 93]).trans (by decide)
 have q5 : (S [123, 125] == ByteArray.mk #[123, 125]) = true := (S_eqb [123, 125] [123, 125]).trans (by decide)
 go_enter Tryz.func62, Tryz.ntmps62
 go_upto_region 2 with fail
 generalize (w.alloc (.cells #[.int .i64 0, .int .i64 0, .string ⟨#[]⟩, .slice none 0 0, .slice none 0 0] 25)).alloc (.cells #[.int .i64 4, .int .i64 0, .string (S [123, 125]), .slice none 0 0, .slice none 0 0] 25) = W at h2 ⊢
 have z0 := h2.1.cell 0
 have y0 := h2.1.frozen 0
 have k0 := h2.2.1.cell 0
 have f0 := h2.2.1.frozen 0
 have z1 := h2.1.cell 1
 have y1 := h2.1.frozen 1
 have k1 := h2.2.1.cell 1
 have f1 := h2.2.1.frozen 1
 have z2 := h2.1.cell 2
 have y2 := h2.1.frozen 2
 have k2 := h2.2.1.cell 2
 have f2 := h2.2.1.frozen 2
 have z3 := h2.1.cell 3
 have y3 := h2.1.frozen 3
 have k3 := h2.2.1.cell 3
 have f3 := h2.2.1.frozen 3
 have z4 := h2.1.cell 4
 have y4 := h2.1.frozen 4
 have k4 := h2.2.1.cell 4
 have f4 := h2.2.1.frozen 4
 simp at z0 z1 z2 z3 z4 k0 k1 k2 k3 k4
 have hzl := h2.1.lt
 have hkl := h2.2.1.lt
 have HB := Lib.hid h2.2.2
 clear h2
 go_wp2_with fail
 refine bodyPost_ret (v := .tuple #[.agg #[.int .i64 6, .int .i64 0, .string ⟨#[]⟩, .slice none 0 0, .slice none 0 0], .bool true]) (by simp [results, Tryz.results62, go_sem, z0, z1, z2, z3, z4, y0, y1, y2, y3, y4, hzl]) rfl ?_
 refine ⟨6, 0, [], rfl, fun d h => by injection h with h; exact h.symm, ?_⟩
 have hbw := HB.out
 go_grown
 all_goals exact hbw
end Go.Proofs.YtdalfkklkeblaaaGreatDoor
