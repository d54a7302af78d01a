/- Walks of the versions: the specification's Next; both in one word. -/
import Derived.Test.YtppbbalojbedpaaDoorSemH
namespace Go.Proofs.YtppbbalojbedpaaDoor
open Go.RowKit

set_option maxHeartbeats 4000000 in
set_option maxRecDepth 100000 in
theorem refNext_0_z (b c : Int) (w : World) (hb : 0 ≤ b ∧ b ≤ 9999) (hc : 0 ≤ c ∧ c ≤ 9999) : Calls Tryd.prog 19 #[.agg #[.int .i64 0, .int .i64 b, .int .i64 c], .int .i64 0] w (OkV (nextV ⟨0, b, c⟩ 0) w) := by
  have hv : vldV ⟨0, b, c⟩ = true := vld_ok (by omega) (by omega) (by omega)
  have hst : stepV ⟨0, b, c⟩ (lowC ⟨0, b, c⟩ 0) = ⟨0, b, c + 1⟩ := by unfold stepV lowC; simp; try omega
  have HST := Lib.hid hst
  have HV := Lib.hid hv
  clear hst hv
  rcases bool_two (vldV ⟨0, b, c + 1⟩) with hu | hu
  · have HX := Lib.hid (next_range _ 0 _ HV.out (by omega) HST.out hu)
    have HU := Lib.hid hu
    clear hu
    go_enter Tryd.func19, Tryd.ntmps19
    go_wp2_with fail
    refine (refValid_any _ _ _ _).mono ?_
    rintro e w1 ⟨rfl, hb1⟩
    rw [HV.out]
    obtain ⟨bB, bR, hB, hs⟩ := blk_two _ _ _ _ _ hb1
    have hl0 : w.heap.size < w1.heap.size := by omega
    have hl1 : w.heap.size + 1 < w1.heap.size := by omega
    have r0 := bR.cell 0
    have r1 := bR.cell 1
    have r2 := bR.cell 2
    simp at r0 r1 r2
    have q0 := bR.frozen 0
    have q1 := bR.frozen 1
    have q2 := bR.frozen 2
    have x0 := bB.cell 0
    have x1 := bB.cell 1
    have x2 := bB.cell 2
    simp at x0 x1 x2
    have y0 := bB.frozen 0
    have y1 := bB.frozen 1
    have y2 := bB.frozen 2
    go_wp2_with fail
    refine (refValid_any _ _ _ _).mono ?_
    rintro e w2 ⟨rfl, hb2⟩
    rw [HU.out]
    obtain ⟨bO, hb2'⟩ := below_new hb2
    have bR2 := bR.below hb2'
    have hB2 := hB.trans (hb2'.mono hB.size)
    clear r0 r1 r2 q0 q1 q2 x0 x1 x2 y0 y1 y2 hb1 hb2
    have r0 := bR2.cell 0
    have r1 := bR2.cell 1
    have r2 := bR2.cell 2
    simp at r0 r1 r2
    have q0 := bR2.frozen 0
    have q1 := bR2.frozen 1
    have q2 := bR2.frozen 2
    have x0 := bO.cell 0
    have x1 := bO.cell 1
    have x2 := bO.cell 2
    simp at x0 x1 x2
    have y0 := bO.frozen 0
    have y1 := bO.frozen 1
    have y2 := bO.frozen 2
    go_wp2_with fail
    exact bodyPost_ret (v := .tuple #[.agg #[.int .i64 (0), .int .i64 (0), .int .i64 (0)], .int .i64 1]) (by simp [results, Tryd.results19, go_sem, r0, r1, r2]) rfl ⟨ret_vp (by rw [HX.out]; rfl), by go_grown⟩
  · have HX := Lib.hid (next_ok _ 0 _ HV.out (by omega) HST.out hu)
    have HU := Lib.hid hu
    clear hu
    go_enter Tryd.func19, Tryd.ntmps19
    go_wp2_with fail
    refine (refValid_any _ _ _ _).mono ?_
    rintro e w1 ⟨rfl, hb1⟩
    rw [HV.out]
    obtain ⟨bB, bR, hB, hs⟩ := blk_two _ _ _ _ _ hb1
    have hl0 : w.heap.size < w1.heap.size := by omega
    have hl1 : w.heap.size + 1 < w1.heap.size := by omega
    have r0 := bR.cell 0
    have r1 := bR.cell 1
    have r2 := bR.cell 2
    simp at r0 r1 r2
    have q0 := bR.frozen 0
    have q1 := bR.frozen 1
    have q2 := bR.frozen 2
    have x0 := bB.cell 0
    have x1 := bB.cell 1
    have x2 := bB.cell 2
    simp at x0 x1 x2
    have y0 := bB.frozen 0
    have y1 := bB.frozen 1
    have y2 := bB.frozen 2
    go_wp2_with fail
    refine (refValid_any _ _ _ _).mono ?_
    rintro e w2 ⟨rfl, hb2⟩
    rw [HU.out]
    obtain ⟨bO, hb2'⟩ := below_new hb2
    have bR2 := bR.below hb2'
    have hB2 := hB.trans (hb2'.mono hB.size)
    clear r0 r1 r2 q0 q1 q2 x0 x1 x2 y0 y1 y2 hb1 hb2
    have r0 := bR2.cell 0
    have r1 := bR2.cell 1
    have r2 := bR2.cell 2
    simp at r0 r1 r2
    have q0 := bR2.frozen 0
    have q1 := bR2.frozen 1
    have q2 := bR2.frozen 2
    have x0 := bO.cell 0
    have x1 := bO.cell 1
    have x2 := bO.cell 2
    simp at x0 x1 x2
    have y0 := bO.frozen 0
    have y1 := bO.frozen 1
    have y2 := bO.frozen 2
    go_wp2_with fail
    exact bodyPost_ret (v := .tuple #[.agg #[.int .i64 (0), .int .i64 (b), .int .i64 (c + 1)], .int .i64 0]) (by simp [results, Tryd.results19, go_sem, r0, r1, r2]) rfl ⟨ret_vp (by rw [HX.out]), by go_grown⟩
set_option maxHeartbeats 4000000 in
set_option maxRecDepth 100000 in
theorem refNext_0_n (a b c : Int) (ha0 : 1 ≤ a) (w : World) (hb : 0 ≤ b ∧ b ≤ 9999) (hc : 0 ≤ c ∧ c ≤ 9999) (ha : a ≤ 9999) : Calls Tryd.prog 19 #[.agg #[.int .i64 a, .int .i64 b, .int .i64 c], .int .i64 0] w (OkV (nextV ⟨a, b, c⟩ 0) w) := by
  have hv : vldV ⟨a, b, c⟩ = true := vld_ok (by omega) (by omega) (by omega)
  have hst : stepV ⟨a, b, c⟩ (lowC ⟨a, b, c⟩ 0) = ⟨a, b, c + 1⟩ := by unfold stepV lowC; have hne : ¬ a = 0 := (by omega); simp [hne]
  have HST := Lib.hid hst
  have HV := Lib.hid hv
  clear hst hv
  have haz : (a == 0) = false := by rw [beq_eq_false_iff_ne]; omega
  rcases bool_two (vldV ⟨a, b, c + 1⟩) with hu | hu
  · have HX := Lib.hid (next_range _ 0 _ HV.out (by omega) HST.out hu)
    have HU := Lib.hid hu
    clear hu
    go_enter Tryd.func19, Tryd.ntmps19
    go_wp2_with fail
    refine (refValid_any _ _ _ _).mono ?_
    rintro e w1 ⟨rfl, hb1⟩
    rw [HV.out]
    obtain ⟨bB, bR, hB, hs⟩ := blk_two _ _ _ _ _ hb1
    have hl0 : w.heap.size < w1.heap.size := by omega
    have hl1 : w.heap.size + 1 < w1.heap.size := by omega
    have r0 := bR.cell 0
    have r1 := bR.cell 1
    have r2 := bR.cell 2
    simp at r0 r1 r2
    have q0 := bR.frozen 0
    have q1 := bR.frozen 1
    have q2 := bR.frozen 2
    have x0 := bB.cell 0
    have x1 := bB.cell 1
    have x2 := bB.cell 2
    simp at x0 x1 x2
    have y0 := bB.frozen 0
    have y1 := bB.frozen 1
    have y2 := bB.frozen 2
    go_wp2_with fail
    refine (refValid_any _ _ _ _).mono ?_
    rintro e w2 ⟨rfl, hb2⟩
    rw [HU.out]
    obtain ⟨bO, hb2'⟩ := below_new hb2
    have bR2 := bR.below hb2'
    have hB2 := hB.trans (hb2'.mono hB.size)
    clear r0 r1 r2 q0 q1 q2 x0 x1 x2 y0 y1 y2 hb1 hb2
    have r0 := bR2.cell 0
    have r1 := bR2.cell 1
    have r2 := bR2.cell 2
    simp at r0 r1 r2
    have q0 := bR2.frozen 0
    have q1 := bR2.frozen 1
    have q2 := bR2.frozen 2
    have x0 := bO.cell 0
    have x1 := bO.cell 1
    have x2 := bO.cell 2
    simp at x0 x1 x2
    have y0 := bO.frozen 0
    have y1 := bO.frozen 1
    have y2 := bO.frozen 2
    go_wp2_with fail
    exact bodyPost_ret (v := .tuple #[.agg #[.int .i64 (0), .int .i64 (0), .int .i64 (0)], .int .i64 1]) (by simp [results, Tryd.results19, go_sem, r0, r1, r2]) rfl ⟨ret_vp (by rw [HX.out]; rfl), by go_grown⟩
  · have HX := Lib.hid (next_ok _ 0 _ HV.out (by omega) HST.out hu)
    have HU := Lib.hid hu
    clear hu
    go_enter Tryd.func19, Tryd.ntmps19
    go_wp2_with fail
    refine (refValid_any _ _ _ _).mono ?_
    rintro e w1 ⟨rfl, hb1⟩
    rw [HV.out]
    obtain ⟨bB, bR, hB, hs⟩ := blk_two _ _ _ _ _ hb1
    have hl0 : w.heap.size < w1.heap.size := by omega
    have hl1 : w.heap.size + 1 < w1.heap.size := by omega
    have r0 := bR.cell 0
    have r1 := bR.cell 1
    have r2 := bR.cell 2
    simp at r0 r1 r2
    have q0 := bR.frozen 0
    have q1 := bR.frozen 1
    have q2 := bR.frozen 2
    have x0 := bB.cell 0
    have x1 := bB.cell 1
    have x2 := bB.cell 2
    simp at x0 x1 x2
    have y0 := bB.frozen 0
    have y1 := bB.frozen 1
    have y2 := bB.frozen 2
    go_wp2_with fail
    refine (refValid_any _ _ _ _).mono ?_
    rintro e w2 ⟨rfl, hb2⟩
    rw [HU.out]
    obtain ⟨bO, hb2'⟩ := below_new hb2
    have bR2 := bR.below hb2'
    have hB2 := hB.trans (hb2'.mono hB.size)
    clear r0 r1 r2 q0 q1 q2 x0 x1 x2 y0 y1 y2 hb1 hb2
    have r0 := bR2.cell 0
    have r1 := bR2.cell 1
    have r2 := bR2.cell 2
    simp at r0 r1 r2
    have q0 := bR2.frozen 0
    have q1 := bR2.frozen 1
    have q2 := bR2.frozen 2
    have x0 := bO.cell 0
    have x1 := bO.cell 1
    have x2 := bO.cell 2
    simp at x0 x1 x2
    have y0 := bO.frozen 0
    have y1 := bO.frozen 1
    have y2 := bO.frozen 2
    go_wp2_with fail
    exact bodyPost_ret (v := .tuple #[.agg #[.int .i64 (a), .int .i64 (b), .int .i64 (c + 1)], .int .i64 0]) (by simp [results, Tryd.results19, go_sem, r0, r1, r2]) rfl ⟨ret_vp (by rw [HX.out]), by go_grown⟩
set_option maxHeartbeats 4000000 in
set_option maxRecDepth 100000 in
theorem refNext_1_z (b c : Int) (w : World) (hb : 0 ≤ b ∧ b ≤ 9999) (hc : 0 ≤ c ∧ c ≤ 9999) : Calls Tryd.prog 19 #[.agg #[.int .i64 0, .int .i64 b, .int .i64 c], .int .i64 1] w (OkV (nextV ⟨0, b, c⟩ 1) w) := by
  have hv : vldV ⟨0, b, c⟩ = true := vld_ok (by omega) (by omega) (by omega)
  have hst : stepV ⟨0, b, c⟩ (lowC ⟨0, b, c⟩ 1) = ⟨0, b, c + 1⟩ := by unfold stepV lowC; simp; try omega
  have HST := Lib.hid hst
  have HV := Lib.hid hv
  clear hst hv
  rcases bool_two (vldV ⟨0, b, c + 1⟩) with hu | hu
  · have HX := Lib.hid (next_range _ 1 _ HV.out (by omega) HST.out hu)
    have HU := Lib.hid hu
    clear hu
    go_enter Tryd.func19, Tryd.ntmps19
    go_wp2_with fail
    refine (refValid_any _ _ _ _).mono ?_
    rintro e w1 ⟨rfl, hb1⟩
    rw [HV.out]
    obtain ⟨bB, bR, hB, hs⟩ := blk_two _ _ _ _ _ hb1
    have hl0 : w.heap.size < w1.heap.size := by omega
    have hl1 : w.heap.size + 1 < w1.heap.size := by omega
    have r0 := bR.cell 0
    have r1 := bR.cell 1
    have r2 := bR.cell 2
    simp at r0 r1 r2
    have q0 := bR.frozen 0
    have q1 := bR.frozen 1
    have q2 := bR.frozen 2
    have x0 := bB.cell 0
    have x1 := bB.cell 1
    have x2 := bB.cell 2
    simp at x0 x1 x2
    have y0 := bB.frozen 0
    have y1 := bB.frozen 1
    have y2 := bB.frozen 2
    go_wp2_with fail
    refine (refValid_any _ _ _ _).mono ?_
    rintro e w2 ⟨rfl, hb2⟩
    rw [HU.out]
    obtain ⟨bO, hb2'⟩ := below_new hb2
    have bR2 := bR.below hb2'
    have hB2 := hB.trans (hb2'.mono hB.size)
    clear r0 r1 r2 q0 q1 q2 x0 x1 x2 y0 y1 y2 hb1 hb2
    have r0 := bR2.cell 0
    have r1 := bR2.cell 1
    have r2 := bR2.cell 2
    simp at r0 r1 r2
    have q0 := bR2.frozen 0
    have q1 := bR2.frozen 1
    have q2 := bR2.frozen 2
    have x0 := bO.cell 0
    have x1 := bO.cell 1
    have x2 := bO.cell 2
    simp at x0 x1 x2
    have y0 := bO.frozen 0
    have y1 := bO.frozen 1
    have y2 := bO.frozen 2
    go_wp2_with fail
    exact bodyPost_ret (v := .tuple #[.agg #[.int .i64 (0), .int .i64 (0), .int .i64 (0)], .int .i64 1]) (by simp [results, Tryd.results19, go_sem, r0, r1, r2]) rfl ⟨ret_vp (by rw [HX.out]; rfl), by go_grown⟩
  · have HX := Lib.hid (next_ok _ 1 _ HV.out (by omega) HST.out hu)
    have HU := Lib.hid hu
    clear hu
    go_enter Tryd.func19, Tryd.ntmps19
    go_wp2_with fail
    refine (refValid_any _ _ _ _).mono ?_
    rintro e w1 ⟨rfl, hb1⟩
    rw [HV.out]
    obtain ⟨bB, bR, hB, hs⟩ := blk_two _ _ _ _ _ hb1
    have hl0 : w.heap.size < w1.heap.size := by omega
    have hl1 : w.heap.size + 1 < w1.heap.size := by omega
    have r0 := bR.cell 0
    have r1 := bR.cell 1
    have r2 := bR.cell 2
    simp at r0 r1 r2
    have q0 := bR.frozen 0
    have q1 := bR.frozen 1
    have q2 := bR.frozen 2
    have x0 := bB.cell 0
    have x1 := bB.cell 1
    have x2 := bB.cell 2
    simp at x0 x1 x2
    have y0 := bB.frozen 0
    have y1 := bB.frozen 1
    have y2 := bB.frozen 2
    go_wp2_with fail
    refine (refValid_any _ _ _ _).mono ?_
    rintro e w2 ⟨rfl, hb2⟩
    rw [HU.out]
    obtain ⟨bO, hb2'⟩ := below_new hb2
    have bR2 := bR.below hb2'
    have hB2 := hB.trans (hb2'.mono hB.size)
    clear r0 r1 r2 q0 q1 q2 x0 x1 x2 y0 y1 y2 hb1 hb2
    have r0 := bR2.cell 0
    have r1 := bR2.cell 1
    have r2 := bR2.cell 2
    simp at r0 r1 r2
    have q0 := bR2.frozen 0
    have q1 := bR2.frozen 1
    have q2 := bR2.frozen 2
    have x0 := bO.cell 0
    have x1 := bO.cell 1
    have x2 := bO.cell 2
    simp at x0 x1 x2
    have y0 := bO.frozen 0
    have y1 := bO.frozen 1
    have y2 := bO.frozen 2
    go_wp2_with fail
    exact bodyPost_ret (v := .tuple #[.agg #[.int .i64 (0), .int .i64 (b), .int .i64 (c + 1)], .int .i64 0]) (by simp [results, Tryd.results19, go_sem, r0, r1, r2]) rfl ⟨ret_vp (by rw [HX.out]), by go_grown⟩
set_option maxHeartbeats 4000000 in
set_option maxRecDepth 100000 in
theorem refNext_1_n (a b c : Int) (ha0 : 1 ≤ a) (w : World) (hb : 0 ≤ b ∧ b ≤ 9999) (hc : 0 ≤ c ∧ c ≤ 9999) (ha : a ≤ 9999) : Calls Tryd.prog 19 #[.agg #[.int .i64 a, .int .i64 b, .int .i64 c], .int .i64 1] w (OkV (nextV ⟨a, b, c⟩ 1) w) := by
  have hv : vldV ⟨a, b, c⟩ = true := vld_ok (by omega) (by omega) (by omega)
  have hst : stepV ⟨a, b, c⟩ (lowC ⟨a, b, c⟩ 1) = ⟨a, b + 1, 0⟩ := by unfold stepV lowC; have hne : ¬ a = 0 := (by omega); simp [hne]
  have HST := Lib.hid hst
  have HV := Lib.hid hv
  clear hst hv
  have haz : (a == 0) = false := by rw [beq_eq_false_iff_ne]; omega
  rcases bool_two (vldV ⟨a, b + 1, 0⟩) with hu | hu
  · have HX := Lib.hid (next_range _ 1 _ HV.out (by omega) HST.out hu)
    have HU := Lib.hid hu
    clear hu
    go_enter Tryd.func19, Tryd.ntmps19
    go_wp2_with fail
    refine (refValid_any _ _ _ _).mono ?_
    rintro e w1 ⟨rfl, hb1⟩
    rw [HV.out]
    obtain ⟨bB, bR, hB, hs⟩ := blk_two _ _ _ _ _ hb1
    have hl0 : w.heap.size < w1.heap.size := by omega
    have hl1 : w.heap.size + 1 < w1.heap.size := by omega
    have r0 := bR.cell 0
    have r1 := bR.cell 1
    have r2 := bR.cell 2
    simp at r0 r1 r2
    have q0 := bR.frozen 0
    have q1 := bR.frozen 1
    have q2 := bR.frozen 2
    have x0 := bB.cell 0
    have x1 := bB.cell 1
    have x2 := bB.cell 2
    simp at x0 x1 x2
    have y0 := bB.frozen 0
    have y1 := bB.frozen 1
    have y2 := bB.frozen 2
    go_wp2_with fail
    refine (refValid_any _ _ _ _).mono ?_
    rintro e w2 ⟨rfl, hb2⟩
    rw [HU.out]
    obtain ⟨bO, hb2'⟩ := below_new hb2
    have bR2 := bR.below hb2'
    have hB2 := hB.trans (hb2'.mono hB.size)
    clear r0 r1 r2 q0 q1 q2 x0 x1 x2 y0 y1 y2 hb1 hb2
    have r0 := bR2.cell 0
    have r1 := bR2.cell 1
    have r2 := bR2.cell 2
    simp at r0 r1 r2
    have q0 := bR2.frozen 0
    have q1 := bR2.frozen 1
    have q2 := bR2.frozen 2
    have x0 := bO.cell 0
    have x1 := bO.cell 1
    have x2 := bO.cell 2
    simp at x0 x1 x2
    have y0 := bO.frozen 0
    have y1 := bO.frozen 1
    have y2 := bO.frozen 2
    go_wp2_with fail
    exact bodyPost_ret (v := .tuple #[.agg #[.int .i64 (0), .int .i64 (0), .int .i64 (0)], .int .i64 1]) (by simp [results, Tryd.results19, go_sem, r0, r1, r2]) rfl ⟨ret_vp (by rw [HX.out]; rfl), by go_grown⟩
  · have HX := Lib.hid (next_ok _ 1 _ HV.out (by omega) HST.out hu)
    have HU := Lib.hid hu
    clear hu
    go_enter Tryd.func19, Tryd.ntmps19
    go_wp2_with fail
    refine (refValid_any _ _ _ _).mono ?_
    rintro e w1 ⟨rfl, hb1⟩
    rw [HV.out]
    obtain ⟨bB, bR, hB, hs⟩ := blk_two _ _ _ _ _ hb1
    have hl0 : w.heap.size < w1.heap.size := by omega
    have hl1 : w.heap.size + 1 < w1.heap.size := by omega
    have r0 := bR.cell 0
    have r1 := bR.cell 1
    have r2 := bR.cell 2
    simp at r0 r1 r2
    have q0 := bR.frozen 0
    have q1 := bR.frozen 1
    have q2 := bR.frozen 2
    have x0 := bB.cell 0
    have x1 := bB.cell 1
    have x2 := bB.cell 2
    simp at x0 x1 x2
    have y0 := bB.frozen 0
    have y1 := bB.frozen 1
    have y2 := bB.frozen 2
    go_wp2_with fail
    refine (refValid_any _ _ _ _).mono ?_
    rintro e w2 ⟨rfl, hb2⟩
    rw [HU.out]
    obtain ⟨bO, hb2'⟩ := below_new hb2
    have bR2 := bR.below hb2'
    have hB2 := hB.trans (hb2'.mono hB.size)
    clear r0 r1 r2 q0 q1 q2 x0 x1 x2 y0 y1 y2 hb1 hb2
    have r0 := bR2.cell 0
    have r1 := bR2.cell 1
    have r2 := bR2.cell 2
    simp at r0 r1 r2
    have q0 := bR2.frozen 0
    have q1 := bR2.frozen 1
    have q2 := bR2.frozen 2
    have x0 := bO.cell 0
    have x1 := bO.cell 1
    have x2 := bO.cell 2
    simp at x0 x1 x2
    have y0 := bO.frozen 0
    have y1 := bO.frozen 1
    have y2 := bO.frozen 2
    go_wp2_with fail
    exact bodyPost_ret (v := .tuple #[.agg #[.int .i64 (a), .int .i64 (b + 1), .int .i64 (0)], .int .i64 0]) (by simp [results, Tryd.results19, go_sem, r0, r1, r2]) rfl ⟨ret_vp (by rw [HX.out]), by go_grown⟩
set_option maxHeartbeats 4000000 in
set_option maxRecDepth 100000 in
theorem refNext_2_z (b c : Int) (w : World) (hb : 0 ≤ b ∧ b ≤ 9999) (hc : 0 ≤ c ∧ c ≤ 9999) : Calls Tryd.prog 19 #[.agg #[.int .i64 0, .int .i64 b, .int .i64 c], .int .i64 2] w (OkV (nextV ⟨0, b, c⟩ 2) w) := by
  have hv : vldV ⟨0, b, c⟩ = true := vld_ok (by omega) (by omega) (by omega)
  have hst : stepV ⟨0, b, c⟩ (lowC ⟨0, b, c⟩ 2) = ⟨0, b + 1, 0⟩ := by unfold stepV lowC; simp; try omega
  have HST := Lib.hid hst
  have HV := Lib.hid hv
  clear hst hv
  rcases bool_two (vldV ⟨0, b + 1, 0⟩) with hu | hu
  · have HX := Lib.hid (next_range _ 2 _ HV.out (by omega) HST.out hu)
    have HU := Lib.hid hu
    clear hu
    go_enter Tryd.func19, Tryd.ntmps19
    go_wp2_with fail
    refine (refValid_any _ _ _ _).mono ?_
    rintro e w1 ⟨rfl, hb1⟩
    rw [HV.out]
    obtain ⟨bB, bR, hB, hs⟩ := blk_two _ _ _ _ _ hb1
    have hl0 : w.heap.size < w1.heap.size := by omega
    have hl1 : w.heap.size + 1 < w1.heap.size := by omega
    have r0 := bR.cell 0
    have r1 := bR.cell 1
    have r2 := bR.cell 2
    simp at r0 r1 r2
    have q0 := bR.frozen 0
    have q1 := bR.frozen 1
    have q2 := bR.frozen 2
    have x0 := bB.cell 0
    have x1 := bB.cell 1
    have x2 := bB.cell 2
    simp at x0 x1 x2
    have y0 := bB.frozen 0
    have y1 := bB.frozen 1
    have y2 := bB.frozen 2
    go_wp2_with fail
    refine (refValid_any _ _ _ _).mono ?_
    rintro e w2 ⟨rfl, hb2⟩
    rw [HU.out]
    obtain ⟨bO, hb2'⟩ := below_new hb2
    have bR2 := bR.below hb2'
    have hB2 := hB.trans (hb2'.mono hB.size)
    clear r0 r1 r2 q0 q1 q2 x0 x1 x2 y0 y1 y2 hb1 hb2
    have r0 := bR2.cell 0
    have r1 := bR2.cell 1
    have r2 := bR2.cell 2
    simp at r0 r1 r2
    have q0 := bR2.frozen 0
    have q1 := bR2.frozen 1
    have q2 := bR2.frozen 2
    have x0 := bO.cell 0
    have x1 := bO.cell 1
    have x2 := bO.cell 2
    simp at x0 x1 x2
    have y0 := bO.frozen 0
    have y1 := bO.frozen 1
    have y2 := bO.frozen 2
    go_wp2_with fail
    exact bodyPost_ret (v := .tuple #[.agg #[.int .i64 (0), .int .i64 (0), .int .i64 (0)], .int .i64 1]) (by simp [results, Tryd.results19, go_sem, r0, r1, r2]) rfl ⟨ret_vp (by rw [HX.out]; rfl), by go_grown⟩
  · have HX := Lib.hid (next_ok _ 2 _ HV.out (by omega) HST.out hu)
    have HU := Lib.hid hu
    clear hu
    go_enter Tryd.func19, Tryd.ntmps19
    go_wp2_with fail
    refine (refValid_any _ _ _ _).mono ?_
    rintro e w1 ⟨rfl, hb1⟩
    rw [HV.out]
    obtain ⟨bB, bR, hB, hs⟩ := blk_two _ _ _ _ _ hb1
    have hl0 : w.heap.size < w1.heap.size := by omega
    have hl1 : w.heap.size + 1 < w1.heap.size := by omega
    have r0 := bR.cell 0
    have r1 := bR.cell 1
    have r2 := bR.cell 2
    simp at r0 r1 r2
    have q0 := bR.frozen 0
    have q1 := bR.frozen 1
    have q2 := bR.frozen 2
    have x0 := bB.cell 0
    have x1 := bB.cell 1
    have x2 := bB.cell 2
    simp at x0 x1 x2
    have y0 := bB.frozen 0
    have y1 := bB.frozen 1
    have y2 := bB.frozen 2
    go_wp2_with fail
    refine (refValid_any _ _ _ _).mono ?_
    rintro e w2 ⟨rfl, hb2⟩
    rw [HU.out]
    obtain ⟨bO, hb2'⟩ := below_new hb2
    have bR2 := bR.below hb2'
    have hB2 := hB.trans (hb2'.mono hB.size)
    clear r0 r1 r2 q0 q1 q2 x0 x1 x2 y0 y1 y2 hb1 hb2
    have r0 := bR2.cell 0
    have r1 := bR2.cell 1
    have r2 := bR2.cell 2
    simp at r0 r1 r2
    have q0 := bR2.frozen 0
    have q1 := bR2.frozen 1
    have q2 := bR2.frozen 2
    have x0 := bO.cell 0
    have x1 := bO.cell 1
    have x2 := bO.cell 2
    simp at x0 x1 x2
    have y0 := bO.frozen 0
    have y1 := bO.frozen 1
    have y2 := bO.frozen 2
    go_wp2_with fail
    exact bodyPost_ret (v := .tuple #[.agg #[.int .i64 (0), .int .i64 (b + 1), .int .i64 (0)], .int .i64 0]) (by simp [results, Tryd.results19, go_sem, r0, r1, r2]) rfl ⟨ret_vp (by rw [HX.out]), by go_grown⟩
set_option maxHeartbeats 4000000 in
set_option maxRecDepth 100000 in
theorem refNext_2_n (a b c : Int) (ha0 : 1 ≤ a) (w : World) (hb : 0 ≤ b ∧ b ≤ 9999) (hc : 0 ≤ c ∧ c ≤ 9999) (ha : a ≤ 9999) : Calls Tryd.prog 19 #[.agg #[.int .i64 a, .int .i64 b, .int .i64 c], .int .i64 2] w (OkV (nextV ⟨a, b, c⟩ 2) w) := by
  have hv : vldV ⟨a, b, c⟩ = true := vld_ok (by omega) (by omega) (by omega)
  have hst : stepV ⟨a, b, c⟩ (lowC ⟨a, b, c⟩ 2) = ⟨a + 1, 0, 0⟩ := by unfold stepV lowC; have hne : ¬ a = 0 := (by omega); simp [hne]
  have HST := Lib.hid hst
  have HV := Lib.hid hv
  clear hst hv
  have haz : (a == 0) = false := by rw [beq_eq_false_iff_ne]; omega
  rcases bool_two (vldV ⟨a + 1, 0, 0⟩) with hu | hu
  · have HX := Lib.hid (next_range _ 2 _ HV.out (by omega) HST.out hu)
    have HU := Lib.hid hu
    clear hu
    go_enter Tryd.func19, Tryd.ntmps19
    go_wp2_with fail
    refine (refValid_any _ _ _ _).mono ?_
    rintro e w1 ⟨rfl, hb1⟩
    rw [HV.out]
    obtain ⟨bB, bR, hB, hs⟩ := blk_two _ _ _ _ _ hb1
    have hl0 : w.heap.size < w1.heap.size := by omega
    have hl1 : w.heap.size + 1 < w1.heap.size := by omega
    have r0 := bR.cell 0
    have r1 := bR.cell 1
    have r2 := bR.cell 2
    simp at r0 r1 r2
    have q0 := bR.frozen 0
    have q1 := bR.frozen 1
    have q2 := bR.frozen 2
    have x0 := bB.cell 0
    have x1 := bB.cell 1
    have x2 := bB.cell 2
    simp at x0 x1 x2
    have y0 := bB.frozen 0
    have y1 := bB.frozen 1
    have y2 := bB.frozen 2
    go_wp2_with fail
    refine (refValid_any _ _ _ _).mono ?_
    rintro e w2 ⟨rfl, hb2⟩
    rw [HU.out]
    obtain ⟨bO, hb2'⟩ := below_new hb2
    have bR2 := bR.below hb2'
    have hB2 := hB.trans (hb2'.mono hB.size)
    clear r0 r1 r2 q0 q1 q2 x0 x1 x2 y0 y1 y2 hb1 hb2
    have r0 := bR2.cell 0
    have r1 := bR2.cell 1
    have r2 := bR2.cell 2
    simp at r0 r1 r2
    have q0 := bR2.frozen 0
    have q1 := bR2.frozen 1
    have q2 := bR2.frozen 2
    have x0 := bO.cell 0
    have x1 := bO.cell 1
    have x2 := bO.cell 2
    simp at x0 x1 x2
    have y0 := bO.frozen 0
    have y1 := bO.frozen 1
    have y2 := bO.frozen 2
    go_wp2_with fail
    exact bodyPost_ret (v := .tuple #[.agg #[.int .i64 (0), .int .i64 (0), .int .i64 (0)], .int .i64 1]) (by simp [results, Tryd.results19, go_sem, r0, r1, r2]) rfl ⟨ret_vp (by rw [HX.out]; rfl), by go_grown⟩
  · have HX := Lib.hid (next_ok _ 2 _ HV.out (by omega) HST.out hu)
    have HU := Lib.hid hu
    clear hu
    go_enter Tryd.func19, Tryd.ntmps19
    go_wp2_with fail
    refine (refValid_any _ _ _ _).mono ?_
    rintro e w1 ⟨rfl, hb1⟩
    rw [HV.out]
    obtain ⟨bB, bR, hB, hs⟩ := blk_two _ _ _ _ _ hb1
    have hl0 : w.heap.size < w1.heap.size := by omega
    have hl1 : w.heap.size + 1 < w1.heap.size := by omega
    have r0 := bR.cell 0
    have r1 := bR.cell 1
    have r2 := bR.cell 2
    simp at r0 r1 r2
    have q0 := bR.frozen 0
    have q1 := bR.frozen 1
    have q2 := bR.frozen 2
    have x0 := bB.cell 0
    have x1 := bB.cell 1
    have x2 := bB.cell 2
    simp at x0 x1 x2
    have y0 := bB.frozen 0
    have y1 := bB.frozen 1
    have y2 := bB.frozen 2
    go_wp2_with fail
    refine (refValid_any _ _ _ _).mono ?_
    rintro e w2 ⟨rfl, hb2⟩
    rw [HU.out]
    obtain ⟨bO, hb2'⟩ := below_new hb2
    have bR2 := bR.below hb2'
    have hB2 := hB.trans (hb2'.mono hB.size)
    clear r0 r1 r2 q0 q1 q2 x0 x1 x2 y0 y1 y2 hb1 hb2
    have r0 := bR2.cell 0
    have r1 := bR2.cell 1
    have r2 := bR2.cell 2
    simp at r0 r1 r2
    have q0 := bR2.frozen 0
    have q1 := bR2.frozen 1
    have q2 := bR2.frozen 2
    have x0 := bO.cell 0
    have x1 := bO.cell 1
    have x2 := bO.cell 2
    simp at x0 x1 x2
    have y0 := bO.frozen 0
    have y1 := bO.frozen 1
    have y2 := bO.frozen 2
    go_wp2_with fail
    exact bodyPost_ret (v := .tuple #[.agg #[.int .i64 (a + 1), .int .i64 (0), .int .i64 (0)], .int .i64 0]) (by simp [results, Tryd.results19, go_sem, r0, r1, r2]) rfl ⟨ret_vp (by rw [HX.out]), by go_grown⟩
theorem Next_any (a b c ch : Int) (w : World) : Calls Tryd.prog 18 #[.agg #[.int .i64 a, .int .i64 b, .int .i64 c], .int .i64 ch] w (OkV (nextV ⟨a, b, c⟩ ch) w) := by
  by_cases h : vldV ⟨a, b, c⟩ = false ∨ ch < 0 ∨ 2 < ch
  · exact Next_low a b c ch w h
  · have hv : vldV ⟨a, b, c⟩ = true := by rcases bool_two (vldV ⟨a, b, c⟩) with h1 | h1; exact absurd (.inl h1) h; exact h1
    have hb := (vldV_iff _).1 hv
    simp only at hb
    have hch : ch = 0 ∨ ch = 1 ∨ ch = 2 := by omega
    by_cases ha : a = 0
    · subst ha
      rcases hch with rfl | rfl | rfl
      · exact Next_0_z b c w hb.2.1 hb.2.2
      · exact Next_1_z b c w hb.2.1 hb.2.2
      · exact Next_2_z b c w hb.2.1 hb.2.2
    · rcases hch with rfl | rfl | rfl
      · exact Next_0_n a b c (by omega) w hb.2.1 hb.2.2 hb.1.2
      · exact Next_1_n a b c (by omega) w hb.2.1 hb.2.2 hb.1.2
      · exact Next_2_n a b c (by omega) w hb.2.1 hb.2.2 hb.1.2
theorem refNext_any (a b c ch : Int) (w : World) : Calls Tryd.prog 19 #[.agg #[.int .i64 a, .int .i64 b, .int .i64 c], .int .i64 ch] w (OkV (nextV ⟨a, b, c⟩ ch) w) := by
  by_cases h : vldV ⟨a, b, c⟩ = false ∨ ch < 0 ∨ 2 < ch
  · exact refNext_low a b c ch w h
  · have hv : vldV ⟨a, b, c⟩ = true := by rcases bool_two (vldV ⟨a, b, c⟩) with h1 | h1; exact absurd (.inl h1) h; exact h1
    have hb := (vldV_iff _).1 hv
    simp only at hb
    have hch : ch = 0 ∨ ch = 1 ∨ ch = 2 := by omega
    by_cases ha : a = 0
    · subst ha
      rcases hch with rfl | rfl | rfl
      · exact refNext_0_z b c w hb.2.1 hb.2.2
      · exact refNext_1_z b c w hb.2.1 hb.2.2
      · exact refNext_2_z b c w hb.2.1 hb.2.2
    · rcases hch with rfl | rfl | rfl
      · exact refNext_0_n a b c (by omega) w hb.2.1 hb.2.2 hb.1.2
      · exact refNext_1_n a b c (by omega) w hb.2.1 hb.2.2 hb.1.2
      · exact refNext_2_n a b c (by omega) w hb.2.1 hb.2.2 hb.1.2
end Go.Proofs.YtppbbalojbedpaaDoor
