/- Walks of the versions: Next. -/
import Derived.Test.YtppbbalojbedpaaDoorSemG
namespace Go.Proofs.YtppbbalojbedpaaDoor
open Go.RowKit

theorem next_bad (v : Ver) (ch : Int) (h : vldV v = false) : nextV v ch = (zeroV, 11) := by unfold nextV; rw [if_pos h]
theorem next_name (v : Ver) (ch : Int) (h : vldV v = true) (hc : ch < 0 ∨ 2 < ch) : nextV v ch = (zeroV, 5) := by unfold nextV; rw [if_neg (by rw [h]; decide), if_pos hc]
theorem next_ok (v : Ver) (ch : Int) (u : Ver) (h : vldV v = true) (hc : ¬ (ch < 0 ∨ 2 < ch)) (hu : stepV v (lowC v ch) = u) (hv : vldV u = true) : nextV v ch = (u, 0) := by
  unfold nextV; rw [if_neg (by rw [h]; decide), if_neg hc, hu, if_pos hv]
theorem next_range (v : Ver) (ch : Int) (u : Ver) (h : vldV v = true) (hc : ¬ (ch < 0 ∨ 2 < ch)) (hu : stepV v (lowC v ch) = u) (hv : vldV u = false) : nextV v ch = (zeroV, 1) := by
  unfold nextV; rw [if_neg (by rw [h]; decide), if_neg hc, hu, if_neg (by rw [hv]; decide)]
theorem vld_ok {a b c : Int} (h1 : 0 ≤ a ∧ a ≤ 9999) (h2 : 0 ≤ b ∧ b ≤ 9999) (h3 : 0 ≤ c ∧ c ≤ 9999) : vldV ⟨a, b, c⟩ = true := (vldV_iff _).2 ⟨h1, h2, h3⟩
theorem vld_no {a b c : Int} (h : ¬ ((0 ≤ a ∧ a ≤ 9999) ∧ (0 ≤ b ∧ b ≤ 9999) ∧ (0 ≤ c ∧ c ≤ 9999))) : vldV ⟨a, b, c⟩ = false := by
  cases hh : vldV ⟨a, b, c⟩
  · rfl
  · exact absurd ((vldV_iff _).1 hh) h
theorem blk_two (w : World) (o1 o2 : Array Value) (t1 t2 : TypeId) {w1 : World} (hb : Below ((w.alloc (.cells o1 t1)).alloc (.cells o2 t2)).heap.size ((w.alloc (.cells o1 t1)).alloc (.cells o2 t2)) w1) :
    Blk w1 w.heap.size o1 t1 ∧ Blk w1 (w.heap.size + 1) o2 t2 ∧ Below w.heap.size w w1 ∧ w.heap.size + 2 ≤ w1.heap.size := by
  refine ⟨((Blk.new w o1 t1).alloc _).below hb, ?_, ((((Below.refl _ _).alloc (Nat.le_refl _) _).alloc (by simp) _).trans (hb.mono (by simp; omega))), by have := hb.size; simp at this; omega⟩
  have := (Blk.new (w.alloc (.cells o1 t1)) o2 t2).below hb
  simpa using this
set_option maxHeartbeats 4000000 in
set_option maxRecDepth 100000 in
theorem Next_low (a b c ch : Int) (w : World) (h : vldV ⟨a, b, c⟩ = false ∨ ch < 0 ∨ 2 < ch) : Calls Tryd.prog 18 #[.agg #[.int .i64 a, .int .i64 b, .int .i64 c], .int .i64 ch] w (OkV (nextV ⟨a, b, c⟩ ch) w) := by
  rcases bool_two (vldV ⟨a, b, c⟩) with hv | hv
  · have HX := Lib.hid (next_bad _ ch hv)
    have HV := Lib.hid hv
    clear hv h
    go_enter Tryd.func18, Tryd.ntmps18
    go_wp2_with fail
    refine (Valid_any a b c _).mono ?_
    rintro e w1 ⟨rfl, hb1⟩
    rw [HV.out]
    obtain ⟨bB, bR, hB, hs⟩ := blk_two _ _ _ _ _ hb1
    have r0 := bR.cell 0
    have r1 := bR.cell 1
    have r2 := bR.cell 2
    simp at r0 r1 r2
    have q0 := bR.frozen 0
    have q1 := bR.frozen 1
    have q2 := bR.frozen 2
    have x0 := bB.cell 0
    have x1 := bB.cell 1
    have x2 := bB.cell 2
    simp at x0 x1 x2
    have y0 := bB.frozen 0
    have y1 := bB.frozen 1
    have y2 := bB.frozen 2
    go_wp2_with fail
    exact bodyPost_ret (v := .tuple #[.agg #[.int .i64 (0), .int .i64 (0), .int .i64 (0)], .int .i64 11]) (by simp [results, Tryd.results18, go_sem, r0, r1, r2]) rfl ⟨ret_vp (by rw [HX.out]; rfl), by go_grown⟩
  · have hch : ch < 0 ∨ 2 < ch := by
      rcases h with h | h
      · rw [hv] at h; cases h
      · exact h
    have HX := Lib.hid (next_name _ ch hv hch)
    have HV := Lib.hid hv
    clear hv h
    have hch2 : ch < 0 ∨ (0 ≤ ch ∧ 2 < ch) := by omega
    clear hch
    rcases hch2 with hc | ⟨hc, hc2⟩
    all_goals
      go_enter Tryd.func18, Tryd.ntmps18
      go_wp2_with fail
      refine (Valid_any a b c _).mono ?_
      rintro e w1 ⟨rfl, hb1⟩
      rw [HV.out]
      obtain ⟨bB, bR, hB, hs⟩ := blk_two _ _ _ _ _ hb1
      have r0 := bR.cell 0
      have r1 := bR.cell 1
      have r2 := bR.cell 2
      simp at r0 r1 r2
      have q0 := bR.frozen 0
      have q1 := bR.frozen 1
      have q2 := bR.frozen 2
      have x0 := bB.cell 0
      have x1 := bB.cell 1
      have x2 := bB.cell 2
      simp at x0 x1 x2
      have y0 := bB.frozen 0
      have y1 := bB.frozen 1
      have y2 := bB.frozen 2
      go_wp2_with fail
      exact bodyPost_ret (v := .tuple #[.agg #[.int .i64 (0), .int .i64 (0), .int .i64 (0)], .int .i64 5]) (by simp [results, Tryd.results18, go_sem, r0, r1, r2]) rfl ⟨ret_vp (by rw [HX.out]; rfl), by go_grown⟩
set_option maxHeartbeats 4000000 in
set_option maxRecDepth 100000 in
theorem refNext_low (a b c ch : Int) (w : World) (h : vldV ⟨a, b, c⟩ = false ∨ ch < 0 ∨ 2 < ch) : Calls Tryd.prog 19 #[.agg #[.int .i64 a, .int .i64 b, .int .i64 c], .int .i64 ch] w (OkV (nextV ⟨a, b, c⟩ ch) w) := by
  rcases bool_two (vldV ⟨a, b, c⟩) with hv | hv
  · have HX := Lib.hid (next_bad _ ch hv)
    have HV := Lib.hid hv
    clear hv h
    go_enter Tryd.func19, Tryd.ntmps19
    go_wp2_with fail
    refine (refValid_any a b c _).mono ?_
    rintro e w1 ⟨rfl, hb1⟩
    rw [HV.out]
    obtain ⟨bB, bR, hB, hs⟩ := blk_two _ _ _ _ _ hb1
    have r0 := bR.cell 0
    have r1 := bR.cell 1
    have r2 := bR.cell 2
    simp at r0 r1 r2
    have q0 := bR.frozen 0
    have q1 := bR.frozen 1
    have q2 := bR.frozen 2
    have x0 := bB.cell 0
    have x1 := bB.cell 1
    have x2 := bB.cell 2
    simp at x0 x1 x2
    have y0 := bB.frozen 0
    have y1 := bB.frozen 1
    have y2 := bB.frozen 2
    go_wp2_with fail
    exact bodyPost_ret (v := .tuple #[.agg #[.int .i64 (0), .int .i64 (0), .int .i64 (0)], .int .i64 11]) (by simp [results, Tryd.results19, go_sem, r0, r1, r2]) rfl ⟨ret_vp (by rw [HX.out]; rfl), by go_grown⟩
  · have hch : ch < 0 ∨ 2 < ch := by
      rcases h with h | h
      · rw [hv] at h; cases h
      · exact h
    have HX := Lib.hid (next_name _ ch hv hch)
    have HV := Lib.hid hv
    clear hv h
    have hch2 : ch < 0 ∨ (0 ≤ ch ∧ 2 < ch) := by omega
    clear hch
    rcases hch2 with hc | ⟨hc, hc2⟩
    all_goals
      go_enter Tryd.func19, Tryd.ntmps19
      go_wp2_with fail
      refine (refValid_any a b c _).mono ?_
      rintro e w1 ⟨rfl, hb1⟩
      rw [HV.out]
      obtain ⟨bB, bR, hB, hs⟩ := blk_two _ _ _ _ _ hb1
      have r0 := bR.cell 0
      have r1 := bR.cell 1
      have r2 := bR.cell 2
      simp at r0 r1 r2
      have q0 := bR.frozen 0
      have q1 := bR.frozen 1
      have q2 := bR.frozen 2
      have x0 := bB.cell 0
      have x1 := bB.cell 1
      have x2 := bB.cell 2
      simp at x0 x1 x2
      have y0 := bB.frozen 0
      have y1 := bB.frozen 1
      have y2 := bB.frozen 2
      go_wp2_with fail
      exact bodyPost_ret (v := .tuple #[.agg #[.int .i64 (0), .int .i64 (0), .int .i64 (0)], .int .i64 5]) (by simp [results, Tryd.results19, go_sem, r0, r1, r2]) rfl ⟨ret_vp (by rw [HX.out]; rfl), by go_grown⟩
set_option maxHeartbeats 4000000 in
set_option maxRecDepth 100000 in
theorem Next_0_z (b c : Int) (w : World) (hb : 0 ≤ b ∧ b ≤ 9999) (hc : 0 ≤ c ∧ c ≤ 9999) : Calls Tryd.prog 18 #[.agg #[.int .i64 0, .int .i64 b, .int .i64 c], .int .i64 0] w (OkV (nextV ⟨0, b, c⟩ 0) w) := by
  have hv : vldV ⟨0, b, c⟩ = true := vld_ok (by omega) (by omega) (by omega)
  have hst : stepV ⟨0, b, c⟩ (lowC ⟨0, b, c⟩ 0) = ⟨0, b, c + 1⟩ := by unfold stepV lowC; simp; try omega
  have HST := Lib.hid hst
  have HV := Lib.hid hv
  clear hst hv
  go_enter Tryd.func18, Tryd.ntmps18
  go_wp2_with fail
  refine (Valid_any _ _ _ _).mono ?_
  rintro e w1 ⟨rfl, hb1⟩
  rw [HV.out]
  obtain ⟨bB, bR, hB, hs⟩ := blk_two _ _ _ _ _ hb1
  have r0 := bR.cell 0
  have r1 := bR.cell 1
  have r2 := bR.cell 2
  simp at r0 r1 r2
  have q0 := bR.frozen 0
  have q1 := bR.frozen 1
  have q2 := bR.frozen 2
  have x0 := bB.cell 0
  have x1 := bB.cell 1
  have x2 := bB.cell 2
  simp at x0 x1 x2
  have y0 := bB.frozen 0
  have y1 := bB.frozen 1
  have y2 := bB.frozen 2
  go_wp2_with fail
  refine (numbers_any _ _ _ _).mono ?_
  rintro e w2 ⟨rfl, hb2⟩
  have bB2 := bB.below hb2
  have bR2 := bR.below hb2
  have hB2 := hB.trans (hb2.mono hB.size)
  have hs2 : w.heap.size + 2 ≤ w2.heap.size := Nat.le_trans hs hb2.size
  clear hb1 hb2 r0 r1 r2 q0 q1 q2 x0 x1 x2 y0 y1 y2 bB bR
  have m3 : min (3 : Int) 2 = 2 := by decide
  have m2 : min (2 : Int) 2 = 2 := by decide
  have m1 : min (1 : Int) 2 = 1 := by decide
  go_wp2_with fail
  have bN : Blk (w2.alloc (.cells #[.int .i64 (0), .int .i64 (b), .int .i64 (c + 1)] 36)) w2.heap.size #[.int .i64 (0), .int .i64 (b), .int .i64 (c + 1)] 36 := Blk.new w2 _ _
  have bR3 := bR2.alloc (.cells #[.int .i64 (0), .int .i64 (b), .int .i64 (c + 1)] 36)
  have hB3 : Below w.heap.size w (w2.alloc (.cells #[.int .i64 (0), .int .i64 (b), .int .i64 (c + 1)] 36)) := hB2.alloc (by omega) _
  obtain ⟨N, hN⟩ : ∃ N, N = w2.heap.size := ⟨_, rfl⟩
  have hNR : w.heap.size + 2 ≤ N := by omega
  generalize w2.alloc (.cells #[.int .i64 (0), .int .i64 (b), .int .i64 (c + 1)] 36) = W0 at bN bR3 hB3 ⊢
  rw [← hN] at bN ⊢
  have HNN := Lib.hid hN
  clear hN bR2 bB2 hB2 hs2 m1 m2 m3
  go_loopw [8] (fun i wr => Blk wr (w.heap.size + 1) #[.int .i64 0, .int .i64 0, .int .i64 0] 23 ∧ Below w.heap.size w wr ∧ ((i = .int .i64 3 ∧ Blk wr N #[.int .i64 (0), .int .i64 (b), .int .i64 (c + 1)] 36))) (fun i _ => 3 - (intOf i).toNat)
  case atStart => exact ⟨bR3, hB3, ⟨rfl, bN⟩⟩
  case round =>
    clear bN bR3 hB3
    obtain ⟨bR, hB, hi⟩ := hrel
    rcases hi with ⟨rfl, bN⟩
    · by_cases hlow : c ≤ 9998
      · have HX := Lib.hid (next_ok _ 0 _ HV.out (by omega) HST.out (vld_ok (by omega) (by omega) (by omega)))
        have t1 : c + 1 ≤ 9999 := by omega
        have f0 := bN.cell 0
        have f1 := bN.cell 1
        have f2 := bN.cell 2
        simp at f0 f1 f2
        have g0 := bN.frozen 0
        have g1 := bN.frozen 1
        have g2 := bN.frozen 2
        go_wp2_with fail
        refine (version_any _ _ _ _).mono ?_
        rintro e w5 ⟨rfl, hb5⟩
        have bR5 := bR.below hb5
        have hB5 := hB.trans (hb5.mono hB.size)
        have r0 := bR5.cell 0
        have r1 := bR5.cell 1
        have r2 := bR5.cell 2
        simp at r0 r1 r2
        have q0 := bR5.frozen 0
        have q1 := bR5.frozen 1
        have q2 := bR5.frozen 2
        go_wp2_with fail
        exact bodyPost_ret (v := .tuple #[.agg #[.int .i64 (0), .int .i64 (b), .int .i64 (c + 1)], .int .i64 0]) (by simp [results, Tryd.results18, go_sem, r0, r1, r2]) rfl ⟨ret_vp (by rw [HX.out]), by go_grown⟩
      · have HX := Lib.hid (next_range _ 0 _ HV.out (by omega) HST.out (vld_no (by omega)))
        have t1 : ¬ c + 1 ≤ 9999 := by omega
        have t2 : 9999 < c + 1 := by omega
        have f0 := bN.cell 0
        have f1 := bN.cell 1
        have f2 := bN.cell 2
        simp at f0 f1 f2
        have g0 := bN.frozen 0
        have g1 := bN.frozen 1
        have g2 := bN.frozen 2
        have r0 := bR.cell 0
        have r1 := bR.cell 1
        have r2 := bR.cell 2
        simp at r0 r1 r2
        have q0 := bR.frozen 0
        have q1 := bR.frozen 1
        have q2 := bR.frozen 2
        go_wp2_with fail
        exact bodyPost_ret (v := .tuple #[.agg #[.int .i64 (0), .int .i64 (0), .int .i64 (0)], .int .i64 1]) (by simp [results, Tryd.results18, go_sem, r0, r1, r2]) rfl ⟨ret_vp (by rw [HX.out]; rfl), by go_grown⟩
set_option maxHeartbeats 4000000 in
set_option maxRecDepth 100000 in
theorem Next_0_n (a b c : Int) (ha0 : 1 ≤ a) (w : World) (hb : 0 ≤ b ∧ b ≤ 9999) (hc : 0 ≤ c ∧ c ≤ 9999) (ha : a ≤ 9999) : Calls Tryd.prog 18 #[.agg #[.int .i64 a, .int .i64 b, .int .i64 c], .int .i64 0] w (OkV (nextV ⟨a, b, c⟩ 0) w) := by
  have hv : vldV ⟨a, b, c⟩ = true := vld_ok (by omega) (by omega) (by omega)
  have hst : stepV ⟨a, b, c⟩ (lowC ⟨a, b, c⟩ 0) = ⟨a, b, c + 1⟩ := by unfold stepV lowC; have hne : ¬ a = 0 := (by omega); simp [hne]
  have HST := Lib.hid hst
  have HV := Lib.hid hv
  clear hst hv
  have haz : (a == 0) = false := by rw [beq_eq_false_iff_ne]; omega
  go_enter Tryd.func18, Tryd.ntmps18
  go_wp2_with fail
  refine (Valid_any _ _ _ _).mono ?_
  rintro e w1 ⟨rfl, hb1⟩
  rw [HV.out]
  obtain ⟨bB, bR, hB, hs⟩ := blk_two _ _ _ _ _ hb1
  have r0 := bR.cell 0
  have r1 := bR.cell 1
  have r2 := bR.cell 2
  simp at r0 r1 r2
  have q0 := bR.frozen 0
  have q1 := bR.frozen 1
  have q2 := bR.frozen 2
  have x0 := bB.cell 0
  have x1 := bB.cell 1
  have x2 := bB.cell 2
  simp at x0 x1 x2
  have y0 := bB.frozen 0
  have y1 := bB.frozen 1
  have y2 := bB.frozen 2
  go_wp2_with fail
  refine (numbers_any _ _ _ _).mono ?_
  rintro e w2 ⟨rfl, hb2⟩
  have bB2 := bB.below hb2
  have bR2 := bR.below hb2
  have hB2 := hB.trans (hb2.mono hB.size)
  have hs2 : w.heap.size + 2 ≤ w2.heap.size := Nat.le_trans hs hb2.size
  clear hb1 hb2 r0 r1 r2 q0 q1 q2 x0 x1 x2 y0 y1 y2 bB bR
  have m3 : min (3 : Int) 2 = 2 := by decide
  have m2 : min (2 : Int) 2 = 2 := by decide
  have m1 : min (1 : Int) 2 = 1 := by decide
  go_wp2_with fail
  have bN : Blk (w2.alloc (.cells #[.int .i64 (a), .int .i64 (b), .int .i64 (c + 1)] 36)) w2.heap.size #[.int .i64 (a), .int .i64 (b), .int .i64 (c + 1)] 36 := Blk.new w2 _ _
  have bR3 := bR2.alloc (.cells #[.int .i64 (a), .int .i64 (b), .int .i64 (c + 1)] 36)
  have hB3 : Below w.heap.size w (w2.alloc (.cells #[.int .i64 (a), .int .i64 (b), .int .i64 (c + 1)] 36)) := hB2.alloc (by omega) _
  obtain ⟨N, hN⟩ : ∃ N, N = w2.heap.size := ⟨_, rfl⟩
  have hNR : w.heap.size + 2 ≤ N := by omega
  generalize w2.alloc (.cells #[.int .i64 (a), .int .i64 (b), .int .i64 (c + 1)] 36) = W0 at bN bR3 hB3 ⊢
  rw [← hN] at bN ⊢
  have HNN := Lib.hid hN
  clear hN bR2 bB2 hB2 hs2 m1 m2 m3
  go_loopw [8] (fun i wr => Blk wr (w.heap.size + 1) #[.int .i64 0, .int .i64 0, .int .i64 0] 23 ∧ Below w.heap.size w wr ∧ ((i = .int .i64 3 ∧ Blk wr N #[.int .i64 (a), .int .i64 (b), .int .i64 (c + 1)] 36))) (fun i _ => 3 - (intOf i).toNat)
  case atStart => exact ⟨bR3, hB3, ⟨rfl, bN⟩⟩
  case round =>
    clear bN bR3 hB3
    obtain ⟨bR, hB, hi⟩ := hrel
    rcases hi with ⟨rfl, bN⟩
    · by_cases hlow : c ≤ 9998
      · have HX := Lib.hid (next_ok _ 0 _ HV.out (by omega) HST.out (vld_ok (by omega) (by omega) (by omega)))
        have t1 : c + 1 ≤ 9999 := by omega
        have f0 := bN.cell 0
        have f1 := bN.cell 1
        have f2 := bN.cell 2
        simp at f0 f1 f2
        have g0 := bN.frozen 0
        have g1 := bN.frozen 1
        have g2 := bN.frozen 2
        go_wp2_with fail
        refine (version_any _ _ _ _).mono ?_
        rintro e w5 ⟨rfl, hb5⟩
        have bR5 := bR.below hb5
        have hB5 := hB.trans (hb5.mono hB.size)
        have r0 := bR5.cell 0
        have r1 := bR5.cell 1
        have r2 := bR5.cell 2
        simp at r0 r1 r2
        have q0 := bR5.frozen 0
        have q1 := bR5.frozen 1
        have q2 := bR5.frozen 2
        go_wp2_with fail
        exact bodyPost_ret (v := .tuple #[.agg #[.int .i64 (a), .int .i64 (b), .int .i64 (c + 1)], .int .i64 0]) (by simp [results, Tryd.results18, go_sem, r0, r1, r2]) rfl ⟨ret_vp (by rw [HX.out]), by go_grown⟩
      · have HX := Lib.hid (next_range _ 0 _ HV.out (by omega) HST.out (vld_no (by omega)))
        have t1 : ¬ c + 1 ≤ 9999 := by omega
        have t2 : 9999 < c + 1 := by omega
        have f0 := bN.cell 0
        have f1 := bN.cell 1
        have f2 := bN.cell 2
        simp at f0 f1 f2
        have g0 := bN.frozen 0
        have g1 := bN.frozen 1
        have g2 := bN.frozen 2
        have r0 := bR.cell 0
        have r1 := bR.cell 1
        have r2 := bR.cell 2
        simp at r0 r1 r2
        have q0 := bR.frozen 0
        have q1 := bR.frozen 1
        have q2 := bR.frozen 2
        go_wp2_with fail
        exact bodyPost_ret (v := .tuple #[.agg #[.int .i64 (0), .int .i64 (0), .int .i64 (0)], .int .i64 1]) (by simp [results, Tryd.results18, go_sem, r0, r1, r2]) rfl ⟨ret_vp (by rw [HX.out]; rfl), by go_grown⟩
set_option maxHeartbeats 4000000 in
set_option maxRecDepth 100000 in
theorem Next_1_z (b c : Int) (w : World) (hb : 0 ≤ b ∧ b ≤ 9999) (hc : 0 ≤ c ∧ c ≤ 9999) : Calls Tryd.prog 18 #[.agg #[.int .i64 0, .int .i64 b, .int .i64 c], .int .i64 1] w (OkV (nextV ⟨0, b, c⟩ 1) w) := by
  have hv : vldV ⟨0, b, c⟩ = true := vld_ok (by omega) (by omega) (by omega)
  have hst : stepV ⟨0, b, c⟩ (lowC ⟨0, b, c⟩ 1) = ⟨0, b, c + 1⟩ := by unfold stepV lowC; simp; try omega
  have HST := Lib.hid hst
  have HV := Lib.hid hv
  clear hst hv
  go_enter Tryd.func18, Tryd.ntmps18
  go_wp2_with fail
  refine (Valid_any _ _ _ _).mono ?_
  rintro e w1 ⟨rfl, hb1⟩
  rw [HV.out]
  obtain ⟨bB, bR, hB, hs⟩ := blk_two _ _ _ _ _ hb1
  have r0 := bR.cell 0
  have r1 := bR.cell 1
  have r2 := bR.cell 2
  simp at r0 r1 r2
  have q0 := bR.frozen 0
  have q1 := bR.frozen 1
  have q2 := bR.frozen 2
  have x0 := bB.cell 0
  have x1 := bB.cell 1
  have x2 := bB.cell 2
  simp at x0 x1 x2
  have y0 := bB.frozen 0
  have y1 := bB.frozen 1
  have y2 := bB.frozen 2
  go_wp2_with fail
  refine (numbers_any _ _ _ _).mono ?_
  rintro e w2 ⟨rfl, hb2⟩
  have bB2 := bB.below hb2
  have bR2 := bR.below hb2
  have hB2 := hB.trans (hb2.mono hB.size)
  have hs2 : w.heap.size + 2 ≤ w2.heap.size := Nat.le_trans hs hb2.size
  clear hb1 hb2 r0 r1 r2 q0 q1 q2 x0 x1 x2 y0 y1 y2 bB bR
  have m3 : min (3 : Int) 2 = 2 := by decide
  have m2 : min (2 : Int) 2 = 2 := by decide
  have m1 : min (1 : Int) 2 = 1 := by decide
  go_wp2_with fail
  have bN : Blk (w2.alloc (.cells #[.int .i64 (0), .int .i64 (b), .int .i64 (c + 1)] 36)) w2.heap.size #[.int .i64 (0), .int .i64 (b), .int .i64 (c + 1)] 36 := Blk.new w2 _ _
  have bR3 := bR2.alloc (.cells #[.int .i64 (0), .int .i64 (b), .int .i64 (c + 1)] 36)
  have hB3 : Below w.heap.size w (w2.alloc (.cells #[.int .i64 (0), .int .i64 (b), .int .i64 (c + 1)] 36)) := hB2.alloc (by omega) _
  obtain ⟨N, hN⟩ : ∃ N, N = w2.heap.size := ⟨_, rfl⟩
  have hNR : w.heap.size + 2 ≤ N := by omega
  generalize w2.alloc (.cells #[.int .i64 (0), .int .i64 (b), .int .i64 (c + 1)] 36) = W0 at bN bR3 hB3 ⊢
  rw [← hN] at bN ⊢
  have HNN := Lib.hid hN
  clear hN bR2 bB2 hB2 hs2 m1 m2 m3
  go_loopw [8] (fun i wr => Blk wr (w.heap.size + 1) #[.int .i64 0, .int .i64 0, .int .i64 0] 23 ∧ Below w.heap.size w wr ∧ ((i = .int .i64 3 ∧ Blk wr N #[.int .i64 (0), .int .i64 (b), .int .i64 (c + 1)] 36))) (fun i _ => 3 - (intOf i).toNat)
  case atStart => exact ⟨bR3, hB3, ⟨rfl, bN⟩⟩
  case round =>
    clear bN bR3 hB3
    obtain ⟨bR, hB, hi⟩ := hrel
    rcases hi with ⟨rfl, bN⟩
    · by_cases hlow : c ≤ 9998
      · have HX := Lib.hid (next_ok _ 1 _ HV.out (by omega) HST.out (vld_ok (by omega) (by omega) (by omega)))
        have t1 : c + 1 ≤ 9999 := by omega
        have f0 := bN.cell 0
        have f1 := bN.cell 1
        have f2 := bN.cell 2
        simp at f0 f1 f2
        have g0 := bN.frozen 0
        have g1 := bN.frozen 1
        have g2 := bN.frozen 2
        go_wp2_with fail
        refine (version_any _ _ _ _).mono ?_
        rintro e w5 ⟨rfl, hb5⟩
        have bR5 := bR.below hb5
        have hB5 := hB.trans (hb5.mono hB.size)
        have r0 := bR5.cell 0
        have r1 := bR5.cell 1
        have r2 := bR5.cell 2
        simp at r0 r1 r2
        have q0 := bR5.frozen 0
        have q1 := bR5.frozen 1
        have q2 := bR5.frozen 2
        go_wp2_with fail
        exact bodyPost_ret (v := .tuple #[.agg #[.int .i64 (0), .int .i64 (b), .int .i64 (c + 1)], .int .i64 0]) (by simp [results, Tryd.results18, go_sem, r0, r1, r2]) rfl ⟨ret_vp (by rw [HX.out]), by go_grown⟩
      · have HX := Lib.hid (next_range _ 1 _ HV.out (by omega) HST.out (vld_no (by omega)))
        have t1 : ¬ c + 1 ≤ 9999 := by omega
        have t2 : 9999 < c + 1 := by omega
        have f0 := bN.cell 0
        have f1 := bN.cell 1
        have f2 := bN.cell 2
        simp at f0 f1 f2
        have g0 := bN.frozen 0
        have g1 := bN.frozen 1
        have g2 := bN.frozen 2
        have r0 := bR.cell 0
        have r1 := bR.cell 1
        have r2 := bR.cell 2
        simp at r0 r1 r2
        have q0 := bR.frozen 0
        have q1 := bR.frozen 1
        have q2 := bR.frozen 2
        go_wp2_with fail
        exact bodyPost_ret (v := .tuple #[.agg #[.int .i64 (0), .int .i64 (0), .int .i64 (0)], .int .i64 1]) (by simp [results, Tryd.results18, go_sem, r0, r1, r2]) rfl ⟨ret_vp (by rw [HX.out]; rfl), by go_grown⟩
set_option maxHeartbeats 4000000 in
set_option maxRecDepth 100000 in
theorem Next_1_n (a b c : Int) (ha0 : 1 ≤ a) (w : World) (hb : 0 ≤ b ∧ b ≤ 9999) (hc : 0 ≤ c ∧ c ≤ 9999) (ha : a ≤ 9999) : Calls Tryd.prog 18 #[.agg #[.int .i64 a, .int .i64 b, .int .i64 c], .int .i64 1] w (OkV (nextV ⟨a, b, c⟩ 1) w) := by
  have hv : vldV ⟨a, b, c⟩ = true := vld_ok (by omega) (by omega) (by omega)
  have hst : stepV ⟨a, b, c⟩ (lowC ⟨a, b, c⟩ 1) = ⟨a, b + 1, 0⟩ := by unfold stepV lowC; have hne : ¬ a = 0 := (by omega); simp [hne]
  have HST := Lib.hid hst
  have HV := Lib.hid hv
  clear hst hv
  have haz : (a == 0) = false := by rw [beq_eq_false_iff_ne]; omega
  go_enter Tryd.func18, Tryd.ntmps18
  go_wp2_with fail
  refine (Valid_any _ _ _ _).mono ?_
  rintro e w1 ⟨rfl, hb1⟩
  rw [HV.out]
  obtain ⟨bB, bR, hB, hs⟩ := blk_two _ _ _ _ _ hb1
  have r0 := bR.cell 0
  have r1 := bR.cell 1
  have r2 := bR.cell 2
  simp at r0 r1 r2
  have q0 := bR.frozen 0
  have q1 := bR.frozen 1
  have q2 := bR.frozen 2
  have x0 := bB.cell 0
  have x1 := bB.cell 1
  have x2 := bB.cell 2
  simp at x0 x1 x2
  have y0 := bB.frozen 0
  have y1 := bB.frozen 1
  have y2 := bB.frozen 2
  go_wp2_with fail
  refine (numbers_any _ _ _ _).mono ?_
  rintro e w2 ⟨rfl, hb2⟩
  have bB2 := bB.below hb2
  have bR2 := bR.below hb2
  have hB2 := hB.trans (hb2.mono hB.size)
  have hs2 : w.heap.size + 2 ≤ w2.heap.size := Nat.le_trans hs hb2.size
  clear hb1 hb2 r0 r1 r2 q0 q1 q2 x0 x1 x2 y0 y1 y2 bB bR
  have m3 : min (3 : Int) 2 = 2 := by decide
  have m2 : min (2 : Int) 2 = 2 := by decide
  have m1 : min (1 : Int) 2 = 1 := by decide
  go_wp2_with fail
  have bN : Blk (w2.alloc (.cells #[.int .i64 (a), .int .i64 (b + 1), .int .i64 (c)] 36)) w2.heap.size #[.int .i64 (a), .int .i64 (b + 1), .int .i64 (c)] 36 := Blk.new w2 _ _
  have bR3 := bR2.alloc (.cells #[.int .i64 (a), .int .i64 (b + 1), .int .i64 (c)] 36)
  have hB3 : Below w.heap.size w (w2.alloc (.cells #[.int .i64 (a), .int .i64 (b + 1), .int .i64 (c)] 36)) := hB2.alloc (by omega) _
  obtain ⟨N, hN⟩ : ∃ N, N = w2.heap.size := ⟨_, rfl⟩
  have hNR : w.heap.size + 2 ≤ N := by omega
  generalize w2.alloc (.cells #[.int .i64 (a), .int .i64 (b + 1), .int .i64 (c)] 36) = W0 at bN bR3 hB3 ⊢
  rw [← hN] at bN ⊢
  have HNN := Lib.hid hN
  clear hN bR2 bB2 hB2 hs2 m1 m2 m3
  go_loopw [8] (fun i wr => Blk wr (w.heap.size + 1) #[.int .i64 0, .int .i64 0, .int .i64 0] 23 ∧ Below w.heap.size w wr ∧ ((i = .int .i64 2 ∧ Blk wr N #[.int .i64 (a), .int .i64 (b + 1), .int .i64 (c)] 36) ∨ (i = .int .i64 3 ∧ Blk wr N #[.int .i64 (a), .int .i64 (b + 1), .int .i64 (0)] 36))) (fun i _ => 3 - (intOf i).toNat)
  case atStart => exact ⟨bR3, hB3, .inl ⟨rfl, bN⟩⟩
  case round =>
    clear bN bR3 hB3
    obtain ⟨bR, hB, hi⟩ := hrel
    rcases hi with ⟨rfl, bN⟩ | ⟨rfl, bN⟩
    · have f := bN.cell 2
      have g := bN.frozen 2
      simp at f
      go_wp2_with fail
      go_roundw
      case rel =>
        refine ⟨bR.set_other _ _ (by omega), hB.setCell (by first | omega | (simp; done) | (simp; omega)) _, .inr (⟨rfl, ?_⟩)⟩
        exact bN.set 2 (.int .i64 0)
      case measure => first | (simp [intOf]; done) | (simp [intOf]; omega)
    · by_cases hlow : b ≤ 9998
      · have HX := Lib.hid (next_ok _ 1 _ HV.out (by omega) HST.out (vld_ok (by omega) (by omega) (by omega)))
        have t1 : b + 1 ≤ 9999 := by omega
        have f0 := bN.cell 0
        have f1 := bN.cell 1
        have f2 := bN.cell 2
        simp at f0 f1 f2
        have g0 := bN.frozen 0
        have g1 := bN.frozen 1
        have g2 := bN.frozen 2
        go_wp2_with fail
        refine (version_any _ _ _ _).mono ?_
        rintro e w5 ⟨rfl, hb5⟩
        have bR5 := bR.below hb5
        have hB5 := hB.trans (hb5.mono hB.size)
        have r0 := bR5.cell 0
        have r1 := bR5.cell 1
        have r2 := bR5.cell 2
        simp at r0 r1 r2
        have q0 := bR5.frozen 0
        have q1 := bR5.frozen 1
        have q2 := bR5.frozen 2
        go_wp2_with fail
        exact bodyPost_ret (v := .tuple #[.agg #[.int .i64 (a), .int .i64 (b + 1), .int .i64 (0)], .int .i64 0]) (by simp [results, Tryd.results18, go_sem, r0, r1, r2]) rfl ⟨ret_vp (by rw [HX.out]), by go_grown⟩
      · have HX := Lib.hid (next_range _ 1 _ HV.out (by omega) HST.out (vld_no (by omega)))
        have t1 : ¬ b + 1 ≤ 9999 := by omega
        have t2 : 9999 < b + 1 := by omega
        have f0 := bN.cell 0
        have f1 := bN.cell 1
        have f2 := bN.cell 2
        simp at f0 f1 f2
        have g0 := bN.frozen 0
        have g1 := bN.frozen 1
        have g2 := bN.frozen 2
        have r0 := bR.cell 0
        have r1 := bR.cell 1
        have r2 := bR.cell 2
        simp at r0 r1 r2
        have q0 := bR.frozen 0
        have q1 := bR.frozen 1
        have q2 := bR.frozen 2
        go_wp2_with fail
        exact bodyPost_ret (v := .tuple #[.agg #[.int .i64 (0), .int .i64 (0), .int .i64 (0)], .int .i64 1]) (by simp [results, Tryd.results18, go_sem, r0, r1, r2]) rfl ⟨ret_vp (by rw [HX.out]; rfl), by go_grown⟩
set_option maxHeartbeats 4000000 in
set_option maxRecDepth 100000 in
theorem Next_2_z (b c : Int) (w : World) (hb : 0 ≤ b ∧ b ≤ 9999) (hc : 0 ≤ c ∧ c ≤ 9999) : Calls Tryd.prog 18 #[.agg #[.int .i64 0, .int .i64 b, .int .i64 c], .int .i64 2] w (OkV (nextV ⟨0, b, c⟩ 2) w) := by
  have hv : vldV ⟨0, b, c⟩ = true := vld_ok (by omega) (by omega) (by omega)
  have hst : stepV ⟨0, b, c⟩ (lowC ⟨0, b, c⟩ 2) = ⟨0, b + 1, 0⟩ := by unfold stepV lowC; simp; try omega
  have HST := Lib.hid hst
  have HV := Lib.hid hv
  clear hst hv
  go_enter Tryd.func18, Tryd.ntmps18
  go_wp2_with fail
  refine (Valid_any _ _ _ _).mono ?_
  rintro e w1 ⟨rfl, hb1⟩
  rw [HV.out]
  obtain ⟨bB, bR, hB, hs⟩ := blk_two _ _ _ _ _ hb1
  have r0 := bR.cell 0
  have r1 := bR.cell 1
  have r2 := bR.cell 2
  simp at r0 r1 r2
  have q0 := bR.frozen 0
  have q1 := bR.frozen 1
  have q2 := bR.frozen 2
  have x0 := bB.cell 0
  have x1 := bB.cell 1
  have x2 := bB.cell 2
  simp at x0 x1 x2
  have y0 := bB.frozen 0
  have y1 := bB.frozen 1
  have y2 := bB.frozen 2
  go_wp2_with fail
  refine (numbers_any _ _ _ _).mono ?_
  rintro e w2 ⟨rfl, hb2⟩
  have bB2 := bB.below hb2
  have bR2 := bR.below hb2
  have hB2 := hB.trans (hb2.mono hB.size)
  have hs2 : w.heap.size + 2 ≤ w2.heap.size := Nat.le_trans hs hb2.size
  clear hb1 hb2 r0 r1 r2 q0 q1 q2 x0 x1 x2 y0 y1 y2 bB bR
  have m3 : min (3 : Int) 2 = 2 := by decide
  have m2 : min (2 : Int) 2 = 2 := by decide
  have m1 : min (1 : Int) 2 = 1 := by decide
  go_wp2_with fail
  have bN : Blk (w2.alloc (.cells #[.int .i64 (0), .int .i64 (b + 1), .int .i64 (c)] 36)) w2.heap.size #[.int .i64 (0), .int .i64 (b + 1), .int .i64 (c)] 36 := Blk.new w2 _ _
  have bR3 := bR2.alloc (.cells #[.int .i64 (0), .int .i64 (b + 1), .int .i64 (c)] 36)
  have hB3 : Below w.heap.size w (w2.alloc (.cells #[.int .i64 (0), .int .i64 (b + 1), .int .i64 (c)] 36)) := hB2.alloc (by omega) _
  obtain ⟨N, hN⟩ : ∃ N, N = w2.heap.size := ⟨_, rfl⟩
  have hNR : w.heap.size + 2 ≤ N := by omega
  generalize w2.alloc (.cells #[.int .i64 (0), .int .i64 (b + 1), .int .i64 (c)] 36) = W0 at bN bR3 hB3 ⊢
  rw [← hN] at bN ⊢
  have HNN := Lib.hid hN
  clear hN bR2 bB2 hB2 hs2 m1 m2 m3
  go_loopw [8] (fun i wr => Blk wr (w.heap.size + 1) #[.int .i64 0, .int .i64 0, .int .i64 0] 23 ∧ Below w.heap.size w wr ∧ ((i = .int .i64 2 ∧ Blk wr N #[.int .i64 (0), .int .i64 (b + 1), .int .i64 (c)] 36) ∨ (i = .int .i64 3 ∧ Blk wr N #[.int .i64 (0), .int .i64 (b + 1), .int .i64 (0)] 36))) (fun i _ => 3 - (intOf i).toNat)
  case atStart => exact ⟨bR3, hB3, .inl ⟨rfl, bN⟩⟩
  case round =>
    clear bN bR3 hB3
    obtain ⟨bR, hB, hi⟩ := hrel
    rcases hi with ⟨rfl, bN⟩ | ⟨rfl, bN⟩
    · have f := bN.cell 2
      have g := bN.frozen 2
      simp at f
      go_wp2_with fail
      go_roundw
      case rel =>
        refine ⟨bR.set_other _ _ (by omega), hB.setCell (by first | omega | (simp; done) | (simp; omega)) _, .inr (⟨rfl, ?_⟩)⟩
        exact bN.set 2 (.int .i64 0)
      case measure => first | (simp [intOf]; done) | (simp [intOf]; omega)
    · by_cases hlow : b ≤ 9998
      · have HX := Lib.hid (next_ok _ 2 _ HV.out (by omega) HST.out (vld_ok (by omega) (by omega) (by omega)))
        have t1 : b + 1 ≤ 9999 := by omega
        have f0 := bN.cell 0
        have f1 := bN.cell 1
        have f2 := bN.cell 2
        simp at f0 f1 f2
        have g0 := bN.frozen 0
        have g1 := bN.frozen 1
        have g2 := bN.frozen 2
        go_wp2_with fail
        refine (version_any _ _ _ _).mono ?_
        rintro e w5 ⟨rfl, hb5⟩
        have bR5 := bR.below hb5
        have hB5 := hB.trans (hb5.mono hB.size)
        have r0 := bR5.cell 0
        have r1 := bR5.cell 1
        have r2 := bR5.cell 2
        simp at r0 r1 r2
        have q0 := bR5.frozen 0
        have q1 := bR5.frozen 1
        have q2 := bR5.frozen 2
        go_wp2_with fail
        exact bodyPost_ret (v := .tuple #[.agg #[.int .i64 (0), .int .i64 (b + 1), .int .i64 (0)], .int .i64 0]) (by simp [results, Tryd.results18, go_sem, r0, r1, r2]) rfl ⟨ret_vp (by rw [HX.out]), by go_grown⟩
      · have HX := Lib.hid (next_range _ 2 _ HV.out (by omega) HST.out (vld_no (by omega)))
        have t1 : ¬ b + 1 ≤ 9999 := by omega
        have t2 : 9999 < b + 1 := by omega
        have f0 := bN.cell 0
        have f1 := bN.cell 1
        have f2 := bN.cell 2
        simp at f0 f1 f2
        have g0 := bN.frozen 0
        have g1 := bN.frozen 1
        have g2 := bN.frozen 2
        have r0 := bR.cell 0
        have r1 := bR.cell 1
        have r2 := bR.cell 2
        simp at r0 r1 r2
        have q0 := bR.frozen 0
        have q1 := bR.frozen 1
        have q2 := bR.frozen 2
        go_wp2_with fail
        exact bodyPost_ret (v := .tuple #[.agg #[.int .i64 (0), .int .i64 (0), .int .i64 (0)], .int .i64 1]) (by simp [results, Tryd.results18, go_sem, r0, r1, r2]) rfl ⟨ret_vp (by rw [HX.out]; rfl), by go_grown⟩
set_option maxHeartbeats 4000000 in
set_option maxRecDepth 100000 in
theorem Next_2_n (a b c : Int) (ha0 : 1 ≤ a) (w : World) (hb : 0 ≤ b ∧ b ≤ 9999) (hc : 0 ≤ c ∧ c ≤ 9999) (ha : a ≤ 9999) : Calls Tryd.prog 18 #[.agg #[.int .i64 a, .int .i64 b, .int .i64 c], .int .i64 2] w (OkV (nextV ⟨a, b, c⟩ 2) w) := by
  have hv : vldV ⟨a, b, c⟩ = true := vld_ok (by omega) (by omega) (by omega)
  have hst : stepV ⟨a, b, c⟩ (lowC ⟨a, b, c⟩ 2) = ⟨a + 1, 0, 0⟩ := by unfold stepV lowC; have hne : ¬ a = 0 := (by omega); simp [hne]
  have HST := Lib.hid hst
  have HV := Lib.hid hv
  clear hst hv
  have haz : (a == 0) = false := by rw [beq_eq_false_iff_ne]; omega
  go_enter Tryd.func18, Tryd.ntmps18
  go_wp2_with fail
  refine (Valid_any _ _ _ _).mono ?_
  rintro e w1 ⟨rfl, hb1⟩
  rw [HV.out]
  obtain ⟨bB, bR, hB, hs⟩ := blk_two _ _ _ _ _ hb1
  have r0 := bR.cell 0
  have r1 := bR.cell 1
  have r2 := bR.cell 2
  simp at r0 r1 r2
  have q0 := bR.frozen 0
  have q1 := bR.frozen 1
  have q2 := bR.frozen 2
  have x0 := bB.cell 0
  have x1 := bB.cell 1
  have x2 := bB.cell 2
  simp at x0 x1 x2
  have y0 := bB.frozen 0
  have y1 := bB.frozen 1
  have y2 := bB.frozen 2
  go_wp2_with fail
  refine (numbers_any _ _ _ _).mono ?_
  rintro e w2 ⟨rfl, hb2⟩
  have bB2 := bB.below hb2
  have bR2 := bR.below hb2
  have hB2 := hB.trans (hb2.mono hB.size)
  have hs2 : w.heap.size + 2 ≤ w2.heap.size := Nat.le_trans hs hb2.size
  clear hb1 hb2 r0 r1 r2 q0 q1 q2 x0 x1 x2 y0 y1 y2 bB bR
  have m3 : min (3 : Int) 2 = 2 := by decide
  have m2 : min (2 : Int) 2 = 2 := by decide
  have m1 : min (1 : Int) 2 = 1 := by decide
  go_wp2_with fail
  have bN : Blk (w2.alloc (.cells #[.int .i64 (a + 1), .int .i64 (b), .int .i64 (c)] 36)) w2.heap.size #[.int .i64 (a + 1), .int .i64 (b), .int .i64 (c)] 36 := Blk.new w2 _ _
  have bR3 := bR2.alloc (.cells #[.int .i64 (a + 1), .int .i64 (b), .int .i64 (c)] 36)
  have hB3 : Below w.heap.size w (w2.alloc (.cells #[.int .i64 (a + 1), .int .i64 (b), .int .i64 (c)] 36)) := hB2.alloc (by omega) _
  obtain ⟨N, hN⟩ : ∃ N, N = w2.heap.size := ⟨_, rfl⟩
  have hNR : w.heap.size + 2 ≤ N := by omega
  generalize w2.alloc (.cells #[.int .i64 (a + 1), .int .i64 (b), .int .i64 (c)] 36) = W0 at bN bR3 hB3 ⊢
  rw [← hN] at bN ⊢
  have HNN := Lib.hid hN
  clear hN bR2 bB2 hB2 hs2 m1 m2 m3
  go_loopw [8] (fun i wr => Blk wr (w.heap.size + 1) #[.int .i64 0, .int .i64 0, .int .i64 0] 23 ∧ Below w.heap.size w wr ∧ ((i = .int .i64 1 ∧ Blk wr N #[.int .i64 (a + 1), .int .i64 (b), .int .i64 (c)] 36) ∨ (i = .int .i64 2 ∧ Blk wr N #[.int .i64 (a + 1), .int .i64 (0), .int .i64 (c)] 36) ∨ (i = .int .i64 3 ∧ Blk wr N #[.int .i64 (a + 1), .int .i64 (0), .int .i64 (0)] 36))) (fun i _ => 3 - (intOf i).toNat)
  case atStart => exact ⟨bR3, hB3, .inl ⟨rfl, bN⟩⟩
  case round =>
    clear bN bR3 hB3
    obtain ⟨bR, hB, hi⟩ := hrel
    rcases hi with ⟨rfl, bN⟩ | ⟨rfl, bN⟩ | ⟨rfl, bN⟩
    · have f := bN.cell 1
      have g := bN.frozen 1
      simp at f
      go_wp2_with fail
      go_roundw
      case rel =>
        refine ⟨bR.set_other _ _ (by omega), hB.setCell (by first | omega | (simp; done) | (simp; omega)) _, .inr (.inl ⟨rfl, ?_⟩)⟩
        exact bN.set 1 (.int .i64 0)
      case measure => first | (simp [intOf]; done) | (simp [intOf]; omega)
    · have f := bN.cell 2
      have g := bN.frozen 2
      simp at f
      go_wp2_with fail
      go_roundw
      case rel =>
        refine ⟨bR.set_other _ _ (by omega), hB.setCell (by first | omega | (simp; done) | (simp; omega)) _, .inr (.inr (⟨rfl, ?_⟩))⟩
        exact bN.set 2 (.int .i64 0)
      case measure => first | (simp [intOf]; done) | (simp [intOf]; omega)
    · by_cases hlow : a ≤ 9998
      · have HX := Lib.hid (next_ok _ 2 _ HV.out (by omega) HST.out (vld_ok (by omega) (by omega) (by omega)))
        have t1 : a + 1 ≤ 9999 := by omega
        have f0 := bN.cell 0
        have f1 := bN.cell 1
        have f2 := bN.cell 2
        simp at f0 f1 f2
        have g0 := bN.frozen 0
        have g1 := bN.frozen 1
        have g2 := bN.frozen 2
        go_wp2_with fail
        refine (version_any _ _ _ _).mono ?_
        rintro e w5 ⟨rfl, hb5⟩
        have bR5 := bR.below hb5
        have hB5 := hB.trans (hb5.mono hB.size)
        have r0 := bR5.cell 0
        have r1 := bR5.cell 1
        have r2 := bR5.cell 2
        simp at r0 r1 r2
        have q0 := bR5.frozen 0
        have q1 := bR5.frozen 1
        have q2 := bR5.frozen 2
        go_wp2_with fail
        exact bodyPost_ret (v := .tuple #[.agg #[.int .i64 (a + 1), .int .i64 (0), .int .i64 (0)], .int .i64 0]) (by simp [results, Tryd.results18, go_sem, r0, r1, r2]) rfl ⟨ret_vp (by rw [HX.out]), by go_grown⟩
      · have HX := Lib.hid (next_range _ 2 _ HV.out (by omega) HST.out (vld_no (by omega)))
        have t1 : ¬ a + 1 ≤ 9999 := by omega
        have t2 : 9999 < a + 1 := by omega
        have f0 := bN.cell 0
        have f1 := bN.cell 1
        have f2 := bN.cell 2
        simp at f0 f1 f2
        have g0 := bN.frozen 0
        have g1 := bN.frozen 1
        have g2 := bN.frozen 2
        have r0 := bR.cell 0
        have r1 := bR.cell 1
        have r2 := bR.cell 2
        simp at r0 r1 r2
        have q0 := bR.frozen 0
        have q1 := bR.frozen 1
        have q2 := bR.frozen 2
        go_wp2_with fail
        exact bodyPost_ret (v := .tuple #[.agg #[.int .i64 (0), .int .i64 (0), .int .i64 (0)], .int .i64 1]) (by simp [results, Tryd.results18, go_sem, r0, r1, r2]) rfl ⟨ret_vp (by rw [HX.out]; rfl), by go_grown⟩
end Go.Proofs.YtppbbalojbedpaaDoor
