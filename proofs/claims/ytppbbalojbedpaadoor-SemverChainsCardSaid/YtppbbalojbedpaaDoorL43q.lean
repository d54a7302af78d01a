/- The laws of versions: whether one can take the place of another: the program's answer and the specification's. -/
import Derived.Test.YtppbbalojbedpaaDoorL43p
namespace Go.Proofs.YtppbbalojbedpaaDoor
open Go.RowKit

set_option maxHeartbeats 2000000 in
set_option maxRecDepth 100000 in
theorem Compatible_any (a0 a1 a2 b0 b1 b2 : Int) (w : World) : Calls Tryd.prog 22 #[.agg #[.int .i64 a0, .int .i64 a1, .int .i64 a2], .agg #[.int .i64 b0, .int .i64 b1, .int .i64 b2]] w fun e w' => e = .returned (.bool (compV ⟨a0, a1, a2⟩ ⟨b0, b1, b2⟩)) ∧ Below w.heap.size w w' := by
  have HC : Hid (compV ⟨a0, a1, a2⟩ ⟨b0, b1, b2⟩ = (vldV ⟨a0, a1, a2⟩ && vldV ⟨b0, b1, b2⟩ && (decide (cmpV ⟨a0, a1, a2⟩ ⟨b0, b1, b2⟩ ≤ 0)) && decide (a0 = b0) && (decide (0 < a0) || decide (a1 = b1)))) := Lib.hid (by rfl)
  generalize compV ⟨a0, a1, a2⟩ ⟨b0, b1, b2⟩ = r at HC ⊢
  obtain ⟨n, hn⟩ : ∃ n, cmpV ⟨a0, a1, a2⟩ ⟨b0, b1, b2⟩ = n := ⟨_, rfl⟩
  have HN := Lib.hid hn
  rw [hn] at HC
  clear hn
  rcases bool_two (vldV ⟨a0, a1, a2⟩) with hp | hp
  · have HP := Lib.hid hp; clear hp
    go_enter Tryd.func22, Tryd.ntmps22
    go_wp2_with fail
    have hF := start_two w _ a0 a1 a2 b0 b1 b2 rfl
    generalize ((w.alloc (.cells #[.int .i64 a0, .int .i64 a1, .int .i64 a2] 23)).alloc (.cells #[.int .i64 b0, .int .i64 b1, .int .i64 b2] 23)) = W0 at hF ⊢
    have hG := Lib.hid hF
    obtain ⟨f0, f1, f2, f3, f4, f5, f6, f7⟩ := hF
    refine (Valid_any _ _ _ _).mono ?_
    rintro e w9 ⟨rfl, hb9⟩
    rw [HP.out]
    have hF := keep_two hb9 hG.out
    clear hb9 hG f0 f1 f2 f3 f4 f5 f6 f7
    obtain ⟨f0, f1, f2, f3, f4, f5, f6, f7⟩ := hF
    go_wp2_with fail
    go_ret
    exact ⟨ret_bool (by rw [HC.out, HP.out]; simp), f7⟩
  have HP := Lib.hid hp; clear hp
  rcases bool_two (vldV ⟨b0, b1, b2⟩) with hq | hq
  · have HQ := Lib.hid hq; clear hq
    go_enter Tryd.func22, Tryd.ntmps22
    go_wp2_with fail
    have hF := start_two w _ a0 a1 a2 b0 b1 b2 rfl
    generalize ((w.alloc (.cells #[.int .i64 a0, .int .i64 a1, .int .i64 a2] 23)).alloc (.cells #[.int .i64 b0, .int .i64 b1, .int .i64 b2] 23)) = W0 at hF ⊢
    have hG := Lib.hid hF
    obtain ⟨f0, f1, f2, f3, f4, f5, f6, f7⟩ := hF
    refine (Valid_any _ _ _ _).mono ?_
    rintro e w9 ⟨rfl, hb9⟩
    rw [HP.out]
    have hF := keep_two hb9 hG.out
    clear hb9 hG f0 f1 f2 f3 f4 f5 f6 f7
    have hG := Lib.hid hF
    obtain ⟨f0, f1, f2, f3, f4, f5, f6, f7⟩ := hF
    go_wp2_with fail
    refine (Valid_any _ _ _ _).mono ?_
    rintro e w9 ⟨rfl, hb9⟩
    rw [HQ.out]
    have hF := keep_two hb9 hG.out
    clear hb9 hG f0 f1 f2 f3 f4 f5 f6 f7
    obtain ⟨f0, f1, f2, f3, f4, f5, f6, f7⟩ := hF
    go_wp2_with fail
    go_ret
    exact ⟨ret_bool (by rw [HC.out, HP.out, HQ.out]; simp), f7⟩
  have HQ := Lib.hid hq; clear hq
  by_cases h1 : 0 < n
  · skip
    go_enter Tryd.func22, Tryd.ntmps22
    go_wp2_with fail
    have hF := start_two w _ a0 a1 a2 b0 b1 b2 rfl
    generalize ((w.alloc (.cells #[.int .i64 a0, .int .i64 a1, .int .i64 a2] 23)).alloc (.cells #[.int .i64 b0, .int .i64 b1, .int .i64 b2] 23)) = W0 at hF ⊢
    have hG := Lib.hid hF
    obtain ⟨f0, f1, f2, f3, f4, f5, f6, f7⟩ := hF
    refine (Valid_any _ _ _ _).mono ?_
    rintro e w9 ⟨rfl, hb9⟩
    rw [HP.out]
    have hF := keep_two hb9 hG.out
    clear hb9 hG f0 f1 f2 f3 f4 f5 f6 f7
    have hG := Lib.hid hF
    obtain ⟨f0, f1, f2, f3, f4, f5, f6, f7⟩ := hF
    go_wp2_with fail
    refine (Valid_any _ _ _ _).mono ?_
    rintro e w9 ⟨rfl, hb9⟩
    rw [HQ.out]
    have hF := keep_two hb9 hG.out
    clear hb9 hG f0 f1 f2 f3 f4 f5 f6 f7
    have hG := Lib.hid hF
    obtain ⟨f0, f1, f2, f3, f4, f5, f6, f7⟩ := hF
    go_wp2_with fail
    refine (Compare_any _ _ _ _ _ _ _).mono ?_
    rintro e w9 ⟨rfl, hb9⟩
    rw [HN.out]
    have hF := keep_two hb9 hG.out
    clear hb9 hG f0 f1 f2 f3 f4 f5 f6 f7
    obtain ⟨f0, f1, f2, f3, f4, f5, f6, f7⟩ := hF
    go_wp2_with fail
    go_ret
    exact ⟨ret_bool (by rw [HC.out, HP.out, HQ.out]; simp; omega), f7⟩
  by_cases h2 : a0 = b0
  · have t2 : (a0 == b0) = true := by simpa using h2
    have H2 := Lib.hid h2; clear h2
    by_cases h3 : 0 < a0
    · skip
      go_enter Tryd.func22, Tryd.ntmps22
      go_wp2_with fail
      have hF := start_two w _ a0 a1 a2 b0 b1 b2 rfl
      generalize ((w.alloc (.cells #[.int .i64 a0, .int .i64 a1, .int .i64 a2] 23)).alloc (.cells #[.int .i64 b0, .int .i64 b1, .int .i64 b2] 23)) = W0 at hF ⊢
      have hG := Lib.hid hF
      obtain ⟨f0, f1, f2, f3, f4, f5, f6, f7⟩ := hF
      refine (Valid_any _ _ _ _).mono ?_
      rintro e w9 ⟨rfl, hb9⟩
      rw [HP.out]
      have hF := keep_two hb9 hG.out
      clear hb9 hG f0 f1 f2 f3 f4 f5 f6 f7
      have hG := Lib.hid hF
      obtain ⟨f0, f1, f2, f3, f4, f5, f6, f7⟩ := hF
      go_wp2_with fail
      refine (Valid_any _ _ _ _).mono ?_
      rintro e w9 ⟨rfl, hb9⟩
      rw [HQ.out]
      have hF := keep_two hb9 hG.out
      clear hb9 hG f0 f1 f2 f3 f4 f5 f6 f7
      have hG := Lib.hid hF
      obtain ⟨f0, f1, f2, f3, f4, f5, f6, f7⟩ := hF
      go_wp2_with fail
      refine (Compare_any _ _ _ _ _ _ _).mono ?_
      rintro e w9 ⟨rfl, hb9⟩
      rw [HN.out]
      have hF := keep_two hb9 hG.out
      clear hb9 hG f0 f1 f2 f3 f4 f5 f6 f7
      obtain ⟨f0, f1, f2, f3, f4, f5, f6, f7⟩ := hF
      go_wp2_with fail
      go_ret
      exact ⟨ret_bool (by rw [HC.out, HP.out, HQ.out]; simp [H2.out]; have := H2.out; omega), f7⟩
    by_cases h4 : a1 = b1
    · have t4 : (a1 == b1) = true := by simpa using h4
      have H4 := Lib.hid h4; clear h4
      go_enter Tryd.func22, Tryd.ntmps22
      go_wp2_with fail
      have hF := start_two w _ a0 a1 a2 b0 b1 b2 rfl
      generalize ((w.alloc (.cells #[.int .i64 a0, .int .i64 a1, .int .i64 a2] 23)).alloc (.cells #[.int .i64 b0, .int .i64 b1, .int .i64 b2] 23)) = W0 at hF ⊢
      have hG := Lib.hid hF
      obtain ⟨f0, f1, f2, f3, f4, f5, f6, f7⟩ := hF
      refine (Valid_any _ _ _ _).mono ?_
      rintro e w9 ⟨rfl, hb9⟩
      rw [HP.out]
      have hF := keep_two hb9 hG.out
      clear hb9 hG f0 f1 f2 f3 f4 f5 f6 f7
      have hG := Lib.hid hF
      obtain ⟨f0, f1, f2, f3, f4, f5, f6, f7⟩ := hF
      go_wp2_with fail
      refine (Valid_any _ _ _ _).mono ?_
      rintro e w9 ⟨rfl, hb9⟩
      rw [HQ.out]
      have hF := keep_two hb9 hG.out
      clear hb9 hG f0 f1 f2 f3 f4 f5 f6 f7
      have hG := Lib.hid hF
      obtain ⟨f0, f1, f2, f3, f4, f5, f6, f7⟩ := hF
      go_wp2_with fail
      refine (Compare_any _ _ _ _ _ _ _).mono ?_
      rintro e w9 ⟨rfl, hb9⟩
      rw [HN.out]
      have hF := keep_two hb9 hG.out
      clear hb9 hG f0 f1 f2 f3 f4 f5 f6 f7
      obtain ⟨f0, f1, f2, f3, f4, f5, f6, f7⟩ := hF
      go_wp2_with fail
      go_ret
      exact ⟨ret_bool (by rw [HC.out, HP.out, HQ.out]; simp [H2.out, H4.out]; omega), f7⟩
    · have t4 : (a1 == b1) = false := by simpa using h4
      have H4 := Lib.hid h4; clear h4
      go_enter Tryd.func22, Tryd.ntmps22
      go_wp2_with fail
      have hF := start_two w _ a0 a1 a2 b0 b1 b2 rfl
      generalize ((w.alloc (.cells #[.int .i64 a0, .int .i64 a1, .int .i64 a2] 23)).alloc (.cells #[.int .i64 b0, .int .i64 b1, .int .i64 b2] 23)) = W0 at hF ⊢
      have hG := Lib.hid hF
      obtain ⟨f0, f1, f2, f3, f4, f5, f6, f7⟩ := hF
      refine (Valid_any _ _ _ _).mono ?_
      rintro e w9 ⟨rfl, hb9⟩
      rw [HP.out]
      have hF := keep_two hb9 hG.out
      clear hb9 hG f0 f1 f2 f3 f4 f5 f6 f7
      have hG := Lib.hid hF
      obtain ⟨f0, f1, f2, f3, f4, f5, f6, f7⟩ := hF
      go_wp2_with fail
      refine (Valid_any _ _ _ _).mono ?_
      rintro e w9 ⟨rfl, hb9⟩
      rw [HQ.out]
      have hF := keep_two hb9 hG.out
      clear hb9 hG f0 f1 f2 f3 f4 f5 f6 f7
      have hG := Lib.hid hF
      obtain ⟨f0, f1, f2, f3, f4, f5, f6, f7⟩ := hF
      go_wp2_with fail
      refine (Compare_any _ _ _ _ _ _ _).mono ?_
      rintro e w9 ⟨rfl, hb9⟩
      rw [HN.out]
      have hF := keep_two hb9 hG.out
      clear hb9 hG f0 f1 f2 f3 f4 f5 f6 f7
      obtain ⟨f0, f1, f2, f3, f4, f5, f6, f7⟩ := hF
      go_wp2_with fail
      go_ret
      exact ⟨ret_bool (by rw [HC.out, HP.out, HQ.out]; simp [H2.out, H4.out]; omega), f7⟩
  · have t2 : (a0 == b0) = false := by simpa using h2
    have H2 := Lib.hid h2; clear h2
    go_enter Tryd.func22, Tryd.ntmps22
    go_wp2_with fail
    have hF := start_two w _ a0 a1 a2 b0 b1 b2 rfl
    generalize ((w.alloc (.cells #[.int .i64 a0, .int .i64 a1, .int .i64 a2] 23)).alloc (.cells #[.int .i64 b0, .int .i64 b1, .int .i64 b2] 23)) = W0 at hF ⊢
    have hG := Lib.hid hF
    obtain ⟨f0, f1, f2, f3, f4, f5, f6, f7⟩ := hF
    refine (Valid_any _ _ _ _).mono ?_
    rintro e w9 ⟨rfl, hb9⟩
    rw [HP.out]
    have hF := keep_two hb9 hG.out
    clear hb9 hG f0 f1 f2 f3 f4 f5 f6 f7
    have hG := Lib.hid hF
    obtain ⟨f0, f1, f2, f3, f4, f5, f6, f7⟩ := hF
    go_wp2_with fail
    refine (Valid_any _ _ _ _).mono ?_
    rintro e w9 ⟨rfl, hb9⟩
    rw [HQ.out]
    have hF := keep_two hb9 hG.out
    clear hb9 hG f0 f1 f2 f3 f4 f5 f6 f7
    have hG := Lib.hid hF
    obtain ⟨f0, f1, f2, f3, f4, f5, f6, f7⟩ := hF
    go_wp2_with fail
    refine (Compare_any _ _ _ _ _ _ _).mono ?_
    rintro e w9 ⟨rfl, hb9⟩
    rw [HN.out]
    have hF := keep_two hb9 hG.out
    clear hb9 hG f0 f1 f2 f3 f4 f5 f6 f7
    obtain ⟨f0, f1, f2, f3, f4, f5, f6, f7⟩ := hF
    go_wp2_with fail
    go_ret
    exact ⟨ret_bool (by rw [HC.out, HP.out, HQ.out]; simp [H2.out]), f7⟩
set_option maxHeartbeats 2000000 in
set_option maxRecDepth 100000 in
theorem refCompatible_any (a0 a1 a2 b0 b1 b2 : Int) (w : World) : Calls Tryd.prog 23 #[.agg #[.int .i64 a0, .int .i64 a1, .int .i64 a2], .agg #[.int .i64 b0, .int .i64 b1, .int .i64 b2]] w fun e w' => e = .returned (.bool (compV ⟨a0, a1, a2⟩ ⟨b0, b1, b2⟩)) ∧ Below w.heap.size w w' := by
  have HC : Hid (compV ⟨a0, a1, a2⟩ ⟨b0, b1, b2⟩ = (vldV ⟨a0, a1, a2⟩ && vldV ⟨b0, b1, b2⟩ && (!decide (cmpV ⟨b0, b1, b2⟩ ⟨a0, a1, a2⟩ < 0)) && decide (a0 = b0) && (decide (0 < a0) || decide (a1 = b1)))) := Lib.hid (by unfold compV; rw [cmpV_comp])
  generalize compV ⟨a0, a1, a2⟩ ⟨b0, b1, b2⟩ = r at HC ⊢
  obtain ⟨n, hn⟩ : ∃ n, cmpV ⟨b0, b1, b2⟩ ⟨a0, a1, a2⟩ = n := ⟨_, rfl⟩
  have HN := Lib.hid hn
  rw [hn] at HC
  clear hn
  rcases bool_two (vldV ⟨a0, a1, a2⟩) with hp | hp
  · have HP := Lib.hid hp; clear hp
    go_enter Tryd.func23, Tryd.ntmps23
    go_wp2_with fail
    have hF := start_two w _ a0 a1 a2 b0 b1 b2 rfl
    generalize ((w.alloc (.cells #[.int .i64 a0, .int .i64 a1, .int .i64 a2] 23)).alloc (.cells #[.int .i64 b0, .int .i64 b1, .int .i64 b2] 23)) = W0 at hF ⊢
    have hG := Lib.hid hF
    obtain ⟨f0, f1, f2, f3, f4, f5, f6, f7⟩ := hF
    refine (refValid_any _ _ _ _).mono ?_
    rintro e w9 ⟨rfl, hb9⟩
    rw [HP.out]
    have hF := keep_two hb9 hG.out
    clear hb9 hG f0 f1 f2 f3 f4 f5 f6 f7
    obtain ⟨f0, f1, f2, f3, f4, f5, f6, f7⟩ := hF
    go_wp2_with fail
    go_ret
    exact ⟨ret_bool (by rw [HC.out, HP.out]; simp), f7⟩
  have HP := Lib.hid hp; clear hp
  rcases bool_two (vldV ⟨b0, b1, b2⟩) with hq | hq
  · have HQ := Lib.hid hq; clear hq
    go_enter Tryd.func23, Tryd.ntmps23
    go_wp2_with fail
    have hF := start_two w _ a0 a1 a2 b0 b1 b2 rfl
    generalize ((w.alloc (.cells #[.int .i64 a0, .int .i64 a1, .int .i64 a2] 23)).alloc (.cells #[.int .i64 b0, .int .i64 b1, .int .i64 b2] 23)) = W0 at hF ⊢
    have hG := Lib.hid hF
    obtain ⟨f0, f1, f2, f3, f4, f5, f6, f7⟩ := hF
    refine (refValid_any _ _ _ _).mono ?_
    rintro e w9 ⟨rfl, hb9⟩
    rw [HP.out]
    have hF := keep_two hb9 hG.out
    clear hb9 hG f0 f1 f2 f3 f4 f5 f6 f7
    have hG := Lib.hid hF
    obtain ⟨f0, f1, f2, f3, f4, f5, f6, f7⟩ := hF
    go_wp2_with fail
    refine (refValid_any _ _ _ _).mono ?_
    rintro e w9 ⟨rfl, hb9⟩
    rw [HQ.out]
    have hF := keep_two hb9 hG.out
    clear hb9 hG f0 f1 f2 f3 f4 f5 f6 f7
    obtain ⟨f0, f1, f2, f3, f4, f5, f6, f7⟩ := hF
    go_wp2_with fail
    go_ret
    exact ⟨ret_bool (by rw [HC.out, HP.out, HQ.out]; simp), f7⟩
  have HQ := Lib.hid hq; clear hq
  by_cases h1 : n < 0
  · skip
    go_enter Tryd.func23, Tryd.ntmps23
    go_wp2_with fail
    have hF := start_two w _ a0 a1 a2 b0 b1 b2 rfl
    generalize ((w.alloc (.cells #[.int .i64 a0, .int .i64 a1, .int .i64 a2] 23)).alloc (.cells #[.int .i64 b0, .int .i64 b1, .int .i64 b2] 23)) = W0 at hF ⊢
    have hG := Lib.hid hF
    obtain ⟨f0, f1, f2, f3, f4, f5, f6, f7⟩ := hF
    refine (refValid_any _ _ _ _).mono ?_
    rintro e w9 ⟨rfl, hb9⟩
    rw [HP.out]
    have hF := keep_two hb9 hG.out
    clear hb9 hG f0 f1 f2 f3 f4 f5 f6 f7
    have hG := Lib.hid hF
    obtain ⟨f0, f1, f2, f3, f4, f5, f6, f7⟩ := hF
    go_wp2_with fail
    refine (refValid_any _ _ _ _).mono ?_
    rintro e w9 ⟨rfl, hb9⟩
    rw [HQ.out]
    have hF := keep_two hb9 hG.out
    clear hb9 hG f0 f1 f2 f3 f4 f5 f6 f7
    have hG := Lib.hid hF
    obtain ⟨f0, f1, f2, f3, f4, f5, f6, f7⟩ := hF
    go_wp2_with fail
    refine (refCompare_any _ _ _ _ _ _ _).mono ?_
    rintro e w9 ⟨rfl, hb9⟩
    rw [HN.out]
    have hF := keep_two hb9 hG.out
    clear hb9 hG f0 f1 f2 f3 f4 f5 f6 f7
    obtain ⟨f0, f1, f2, f3, f4, f5, f6, f7⟩ := hF
    go_wp2_with fail
    go_ret
    exact ⟨ret_bool (by rw [HC.out, HP.out, HQ.out]; simp [h1]), f7⟩
  by_cases h2 : a0 = b0
  · have t2 : (a0 == b0) = true := by simpa using h2
    have H2 := Lib.hid h2; clear h2
    by_cases h3 : 0 < a0
    · skip
      go_enter Tryd.func23, Tryd.ntmps23
      go_wp2_with fail
      have hF := start_two w _ a0 a1 a2 b0 b1 b2 rfl
      generalize ((w.alloc (.cells #[.int .i64 a0, .int .i64 a1, .int .i64 a2] 23)).alloc (.cells #[.int .i64 b0, .int .i64 b1, .int .i64 b2] 23)) = W0 at hF ⊢
      have hG := Lib.hid hF
      obtain ⟨f0, f1, f2, f3, f4, f5, f6, f7⟩ := hF
      refine (refValid_any _ _ _ _).mono ?_
      rintro e w9 ⟨rfl, hb9⟩
      rw [HP.out]
      have hF := keep_two hb9 hG.out
      clear hb9 hG f0 f1 f2 f3 f4 f5 f6 f7
      have hG := Lib.hid hF
      obtain ⟨f0, f1, f2, f3, f4, f5, f6, f7⟩ := hF
      go_wp2_with fail
      refine (refValid_any _ _ _ _).mono ?_
      rintro e w9 ⟨rfl, hb9⟩
      rw [HQ.out]
      have hF := keep_two hb9 hG.out
      clear hb9 hG f0 f1 f2 f3 f4 f5 f6 f7
      have hG := Lib.hid hF
      obtain ⟨f0, f1, f2, f3, f4, f5, f6, f7⟩ := hF
      go_wp2_with fail
      refine (refCompare_any _ _ _ _ _ _ _).mono ?_
      rintro e w9 ⟨rfl, hb9⟩
      rw [HN.out]
      have hF := keep_two hb9 hG.out
      clear hb9 hG f0 f1 f2 f3 f4 f5 f6 f7
      obtain ⟨f0, f1, f2, f3, f4, f5, f6, f7⟩ := hF
      go_wp2_with fail
      go_ret
      exact ⟨ret_bool (by rw [HC.out, HP.out, HQ.out]; simp [H2.out]; have := H2.out; omega), f7⟩
    by_cases h4 : a1 = b1
    · have t4 : (a1 == b1) = true := by simpa using h4
      have H4 := Lib.hid h4; clear h4
      go_enter Tryd.func23, Tryd.ntmps23
      go_wp2_with fail
      have hF := start_two w _ a0 a1 a2 b0 b1 b2 rfl
      generalize ((w.alloc (.cells #[.int .i64 a0, .int .i64 a1, .int .i64 a2] 23)).alloc (.cells #[.int .i64 b0, .int .i64 b1, .int .i64 b2] 23)) = W0 at hF ⊢
      have hG := Lib.hid hF
      obtain ⟨f0, f1, f2, f3, f4, f5, f6, f7⟩ := hF
      refine (refValid_any _ _ _ _).mono ?_
      rintro e w9 ⟨rfl, hb9⟩
      rw [HP.out]
      have hF := keep_two hb9 hG.out
      clear hb9 hG f0 f1 f2 f3 f4 f5 f6 f7
      have hG := Lib.hid hF
      obtain ⟨f0, f1, f2, f3, f4, f5, f6, f7⟩ := hF
      go_wp2_with fail
      refine (refValid_any _ _ _ _).mono ?_
      rintro e w9 ⟨rfl, hb9⟩
      rw [HQ.out]
      have hF := keep_two hb9 hG.out
      clear hb9 hG f0 f1 f2 f3 f4 f5 f6 f7
      have hG := Lib.hid hF
      obtain ⟨f0, f1, f2, f3, f4, f5, f6, f7⟩ := hF
      go_wp2_with fail
      refine (refCompare_any _ _ _ _ _ _ _).mono ?_
      rintro e w9 ⟨rfl, hb9⟩
      rw [HN.out]
      have hF := keep_two hb9 hG.out
      clear hb9 hG f0 f1 f2 f3 f4 f5 f6 f7
      obtain ⟨f0, f1, f2, f3, f4, f5, f6, f7⟩ := hF
      go_wp2_with fail
      go_ret
      exact ⟨ret_bool (by rw [HC.out, HP.out, HQ.out]; simp [H2.out, H4.out]; omega), f7⟩
    · have t4 : (a1 == b1) = false := by simpa using h4
      have H4 := Lib.hid h4; clear h4
      go_enter Tryd.func23, Tryd.ntmps23
      go_wp2_with fail
      have hF := start_two w _ a0 a1 a2 b0 b1 b2 rfl
      generalize ((w.alloc (.cells #[.int .i64 a0, .int .i64 a1, .int .i64 a2] 23)).alloc (.cells #[.int .i64 b0, .int .i64 b1, .int .i64 b2] 23)) = W0 at hF ⊢
      have hG := Lib.hid hF
      obtain ⟨f0, f1, f2, f3, f4, f5, f6, f7⟩ := hF
      refine (refValid_any _ _ _ _).mono ?_
      rintro e w9 ⟨rfl, hb9⟩
      rw [HP.out]
      have hF := keep_two hb9 hG.out
      clear hb9 hG f0 f1 f2 f3 f4 f5 f6 f7
      have hG := Lib.hid hF
      obtain ⟨f0, f1, f2, f3, f4, f5, f6, f7⟩ := hF
      go_wp2_with fail
      refine (refValid_any _ _ _ _).mono ?_
      rintro e w9 ⟨rfl, hb9⟩
      rw [HQ.out]
      have hF := keep_two hb9 hG.out
      clear hb9 hG f0 f1 f2 f3 f4 f5 f6 f7
      have hG := Lib.hid hF
      obtain ⟨f0, f1, f2, f3, f4, f5, f6, f7⟩ := hF
      go_wp2_with fail
      refine (refCompare_any _ _ _ _ _ _ _).mono ?_
      rintro e w9 ⟨rfl, hb9⟩
      rw [HN.out]
      have hF := keep_two hb9 hG.out
      clear hb9 hG f0 f1 f2 f3 f4 f5 f6 f7
      obtain ⟨f0, f1, f2, f3, f4, f5, f6, f7⟩ := hF
      go_wp2_with fail
      go_ret
      exact ⟨ret_bool (by rw [HC.out, HP.out, HQ.out]; simp [H2.out, H4.out]; omega), f7⟩
  · have t2 : (a0 == b0) = false := by simpa using h2
    have H2 := Lib.hid h2; clear h2
    go_enter Tryd.func23, Tryd.ntmps23
    go_wp2_with fail
    have hF := start_two w _ a0 a1 a2 b0 b1 b2 rfl
    generalize ((w.alloc (.cells #[.int .i64 a0, .int .i64 a1, .int .i64 a2] 23)).alloc (.cells #[.int .i64 b0, .int .i64 b1, .int .i64 b2] 23)) = W0 at hF ⊢
    have hG := Lib.hid hF
    obtain ⟨f0, f1, f2, f3, f4, f5, f6, f7⟩ := hF
    refine (refValid_any _ _ _ _).mono ?_
    rintro e w9 ⟨rfl, hb9⟩
    rw [HP.out]
    have hF := keep_two hb9 hG.out
    clear hb9 hG f0 f1 f2 f3 f4 f5 f6 f7
    have hG := Lib.hid hF
    obtain ⟨f0, f1, f2, f3, f4, f5, f6, f7⟩ := hF
    go_wp2_with fail
    refine (refValid_any _ _ _ _).mono ?_
    rintro e w9 ⟨rfl, hb9⟩
    rw [HQ.out]
    have hF := keep_two hb9 hG.out
    clear hb9 hG f0 f1 f2 f3 f4 f5 f6 f7
    have hG := Lib.hid hF
    obtain ⟨f0, f1, f2, f3, f4, f5, f6, f7⟩ := hF
    go_wp2_with fail
    refine (refCompare_any _ _ _ _ _ _ _).mono ?_
    rintro e w9 ⟨rfl, hb9⟩
    rw [HN.out]
    have hF := keep_two hb9 hG.out
    clear hb9 hG f0 f1 f2 f3 f4 f5 f6 f7
    obtain ⟨f0, f1, f2, f3, f4, f5, f6, f7⟩ := hF
    go_wp2_with fail
    go_ret
    exact ⟨ret_bool (by rw [HC.out, HP.out, HQ.out]; simp [H2.out]), f7⟩
end Go.Proofs.YtppbbalojbedpaaDoor
