/- The law of versions on Next: what it returns. -/
import Derived.Test.YtppbbalojbedpaaDoorL43b
namespace Go.Proofs.YtppbbalojbedpaaDoor
open Go.RowKit

/-- what Next answers at a valid version -/
theorem next_valid (v : Ver) (ch : Int) (hv : vldV v = true) (h0 : 0 ≤ ch) (h2 : ch ≤ 2) :
    (nextV v ch = (zeroV, 1)) ∨ (nextV v ch = (stepV v (lowC v ch), 0) ∧ vldV (stepV v (lowC v ch)) = true) := by
  unfold nextV
  rw [hv, if_neg (by decide), if_neg (by omega)]
  cases h : vldV (stepV v (lowC v ch))
  · left; simp
  · right; simp
theorem stepL (v : Ver) (ch : Int) (h0 : 0 ≤ ch) (h2 : ch ≤ 2) : (ch = 0 ∧ stepV v (lowC v ch) = ⟨v.a, v.b, v.c + 1⟩) ∨ (ch = 1 ∧ v.a = 0 ∧ stepV v (lowC v ch) = ⟨v.a, v.b, v.c + 1⟩) ∨ (ch = 1 ∧ v.a ≠ 0 ∧ stepV v (lowC v ch) = ⟨v.a, v.b + 1, 0⟩) ∨ (ch = 2 ∧ v.a = 0 ∧ stepV v (lowC v ch) = ⟨v.a, v.b + 1, 0⟩) ∨ (ch = 2 ∧ v.a ≠ 0 ∧ stepV v (lowC v ch) = ⟨v.a + 1, 0, 0⟩) := by
  obtain rfl | rfl | rfl : ch = 0 ∨ ch = 1 ∨ ch = 2 := by omega
  all_goals
    by_cases ha : v.a = 0 <;> simp [stepV, lowC, ha]
theorem step_up (v : Ver) (ch : Int) (hv : vldV v = true) (h0 : 0 ≤ ch) (h2 : ch ≤ 2) : cmpV v (stepV v (lowC v ch)) = -1 := by
  have hb := (vldV_iff v).1 hv
  have hl := (cmpV_lt v (stepV v (lowC v ch))).2 (by
    rcases stepL v ch h0 h2 with ⟨h, e⟩ | ⟨h, h', e⟩ | ⟨h, h', e⟩ | ⟨h, h', e⟩ | ⟨h, h', e⟩ <;> rw [e] <;> dsimp only <;> omega)
  have := cmpV_range v (stepV v (lowC v ch))
  omega
theorem step_last (v l : Ver) (ch : Int) (hv : vldV v = true) (h0 : 0 ≤ ch) (h2 : ch ≤ 2) (hl : l = v ∨ ∃ c, 0 ≤ c ∧ c < ch ∧ l = stepV v (lowC v c)) : cmpV l (stepV v (lowC v ch)) ≤ 0 := by
  have hb := (vldV_iff v).1 hv
  rcases hl with rfl | ⟨c, hc0, hc, rfl⟩
  · have := step_up l ch hv h0 h2; omega
  · rw [cmpV_le]
    rcases stepL v ch h0 h2 with ⟨h, e⟩ | ⟨h, h', e⟩ | ⟨h, h', e⟩ | ⟨h, h', e⟩ | ⟨h, h', e⟩ <;> rcases stepL v c hc0 (by omega) with ⟨g, f⟩ | ⟨g, g', f⟩ | ⟨g, g', f⟩ | ⟨g, g', f⟩ | ⟨g, g', f⟩ <;> rw [e, f] <;> dsimp only <;> omega
theorem step_comp (v : Ver) (ch : Int) (hv : vldV v = true) (h0 : 0 ≤ ch) (h2 : ch ≤ 2) (hs : vldV (stepV v (lowC v ch)) = true) : compV v (stepV v (lowC v ch)) = (ch != 2) := by
  have hb := (vldV_iff v).1 hv
  have hu := step_up v ch hv h0 h2
  rw [Bool.eq_iff_iff, compV_iff, hu]
  simp only [hv, hs, true_and]
  rcases stepL v ch h0 h2 with ⟨h, e⟩ | ⟨h, h', e⟩ | ⟨h, h', e⟩ | ⟨h, h', e⟩ | ⟨h, h', e⟩ <;> rw [e] <;> simp [h] <;> omega
set_option maxHeartbeats 4000000 in
set_option maxRecDepth 100000 in
theorem lawSemverNexts (a0 a1 a2 : Int) (w : World) (hE : SemOk w) : Calls Tryd.prog 9 #[.agg #[.int .i64 a0, .int .i64 a1, .int .i64 a2]] w fun e w' => e = .returned (.bool true) ∧ Below w.heap.size w w' := by
  have HE := Lib.hid hE; clear hE
  go_enter Tryd.func9, Tryd.ntmps9
  go_wp2_with fail
  have hF : ∀ W, W = (w.alloc (.cells #[.int .i64 a0, .int .i64 a1, .int .i64 a2] 23)).alloc (.cells #[.int .i64 a0, .int .i64 a1, .int .i64 a2] 23) → Blk W w.heap.size #[.int .i64 a0, .int .i64 a1, .int .i64 a2] 23 ∧ Blk W (w.heap.size + 1) #[.int .i64 a0, .int .i64 a1, .int .i64 a2] 23 ∧ Below w.heap.size w W := by
    intro W hW
    rw [hW]
    exact ⟨(Blk.new w _ _).alloc _, by have h := Blk.new (w.alloc (.cells #[.int .i64 a0, .int .i64 a1, .int .i64 a2] 23)) #[.int .i64 a0, .int .i64 a1, .int .i64 a2] 23; simpa using h, by go_grown⟩
  have hF := hF _ rfl
  generalize (w.alloc (.cells #[.int .i64 a0, .int .i64 a1, .int .i64 a2] 23)).alloc (.cells #[.int .i64 a0, .int .i64 a1, .int .i64 a2] 23) = W0 at hF ⊢
  obtain ⟨bA, bL, hB⟩ := hF
  rcases bool_two (vldV ⟨a0, a1, a2⟩) with hv | hv
  · have HV := Lib.hid hv; clear hv
    go_loopw [4] (fun i wr => ∃ ch : Int, i = .int .i64 ch ∧ 0 ≤ ch ∧ ch ≤ 3 ∧ Hid (Blk wr w.heap.size #[.int .i64 a0, .int .i64 a1, .int .i64 a2] 23 ∧ Below w.heap.size w wr)) (fun i _ => 3 - (intOf i).toNat)
    case atStart => exact ⟨0, rfl, by decide, by decide, Lib.hid ⟨bA, hB⟩⟩
    case round =>
      clear bA bL hB
      obtain ⟨ch, rfl, h0, h3, HW⟩ := hrel
      by_cases hc : ch = 3
      · subst hc
        go_wp2_with fail
        refine (example_any _ (HE.out.below HW.out.2)).mono ?_
        rintro e w9 ⟨rfl, hb9⟩
        go_wp2_with fail
        go_ret
        exact ⟨rfl, HW.out.2.trans (hb9.mono HW.out.2.size)⟩
      · have h2 : ch ≤ 2 := by omega
        have HX := Lib.hid (next_bad ⟨a0, a1, a2⟩ ch HV.out)
        clear hc h3
        have x0 := HW.out.1.cell 0
        have x1 := HW.out.1.cell 1
        have x2 := HW.out.1.cell 2
        simp at x0 x1 x2
        go_wp2_with fail
        refine (Next_any a0 a1 a2 ch _).mono ?_
        rintro e w1 ⟨rfl, hb1⟩
        rw [HX.out]
        simp only [vp, zeroV]
        have b1 := HW.out.1.below hb1
        have HB1 := Lib.hid (HW.out.2.trans (hb1.mono HW.out.2.size))
        clear hb1 x0 x1 x2
        have hl1 := b1.lt
        have x0 := b1.cell 0
        have x1 := b1.cell 1
        have x2 := b1.cell 2
        simp at x0 x1 x2
        go_wp2_with fail
        refine (Valid_any _ _ _ _).mono ?_
        rintro e w2 ⟨rfl, hb2⟩
        rw [HV.out]
        obtain ⟨bN, hb2⟩ := below_new hb2
        have b2 := b1.below hb2
        have HB2 := Lib.hid (HB1.out.trans (hb2.mono HB1.out.size))
        clear hb2 x0 x1 x2 hl1 b1
        have x0 := bN.cell 0
        have x1 := bN.cell 1
        have x2 := bN.cell 2
        simp at x0 x1 x2
        go_wp2_with fail
        go_roundw
        case rel => exact ⟨ch + 1, rfl, by omega, by omega, Lib.hid ⟨b2, HB2.out⟩⟩
        case measure => simp [intOf]; omega
  · have HV := Lib.hid hv; clear hv
    go_loopw [4] (fun i wr => ∃ ch : Int, i = .int .i64 ch ∧ 0 ≤ ch ∧ ch ≤ 3 ∧ ∃ l0 l1 l2 : Int, Hid (Blk wr (w.heap.size + 1) #[.int .i64 l0, .int .i64 l1, .int .i64 l2] 23 ∧ ((⟨l0, l1, l2⟩ : Ver) = ⟨a0, a1, a2⟩ ∨ ∃ c, 0 ≤ c ∧ c < ch ∧ (⟨l0, l1, l2⟩ : Ver) = stepV ⟨a0, a1, a2⟩ (lowC ⟨a0, a1, a2⟩ c))) ∧ Hid (Blk wr w.heap.size #[.int .i64 a0, .int .i64 a1, .int .i64 a2] 23 ∧ Below w.heap.size w wr)) (fun i _ => 3 - (intOf i).toNat)
    case atStart => exact ⟨0, rfl, by decide, by decide, a0, a1, a2, Lib.hid ⟨bL, .inl rfl⟩, Lib.hid ⟨bA, hB⟩⟩
    case round =>
      clear bA bL hB
      obtain ⟨ch, rfl, h0, h3, l0, l1, l2, HL, HW⟩ := hrel
      by_cases hc : ch = 3
      · subst hc
        clear HL
        go_wp2_with fail
        refine (example_any _ (HE.out.below HW.out.2)).mono ?_
        rintro e w9 ⟨rfl, hb9⟩
        go_wp2_with fail
        go_ret
        exact ⟨rfl, HW.out.2.trans (hb9.mono HW.out.2.size)⟩
      · have h2 : ch ≤ 2 := by omega
        clear hc h3
        rcases next_valid ⟨a0, a1, a2⟩ ch HV.out h0 h2 with hx | ⟨hx, hs⟩
        · have HX := Lib.hid hx
          clear hx
          have x0 := HW.out.1.cell 0
          have x1 := HW.out.1.cell 1
          have x2 := HW.out.1.cell 2
          simp at x0 x1 x2
          go_wp2_with fail
          refine (Next_any a0 a1 a2 ch _).mono ?_
          rintro e w1 ⟨rfl, hb1⟩
          rw [HX.out]
          simp only [vp, zeroV]
          have b1 := HW.out.1.below hb1
          have k1 := HL.out.1.below hb1
          have HB1 := Lib.hid (HW.out.2.trans (hb1.mono HW.out.2.size))
          clear hb1 x0 x1 x2
          have hl1 := b1.lt
          have x0 := b1.cell 0
          have x1 := b1.cell 1
          have x2 := b1.cell 2
          simp at x0 x1 x2
          go_wp2_with fail
          refine (Valid_any _ _ _ _).mono ?_
          rintro e w2 ⟨rfl, hb2⟩
          rw [HV.out]
          obtain ⟨bN, hb2⟩ := below_new hb2
          have b2 := b1.below hb2
          have k2 := k1.below hb2
          have HB2 := Lib.hid (HB1.out.trans (hb2.mono HB1.out.size))
          clear hb2 x0 x1 x2 hl1 b1 k1
          have x0 := bN.cell 0
          have x1 := bN.cell 1
          have x2 := bN.cell 2
          simp at x0 x1 x2
          go_wp2_with fail
          go_roundw
          case rel => exact ⟨ch + 1, rfl, by omega, by omega, l0, l1, l2, Lib.hid ⟨k2, HL.out.2.imp id (fun ⟨c, h⟩ => ⟨c, h.1, by omega, h.2.2⟩)⟩, Lib.hid ⟨b2, HB2.out⟩⟩
          case measure => simp [intOf]; omega
        · have HS := Lib.hid hs
          have HU := Lib.hid (step_up ⟨a0, a1, a2⟩ ch HV.out h0 h2)
          have HK := Lib.hid (step_last ⟨a0, a1, a2⟩ ⟨l0, l1, l2⟩ ch HV.out h0 h2 HL.out.2)
          have HC := Lib.hid (step_comp ⟨a0, a1, a2⟩ ch HV.out h0 h2 hs)
          have HX := Lib.hid hx
          clear hx hs
          obtain ⟨⟨u0, u1, u2⟩, hu⟩ : ∃ u, stepV ⟨a0, a1, a2⟩ (lowC ⟨a0, a1, a2⟩ ch) = u := ⟨_, rfl⟩
          have HD := Lib.hid hu
          rw [hu] at HS HU HK HC HX
          clear hu
          obtain ⟨q, hq⟩ : ∃ q, cmpV ⟨l0, l1, l2⟩ ⟨u0, u1, u2⟩ = q := ⟨_, rfl⟩
          have hq0 : q ≤ 0 := by rw [← hq]; exact HK.out
          have HQ := Lib.hid hq
          clear hq HK
          obtain ⟨d, hd⟩ : ∃ d : Bool, (ch != 2) = d := ⟨_, rfl⟩
          rw [hd] at HC
          have x0 := HW.out.1.cell 0
          have x1 := HW.out.1.cell 1
          have x2 := HW.out.1.cell 2
          simp at x0 x1 x2
          go_wp2_with fail
          refine (Next_any a0 a1 a2 ch _).mono ?_
          rintro e w1 ⟨rfl, hb1⟩
          rw [HX.out]
          simp only [vp]
          have b1 := HW.out.1.below hb1
          have k1 := HL.out.1.below hb1
          have HB1 := Lib.hid (HW.out.2.trans (hb1.mono HW.out.2.size))
          clear hb1 x0 x1 x2
          have hl1 := b1.lt
          have x0 := b1.cell 0
          have x1 := b1.cell 1
          have x2 := b1.cell 2
          simp at x0 x1 x2
          go_wp2_with fail
          refine (Valid_any _ _ _ _).mono ?_
          rintro e w2 ⟨rfl, hb2⟩
          rw [HV.out]
          obtain ⟨bN, hb2⟩ := below_new hb2
          have b2 := b1.below hb2
          have k2 := k1.below hb2
          have HB2 := Lib.hid (HB1.out.trans (hb2.mono HB1.out.size))
          clear hb2 x0 x1 x2 hl1
          have hz2 := bN.lt
          have x0 := bN.cell 0
          have x1 := bN.cell 1
          have x2 := bN.cell 2
          simp at x0 x1 x2
          go_wp2_with fail
          refine (Valid_any _ _ _ _).mono ?_
          rintro e w3 ⟨rfl, hb3⟩
          rw [HS.out]
          have n3 := bN.below hb3
          have b3 := b2.below hb3
          have k3 := k2.below hb3
          have HB3 := Lib.hid (HB2.out.trans (hb3.mono HB2.out.size))
          clear hb3 x0 x1 x2 hz2
          have x0 := n3.cell 0
          have x1 := n3.cell 1
          have x2 := n3.cell 2
          have y0 := b3.cell 0
          have y1 := b3.cell 1
          have y2 := b3.cell 2
          simp at x0 x1 x2 y0 y1 y2
          go_wp2_with fail
          refine (Compare_any _ _ _ _ _ _ _).mono ?_
          rintro e w4 ⟨rfl, hb4⟩
          rw [HU.out]
          have n4 := n3.below hb4
          have b4 := b3.below hb4
          have k4 := k3.below hb4
          have HB4 := Lib.hid (HB3.out.trans (hb4.mono HB3.out.size))
          clear hb4 x0 x1 x2 y0 y1 y2 n3 b3 k3
          have x0 := n4.cell 0
          have x1 := n4.cell 1
          have x2 := n4.cell 2
          have y0 := k4.cell 0
          have y1 := k4.cell 1
          have y2 := k4.cell 2
          simp at x0 x1 x2 y0 y1 y2
          go_wp2_with fail
          refine (Compare_any _ _ _ _ _ _ _).mono ?_
          rintro e w5 ⟨rfl, hb5⟩
          rw [HQ.out]
          have n5 := n4.below hb5
          have b5 := b4.below hb5
          have k5 := k4.below hb5
          have HB5 := Lib.hid (HB4.out.trans (hb5.mono HB4.out.size))
          clear hb5 x0 x1 x2 y0 y1 y2 n4 b4 k4
          have x0 := n5.cell 0
          have x1 := n5.cell 1
          have x2 := n5.cell 2
          have y0 := b5.cell 0
          have y1 := b5.cell 1
          have y2 := b5.cell 2
          simp at x0 x1 x2 y0 y1 y2
          go_wp2_with fail
          refine (Compatible_any _ _ _ _ _ _ _).mono ?_
          rintro e w6 ⟨rfl, hb6⟩
          rw [HC.out]
          have n6 := n5.below hb6
          have b6 := b5.below hb6
          have k6 := k5.below hb6
          have HB6 := Lib.hid (HB5.out.trans (hb6.mono HB5.out.size))
          clear hb6 x0 x1 x2 y0 y1 y2 n5 b5 k5
          have x0 := n6.cell 0
          have x1 := n6.cell 1
          have x2 := n6.cell 2
          have y0 := k6.cell 0
          have y1 := k6.cell 1
          have y2 := k6.cell 2
          have z0 := k6.frozen 0
          have z1 := k6.frozen 1
          have z2 := k6.frozen 2
          simp at x0 x1 x2 y0 y1 y2
          go_wp2_with fail
          go_roundw
          case rel => exact ⟨ch + 1, rfl, by omega, by omega, u0, u1, u2, Lib.hid ⟨((k6.set 0 _).set 1 _).set 2 _, .inr ⟨ch, h0, by omega, HD.out.symm⟩⟩, Lib.hid ⟨((b6.set_other 0 _ (by omega)).set_other 1 _ (by omega)).set_other 2 _ (by omega), ((HB6.out.setCell (by simp) _).setCell (by simp) _).setCell (by simp) _⟩⟩
          case measure => simp [intOf]; omega
end Go.Proofs.YtppbbalojbedpaaDoor
