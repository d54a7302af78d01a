/- The laws of steps (texts, comparing): what each returns. -/
import Derived.Test.YtpekkdgaeadepaaDoorStE
namespace Go.Proofs.YtpekkdgaeadepaaDoor
open Go.RowKit

theorem small_lim {L : List Stp} (h : smallL L = true) : LimS L ∧ L.length ≤ 20 := by
  unfold smallL at h
  rw [Bool.and_eq_true, decide_eq_true_eq, List.all_eq_true] at h
  exact ⟨⟨by omega, fun x hx => by have := of_decide_eq_true (h.1 x hx); omega⟩, h.2⟩
set_option maxHeartbeats 2000000 in
set_option maxRecDepth 100000 in
theorem Small_big (v : Value) (L : List Stp) (w : World) (hv : SlS w v L) (hL : L.length ≤ 9223372036854775807) : Calls Tryd.prog 11 #[v] w fun e w' => e = .returned (.bool (smallL L)) ∧ Below w.heap.size w w' := by
  obtain ⟨r, hr⟩ : ∃ r, smallL L = r := ⟨_, rfl⟩
  rw [hr]
  have HR := Lib.hid hr
  clear hr
  rcases hv with ⟨⟨p0, cap0, rfl⟩, rfl⟩ | ⟨B, o, cap, rfl, hc, hB, hx⟩
  · have h : r = true := HR.out.symm
    subst h
    go_enter Tryd.func11, Tryd.ntmps11
    go_wp2_with fail
    go_loopw [3] (fun i wr => i = .int .i64 0 ∧ wr = w) (fun _ _ => 0)
    case atStart => exact ⟨rfl, rfl⟩
    case round =>
      obtain ⟨rfl, rfl⟩ := hrel
      go_wp2_with fail
      go_ret
      exact ⟨rfl, Below.refl _ _⟩
  · have HX := Lib.hid hx
    clear hx
    go_enter Tryd.func11, Tryd.ntmps11
    go_wp2_with fail
    go_loopw [3] (fun i wr => wr = w ∧ ∃ j : Nat, i = .int .i64 (j : Int) ∧ j ≤ L.length ∧ Hid ((L.take j).all (fun x => decide (x.lab.length ≤ 60)) = true)) (fun i _ => L.length - (intOf i).toNat)
    case atStart => exact ⟨rfl, 0, rfl, Nat.zero_le _, Lib.hid rfl⟩
    case round =>
      obtain ⟨rfl, j, rfl, hj, HW⟩ := hrel
      by_cases hlt : j < L.length
      · have hx0 := sl_cells hB HX.out (Below.refl _ _) j hlt
        obtain ⟨⟨lj, ij⟩, hxj⟩ : ∃ x, L[j] = x := ⟨_, rfl⟩
        have HXJ := Lib.hid hxj
        rw [hxj] at hx0
        obtain ⟨c0, c1⟩ := hx0
        clear hxj
        simp only at c0 c1
        by_cases h60 : 60 < lj.length
        · have h : r = false := by rw [← HR.out]; exact small_no L j hlt (by rw [HXJ.out]; exact h60)
          subst h
          go_wp2_with fail
          go_ret
          exact ⟨rfl, Below.refl _ _⟩
        · go_wp2_with fail
          go_roundw
          case rel => exact ⟨by first | rfl | trivial, j + 1, rfl, hlt, Lib.hid (small_snoc L j hlt HW.out (by rw [HXJ.out]; simp only; omega))⟩
          case measure => simp [intOf]; omega
      · have h : decide (L.length ≤ 20) = r := by rw [← HR.out]; unfold smallL; rw [← List.take_of_length_le (show L.length ≤ j by omega), HW.out, List.take_of_length_le (show L.length ≤ j by omega)]; rfl
        have HH := Lib.hid h
        clear h
        go_wp2_with fail
        go_ret
        exact ⟨ret_bool (by rw [← HH.out]; first | rfl | (rw [Bool.eq_iff_iff]; simp; omega)), Below.refl _ _⟩
set_option maxRecDepth 100000 in
set_option maxHeartbeats 2000000 in
theorem lawStepsTexts (w : World) (v : Value) (L : List Stp) (hv : SlS w v L) (hn : L.length ≤ maxLen) (hE : StOk w) : Calls Tryd.prog 3 #[v] w fun e w' => e = .returned (.bool true) ∧ Below w.heap.size w w' := by
  have HE := Lib.hid hE
  have HV := Lib.hid hv
  have HS := Lib.hid (Small_big v L w hv (by unfold maxLen at hn; omega))
  clear hE
  obtain ⟨vp, vc, rfl⟩ := hv.form
  clear hv
  rcases bool_two (smallL L) with hs | hs
  · rw [hs] at HS
    clear hs
    go_enter Tryd.func3, Tryd.ntmps3
    go_wp2_with fail
    refine HS.out.mono ?_
    rintro e w1 ⟨rfl, hb1⟩
    go_wp2_with fail
    refine (example_any _ (HE.out.below hb1)).mono ?_
    rintro e w2 ⟨rfl, hb2⟩
    go_wp2_with fail
    go_ret
    exact ⟨rfl, keepV hb1 hb2⟩
  · rw [hs] at HS
    obtain ⟨hlim, hl⟩ := small_lim hs
    have HLIM := Lib.hid hlim
    clear hs hlim
    obtain ⟨k, hk⟩ : ∃ k, okL L = k := ⟨_, rfl⟩
    obtain ⟨t, ht⟩ : ∃ t, textS L = t := ⟨_, rfl⟩
    have HK := Lib.hid hk
    have HT := Lib.hid ht
    clear hk ht
    go_enter Tryd.func3, Tryd.ntmps3
    go_wp2_with fail
    refine HS.out.mono ?_
    rintro e w1 ⟨rfl, hb1⟩
    have HB1 := Lib.hid hb1
    clear hb1
    go_wp2_with fail
    refine (Valid_any _ L _ (HV.out.below HB1.out) (by omega)).mono ?_
    rintro e w2 ⟨rfl, hb2⟩
    rw [HK.out]
    have HB2 := Lib.hid (keepV HB1.out hb2)
    clear hb2
    go_wp2_with fail
    refine (refValid_any _ L _ (HV.out.below HB2.out) (by omega)).mono ?_
    rintro e w3 ⟨rfl, hb3⟩
    rw [HK.out]
    have HB3 := Lib.hid (keepV HB2.out hb3)
    clear hb3
    go_wp2_with fail
    refine (Text_any _ L _ (HV.out.below HB3.out) HLIM.out (HE.out.below HB3.out).num).mono ?_
    rintro e w4 ⟨rfl, hb4⟩
    rw [HT.out]
    have HB4 := Lib.hid (keepV HB3.out hb4)
    clear hb4
    go_wp2_with fail
    refine (refText_any _ L _ (HV.out.below HB4.out) HLIM.out).mono ?_
    rintro e w5 ⟨rfl, hb5⟩
    rw [HT.out]
    have HB5 := Lib.hid (keepV HB4.out hb5)
    clear hb5
    go_wp2_with fail
    refine (example_any _ (HE.out.below HB5.out)).mono ?_
    rintro e w6 ⟨rfl, hb6⟩
    go_wp2_with fail
    go_ret
    exact ⟨rfl, keepV HB5.out hb6⟩
set_option maxRecDepth 100000 in
set_option maxHeartbeats 2000000 in
theorem lawStepsCompares (w : World) (v : Value) (L : List Stp) (hv : SlS w v L) (hn : L.length ≤ maxLen) (u : Value) (M : List Stp) (hu : SlS w u M) (hm : M.length ≤ maxLen) (hE : StOk w) : Calls Tryd.prog 9 #[v, u] w fun e w' => e = .returned (.bool true) ∧ Below w.heap.size w w' := by
  have HE := Lib.hid hE
  have HV := Lib.hid hv
  have HU := Lib.hid hu
  clear hE
  obtain ⟨vp, vc, rfl⟩ := hv.form
  obtain ⟨up, uc, rfl⟩ := hu.form
  clear hv hu
  unfold maxLen at hn hm
  by_cases hbig : 20 < L.length ∨ 20 < M.length
  · have hways : decide ((20 : Int) < (L.length : Int)) = true ∨ (decide ((20 : Int) < (L.length : Int)) = false ∧ decide ((20 : Int) < (M.length : Int)) = true) := by
      by_cases h : 20 < L.length
      · exact .inl (by first | (simp; done) | (simp; omega))
      · exact .inr ⟨by first | (simp; done) | (simp; omega), by first | (simp; done) | (simp; omega)⟩
    clear hbig
    rcases hways with h | ⟨h, h'⟩
    all_goals
      go_enter Tryd.func9, Tryd.ntmps9
      go_wp2_with fail
      refine (example_any _ HE.out).mono ?_
      rintro e w1 ⟨rfl, hb1⟩
      go_wp2_with fail
      go_ret
      exact ⟨rfl, hb1⟩
  · have h1 : decide ((20 : Int) < (L.length : Int)) = false := by first | (simp; done) | (simp; omega)
    have h2 : decide ((20 : Int) < (M.length : Int)) = false := by first | (simp; done) | (simp; omega)
    have hl : L.length ≤ 1000000 := by omega
    have hk : M.length ≤ 1000000 := by omega
    clear hbig hn hm
    obtain ⟨k, hk0⟩ : ∃ k, cmpS L M = k := ⟨_, rfl⟩
    obtain ⟨t, ht0⟩ : ∃ t, preS L M = t := ⟨_, rfl⟩
    have HK := Lib.hid hk0
    have HT := Lib.hid ht0
    clear hk0 ht0
    go_enter Tryd.func9, Tryd.ntmps9
    go_wp2_with fail
    refine (Compare_any _ _ L M _ HV.out HU.out hl hk).mono ?_
    rintro e w2 ⟨rfl, hb2⟩
    rw [HK.out]
    have HB2 := Lib.hid hb2
    clear hb2
    go_wp2_with fail
    refine (refCompare_any _ _ L M _ (HV.out.below HB2.out) (HU.out.below HB2.out) hl hk).mono ?_
    rintro e w3 ⟨rfl, hb3⟩
    rw [HK.out]
    have HB3 := Lib.hid (keepV HB2.out hb3)
    clear hb3
    go_wp2_with fail
    refine (Prefix_any _ _ L M _ (HV.out.below HB3.out) (HU.out.below HB3.out) hl hk).mono ?_
    rintro e w4 ⟨rfl, hb4⟩
    rw [HT.out]
    have HB4 := Lib.hid (keepV HB3.out hb4)
    clear hb4
    go_wp2_with fail
    refine (refPrefix_any _ _ L M _ (HV.out.below HB4.out) (HU.out.below HB4.out) hl hk).mono ?_
    rintro e w5 ⟨rfl, hb5⟩
    rw [HT.out]
    have HB5 := Lib.hid (keepV HB4.out hb5)
    clear hb5
    go_wp2_with fail
    refine (example_any _ (HE.out.below HB5.out)).mono ?_
    rintro e w6 ⟨rfl, hb6⟩
    go_wp2_with fail
    go_ret
    exact ⟨rfl, keepV HB5.out hb6⟩
end Go.Proofs.YtpekkdgaeadepaaDoor
