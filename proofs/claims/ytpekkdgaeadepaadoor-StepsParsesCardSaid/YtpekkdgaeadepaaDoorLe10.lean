/- The law of steps on what Parse takes: what it returns. -/
import Derived.Test.YtpekkdgaeadepaaDoorLa10
import Derived.Test.YtpekkdgaeadepaaDoorStR
import Derived.Test.YtpekkdgaeadepaaDoorStX
namespace Go.Proofs.YtpekkdgaeadepaaDoor
open Go.RowKit

theorem lab_le (x : Stp) (b : Bool) : x.lab.length ≤ (bitS x b).length ∧ 1 ≤ (bitS x b).length := by
  have hq := quote_len x.lab
  unfold bitS
  split
  · rename_i h; rw [h]; simp
  · rename_i h
    have hp := List.length_pos_iff.2 h
    have hl : x.lab.length ≤ (labelL x.lab).length := by
      unfold labelL
      split
      · exact Nat.le_refl _
      · omega
    split
    · exact ⟨hl, by omega⟩
    · rw [List.length_cons]; omega
theorem rest_bounds : ∀ L : List Stp, L.length ≤ (restS L).length ∧ ∀ x ∈ L, x.lab.length ≤ (restS L).length
  | [] => ⟨Nat.le_refl _, fun _ h => by cases h⟩
  | y :: r => by
    have hy := lab_le y false
    obtain ⟨h1, h2⟩ := rest_bounds r
    have e : (restS (y :: r)).length = (bitS y false).length + (restS r).length := by
      unfold restS; rw [List.flatMap_cons, List.length_append]
    refine ⟨by rw [e, List.length_cons]; omega, fun x hx => ?_⟩
    rw [e]
    rcases List.mem_cons.1 hx with rfl | h
    · omega
    · have := h2 x h; omega
theorem body_bounds (L : List Stp) : L.length ≤ (bodyS L).length ∧ ∀ x ∈ L, x.lab.length ≤ (bodyS L).length := by
  cases L with
  | nil => exact ⟨Nat.le_refl _, fun _ h => by cases h⟩
  | cons y r =>
    have hy := lab_le y true
    obtain ⟨h1, h2⟩ := rest_bounds r
    have e : (bodyS (y :: r)).length = (bitS y true).length + (restS r).length := List.length_append
    refine ⟨by rw [e, List.length_cons]; omega, fun x hx => ?_⟩
    rw [e]
    rcases List.mem_cons.1 hx with rfl | h
    · omega
    · have := h2 x h; omega
theorem text_lim {L : List Stp} {s : List UInt8} (hk : okL L = true) (h : textS L = s) (hs : s.length ≤ 1000) : LimS L := by
  by_cases h0 : L = []
  · subst h0; exact ⟨by simp, fun _ h => by cases h⟩
  · rw [textS_body _ hk h0] at h
    have := body_bounds L
    rw [h] at this
    exact ⟨by omega, fun x hx => by have := this.2 x hx; omega⟩
set_option maxRecDepth 100000 in
set_option maxHeartbeats 4000000 in
theorem lawStepsOnly (s : List UInt8) (w : World) (hE : StOk w) : Calls Tryd.prog 7 #[.string (S s)] w fun e w' => e = .returned (.bool true) ∧ Below w.heap.size w w' := by
  have HE := Lib.hid hE; clear hE
  by_cases hout : 400 < s.length
  · have h1 : decide ((400 : Int) < (s.length : Int)) = true := by simp; omega
    clear hout
    go_enter Tryd.func7, Tryd.ntmps7
    go_wp2_with fail
    refine (example_any _ HE.out).mono ?_
    rintro e w1 ⟨rfl, hb1⟩
    go_wp2_with fail
    go_ret
    exact ⟨rfl, hb1⟩
  · have h1 : decide ((400 : Int) < (s.length : Int)) = false := by simp; omega
    rcases parse_only s (by omega) with ⟨k1, k2, k3, k4⟩ | ⟨k1, k2, k3⟩
    · have hlim := text_lim k3 k4 (by omega)
      obtain ⟨L, hL⟩ : ∃ L, (parseP s).1 = L := ⟨_, rfl⟩
      rw [hL] at k3 k4 hlim
      have HP := Lib.hid (show parseP s = (L, 0, 0) from Prod.ext hL (Prod.ext k1 k2))
      have HK := Lib.hid k3
      have HT := Lib.hid k4
      have HLIM := Lib.hid hlim
      clear k1 k2 k3 k4 hlim hL
      go_enter Tryd.func7, Tryd.ntmps7
      go_wp2_with fail
      refine (Parse_any s (by omega) _ HE.out).mono ?_
      rintro e w2 ⟨v2, rfl, hv2, hb2⟩
      rw [HP.out] at hv2 ⊢
      simp only at hv2 ⊢
      have HV := Lib.hid hv2
      have HB2 := Lib.hid hb2
      have HQ := Lib.hid (Blk.new w2 #[.int .i64 0, .int .i64 0] 28)
      clear hv2 hb2
      go_wp2_with fail
      refine (Valid_any _ L _ (HV.out.below ((Below.refl _ _).alloc (Nat.le_refl _) _)) (by have := HLIM.out.1; omega)).mono ?_
      rintro e w3 ⟨rfl, hb3⟩
      rw [HK.out]
      have HV3 := Lib.hid (SlS.below (HV.out.below ((Below.refl _ _).alloc (Nat.le_refl _) (.cells #[.int .i64 0, .int .i64 0] 28))) hb3)
      have HB3 := Lib.hid (keepV (HB2.out.alloc HB2.out.size _) hb3)
      have HQ3 := Lib.hid (HQ.out.below hb3)
      clear hb3
      go_wp2_with fail
      refine (Text_any _ L _ HV3.out HLIM.out (HE.out.below HB3.out).num).mono ?_
      rintro e w4 ⟨rfl, hb4⟩
      rw [HT.out]
      have HB4 := Lib.hid (keepV HB3.out hb4)
      have x1 := (HQ3.out.below hb4).cell 1
      clear hb4
      go_wp2_with fail
      refine (example_any _ (HE.out.below HB4.out)).mono ?_
      rintro e w5 ⟨rfl, hb5⟩
      go_wp2_with fail
      go_ret
      exact ⟨rfl, keepV HB4.out hb5⟩
    · obtain ⟨f, hf⟩ : ∃ f, (parseP s).2.2 = f := ⟨_, rfl⟩
      rw [hf] at k3
      have HP := Lib.hid (show parseP s = ([], 8, f) from Prod.ext k1 (Prod.ext k2 hf))
      clear k1 k2 hf
      have f0 : decide ((0 : Int) ≤ (f : Int)) = true := by simp
      have f1 : decide ((f : Int) ≤ (s.length : Int)) = true := by simp; omega
      go_enter Tryd.func7, Tryd.ntmps7
      go_wp2_with fail
      refine (Parse_any s (by omega) _ HE.out).mono ?_
      rintro e w2 ⟨v2, rfl, hv2, hb2⟩
      rw [HP.out] at hv2 ⊢
      simp only at hv2 ⊢
      obtain ⟨vp, vc, rfl⟩ := hv2.form
      have HB2 := Lib.hid hb2
      clear hb2 hv2
      go_wp2_with fail
      refine (example_any _ (HE.out.below (HB2.out.alloc HB2.out.size _))).mono ?_
      rintro e w3 ⟨rfl, hb3⟩
      go_wp2_with fail
      go_ret
      exact ⟨rfl, keepV (HB2.out.alloc HB2.out.size _) hb3⟩
end Go.Proofs.YtpekkdgaeadepaaDoor
