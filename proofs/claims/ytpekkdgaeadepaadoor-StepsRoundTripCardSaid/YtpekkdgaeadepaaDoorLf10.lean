/- The law of steps on the round trip: what it returns. -/
import Derived.Test.YtpekkdgaeadepaaDoorLa10
import Derived.Test.YtpekkdgaeadepaaDoorStR
import Derived.Test.YtpekkdgaeadepaaDoorStZ
namespace Go.Proofs.YtpekkdgaeadepaaDoor
open Go.RowKit

theorem StOk.at {w W : World} (h : StOk w) (hb : Below w.heap.size w W) : StOk W := h.below hb
set_option maxRecDepth 100000 in
set_option maxHeartbeats 8000000 in
theorem lawStepsRoundTrip (w : World) (v : Value) (L : List Stp) (hv : SlS w v L) (hn : L.length ≤ maxLen) (u : Value) (M : List Stp) (hu : SlS w u M) (hm : M.length ≤ maxLen) (hE : StOk w) : Calls Tryd.prog 6 #[v, u] w fun e w' => e = .returned (.bool true) ∧ Below w.heap.size w w' := by
  have HE := Lib.hid hE
  have HV := Lib.hid hv
  have HU := Lib.hid hu
  clear hE
  unfold maxLen at hn hm
  have SV := fun W (hb : Below w.heap.size w W) => Small_big v L W (hv.below hb) (by omega)
  have SU := fun W (hb : Below w.heap.size w W) => Small_big u M W (hu.below hb) (by omega)
  have SV := Lib.hid SV
  have SU := Lib.hid SU
  rcases bool_two (smallL L) with h1 | h1
  · go_enter Tryd.func6, Tryd.ntmps6
    go_wp2_with fail
    refine (SV.out _ (Below.refl _ _)).mono ?_
    rintro e w1 ⟨rfl, hb1⟩
    rw [h1]
    go_wp2_with fail
    refine (example_any _ (HE.out.below hb1)).mono ?_
    rintro e w2 ⟨rfl, hb2⟩
    go_wp2_with fail
    go_ret
    exact ⟨rfl, keepV hb1 hb2⟩
  rcases bool_two (smallL M) with h2 | h2
  · go_enter Tryd.func6, Tryd.ntmps6
    go_wp2_with fail
    refine (SV.out _ (Below.refl _ _)).mono ?_
    rintro e w1 ⟨rfl, hb1⟩
    rw [h1]
    go_wp2_with fail
    refine (SU.out _ hb1).mono ?_
    rintro e w2 ⟨rfl, hb2⟩
    rw [h2]
    have HB2 := keepV hb1 hb2
    clear hb1 hb2
    go_wp2_with fail
    refine (example_any _ (HE.out.below HB2)).mono ?_
    rintro e w3 ⟨rfl, hb3⟩
    go_wp2_with fail
    go_ret
    exact ⟨rfl, keepV HB2 hb3⟩
  obtain ⟨limL, hl20⟩ := small_lim h1
  obtain ⟨limM, hm20⟩ := small_lim h2
  have LL := Lib.hid limL
  have LM := Lib.hid limM
  have HS1 := Lib.hid h1
  have HS2 := Lib.hid h2
  rcases bool_two (okL L) with h3 | h3
  · have HT := Lib.hid (textS_bad L h3)
    have HK := Lib.hid h3
    have HP := Lib.hid parse_bad
    have HLEN := Lib.hid (show ([63] : List UInt8).length ≤ 70000 by decide)
    clear h1 h2 h3 limL limM
    go_enter Tryd.func6, Tryd.ntmps6
    go_wp2_with fail
    refine (SV.out _ (Below.refl _ _)).mono ?_
    rintro e w1 ⟨rfl, hb1⟩
    rw [HS1.out]
    go_wp2_with fail
    refine (SU.out _ hb1).mono ?_
    rintro e w2 ⟨rfl, hb2⟩
    rw [HS2.out]
    have HB2 := Lib.hid (keepV hb1 hb2)
    clear hb1 hb2
    go_wp2_with fail
    refine (Text_any _ L _ (HV.out.below HB2.out) LL.out (HE.out.below HB2.out).num).mono ?_
    rintro e w3 ⟨rfl, hb3⟩
    rw [HT.out]
    have HB3 := Lib.hid (keepV HB2.out hb3)
    clear hb3
    go_wp2_with fail
    refine (Parse_any _ HLEN.out _ (HE.out.below HB3.out)).mono ?_
    rintro e w4 ⟨v4, rfl, hv4, hb4⟩
    rw [HP.out] at hv4 ⊢
    simp only at hv4 ⊢
    obtain ⟨vp, vc, rfl⟩ := hv4.form
    have HV4 := Lib.hid hv4
    have HB4 := Lib.hid (keepV HB3.out hb4)
    have HQ := Lib.hid (Blk.new w4 #[.int .i64 8, .int .i64 0] 28)
    have HB5 := Lib.hid (HB4.out.alloc HB4.out.size (.cells #[.int .i64 8, .int .i64 0] 28))
    clear hv4 hb4
    go_wp2_with fail
    refine (Valid_any _ L _ (HV.out.below HB5.out) (by have := LL.out.1; omega)).mono ?_
    rintro e w6 ⟨rfl, hb6⟩
    rw [HK.out]
    have HB6 := Lib.hid (keepV HB5.out hb6)
    have HQ6 := Lib.hid (HQ.out.below hb6)
    have HV6 := Lib.hid (SlS.below (HV4.out.below ((Below.refl _ _).alloc (Nat.le_refl _) (.cells #[.int .i64 8, .int .i64 0] 28))) hb6)
    have x0 := HQ6.out.cell 0
    have x1 := HQ6.out.cell 1
    clear hb6
    go_wp2_with fail
    refine (example_any _ (HE.out.below HB6.out)).mono ?_
    rintro e w7 ⟨rfl, hb7⟩
    go_wp2_with fail
    go_ret
    exact ⟨rfl, keepV HB6.out hb7⟩
  · obtain ⟨s, hs⟩ : ∃ s, textS L = s := ⟨_, rfl⟩
    have hsq := (small_quote h1).2 h3
    have hpt := parse_text L h3 (small_quote h1).1 hsq
    have hinj := fun h4 => text_inj h1 h2 h3 h4
    rw [hs] at hsq hpt hinj
    have HT := Lib.hid hs
    have HK := Lib.hid h3
    have HP := Lib.hid hpt
    have HLEN := Lib.hid (show s.length ≤ 70000 by omega)
    have HI := Lib.hid hinj
    clear h1 h2 h3 limL limM hs hsq hpt hinj
    go_enter Tryd.func6, Tryd.ntmps6
    go_wp2_with fail
    refine (SV.out _ (Below.refl _ _)).mono ?_
    rintro e w1 ⟨rfl, hb1⟩
    rw [HS1.out]
    go_wp2_with fail
    refine (SU.out _ hb1).mono ?_
    rintro e w2 ⟨rfl, hb2⟩
    rw [HS2.out]
    have HB2 := Lib.hid (keepV hb1 hb2)
    clear hb1 hb2
    go_wp2_with fail
    refine (Text_any _ L _ (HV.out.below HB2.out) LL.out (HE.out.below HB2.out).num).mono ?_
    rintro e w3 ⟨rfl, hb3⟩
    rw [HT.out]
    have HB3 := Lib.hid (keepV HB2.out hb3)
    clear hb3
    go_wp2_with fail
    refine (Parse_any _ HLEN.out _ (HE.out.below HB3.out)).mono ?_
    rintro e w4 ⟨v4, rfl, hv4, hb4⟩
    rw [HP.out] at hv4 ⊢
    simp only at hv4 ⊢
    obtain ⟨vp, vc, rfl⟩ := hv4.form
    have HV4 := Lib.hid hv4
    have HB4 := Lib.hid (keepV HB3.out hb4)
    have HQ := Lib.hid (Blk.new w4 #[.int .i64 0, .int .i64 0] 28)
    have HB5 := Lib.hid (HB4.out.alloc HB4.out.size (.cells #[.int .i64 0, .int .i64 0] 28))
    clear hv4 hb4
    go_wp2_with fail
    refine (Valid_any _ L _ (HV.out.below HB5.out) (by have := LL.out.1; omega)).mono ?_
    rintro e w6 ⟨rfl, hb6⟩
    rw [HK.out]
    have HB6 := Lib.hid (keepV HB5.out hb6)
    have HQ6 := Lib.hid (HQ.out.below hb6)
    have HV6 := Lib.hid (SlS.below (HV4.out.below ((Below.refl _ _).alloc (Nat.le_refl _) (.cells #[.int .i64 0, .int .i64 0] 28))) hb6)
    have x0 := HQ6.out.cell 0
    have x1 := HQ6.out.cell 1
    clear hb6
    go_wp2_with fail
    refine (Same_any _ _ L L _ HV6.out (HV.out.below HB6.out) (by have := LL.out.1; omega) (by have := LL.out.1; omega)).mono ?_
    rintro e w7 ⟨rfl, hb7⟩
    rw [decide_eq_true rfl]
    have HB7 := Lib.hid (keepV HB6.out hb7)
    clear hb7
    go_wp2_with fail
    refine (Valid_any _ M _ (HU.out.below HB7.out) (by have := LM.out.1; omega)).mono ?_
    rintro e w8 ⟨rfl, hb8⟩
    have HB8 := Lib.hid (keepV HB7.out hb8)
    clear hb8
    rcases bool_two (okL M) with h4 | h4
    · rw [h4]
      clear h4
      go_wp2_with fail
      refine (example_any _ (HE.out.below HB8.out)).mono ?_
      rintro e w9 ⟨rfl, hb9⟩
      go_wp2_with fail
      go_ret
      exact ⟨rfl, keepV HB8.out hb9⟩
    · rw [h4]
      have hin := HI.out h4
      obtain ⟨d, hd⟩ : ∃ d, decide (L = M) = d := ⟨_, rfl⟩
      obtain ⟨t, ht⟩ : ∃ t, textS M = t := ⟨_, rfl⟩
      rw [ht, hd] at hin
      have HD := Lib.hid hd
      have HTM := Lib.hid ht
      clear h4 hd ht HI
      go_wp2_with fail
      refine (Text_any _ M _ (HU.out.below HB8.out) LM.out (HE.out.below HB8.out).num).mono ?_
      rintro e w9 ⟨rfl, hb9⟩
      rw [HTM.out]
      have HB9 := Lib.hid (keepV HB8.out hb9)
      clear hb9
      go_wp2_with fail
      refine (Same_any _ _ L M _ (HV.out.below HB9.out) (HU.out.below HB9.out) (by have := LL.out.1; omega) (by have := LM.out.1; omega)).mono ?_
      rintro e w10 ⟨rfl, hb10⟩
      rw [HD.out]
      have HB10 := Lib.hid (keepV HB9.out hb10)
      clear hb10
      go_wp2_with fail
      refine (example_any _ (HE.out.below HB10.out)).mono ?_
      rintro e w11 ⟨rfl, hb11⟩
      go_wp2_with fail
      go_ret
      exact ⟨rfl, keepV HB10.out hb11⟩
end Go.Proofs.YtpekkdgaeadepaaDoor
