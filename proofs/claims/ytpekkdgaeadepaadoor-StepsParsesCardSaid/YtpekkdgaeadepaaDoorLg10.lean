/- The law StepsParses. -/
import Derived.Test.YtpekkdgaeadepaaDoorRdK
import Derived.Test.YtpekkdgaeadepaaDoorLe10
namespace Go.Proofs.YtpekkdgaeadepaaDoor
open Go.RowKit

set_option maxRecDepth 100000 in
set_option maxHeartbeats 4000000 in
theorem lawStepsParses (s : List UInt8) (w : World) (hE : StOk w) : Calls Tryd.prog 4 #[.string (S s)] w fun e w' => e = .returned (.bool true) ∧ Below w.heap.size w w' := by
  have HE := Lib.hid hE; clear hE
  by_cases hout : 400 < s.length
  · have h1 : decide ((400 : Int) < (s.length : Int)) = true := by simp; omega
    clear hout
    go_enter Tryd.func4, Tryd.ntmps4
    go_wp2_with fail
    refine (example_any _ HE.out).mono ?_
    rintro e w1 ⟨rfl, hb1⟩
    go_wp2_with fail
    go_ret
    exact ⟨rfl, hb1⟩
  · have h1 : decide ((400 : Int) < (s.length : Int)) = false := by simp; omega
    have hL : (parseP s).1.length ≤ 1000 := by
      rcases parse_only s (by omega) with ⟨k1, k2, k3, k4⟩ | ⟨k1, k2, k3⟩
      · exact (text_lim k3 k4 (by omega)).1
      · rw [k1]; simp
    obtain ⟨⟨L, en, at_⟩, hp⟩ : ∃ x, parseP s = x := ⟨_, rfl⟩
    rw [hp] at hL
    simp only at hL
    have HP := Lib.hid hp
    have HQ := Lib.hid ((parse_both s).trans hp)
    clear hp
    go_enter Tryd.func4, Tryd.ntmps4
    go_wp2_with fail
    refine (Parse_any s (by omega) _ HE.out).mono ?_
    rintro e w2 ⟨v2, rfl, hv2, hb2⟩
    rw [HP.out] at hv2 ⊢
    simp only at hv2 ⊢
    have HV := Lib.hid hv2
    have HB2 := Lib.hid hb2
    have HF := Lib.hid (Blk.new w2 #[.int .i64 (en : Int), .int .i64 (at_ : Int)] 28)
    clear hv2 hb2
    go_wp2_with fail
    refine (refParse_any s (by omega) _).mono ?_
    rintro e w3 ⟨v3, rfl, hv3, hb3⟩
    rw [HQ.out] at hv3 ⊢
    simp only at hv3 ⊢
    have HV2 := Lib.hid ((HV.out.below ((Below.refl _ _).alloc (Nat.le_refl _) (.cells #[.int .i64 (en : Int), .int .i64 (at_ : Int)] 28))).below hb3)
    have HV3 := Lib.hid hv3
    have hF := HF.out.below hb3
    have HB3 := Lib.hid (keepV (HB2.out.alloc HB2.out.size _) hb3)
    have hlt := hF.lt
    have x0 := hF.cell 0
    have x1 := hF.cell 1
    simp at x0 x1
    clear hv3 hb3 HF hF HP HQ HV
    have VA := Lib.hid (HV2.out.below ((Below.refl w3.heap.size w3).alloc (Nat.le_refl _) (.cells #[.int .i64 (en : Int), .int .i64 (at_ : Int)] 28)))
    have VB := Lib.hid (HV3.out.below ((Below.refl w3.heap.size w3).alloc (Nat.le_refl _) (.cells #[.int .i64 (en : Int), .int .i64 (at_ : Int)] 28)))
    have HB4 := Lib.hid (HB3.out.alloc HB3.out.size (.cells #[.int .i64 (en : Int), .int .i64 (at_ : Int)] 28))
    go_wp2_with fail
    refine (Same_any _ _ L L _ VA.out VB.out (by omega) (by omega)).mono ?_
    rintro e w4 ⟨rfl, hb4⟩
    rw [decide_eq_true rfl]
    have HB5 := Lib.hid (keepV HB4.out hb4)
    clear hb4
    go_wp2_with fail
    refine (example_any _ (HE.out.below HB5.out)).mono ?_
    rintro e w5 ⟨rfl, hb5⟩
    go_wp2_with fail
    go_ret
    exact ⟨rfl, keepV HB5.out hb5⟩
end Go.Proofs.YtpekkdgaeadepaaDoor
