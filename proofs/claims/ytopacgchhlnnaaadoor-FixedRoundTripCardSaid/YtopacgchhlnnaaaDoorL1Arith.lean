/- The laws of the numbers' arithmetic: what each returns. -/
import Derived.Test.YtopacgchhlnnaaaDoorL1p
import Derived.Test.YtopacgchhlnnaaaDoorEx1
namespace Go.Proofs.YtopacgchhlnnaaaDoor
open Go.RowKit
set_option linter.unusedVariables false

set_option maxHeartbeats 1000000 in
theorem lawFixedArithmetic (u v : Int) (hu : (Lit.int .i64 u).wf = true) (hv : (Lit.int .i64 v).wf = true) (w : World) (hE : NumOk w) : Calls Tryd.prog 10 #[.int .i64 u, .int .i64 v] w fun e w' => e = .returned (.bool true) ∧ Below w.heap.size w w' := by
  have HE := Lib.hid hE; clear hE hu hv
  go_enter Tryd.func10, Tryd.ntmps10
  go_wp2_with (first
    | (go_at_call 26; refine (Add_any _ _ _).mono ?_; rintro e w' ⟨rfl, rfl⟩; simp only [pr])
    | (go_at_call 27; refine (refAdd_any _ _ _).mono ?_; rintro e w' ⟨rfl, rfl⟩; simp only [pr])
    | (go_at_call 28; refine (Sub_any _ _ _).mono ?_; rintro e w' ⟨rfl, rfl⟩; simp only [pr])
    | (go_at_call 29; refine (refSub_any _ _ _).mono ?_; rintro e w' ⟨rfl, rfl⟩; simp only [pr]))
  refine (Mul_any u v _).mono ?_
  rintro e w1 ⟨rfl, hb1⟩
  simp only [pr]
  have HB1 := Lib.hid hb1; clear hb1
  go_wp2_with (go_at_call 30; refine (refMul_any _ _ _).mono ?_; rintro e w' ⟨rfl, rfl⟩; simp only [pr])
  refine (Div_any u v _).mono ?_
  rintro e w2 ⟨rfl, hb2⟩
  simp only [pr]
  have HB2 := Lib.hid (HB1.out.trans (hb2.mono HB1.out.size)); clear hb2
  go_wp2_with fail
  refine (refDiv_any u v _).mono ?_
  rintro e w3 ⟨rfl, n, rfl⟩
  simp only [pr]
  have HB3 := Lib.hid (below_drewN HB2.out n)
  go_wp2_with (first
    | (go_at_call 20; refine (Mod_any _ _ _).mono ?_; rintro e w' ⟨rfl, rfl⟩; simp only [pr])
    | (go_at_call 32; refine (refMod_any _ _ _).mono ?_; rintro e w' ⟨rfl, rfl⟩; simp only [pr]))
  refine (example_any _ (HE.out.below HB3.out)).mono ?_
  rintro e w4 ⟨rfl, hb4⟩
  go_wp2_with fail
  go_ret
  exact ⟨rfl, HB3.out.trans (hb4.mono HB3.out.size)⟩
set_option maxHeartbeats 1000000 in
theorem lawFixedRoundTrip (u v : Int) (hu : (Lit.int .i64 u).wf = true) (hv : (Lit.int .i64 v).wf = true) (w : World) (hE : NumOk w) : Calls Tryd.prog 5 #[.int .i64 u, .int .i64 v] w fun e w' => e = .returned (.bool true) ∧ Below w.heap.size w w' := by
  have HE := Lib.hid hE; clear hE hu hv
  have hlen := textI_len u
  have HT := Lib.hid (textI_eq u v)
  cases hval : vld u
  · have H63 := Lib.hid (textI_bad u hval)
    go_enter Tryd.func5, Tryd.ntmps5
    go_wp2_with fail
    refine (Text_any u _ HE.out).mono ?_
    rintro e w1 ⟨rfl, hb1⟩
    have HB1 := Lib.hid hb1; clear hb1
    go_wp2_with fail
    refine (Parse_any (textI u) _ (by omega) (HE.out.below HB1.out)).mono ?_
    rintro e w2 ⟨rfl, hb2⟩
    rw [H63.out, parse_63]
    simp only [pr]
    have HB2 := Lib.hid (HB1.out.trans (hb2.mono HB1.out.size)); clear hb2
    go_wp2_with (go_at_call 17; refine (Valid_any _ _).mono ?_; rintro e w' ⟨rfl, rfl⟩; rw [hval])
    refine (Text_any u _ (HE.out.below HB2.out)).mono ?_
    rintro e w3 ⟨rfl, hb3⟩
    rw [H63.out]
    have HB3 := Lib.hid (HB2.out.trans (hb3.mono HB2.out.size)); clear hb3
    go_wp2_with fail
    refine (example_any _ (HE.out.below HB3.out)).mono ?_
    rintro e w4 ⟨rfl, hb4⟩
    go_wp2_with fail
    go_ret
    exact ⟨rfl, HB3.out.trans (hb4.mono HB3.out.size)⟩
  · have HP := Lib.hid (parseI_text u hval)
    go_enter Tryd.func5, Tryd.ntmps5
    go_wp2_with fail
    refine (Text_any u _ HE.out).mono ?_
    rintro e w1 ⟨rfl, hb1⟩
    have HB1 := Lib.hid hb1; clear hb1
    go_wp2_with fail
    refine (Parse_any (textI u) _ (by omega) (HE.out.below HB1.out)).mono ?_
    rintro e w2 ⟨rfl, hb2⟩
    rw [HP.out]
    simp only [pr]
    have HB2 := Lib.hid (HB1.out.trans (hb2.mono HB1.out.size)); clear hb2
    go_wp2_with (go_at_call 17; refine (Valid_any _ _).mono ?_; rintro e w' ⟨rfl, rfl⟩; rw [hval])
    refine (Text_any u _ (HE.out.below HB2.out)).mono ?_
    rintro e w3 ⟨rfl, hb3⟩
    have HB3 := Lib.hid (HB2.out.trans (hb3.mono HB2.out.size)); clear hb3
    go_wp2_with fail
    refine (Text_any v _ (HE.out.below HB3.out)).mono ?_
    rintro e w4 ⟨rfl, hb4⟩
    have HB4 := Lib.hid (HB3.out.trans (hb4.mono HB3.out.size)); clear hb4
    have T := HT.out hval
    cases hc : (u == v)
    all_goals
      rw [hc] at T
      go_wp2_with fail
      refine (example_any _ (HE.out.below HB4.out)).mono ?_
      rintro e w5 ⟨rfl, hb5⟩
      go_wp2_with fail
      go_ret
      exact ⟨rfl, HB4.out.trans (hb5.mono HB4.out.size)⟩
end Go.Proofs.YtopacgchhlnnaaaDoor
