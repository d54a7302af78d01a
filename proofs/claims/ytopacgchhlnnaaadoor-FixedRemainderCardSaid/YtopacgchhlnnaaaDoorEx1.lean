/- The chapter's examples: example returns true. -/
import Derived.Test.YtopacgchhlnnaaaDoorFixE
import Derived.Test.YtopacgchhlnnaaaDoorFixF
import Derived.Test.YtopacgchhlnnaaaDoorRParse
namespace Go.Proofs.YtopacgchhlnnaaaDoor
open Go.RowKit

theorem ex_mul : mulI 15000 20000 = (30000, 0) := by decide
theorem ex_div : divI 10000 30000 = (0, 3) := by decide
theorem ex_mod : modI (-10000) 30000 = (20000, 0) := by decide
theorem ex_text : textI 15000 = [49, 46, 53] := by
  rw [textI_val _ (by decide)]
  have h : trimZ (pad4 5000) = [53] := by
    rw [trimZ_on _ (by decide), trimZ_on _ (by decide), trimZ_on _ (by decide), trimZ_off _ (by decide)]
    decide
  rw [show (15000 : Int).natAbs / 10000 = 1 by decide, show (15000 : Int).natAbs % 10000 = 5000 by decide, Lib.decDigits_one (by decide)]
  unfold fracL
  rw [h]
  decide
theorem ex_parse : parseI [49, 46, 53, 48] = (0, 8) := by
  have h : candI [49, 46, 53, 48] = 15000 := by decide
  unfold parseI
  rw [h, ex_text]; decide
set_option maxRecDepth 100000 in
set_option maxHeartbeats 2000000 in
theorem example_any (w : World) (hE : NumOk w) : Calls Tryd.prog 14 #[] w fun e w' => e = .returned (.bool true) ∧ Below w.heap.size w w' := by
  have HE := Lib.hid hE; clear hE
  go_enter Tryd.func14, Tryd.ntmps14
  go_wp2_with fail
  refine (Mul_any 15000 20000 _).mono ?_
  rintro e w1 ⟨rfl, hb1⟩
  rw [ex_mul]
  simp only [pr]
  have HB1 := Lib.hid hb1; clear hb1
  go_wp2_with fail
  refine (Div_any 10000 30000 _).mono ?_
  rintro e w2 ⟨rfl, hb2⟩
  rw [ex_div]
  simp only [pr]
  have HB2 := Lib.hid (HB1.out.trans (hb2.mono HB1.out.size)); clear hb2
  go_wp2_with fail
  refine (Mod_any (-10000) 30000 _).mono ?_
  rintro e w' ⟨rfl, rfl⟩
  rw [ex_mod]
  simp only [pr]
  go_wp2_with fail
  refine (Parse_any [49, 46, 53, 48] _ (by decide) (HE.out.below HB2.out)).mono ?_
  rintro e w3 ⟨rfl, hb3⟩
  rw [ex_parse]
  simp only [pr]
  have HB3 := Lib.hid (HB2.out.trans (hb3.mono HB2.out.size)); clear hb3
  go_wp2_with fail
  refine (Text_any 15000 _ (HE.out.below HB3.out)).mono ?_
  rintro e w4 ⟨rfl, hb4⟩
  rw [ex_text]
  have HB4 := Lib.hid (HB3.out.trans (hb4.mono HB3.out.size)); clear hb4
  go_wp2_with fail
  go_ret
  exact ⟨rfl, HB4.out⟩
end Go.Proofs.YtopacgchhlnnaaaDoor
