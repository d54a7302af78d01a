/- The chapter's examples: example returns true. -/
import Derived.Test.YtppbbalojbedpaaDoorSemI
namespace Go.Proofs.YtppbbalojbedpaaDoor
open Go.RowKit

/-- what the walks ask of the library's variables -/
structure SemOk (w : World) : Prop where
  num : NumOk w
  max : MaxOk w
theorem SemOk.below {w w' : World} (h : SemOk w) (hb : Below w.heap.size w w') : SemOk w' := ⟨h.num.below hb, h.max.below hb⟩
theorem ex_n1 : nextV ⟨1, 2, 3⟩ 1 = (⟨1, 3, 0⟩, 0) := by decide
theorem ex_n2 : nextV ⟨0, 2, 3⟩ 1 = (⟨0, 2, 4⟩, 0) := by decide
theorem ex_text (a b c : Nat) (ha : a < 10) (hb : b < 10) (hc : c < 10) : textV ⟨a, b, c⟩ = [118, UInt8.ofNat (48 + a), 46, UInt8.ofNat (48 + b), 46, UInt8.ofNat (48 + c)] := by
  rw [textV_val _ (vld_ok (by omega) (by omega) (by omega))]
  simp only [Int.toNat_natCast]
  rw [Lib.decDigits_one ha, Lib.decDigits_one hb, Lib.decDigits_one hc]; rfl
theorem ex_parse : parseV [118, 48, 49, 46, 50, 46, 51] = (zeroV, 8) := by
  have h : candV [118, 48, 49, 46, 50, 46, 51] = ⟨1, 2, 3⟩ := by decide
  have ht : textV ⟨1, 2, 3⟩ = [118, 49, 46, 50, 46, 51] := ex_text 1 2 3 (by decide) (by decide) (by decide)
  unfold parseV
  rw [h, ht]; decide
set_option maxRecDepth 100000 in
set_option maxHeartbeats 4000000 in
theorem example_any (w : World) (hE : SemOk w) : Calls Tryd.prog 15 #[] w fun e w' => e = .returned (.bool true) ∧ Below w.heap.size w w' := by
  have HE := Lib.hid hE; clear hE
  have HT1 : Hid (textV ⟨1, 3, 0⟩ = [118, 49, 46, 51, 46, 48]) := Lib.hid (ex_text 1 3 0 (by decide) (by decide) (by decide))
  have HT2 : Hid (textV ⟨0, 2, 4⟩ = [118, 48, 46, 50, 46, 52]) := Lib.hid (ex_text 0 2 4 (by decide) (by decide) (by decide))
  go_enter Tryd.func15, Tryd.ntmps15
  go_wp2_with fail
  refine (Next_any 1 2 3 1 _).mono ?_
  rintro e w1 ⟨rfl, hb1⟩
  rw [ex_n1]
  simp only [vp]
  have HB1 := Lib.hid hb1; clear hb1
  go_wp2_with fail
  refine (Next_any 0 2 3 1 _).mono ?_
  rintro e w2 ⟨rfl, hb2⟩
  rw [ex_n2]
  simp only [vp]
  obtain ⟨bV, hb2⟩ := below_new hb2
  have HB2 := Lib.hid (HB1.out.trans (hb2.mono HB1.out.size)); clear hb2
  have hz2 := bV.lt
  have BV := Lib.hid bV; clear bV
  go_wp2_with fail
  refine (Parse_any [118, 48, 49, 46, 50, 46, 51] _ (by decide) (HE.out.below (HB2.out.alloc HB2.out.size _)).num (HE.out.below (HB2.out.alloc HB2.out.size _)).max).mono ?_
  rintro e w3 ⟨rfl, hb3⟩
  rw [ex_parse]
  simp only [vp, zeroV]
  obtain ⟨bW, hb3⟩ := below_new hb3
  have bV3 := BV.out.below hb3
  have HB3 := Lib.hid (HB2.out.trans (hb3.mono HB2.out.size)); clear hb3
  have hlV := bV3.lt
  have hlW := bW.lt
  have x0 := bV3.cell 0
  have x1 := bV3.cell 1
  have x2 := bV3.cell 2
  simp at x0 x1 x2
  go_wp2_with fail
  refine (Text_any 1 3 0 _ (HE.out.below (HB3.out.alloc HB3.out.size _)).num).mono ?_
  rintro e w4 ⟨rfl, hb4⟩
  obtain ⟨-, hb4⟩ := below_new hb4
  rw [HT1.out]
  have bW4 := bW.below hb4
  have HB4 := Lib.hid (HB3.out.trans (hb4.mono HB3.out.size)); clear hb4 x0 x1 x2
  have x0 := bW4.cell 0
  have x1 := bW4.cell 1
  have x2 := bW4.cell 2
  simp at x0 x1 x2
  go_wp2_with fail
  refine (Text_any 0 2 4 _ (HE.out.below HB4.out).num).mono ?_
  rintro e w5 ⟨rfl, hb5⟩
  rw [HT2.out]
  have HB5 := Lib.hid (HB4.out.trans (hb5.mono HB4.out.size)); clear hb5
  go_wp2_with fail
  go_ret
  exact ⟨rfl, HB5.out⟩
end Go.Proofs.YtppbbalojbedpaaDoor
