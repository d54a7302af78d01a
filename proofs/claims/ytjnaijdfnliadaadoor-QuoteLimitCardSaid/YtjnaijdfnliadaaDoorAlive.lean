/- The chapter's examples: alive returns true. -/
import Derived.Test.YtjnaijdfnliadaaDoorLab
namespace Go.Proofs.YtjnaijdfnliadaaDoor
open Go.RowKit

set_option maxRecDepth 100000 in
set_option maxHeartbeats 2000000 in
theorem alive_any (w : World) (hE : ErrOk w) : Calls Tryd.prog 12 #[] w fun e w' => e = .returned (.bool true) ∧ Below w.heap.size w w' := by
  have HE := Lib.hid hE; clear hE
  go_enter Tryd.func12, Tryd.ntmps12
  have hB0 : Below w.heap.size w w := Below.refl _ _
  go_wp2_with fail
  refine (Unquote_any [34, 97, 92, 110, 92, 34, 92, 120, 52, 65, 34] (by decide) _ HE.out).mono ?_
  rintro e w1 ⟨rfl, hb1⟩
  have hB1 : Below w.heap.size w w1 := hB0.trans (hb1.mono hB0.size)
  rw [show uqVal (unqL [34, 97, 92, 110, 92, 34, 92, 120, 52, 65, 34]) = .tuple #[.string (S [97, 10, 34, 74]), .agg #[.int .i64 0, .int .i64 0]] by rw [show unqL [34, 97, 92, 110, 92, 34, 92, 120, 52, 65, 34] = ([97, 10, 34, 74], 0, 0) by decide +kernel]; rfl]
  go_wp2_with fail
  refine (Unlabel_any [95, 120, 49] (by decide) _ (HE.out.below (hB1.alloc hB1.size _))).mono ?_
  rintro e w2 ⟨rfl, hb2⟩
  obtain ⟨hT1, hD2⟩ := below_two hb2
  have hB2 : Below w.heap.size w w2 := hB1.trans (hD2.mono hB1.size)
  rw [show uqVal (unlabelL [95, 120, 49]) = .tuple #[.string (S [95, 120, 49]), .agg #[.int .i64 0, .int .i64 0]] by rw [show unlabelL [95, 120, 49] = ([95, 120, 49], 0, 0) by decide +kernel]; rfl]
  go_wp2_with fail
  refine (Unlabel_any [49, 97] (by decide) _ (HE.out.below (hB2.alloc hB2.size _))).mono ?_
  rintro e w3 ⟨rfl, hb3⟩
  obtain ⟨hT2, hD3⟩ := below_two hb3
  have hB3 : Below w.heap.size w w3 := hB2.trans (hD3.mono hB2.size)
  have hT1 := hT1.below hD3
  rw [show uqVal (unlabelL [49, 97]) = .tuple #[.string (S []), .agg #[.int .i64 8, .int .i64 0]] by rw [show unlabelL [49, 97] = ([], 8, 0) by decide +kernel]; rfl]
  go_wp2_with fail
  refine (quote_any [97, 10, 34] (by decide) _).mono ?_
  rintro e w4 ⟨rfl, hb4⟩
  obtain ⟨hT3, hD4⟩ := below_two hb4
  have hB4 : Below w.heap.size w w4 := hB3.trans (hD4.mono hB3.size)
  have hT1 := hT1.below hD4
  have hT2 := hT2.below hD4
  rw [show quoteL [97, 10, 34] = [34, 97, 92, 110, 92, 34, 34] by decide +kernel]
  go_wp2_with fail
  refine (quote_any [0, 255] (by decide) _).mono ?_
  rintro e w5 ⟨rfl, hb5⟩
  have hB5 : Below w.heap.size w w5 := hB4.trans (hb5.mono hB4.size)
  have hT1 := hT1.below hb5
  have hT2 := hT2.below hb5
  have hT3 := hT3.below hb5
  have hc1 := hT1.cell0
  have hd1 := hT1.cell1
  have hc2 := hT2.cell0
  have hd2 := hT2.cell1
  have hc3 := hT3.cell0
  have hd3 := hT3.cell1
  rw [show quoteL [0, 255] = [34, 92, 120, 48, 48, 92, 120, 102, 102, 34] by decide +kernel]
  go_wp2_with fail
  refine (Label_any [97, 45, 98] (by decide) _).mono ?_
  rintro e w6 ⟨rfl, hb6⟩
  have hB6 : Below w.heap.size w w6 := hB5.trans (hb6.mono hB5.size)
  rw [show labelL [97, 45, 98] = [34, 97, 45, 98, 34] by decide +kernel]
  go_wp2_with fail
  refine (Label_any [95, 120, 49] (by decide) _).mono ?_
  rintro e w7 ⟨rfl, hb7⟩
  have hB7 : Below w.heap.size w w7 := hB6.trans (hb7.mono hB6.size)
  rw [show labelL [95, 120, 49] = [95, 120, 49] by decide +kernel]
  go_wp2_with fail
  refine (Label_any [105, 110, 116] (by decide) _).mono ?_
  rintro e w8 ⟨rfl, hb8⟩
  have hB8 : Below w.heap.size w w8 := hB7.trans (hb8.mono hB7.size)
  rw [show labelL [105, 110, 116] = [34, 105, 110, 116, 34] by decide +kernel]
  go_wp2_with fail
  refine (fails_any [34, 97, 92, 113, 34] (by decide) 2 _ (HE.out.below hB8)).mono ?_
  rintro e w9 ⟨rfl, hb9⟩
  have hB9 : Below w.heap.size w w9 := hB8.trans (hb9.mono hB8.size)
  rw [show failsB [34, 97, 92, 113, 34] 2 = true by decide +kernel]
  go_wp2_with fail
  refine (fails_any [34, 97, 34, 98] (by decide) 3 _ (HE.out.below hB9)).mono ?_
  rintro e w10 ⟨rfl, hb10⟩
  have hB10 : Below w.heap.size w w10 := hB9.trans (hb10.mono hB9.size)
  rw [show failsB [34, 97, 34, 98] 3 = true by decide +kernel]
  go_wp2_with fail
  refine (fails_any [34, 97] (by decide) 2 _ (HE.out.below hB10)).mono ?_
  rintro e w11 ⟨rfl, hb11⟩
  have hB11 : Below w.heap.size w w11 := hB10.trans (hb11.mono hB10.size)
  rw [show failsB [34, 97] 2 = true by decide +kernel]
  go_wp2_with fail
  refine (fails_any [97] (by decide) 0 _ (HE.out.below hB11)).mono ?_
  rintro e w12 ⟨rfl, hb12⟩
  have hB12 : Below w.heap.size w w12 := hB11.trans (hb12.mono hB11.size)
  rw [show failsB [97] 0 = true by decide +kernel]
  go_wp2_with fail
  refine (Ident_any [35, 97, 95, 49] (by decide) _).mono ?_
  rintro e w13 ⟨rfl, hb13⟩
  have hB13 : Below w.heap.size w w13 := hB12.trans (hb13.mono hB12.size)
  rw [show identB [35, 97, 95, 49] = true by decide +kernel]
  go_wp2_with fail
  refine (Ident_any [95] (by decide) _).mono ?_
  rintro e w14 ⟨rfl, hb14⟩
  have hB14 : Below w.heap.size w w14 := hB13.trans (hb14.mono hB13.size)
  rw [show identB [95] = false by decide +kernel]
  go_wp2_with fail
  refine (Ident_any [95, 95, 97] (by decide) _).mono ?_
  rintro e w15 ⟨rfl, hb15⟩
  have hB15 : Below w.heap.size w w15 := hB14.trans (hb15.mono hB14.size)
  rw [show identB [95, 95, 97] = false by decide +kernel]
  go_wp2_with fail
  go_ret
  exact ⟨rfl, hB15⟩
end Go.Proofs.YtjnaijdfnliadaaDoor
