/- The laws of the literals: what each law returns. -/
import Derived.Test.YtjnaijdfnliadaaDoorAlive
namespace Go.Proofs.YtjnaijdfnliadaaDoor
open Go.RowKit

set_option maxHeartbeats 1000000 in
theorem lawQuoteNames (l : List UInt8) (w : World) (hE : ErrOk w) : Calls Tryd.prog 7 #[.string (S l)] w fun e w' => e = .returned (.bool true) ∧ Below w.heap.size w w' := by
  have HE := Lib.hid hE; clear hE
  by_cases hbig : 2000 < l.length
  · go_enter Tryd.func7, Tryd.ntmps7
    go_wp2_with fail
    refine (alive_any _ HE.out).mono ?_
    rintro e w1 ⟨rfl, hb1⟩
    go_wp2_with fail
    go_ret
    exact ⟨rfl, hb1⟩
  · have hl : l.length ≤ 2000 := by omega
    obtain ⟨a, en, p, hrp⟩ := uq_ex (unlabelL l)
    have HP := Lib.hid hrp; clear hrp
    have HI1 := Lib.hid (fun w => Ident_any l (by omega) w)
    have HI2 := Lib.hid (fun w => refIdent_any l (by omega) w)
    have HL1 := Lib.hid (fun w => Label_any l (by omega) w)
    have HL2 := Lib.hid (fun w => refLabel_any l (by omega) w)
    generalize identB l = b at HI1 HI2
    generalize labelL l = q at HL1 HL2
    go_enter Tryd.func7, Tryd.ntmps7
    go_wp2_with fail
    refine (Unlabel_any l (by omega) _ HE.out).mono ?_
    rintro e w1 ⟨rfl, hb1⟩
    rw [HP.out]
    dsimp only [uqVal]
    go_wp2_with fail
    refine (refUnlabel_any l (by omega) _).mono ?_
    rintro e w2 ⟨rfl, hb2⟩
    rw [HP.out]
    dsimp only [uqVal]
    obtain ⟨hT1, hD2⟩ := below_two hb2
    have hB2 : Below w.heap.size w w2 := hb1.trans (hD2.mono hb1.size)
    go_wp2_with fail
    refine (HI1.out _).mono ?_
    rintro e w3 ⟨rfl, hb3⟩
    obtain ⟨hT2, hD3⟩ := below_two hb3
    have hT1 := hT1.below hD3
    have hB3 : Below w.heap.size w w3 := hB2.trans (hD3.mono hB2.size)
    go_wp2_with fail
    refine (HI2.out _).mono ?_
    rintro e w4 ⟨rfl, hb4⟩
    have hT1 := hT1.below hb4
    have hT2 := hT2.below hb4
    have hB4 : Below w.heap.size w w4 := hB3.trans (hb4.mono hB3.size)
    go_wp2_with fail
    refine (HL1.out _).mono ?_
    rintro e w5 ⟨rfl, hb5⟩
    have hT1 := hT1.below hb5
    have hT2 := hT2.below hb5
    have hB5 : Below w.heap.size w w5 := hB4.trans (hb5.mono hB4.size)
    go_wp2_with fail
    refine (HL2.out _).mono ?_
    rintro e w6 ⟨rfl, hb6⟩
    have hT1 := hT1.below hb6
    have hT2 := hT2.below hb6
    have hB6 : Below w.heap.size w w6 := hB5.trans (hb6.mono hB5.size)
    have hc0 := hT1.cell0
    have hc1 := hT1.cell1
    have hd0 := hT2.cell0
    have hd1 := hT2.cell1
    go_wp2_with fail
    refine (alive_any _ (HE.out.below hB6)).mono ?_
    rintro e w7 ⟨rfl, hb7⟩
    go_wp2_with fail
    go_ret
    exact ⟨rfl, hB6.trans (hb7.mono hB6.size)⟩
end Go.Proofs.YtjnaijdfnliadaaDoor
