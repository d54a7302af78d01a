/- The laws of the literals: what each law returns. -/
import Derived.Test.YtjnaijdfnliadaaDoorAlive
namespace Go.Proofs.YtjnaijdfnliadaaDoor
open Go.RowKit

set_option maxHeartbeats 1000000 in
theorem lawQuoteReads (l : List UInt8) (w : World) (hE : ErrOk w) : Calls Tryd.prog 4 #[.string (S l)] w fun e w' => e = .returned (.bool true) ∧ Below w.heap.size w w' := by
  have HE := Lib.hid hE; clear hE
  by_cases hbig : 2000 < l.length
  · go_enter Tryd.func4, Tryd.ntmps4
    go_wp2_with fail
    refine (alive_any _ HE.out).mono ?_
    rintro e w1 ⟨rfl, hb1⟩
    go_wp2_with fail
    go_ret
    exact ⟨rfl, hb1⟩
  · have hl : l.length ≤ 2000 := by omega
    obtain ⟨a, en, p, hrp⟩ := uq_ex (unqL l)
    have HP := Lib.hid hrp; clear hrp
    go_enter Tryd.func4, Tryd.ntmps4
    go_wp2_with fail
    refine (Unquote_any l (by omega) _ HE.out).mono ?_
    rintro e w1 ⟨rfl, hb1⟩
    rw [HP.out]
    dsimp only [uqVal]
    go_wp2_with fail
    refine (refUnquote_any l (by omega) _).mono ?_
    rintro e w2 ⟨rfl, hb2⟩
    rw [HP.out]
    dsimp only [uqVal]
    obtain ⟨hT1, hD2⟩ := below_two hb2
    have hB2 : Below w.heap.size w w2 := hb1.trans (hD2.mono hb1.size)
    have hB3 : Below w.heap.size w (w2.alloc (.cells #[.int .i64 (en : Int), .int .i64 (p : Int)] 27)) := hB2.alloc hB2.size _
    have hT2 := Two.new w2 27 (.int .i64 (en : Int)) (.int .i64 (p : Int))
    have hT1 : Two (w2.alloc (.cells #[.int .i64 (en : Int), .int .i64 (p : Int)] 27)) _ _ _ _ := hT1.below ((Below.refl _ _).alloc (Nat.le_refl _) _)
    have hc0 := hT1.cell0
    have hc1 := hT1.cell1
    have hd0 := hT2.cell0
    have hd1 := hT2.cell1
    go_wp2_with fail
    refine (alive_any _ (HE.out.below hB3)).mono ?_
    rintro e w4 ⟨rfl, hb4⟩
    go_wp2_with fail
    go_ret
    exact ⟨rfl, hB3.trans (hb4.mono hB3.size)⟩
end Go.Proofs.YtjnaijdfnliadaaDoor
