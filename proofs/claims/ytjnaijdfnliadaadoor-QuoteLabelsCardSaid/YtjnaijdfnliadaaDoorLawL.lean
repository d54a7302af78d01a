/- The laws of the literals: what each law returns. -/
import Derived.Test.YtjnaijdfnliadaaDoorAlive
namespace Go.Proofs.YtjnaijdfnliadaaDoor
open Go.RowKit

set_option maxHeartbeats 1000000 in
theorem lawQuoteLabels (l : List UInt8) (w : World) (hE : ErrOk w) : Calls Tryd.prog 8 #[.string (S l)] w fun e w' => e = .returned (.bool true) ∧ Below w.heap.size w w' := by
  have HE := Lib.hid hE; clear hE
  by_cases hbig : 1000 < l.length
  · go_enter Tryd.func8, Tryd.ntmps8
    go_wp2_with fail
    refine (alive_any _ HE.out).mono ?_
    rintro e w1 ⟨rfl, hb1⟩
    go_wp2_with fail
    go_ret
    exact ⟨rfl, hb1⟩
  have hl : l.length ≤ 1000 := by omega
  have hq := quote_len l
  have HU := Lib.hid (unlabel_label l (by omega))
  have HI1 := Lib.hid (fun w => Ident_any l (by omega) w)
  have HL1 := Lib.hid (fun w => Label_any l (by omega) w)
  have HQ := Lib.hid (fun w => quote_any l (by omega) w)
  have hsame := label_same l
  cases hi : identB l with
  | true =>
    have hlab : labelL l = l := by rw [hsame]; exact hi
    rw [hlab] at HU HL1
    rw [hi] at HI1
    clear hlab hsame hi
    go_enter Tryd.func8, Tryd.ntmps8
    go_wp2_with fail
    refine (HL1.out _).mono ?_
    rintro e w1 ⟨rfl, hb1⟩
    go_wp2_with fail
    refine (Unlabel_any l (by omega) _ (HE.out.below hb1)).mono ?_
    rintro e w2 ⟨rfl, hb2⟩
    have hB2 := hb1.trans (hb2.mono hb1.size)
    rw [HU.out]
    rw [show uqVal (l, 0, 0) = .tuple #[.string (S l), .agg #[.int .i64 0, .int .i64 0]] from rfl]
    go_wp2_with fail
    refine (HI1.out _).mono ?_
    rintro e w3 ⟨rfl, hb3⟩
    obtain ⟨hT, hD3⟩ := below_two hb3
    have hB3 : Below w.heap.size w w3 := hB2.trans (hD3.mono hB2.size)
    go_wp2_with fail
    refine (alive_any _ (HE.out.below hB3)).mono ?_
    rintro e w4 ⟨rfl, hb4⟩
    go_wp2_with fail
    go_ret
    exact ⟨rfl, hB3.trans (hb4.mono hB3.size)⟩
  | false =>
    have hlab : labelL l = quoteL l := by unfold labelL; rw [hi]; simp
    have hne : (quoteL l == l) = false := by
      rw [beq_eq_false_iff_ne]; intro h; rw [h] at hq; omega
    rw [hlab] at HU HL1
    rw [hi] at HI1
    clear hlab hsame hi
    generalize quoteL l = q at hq HU HL1 HQ hne
    go_enter Tryd.func8, Tryd.ntmps8
    go_wp2_with fail
    refine (HL1.out _).mono ?_
    rintro e w1 ⟨rfl, hb1⟩
    go_wp2_with fail
    refine (Unlabel_any q (by omega) _ (HE.out.below hb1)).mono ?_
    rintro e w2 ⟨rfl, hb2⟩
    have hB2 := hb1.trans (hb2.mono hb1.size)
    rw [HU.out]
    rw [show uqVal (l, 0, 0) = .tuple #[.string (S l), .agg #[.int .i64 0, .int .i64 0]] from rfl]
    go_wp2_with fail
    refine (HI1.out _).mono ?_
    rintro e w3 ⟨rfl, hb3⟩
    obtain ⟨hT, hD3⟩ := below_two hb3
    have hB3 : Below w.heap.size w w3 := hB2.trans (hD3.mono hB2.size)
    go_wp2_with fail
    refine (HQ.out _).mono ?_
    rintro e w4 ⟨rfl, hb4⟩
    have hB4 : Below w.heap.size w w4 := hB3.trans (hb4.mono hB3.size)
    go_wp2_with fail
    refine (alive_any _ (HE.out.below hB4)).mono ?_
    rintro e w5 ⟨rfl, hb5⟩
    go_wp2_with fail
    go_ret
    exact ⟨rfl, hB4.trans (hb5.mono hB4.size)⟩
end Go.Proofs.YtjnaijdfnliadaaDoor
