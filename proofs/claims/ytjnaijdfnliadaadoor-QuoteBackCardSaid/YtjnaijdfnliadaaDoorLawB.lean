/- The laws of the literals: what each law returns. -/
import Derived.Test.YtjnaijdfnliadaaDoorAlive
namespace Go.Proofs.YtjnaijdfnliadaaDoor
open Go.RowKit

set_option maxHeartbeats 1000000 in
theorem lawQuoteBack (l : List UInt8) (w : World) (hE : ErrOk w) : Calls Tryd.prog 6 #[.string (S l)] w fun e w' => e = .returned (.bool true) ∧ Below w.heap.size w w' := by
  have HE := Lib.hid hE; clear hE
  by_cases hbig : 1000 < l.length
  · go_enter Tryd.func6, Tryd.ntmps6
    go_wp2_with fail
    refine (alive_any _ HE.out).mono ?_
    rintro e w1 ⟨rfl, hb1⟩
    go_wp2_with fail
    go_ret
    exact ⟨rfl, hb1⟩
  · have hl : l.length ≤ 1000 := by omega
    have hq := quote_len l
    have hp : ∀ k, k < (quoteL l).length → 32 ≤ (byt (quoteL l) k).toNat ∧ (byt (quoteL l) k).toNat ≤ 126 := fun k hk => by
      have := quote_print l (byt (quoteL l) k) (by rw [byt_get _ k hk]; exact List.getElem_mem hk)
      rw [UInt8.le_iff_toNat_le, UInt8.le_iff_toNat_le] at this; exact this
    have HU := Lib.hid (unq_quote l (by omega))
    have HQ := Lib.hid (fun w => quote_any l (by omega) w)
    generalize quoteL l = q at hq hp HU HQ
    have HP := Lib.hid hp; clear hp
    go_enter Tryd.func6, Tryd.ntmps6
    go_wp2_with fail
    refine (HQ.out _).mono ?_
    rintro e w1 ⟨rfl, hb1⟩
    go_wp2_with fail
    refine (Unquote_any q (by omega) _ (HE.out.below hb1)).mono ?_
    rintro e w2 ⟨rfl, hb2⟩
    rw [HU.out]
    have hB2 := hb1.trans (hb2.mono hb1.size)
    rw [show uqVal (l, 0, 0) = .tuple #[.string (S l), .agg #[.int .i64 0, .int .i64 0]] from rfl]
    go_wp2_with fail
    have hB3 : Below w.heap.size w (w2.alloc (.cells #[.int .i64 0, .int .i64 0] 27)) := hB2.alloc hB2.size _
    have hT := Two.new w2 27 (.int .i64 0) (.int .i64 0)
    obtain ⟨w3, hw3⟩ : ∃ w3, w3 = w2.alloc (.cells #[.int .i64 0, .int .i64 0] 27) := ⟨_, rfl⟩
    rw [← hw3] at hB3 hT ⊢
    clear hw3
    have hc0 := hT.cell0
    have hc1 := hT.cell1
    go_loop [6] (fun i => ∃ k : Nat, k ≤ q.length ∧ i = .int .i64 k) (fun i => q.length - (intOf i).toNat)
    case atStart => exact ⟨0, by omega, rfl⟩
    case round =>
      obtain ⟨k, hk, rfl⟩ := hrel
      by_cases hlt : k < q.length
      · obtain ⟨p1, p2⟩ := HP.out k hlt
        go_wp2_with fail
        go_round
        case rel => exact ⟨k + 1, by omega, by go_num⟩
        case measure => simp [intOf]; omega
      · go_wp2_with fail
        refine (alive_any _ (HE.out.below hB3)).mono ?_
        rintro e w4 ⟨rfl, hb4⟩
        go_wp2_with fail
        go_ret
        exact ⟨rfl, hB3.trans (hb4.mono hB3.size)⟩
end Go.Proofs.YtjnaijdfnliadaaDoor
