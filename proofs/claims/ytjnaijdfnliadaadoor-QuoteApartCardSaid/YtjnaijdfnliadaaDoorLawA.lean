/- The laws of the literals: what each law returns. -/
import Derived.Test.YtjnaijdfnliadaaDoorAlive
namespace Go.Proofs.YtjnaijdfnliadaaDoor
open Go.RowKit

set_option maxHeartbeats 1000000 in
theorem lawQuoteApart (a b : List UInt8) (w : World) (hE : ErrOk w) : Calls Tryd.prog 9 #[.string (S a), .string (S b)] w fun e w' => e = .returned (.bool true) ∧ Below w.heap.size w w' := by
  have HE := Lib.hid hE; clear hE
  by_cases hbiga : 1000 < a.length
  · go_enter Tryd.func9, Tryd.ntmps9
    go_wp2_with fail
    refine (alive_any _ HE.out).mono ?_
    rintro e w1 ⟨rfl, hb1⟩
    go_wp2_with fail
    go_ret
    exact ⟨rfl, hb1⟩
  by_cases hbigb : 1000 < b.length
  · go_enter Tryd.func9, Tryd.ntmps9
    go_wp2_with fail
    refine (alive_any _ HE.out).mono ?_
    rintro e w1 ⟨rfl, hb1⟩
    go_wp2_with fail
    go_ret
    exact ⟨rfl, hb1⟩
  have ha : a.length ≤ 1000 := by omega
  have hb : b.length ≤ 1000 := by omega
  have hqa := quote_len a
  have hqb := quote_len b
  have HQa := Lib.hid (fun w => quote_any a (by omega) w)
  have HQb := Lib.hid (fun w => quote_any b (by omega) w)
  have HLa := Lib.hid (fun w => Label_any a (by omega) w)
  have HLb := Lib.hid (fun w => Label_any b (by omega) w)
  by_cases hab : a = b
  · subst hab
    generalize quoteL a = qa at HQa HQb hqa hqb
    generalize labelL a = la at HLa HLb
    go_enter Tryd.func9, Tryd.ntmps9
    go_wp2_with fail
    refine (HQa.out _).mono ?_
    rintro e w1 ⟨rfl, hb1⟩
    go_wp2_with fail
    refine (HQb.out _).mono ?_
    rintro e w2 ⟨rfl, hb2⟩
    have hB2 := hb1.trans (hb2.mono hb1.size)
    go_wp2_with fail
    refine (HLa.out _).mono ?_
    rintro e w3 ⟨rfl, hb3⟩
    have hB3 := hB2.trans (hb3.mono hB2.size)
    go_wp2_with fail
    refine (HLb.out _).mono ?_
    rintro e w4 ⟨rfl, hb4⟩
    have hB4 := hB3.trans (hb4.mono hB3.size)
    go_wp2_with fail
    refine (alive_any _ (HE.out.below hB4)).mono ?_
    rintro e w5 ⟨rfl, hb5⟩
    go_wp2_with fail
    go_ret
    exact ⟨rfl, hB4.trans (hb5.mono hB4.size)⟩
  · have n1 : (a == b) = false := by simpa using hab
    have n2 : (quoteL a == quoteL b) = false := by rw [beq_eq_false_iff_ne]; exact fun h => hab (quote_inj (by omega) h)
    have n3 : (labelL a == labelL b) = false := by rw [beq_eq_false_iff_ne]; exact fun h => hab (label_inj (by omega) (by omega) h)
    clear hab
    generalize quoteL a = qa at HQa hqa n2
    generalize quoteL b = qb at HQb hqb n2
    generalize labelL a = la at HLa n3
    generalize labelL b = lb at HLb n3
    go_enter Tryd.func9, Tryd.ntmps9
    go_wp2_with fail
    refine (HQa.out _).mono ?_
    rintro e w1 ⟨rfl, hb1⟩
    go_wp2_with fail
    refine (HQb.out _).mono ?_
    rintro e w2 ⟨rfl, hb2⟩
    have hB2 := hb1.trans (hb2.mono hb1.size)
    go_wp2_with fail
    refine (HLa.out _).mono ?_
    rintro e w3 ⟨rfl, hb3⟩
    have hB3 := hB2.trans (hb3.mono hB2.size)
    go_wp2_with fail
    refine (HLb.out _).mono ?_
    rintro e w4 ⟨rfl, hb4⟩
    have hB4 := hB3.trans (hb4.mono hB3.size)
    go_wp2_with fail
    refine (alive_any _ (HE.out.below hB4)).mono ?_
    rintro e w5 ⟨rfl, hb5⟩
    go_wp2_with fail
    go_ret
    exact ⟨rfl, hB4.trans (hb5.mono hB4.size)⟩
end Go.Proofs.YtjnaijdfnliadaaDoor
