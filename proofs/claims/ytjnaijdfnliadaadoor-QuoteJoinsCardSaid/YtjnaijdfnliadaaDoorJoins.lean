/- The law of joined literals. -/
import Derived.Deep.RegionWith
import Derived.Test.YtjnaijdfnliadaaDoorAlive
namespace Go.Proofs.YtjnaijdfnliadaaDoor
open Go.RowKit

theorem quote_joined (a b : List UInt8) : quoteL (ct a b) = ct (sl (quoteL a) 0 ((quoteL a).length - 1)) (sl (quoteL b) 1 (quoteL b).length) := by
  rw [ct_eq, quote_join, ct_eq, sl_to, sl_from]

set_option maxHeartbeats 1000000 in
theorem lawQuoteJoins (a b : List UInt8) (w : World) (hE : ErrOk w) : Calls Tryd.prog 10 #[.string (S a), .string (S b)] w fun e w' => e = .returned (.bool true) ∧ Below w.heap.size w w' := by
  have HE := Lib.hid hE; clear hE
  by_cases hbiga : 500 < a.length
  · go_enter Tryd.func10, Tryd.ntmps10
    go_wp2_with fail
    refine (alive_any _ HE.out).mono ?_
    rintro e w1 ⟨rfl, hb1⟩
    go_wp2_with fail
    go_ret
    exact ⟨rfl, hb1⟩
  by_cases hbigb : 500 < b.length
  · go_enter Tryd.func10, Tryd.ntmps10
    go_wp2_with fail
    refine (alive_any _ HE.out).mono ?_
    rintro e w1 ⟨rfl, hb1⟩
    go_wp2_with fail
    go_ret
    exact ⟨rfl, hb1⟩
  have ha : a.length ≤ 500 := by omega
  have hb : b.length ≤ 500 := by omega
  have hqa := quote_len a
  have hqb := quote_len b
  have HQa := Lib.hid (fun w => quote_any a (by omega) w)
  have HQb := Lib.hid (fun w => quote_any b (by omega) w)
  have HQ := Lib.hid (fun w => quote_any (ct a b) (by rw [ct_len]; omega) w)
  rw [quote_joined] at HQ
  generalize quoteL a = qa at HQa HQ hqa
  generalize quoteL b = qb at HQb HQ hqb
  obtain ⟨na, hna⟩ : ∃ na, na = qa.length - 1 := ⟨_, rfl⟩
  rw [← hna] at HQ
  have hw1 : IntKind.i64.wrap ((qa.length : Int) - 1) = (na : Int) := by rw [IntWalk.i64_in _ (by omega)]; omega
  have ha2 : (2 : Int) ≤ (qa.length : Int) := by omega
  have hbb2 : (2 : Int) ≤ (qb.length : Int) := by omega
  have hbb3 : (1 : Int) ≤ (qb.length : Int) := by omega
  have ha3 : (0 : Int) ≤ (na : Int) := by omega
  have ha4 : (na : Int) ≤ (qa.length : Int) := by omega
  have hs1 : ¬ (9223372036854775807 : Int) < (a.length : Int) + (b.length : Int) := by omega
  have h1 := sl_le qa 0 na
  have h2 := sl_le qb 1 qb.length
  have hs2 : ¬ (9223372036854775807 : Int) < ((sl qa 0 na).length : Int) + ((sl qb 1 qb.length).length : Int) := by omega
  clear h1 h2 hna hqa hqb
  go_enter Tryd.func10, Tryd.ntmps10
  go_wp2_with fail
  refine (HQa.out _).mono ?_
  rintro e w1 ⟨rfl, hb1⟩
  go_wp2_with fail
  refine (HQb.out _).mono ?_
  rintro e w2 ⟨rfl, hb2⟩
  have hB2 := hb1.trans (hb2.mono hb1.size)
  go_wp2_with fail
  go_region_with (first
    | (go_at_call 13; refine (HQ.out _).mono ?_; rintro e w3 ⟨rfl, hb3⟩)
    | (go_at_call 12; refine (alive_any _ (HE.out.below (hB2.drew.trans (hb3.mono hB2.drew.size)))).mono ?_; rintro e w4 ⟨rfl, hb4⟩))
  all_goals
    have hB3 := hB2.drew.trans (hb3.mono hB2.drew.size)
    go_wp2_with fail
    go_ret
    exact ⟨rfl, hB3.trans (hb4.mono hB3.size)⟩
end Go.Proofs.YtjnaijdfnliadaaDoor
