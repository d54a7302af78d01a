/- The law of cut literals. -/
import Derived.OpenShut
import Derived.Test.YtjnaijdfnliadaaDoorAlive
namespace Go.Proofs.YtjnaijdfnliadaaDoor
open Go.RowKit

theorem byt_of_get {l : List UInt8} {k : Nat} {c : UInt8} (h : l[k]? = some c) : byt l k = c ∧ k < l.length := by
  obtain ⟨hk, e⟩ := List.getElem?_eq_some_iff.1 h
  exact ⟨by rw [byt_get l k hk, e], hk⟩

set_option maxHeartbeats 2000000 in
theorem lawQuoteCut (l m : List UInt8) (n : Int) (hn : (Lit.int .u16 n).wf = true) (w : World) (hE : ErrOk w) :
    Calls Tryd.prog 11 #[.string (S l), .string (S m), .int .u16 n] w fun e w' => e = .returned (.bool true) ∧ Below w.heap.size w w' := by
  have HE := Lib.hid hE; clear hE
  by_cases hbig : 300 < l.length
  · go_enter Tryd.func11, Tryd.ntmps11
    go_wp2_with fail
    refine (alive_any _ HE.out).mono ?_
    rintro e w1 ⟨rfl, hb1⟩
    go_wp2_with fail
    go_ret
    exact ⟨rfl, hb1⟩
  by_cases hbigm : 300 < m.length
  · go_enter Tryd.func11, Tryd.ntmps11
    go_wp2_with fail
    refine (alive_any _ HE.out).mono ?_
    rintro e w1 ⟨rfl, hb1⟩
    go_wp2_with fail
    go_ret
    exact ⟨rfl, hb1⟩
  by_cases hm0 : m.length = 0
  · have hz : ((m.length : Int) == 0) = true := by rw [hm0]; rfl
    have hbig' : l.length ≤ 300 := by omega
    have hbigm' : m.length ≤ 300 := by omega
    clear hm0
    go_enter Tryd.func11, Tryd.ntmps11
    go_wp2_with fail
    refine (alive_any _ HE.out).mono ?_
    rintro e w1 ⟨rfl, hb1⟩
    go_wp2_with fail
    go_ret
    exact ⟨rfl, hb1⟩
  have hz : ((m.length : Int) == 0) = false := beq_eq_false_iff_ne.2 (by omega)
  have hl : l.length ≤ 300 := by omega
  have hm : m.length ≤ 300 := by omega
  have hnb := Go.bounds_u16 hn
  obtain ⟨n0, rfl⟩ := Int.eq_ofNat_of_zero_le hnb.1
  have hq := quote_len l
  have hmore := unq_more l m (by rw [List.length_append]; omega) (fun h => hm0 (by rw [h]; rfl))
  have hfail : failsB (ct (quoteL l) m) ((quoteL l).length : Int) = true := by
    unfold failsB; rw [ct_eq, hmore]; simp
  have hlt : n0 % (quoteL l).length < (quoteL l).length := Nat.mod_lt _ (by omega)
  obtain ⟨a, hcut, hak, hor⟩ := unq_cut l (n0 % (quoteL l).length) hlt (by omega)
  have HQ := Lib.hid (fun w => quote_any l (by omega) w)
  clear hm0 hmore hn
  rw [← sl_to] at hcut
  have hk : ((n0 : Int).tmod ((quoteL l).length : Int)) = ((n0 % (quoteL l).length : Nat) : Int) := by rw [Int.tmod_eq_emod_of_nonneg (by omega)]; rfl
  generalize quoteL l = q at hq hfail hlt hcut hak hor HQ hk
  generalize n0 % q.length = k at hlt hcut hak hor hk
  have HF := Lib.hid hfail
  have HC := Lib.hid hcut
  clear hfail hcut
  have hq2 : q.length ≤ 1202 := by omega
  have hq3 : 2 ≤ q.length := by omega
  have hnil : ¬ q = [] := by intro h; rw [h] at hq3; simp at hq3
  clear hq
  have hsl := sl_le q 0 k
  rcases Nat.lt_or_ge a k with hlt2 | hge
  · have hor2 : 0 < k ∧ q[a]? = some 92 ∧ k ≤ a + 3 := by
      rcases hor with h | h
      · omega
      · exact h
    obtain ⟨h0k, hget, hk3⟩ := hor2
    obtain ⟨hba, hal⟩ := byt_of_get hget
    have hne : ((a : Int) == (k : Int)) = false := beq_eq_false_iff_ne.2 (by omega)
    clear hget hor
    go_enter Tryd.func11, Tryd.ntmps11
    go_wp2_with fail
    refine (HQ.out _).mono ?_
    rintro e w1 ⟨rfl, hb1⟩
    go_wp2_with fail
    refine (fails_any (ct q m) (by rw [ct_len]; omega) (q.length : Int) _ (HE.out.below hb1)).mono ?_
    rintro e w2 ⟨rfl, hb2⟩
    have hB2 := hb1.trans (hb2.mono hb1.size)
    rw [HF.out]
    go_wp2_with fail
    refine (Unquote_any (sl q 0 k) (by omega) _ (HE.out.below hB2)).mono ?_
    rintro e w3 ⟨rfl, hb3⟩
    rw [HC.out]
    have hB3 := hB2.trans (hb3.mono hB2.size)
    rw [show uqVal (([] : List UInt8), 8, a) = .tuple #[.string (S []), .agg #[.int .i64 8, .int .i64 (a : Int)]] from rfl]
    have hT := Two.new w3 27 (.int .i64 8) (.int .i64 (a : Int))
    have hB4 : Below w.heap.size w (w3.alloc (.cells #[.int .i64 8, .int .i64 (a : Int)] 27)) := hB3.alloc hB3.size _
    have hc0 := hT.cell0
    have hc1 := hT.cell1
    go_wp2_with fail
    refine (alive_any _ (HE.out.below hB4)).mono ?_
    rintro e w5 ⟨rfl, hb5⟩
    go_wp2_with fail
    go_ret
    exact ⟨rfl, hB4.trans (hb5.mono hB4.size)⟩
  · have hak' : a = k := by omega
    subst hak'
    clear hor hge
    go_enter Tryd.func11, Tryd.ntmps11
    go_wp2_with fail
    refine (HQ.out _).mono ?_
    rintro e w1 ⟨rfl, hb1⟩
    go_wp2_with fail
    refine (fails_any (ct q m) (by rw [ct_len]; omega) (q.length : Int) _ (HE.out.below hb1)).mono ?_
    rintro e w2 ⟨rfl, hb2⟩
    have hB2 := hb1.trans (hb2.mono hb1.size)
    rw [HF.out]
    go_wp2_with fail
    refine (Unquote_any (sl q 0 a) (by omega) _ (HE.out.below hB2)).mono ?_
    rintro e w3 ⟨rfl, hb3⟩
    rw [HC.out]
    have hB3 := hB2.trans (hb3.mono hB2.size)
    rw [show uqVal (([] : List UInt8), 8, a) = .tuple #[.string (S []), .agg #[.int .i64 8, .int .i64 (a : Int)]] from rfl]
    have hT := Two.new w3 27 (.int .i64 8) (.int .i64 (a : Int))
    have hB4 : Below w.heap.size w (w3.alloc (.cells #[.int .i64 8, .int .i64 (a : Int)] 27)) := hB3.alloc hB3.size _
    have hc0 := hT.cell0
    have hc1 := hT.cell1
    go_wp2_with fail
    refine (alive_any _ (HE.out.below hB4)).mono ?_
    rintro e w5 ⟨rfl, hb5⟩
    go_wp2_with fail
    go_ret
    exact ⟨rfl, hB4.trans (hb5.mono hB4.size)⟩
end Go.Proofs.YtjnaijdfnliadaaDoor
