/- The law of the limit: literals of about MaxText bytes. -/
import Derived.Test.YtjnaijdfnliadaaDoorRowB
namespace Go.Proofs.YtjnaijdfnliadaaDoor
open Go.RowKit

set_option maxHeartbeats 1000000 in
theorem lawQuoteLimit (n c0 : Int) (hn : (Lit.int .i8 n).wf = true) (hc : (Lit.int .u8 c0).wf = true) (w : World) (hE : ErrOk w) :
    Calls Tryd.prog 5 #[.int .i8 n, .int .u8 c0] w fun e w' => e = .returned (.bool true) ∧ Below w.heap.size w w' := by
  have HE := Lib.hid hE; clear hE
  have hnb := Go.bounds_i8 hn
  have hcb := Go.bounds_u8 hc
  by_cases hout : n < -20 ∨ 20 < n ∨ c0 < 35 ∨ 91 < c0
  · have h1 : decide (n < -20) = true ∨ (decide (n < -20) = false ∧ decide (20 < n) = true) ∨ (decide (n < -20) = false ∧ decide (20 < n) = false ∧ decide (c0 < 35) = true) ∨ (decide (n < -20) = false ∧ decide (20 < n) = false ∧ decide (c0 < 35) = false ∧ decide (91 < c0) = true) := by
      by_cases a1 : n < -20
      · left; simp [a1]
      · by_cases a2 : 20 < n
        · right; left; simp [a1, a2]
        · by_cases a3 : c0 < 35
          · right; right; left; simp [a1, a2, a3]
          · right; right; right; simp [a1, a2, a3]; omega
    clear hout
    rcases h1 with h1 | ⟨h1, h2⟩ | ⟨h1, h2, h3⟩ | ⟨h1, h2, h3, h4⟩
    all_goals
      go_enter Tryd.func5, Tryd.ntmps5
      go_wp2_with fail
      refine (alive_any _ HE.out).mono ?_
      rintro e w1 ⟨rfl, hb1⟩
      go_wp2_with fail
      go_ret
      exact ⟨rfl, hb1⟩
  have hn1 : -20 ≤ n := by omega
  have hn2 : n ≤ 20 := by omega
  have hc1 : 35 ≤ c0 := by omega
  have hc2 : c0 ≤ 91 := by omega
  obtain ⟨c, rfl⟩ : ∃ c : UInt8, c0 = (c.toNat : Int) := ⟨UInt8.ofNat c0.toNat, by rw [u8_ofNat_toNat _ (by omega)]; omega⟩
  obtain ⟨N, hm⟩ : ∃ N : Nat, (N : Int) = 65536 + n := ⟨(65536 + n).toNat, by omega⟩
  clear hout
  have hN0 : IntKind.i64.wrap (65536 + n) = (N : Int) := by rw [IntWalk.i64_in _ (by omega)]; omega
  have hN1 : IntKind.i64.wrap n = n := IntWalk.i64_in _ (by omega)
  have hN2 : IntKind.i64.wrap ((N : Int) - 1) = ((N - 1 : Nat) : Int) := by rw [IntWalk.i64_in _ (by omega)]; omega
  have hN3 : IntKind.i64.wrap ((N : Int) - 2) = ((N - 2 : Nat) : Int) := by rw [IntWalk.i64_in _ (by omega)]; omega
  have hmk : ∀ W : World, (Instr.makeSlice 31 (.int .i64 (65536 + n)) (.int .i64 (65536 + n))).run Tryd.prog W = .ok (.slice (some ⟨W.heap.size, 0, none⟩) N N) (W.alloc (.cells (madeCells #[.int .u8 0] N) 5)) := fun W => by
    obtain ⟨i, hi, hz, hs, hb⟩ : ∃ i, Tryd.prog.info? 5 = some i ∧ i.zero = some (.int .u8 0) ∧ i.size = 1 ∧ i.bytes = 1 := ⟨_, rfl, rfl, rfl, rfl⟩
    have := run_make (P := Tryd.prog) W 31 5 i (.int .u8 0) Tryd.underlying31 hi hz .i64 .i64 (65536 + n) (65536 + n) (by omega) (by omega) (by rw [hb]; omega) (by omega)
    rw [hs, ← hm, Int.toNat_natCast, Nat.mul_one, hm] at this
    exact this
  have hNb : 65516 ≤ N ∧ N ≤ 65556 := by omega
  simp only [← hm] at hmk
  have HN := Lib.hid hm; clear hm
  have HM := Lib.hid (made_row w N)
  have hB1 : Below w.heap.size w (w.alloc (.cells (madeCells #[.int .u8 0] N) 5)) := (Below.refl _ _).alloc (Nat.le_refl _) _
  go_enter Tryd.func5, Tryd.ntmps5
  go_wp2_with fail
  obtain ⟨w1, hw1⟩ : ∃ w1, w1 = w.alloc (.cells (madeCells #[.int .u8 0] N) 5) := ⟨_, rfl⟩
  rw [← hw1] at HM hB1 ⊢
  clear hw1 hmk
  go_loopw [30] (fun i wr => ∃ k : Nat, k ≤ N ∧ i = .int .i64 k ∧ Hid (BRow wr w.heap.size (List.replicate k c ++ List.replicate (N - k) 0)) ∧ Below w.heap.size w wr) (fun i _ => N - (intOf i).toNat)
  case atStart => exact ⟨0, by omega, rfl, Lib.hid (by simpa using HM.out), hB1⟩
  case round =>
    obtain ⟨k, hk, rfl, HR, hBw⟩ := hrel
    have hgl := HR.out.lt
    by_cases hlt : k < N
    · have hfz := HR.out.frozen k
      have hcl := HR.out.cell k (by simp; omega)
      have hset := HR.out.set k c
      rw [rep_set _ _ _ hlt] at hset
      have HS := Lib.hid hset; clear hset HR
      have hb2 : Below w.heap.size w (wr.setCell ⟨w.heap.size, k, none⟩ (.int .u8 (c.toNat : Int))) := hBw.setCell (Nat.le_refl _) _
      go_wp2_with fail
      go_round
      case rel => exact ⟨k + 1, by omega, by go_num, HS, hb2⟩
      case measure => simp [intOf]; omega
    · have hkN : k = N := by omega
      rw [hkN] at HR
      clear hlt
      have h0 : BRow wr w.heap.size (List.replicate N c) := by simpa using HR.out
      clear HR hk
      obtain ⟨m, rfl⟩ : ∃ m, N = m + 2 := ⟨N - 2, by omega⟩
      have h1 := h0.set 0 34
      have h2 := h1.set (m + 1) 34
      rw [show ((34 : UInt8).toNat : Int) = 34 from rfl] at h1 h2
      have hf1 := h0.frozen 0
      have hc1 := h0.cell 0 (by simp)
      have hf2 := h0.frozen (m + 1)
      have hc2 := h0.cell (m + 1) (by simp)
      rw [rep_ends] at h2
      have hb2 : Below w.heap.size w ((wr.setCell ⟨w.heap.size, 0, none⟩ (.int .u8 34)).setCell ⟨w.heap.size, m + 1, none⟩ (.int .u8 34)) := (hBw.setCell (Nat.le_refl _) _).setCell (Nat.le_refl _) _
      obtain ⟨lc, hlc⟩ : ∃ lc, lc = List.replicate m c := ⟨_, rfl⟩
      have hll : lc.length = m := by rw [hlc, List.length_replicate]
      have HQ := Lib.hid (quote_rep m c (by omega) (by omega))
      rw [← hlc] at h2 HQ
      obtain ⟨lit, hlit⟩ : ∃ lit, lit = 34 :: (lc ++ [34]) := ⟨_, rfl⟩
      have hlen : lit.length = m + 2 := by rw [hlit]; simp [hll]
      have hcv := fun cap => bytes_conv h2 cap
      rw [← hlit, hlen] at hcv
      have HV := Lib.hid (fun (W : World) (h : BRow W w.heap.size lit) cap => bytes_conv_at (p := [34]) (l := lc) (q := [34]) (w := W) (by rw [hlit] at h; exact h) cap)
      rw [← hlit] at h2 HQ
      rw [hll] at HV
      have HH := Lib.hid h2
      clear hlit hlc h0 h1 h2
      go_wp2_with fail
      obtain ⟨w5, hw5⟩ : ∃ w5, w5 = (wr.setCell ⟨w.heap.size, 0, none⟩ (.int .u8 34)).setCell ⟨w.heap.size, m + 1, none⟩ (.int .u8 34) := ⟨_, rfl⟩
      rw [← hw5] at hb2 HH ⊢
      clear hw5 hcv hf1 hc1 hf2 hc2
      by_cases hpos : 0 < n
      · have hu : unqL lit = ([], 2, 0) := unq_long lit (by have := HN.out; omega)
        have HU := Lib.hid hu; clear hu
        refine (Unquote_any lit (by omega) _ (HE.out.below hb2)).mono ?_
        rintro e w6 ⟨rfl, hb6⟩
        rw [HU.out]
        have hB6 := hb2.trans (hb6.mono hb2.size)
        rw [show uqVal (([] : List UInt8), 2, 0) = .tuple #[.string (S []), .agg #[.int .i64 2, .int .i64 0]] from rfl]
        have hT := Two.new w6 27 (.int .i64 2) (.int .i64 0)
        have hB7 : Below w.heap.size w (w6.alloc (.cells #[.int .i64 2, .int .i64 0] 27)) := hB6.alloc hB6.size _
        have hd0 := hT.cell0
        have hd1 := hT.cell1
        go_wp2_with fail
        refine (alive_any _ (HE.out.below hB7)).mono ?_
        rintro e w8 ⟨rfl, hb8⟩
        go_wp2_with fail
        go_ret
        exact ⟨rfl, hB7.trans (hb8.mono hB7.size)⟩
      · have hu : unqL lit = (lc, 0, 0) := by
          have h1 := HQ.out
          rw [← h1]
          exact unq_quote lc (by rw [h1]; have := HN.out; omega)
        have HU := Lib.hid hu; clear hu
        refine (Unquote_any lit (by omega) _ (HE.out.below hb2)).mono ?_
        rintro e w6 ⟨rfl, hb6⟩
        rw [HU.out]
        have hB6 := hb2.trans (hb6.mono hb2.size)
        rw [show uqVal (lc, 0, 0) = .tuple #[.string (S lc), .agg #[.int .i64 0, .int .i64 0]] from rfl]
        have hT := Two.new w6 27 (.int .i64 0) (.int .i64 0)
        have hB7 : Below w.heap.size w (w6.alloc (.cells #[.int .i64 0, .int .i64 0] 27)) := hB6.alloc hB6.size _
        have hrow := (HH.out.below hb6).below ((Below.refl w6.heap.size w6).alloc (Nat.le_refl _) (.cells #[.int .i64 0, .int .i64 0] 27))
        have hcv := HV.out _ hrow
        rw [show [(34 : UInt8)].length = 1 from rfl] at hcv
        have hd0 := hT.cell0
        have hd1 := hT.cell1
        clear hrow
        go_wp2_with fail
        refine (alive_any _ (HE.out.below hB7)).mono ?_
        rintro e w8 ⟨rfl, hb8⟩
        go_wp2_with fail
        go_ret
        exact ⟨rfl, hB7.trans (hb8.mono hB7.size)⟩
end Go.Proofs.YtjnaijdfnliadaaDoor
