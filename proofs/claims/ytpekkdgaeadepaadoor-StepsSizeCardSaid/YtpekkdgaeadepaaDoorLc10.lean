/- The law of steps on sizes: what it returns. -/
import Derived.Test.YtpekkdgaeadepaaDoorRowC
namespace Go.Proofs.YtpekkdgaeadepaaDoor
open Go.RowKit

theorem ident_reps : ∀ m, m < 33 → 0 < m → identB (List.replicate m 97) = true := by decide +kernel
theorem wrong_rep (n : Nat) (h : 32 < n) : wrongN (List.replicate n 97) = 32 := by
  refine wrongN_at _ 32 (by simpa using h) ?_ ?_
  · unfold badAt
    rw [List.take_replicate, Nat.min_eq_left (by omega), identB_big (by simp), identB_big (by simp)]; rfl
  · intro k hk
    unfold badAt
    rw [List.take_replicate, Nat.min_eq_left (by omega), ident_reps (k + 1) (by omega) (by omega)]; rfl
theorem runW_rep (n : Nat) : runW (List.replicate n 97) = n := by
  refine runW_at _ n (by simp) (fun k hk => ?_) (.inl (by simp))
  rw [byt_get _ k (by simpa using hk), List.getElem_replicate]; decide
theorem parse_rep (n : Nat) (h : 32 < n) (h2 : n ≤ 65536) : parseP (List.replicate n 97) = ([], 8, 32) := by
  obtain ⟨m, rfl⟩ : ∃ m, n = m + 1 := ⟨n - 1, by omega⟩
  have hb : byt (List.replicate (m + 1) 97) 0 = 97 := by rw [List.replicate_succ]; rfl
  have hne : (List.replicate (m + 1) (97 : UInt8)).isEmpty = false := by rw [List.replicate_succ]; rfl
  have hl : labP (List.replicate (m + 1) 97) = (noS, 32, false) := by
    unfold labP
    rw [hne, hb, if_pos (by decide)]
    unfold nameP
    rw [runW_rep, List.take_of_length_le (by simp), identB_big (by simp; omega), if_neg (by decide), wrong_rep _ h]
  have hsl : sl (List.replicate (m + 1) 97) 0 (List.replicate (m + 1) (97 : UInt8)).length = List.replicate (m + 1) 97 := by rw [sl_from]; rfl
  unfold parseP
  rw [if_neg (by simp; omega), if_neg (by
    intro h3
    have h4 := eq_of_beq h3
    have := congrArg List.length h4
    simp at this
    omega), hne, hb, if_neg (by decide), pgo]
  have hrd : rdAt (List.replicate (m + 1) 97) 0 [] = ((noS, 32, false), 0) := by
    unfold rdAt
    rw [hb, if_neg (by simp; decide), if_pos (show ([] : List Stp).isEmpty = true from rfl), hsl, hl]
  rw [hrd, hb]
  simp [isB]
theorem parse_long (l : List UInt8) (h : 65536 < l.length) : parseP l = ([], 2, 0) := by unfold parseP; rw [if_pos h]
set_option maxRecDepth 100000 in
set_option maxHeartbeats 4000000 in
theorem lawStepsSize (n : Int) (w : World) (hE : StOk w) : Calls Tryd.prog 5 #[.int .i64 n] w fun e w' => e = .returned (.bool true) ∧ Below w.heap.size w w' := by
  have HE := Lib.hid hE; clear hE
  by_cases hout : n < 65533 ∨ 65539 < n
  · have h1 : decide (n < 65533) = true ∨ (decide (n < 65533) = false ∧ decide (65539 < n) = true) := by
      by_cases a1 : n < 65533
      · left; simp [a1]
      · right; simp [a1]; omega
    clear hout
    rcases h1 with h1 | ⟨h1, h2⟩
    all_goals
      go_enter Tryd.func5, Tryd.ntmps5
      go_wp2_with fail
      refine (example_any _ HE.out).mono ?_
      rintro e w1 ⟨rfl, hb1⟩
      go_wp2_with fail
      go_ret
      exact ⟨rfl, hb1⟩
  obtain ⟨N, rfl⟩ : ∃ N : Nat, n = (N : Int) := ⟨n.toNat, by omega⟩
  have n1 : decide ((N : Int) < 65533) = false := by simp; omega
  have n2 : decide ((65539 : Int) < (N : Int)) = false := by simp; omega
  have hNb : 65533 ≤ N ∧ N ≤ 65539 := by omega
  clear hout
  have hmk : ∀ W : World, (Instr.makeSlice 33 (.int .i64 (N : Int)) (.int .i64 (N : Int))).run Tryd.prog W = .ok (.slice (some ⟨W.heap.size, 0, none⟩) N N) (W.alloc (.cells (madeCells #[.int .u8 0] N) 5)) := fun W => by
    obtain ⟨i, hi, hz, hs, hb⟩ : ∃ i, Tryd.prog.info? 5 = some i ∧ i.zero = some (.int .u8 0) ∧ i.size = 1 ∧ i.bytes = 1 := ⟨_, rfl, rfl, rfl, rfl⟩
    have := run_make (P := Tryd.prog) W 33 5 i (.int .u8 0) Tryd.underlying33 hi hz .i64 .i64 (N : Int) (N : Int) (by omega) (by omega) (by rw [hb]; omega) (by omega)
    rw [hs, Int.toNat_natCast, Nat.mul_one] at this
    exact this
  have HM := Lib.hid (made_row w N)
  have hB1 : Below w.heap.size w (w.alloc (.cells (madeCells #[.int .u8 0] N) 5)) := (Below.refl _ _).alloc (Nat.le_refl _) _
  go_enter Tryd.func5, Tryd.ntmps5
  go_wp2_with fail
  obtain ⟨w1, hw1⟩ : ∃ w1, w1 = w.alloc (.cells (madeCells #[.int .u8 0] N) 5) := ⟨_, rfl⟩
  rw [← hw1] at HM hB1 ⊢
  clear hw1 hmk
  go_loopw [4] (fun i wr => ∃ k : Nat, k ≤ N ∧ i = .int .i64 k ∧ Hid (BRow wr w.heap.size (List.replicate k 97 ++ List.replicate (N - k) 0)) ∧ Below w.heap.size w wr) (fun i _ => N - (intOf i).toNat)
  case atStart => exact ⟨0, by omega, rfl, Lib.hid (by simpa using HM.out), hB1⟩
  case round =>
    obtain ⟨k, hk, rfl, HR, hBw⟩ := hrel
    have hgl := HR.out.lt
    by_cases hlt : k < N
    · have hfz := HR.out.frozen k
      have hcl := HR.out.cell k (by simp; omega)
      have hset := HR.out.set k 97
      rw [rep_set _ _ _ hlt, show ((97 : UInt8).toNat : Int) = 97 from rfl] at hset
      have HS := Lib.hid hset; clear hset HR
      have hb2 : Below w.heap.size w (wr.setCell ⟨w.heap.size, k, none⟩ (.int .u8 97)) := hBw.setCell (Nat.le_refl _) _
      go_wp2_with fail
      go_round
      case rel => exact ⟨k + 1, by omega, by go_num, HS, hb2⟩
      case measure => simp [intOf]; omega
    · have hkN : k = N := by omega
      rw [hkN] at HR
      have h0 : BRow wr w.heap.size (List.replicate N 97) := by simpa using HR.out
      clear HR hk hlt
      obtain ⟨lit, hlit⟩ : ∃ lit : List UInt8, List.replicate N 97 = lit := ⟨_, rfl⟩
      have hlen : lit.length = N := by rw [← hlit, List.length_replicate]
      rw [hlit] at h0
      have hcv := fun cap => bytes_conv h0 cap
      rw [hlen] at hcv
      have HB := Lib.hid hBw
      subst hkN
      by_cases hpos : 65536 < k
      · have HP := Lib.hid (parse_long lit (by omega))
        have p1 : decide ((65536 : Int) < (k : Int)) = true := by simp; omega
        clear h0 hBw
        go_wp2_with fail
        refine (Parse_any lit (by omega) _ (HE.out.below HB.out)).mono ?_
        rintro e w2 ⟨v2, rfl, hv2, hb2⟩
        rw [HP.out] at hv2 ⊢
        simp only at hv2 ⊢
        obtain ⟨vp, vc, rfl⟩ := hv2.form
        have HB2 := Lib.hid (keepV HB.out hb2)
        clear hb2 hv2 hcv
        have hq := Blk.new w2 #[.int .i64 2, .int .i64 0] 28
        go_wp2_with fail
        refine (example_any _ (HE.out.below (HB2.out.alloc HB2.out.size _))).mono ?_
        rintro e w3 ⟨rfl, hb3⟩
        go_wp2_with fail
        go_ret
        exact ⟨rfl, keepV (HB2.out.alloc HB2.out.size _) hb3⟩
      · have HP := Lib.hid (show parseP lit = ([], 8, 32) by rw [← hlit]; exact parse_rep k (by omega) (by omega))
        have p1 : decide ((65536 : Int) < (k : Int)) = false := by simp; omega
        clear h0 hBw
        go_wp2_with fail
        refine (Parse_any lit (by omega) _ (HE.out.below HB.out)).mono ?_
        rintro e w2 ⟨v2, rfl, hv2, hb2⟩
        rw [HP.out] at hv2 ⊢
        simp only at hv2 ⊢
        obtain ⟨vp, vc, rfl⟩ := hv2.form
        have HB2 := Lib.hid (keepV HB.out hb2)
        clear hb2 hv2 hcv
        have hq := Blk.new w2 #[.int .i64 8, .int .i64 32] 28
        go_wp2_with fail
        refine (example_any _ (HE.out.below (HB2.out.alloc HB2.out.size _))).mono ?_
        rintro e w3 ⟨rfl, hb3⟩
        go_wp2_with fail
        go_ret
        exact ⟨rfl, keepV (HB2.out.alloc HB2.out.size _) hb3⟩
end Go.Proofs.YtpekkdgaeadepaaDoor
