/- The law of the gaps: what TokenGaps returns. -/
import Derived.Test.YtadbilonialjnaaDoorTkM
import Derived.Test.YtadbilonialjnaaDoorTkS
import Derived.Test.YtadbilonialjnaaDoorLSol
namespace Go.Proofs.YtadbilonialjnaaDoor
open Go.RowKit

theorem blank_ways {c : UInt8} (h : blankB c = true) : c = 32 ∨ c = 9 ∨ c = 13 ∨ c = 10 := by
  unfold blankB at h; simpa [or_assoc] using h
set_option maxRecDepth 100000 in
set_option maxHeartbeats 2000000 in
theorem blank_yes (l : List UInt8) (hl : l.length ≤ 1000000) (hb : l.all blankB = true) (w : World) : Calls Tryd.prog 14 #[.string (S l)] w fun e w' => e = .returned (.bool true) ∧ w' = w := by
  have HA := Lib.hid (show ∀ j, j < l.length → blankB (byt l j) = true from fun j hj => by rw [byt_get l j hj]; exact List.all_eq_true.1 hb _ (List.getElem_mem hj))
  clear hb
  go_enter Tryd.func14, Tryd.ntmps14
  go_wp2_with fail
  go_loopw [3] (fun i wr => ∃ j : Nat, i = .int .i64 (j : Int) ∧ j ≤ l.length ∧ wr = w) (fun i _ => l.length - (intOf i).toNat)
  case atStart => exact ⟨0, rfl, Nat.zero_le _, rfl⟩
  case round =>
    obtain ⟨j, rfl, hj, rfl⟩ := hrel
    by_cases hlt : j < l.length
    · have hx := blank_ways (HA.out j hlt)
      rcases hx with hx | hx | hx | hx
      · have t1 : (((byt l j).toNat : Int) != 32) = false := by rw [hx]; rfl
        clear hx
        go_wp2_with fail
        go_roundw
        case rel => exact ⟨j + 1, rfl, hlt, by first | rfl | trivial⟩
        case measure => simp [intOf]; omega
      · have t1 : (((byt l j).toNat : Int) != 32) = true := by rw [hx]; rfl
        have t2 : (((byt l j).toNat : Int) != 9) = false := by rw [hx]; rfl
        clear hx
        go_wp2_with fail
        go_roundw
        case rel => exact ⟨j + 1, rfl, hlt, by first | rfl | trivial⟩
        case measure => simp [intOf]; omega
      · have t1 : (((byt l j).toNat : Int) != 32) = true := by rw [hx]; rfl
        have t2 : (((byt l j).toNat : Int) != 9) = true := by rw [hx]; rfl
        have t3 : (((byt l j).toNat : Int) != 13) = false := by rw [hx]; rfl
        clear hx
        go_wp2_with fail
        go_roundw
        case rel => exact ⟨j + 1, rfl, hlt, by first | rfl | trivial⟩
        case measure => simp [intOf]; omega
      · have t1 : (((byt l j).toNat : Int) != 32) = true := by rw [hx]; rfl
        have t2 : (((byt l j).toNat : Int) != 9) = true := by rw [hx]; rfl
        have t3 : (((byt l j).toNat : Int) != 13) = true := by rw [hx]; rfl
        have t4 : (((byt l j).toNat : Int) != 10) = false := by rw [hx]; rfl
        clear hx
        go_wp2_with fail
        go_roundw
        case rel => exact ⟨j + 1, rfl, hlt, by first | rfl | trivial⟩
        case measure => simp [intOf]; omega
    · go_wp2_with fail
      go_ret
      exact ⟨rfl, rfl⟩
theorem gap_drop {s : List UInt8} {L : List Tok} {a j : Nat} (h : gapOK s a (L.drop j)) (hj : j < L.length) : GapT s a L[j] (decide (j + 1 = L.length)) ∧ gapOK s (L[j]).e (L.drop (j + 1)) := by
  rw [List.drop_eq_getElem_cons hj] at h
  obtain ⟨h1, h2⟩ := h
  have : (L.drop (j + 1)).isEmpty = decide (j + 1 = L.length) := by
    rw [Bool.eq_iff_iff, List.isEmpty_iff, List.drop_eq_nil_iff]; simp; omega
  rw [this] at h1
  exact ⟨h1, h2⟩
set_option maxRecDepth 100000 in
set_option maxHeartbeats 4000000 in
theorem lawTokenGaps (s : List UInt8) (w : World) (hE : TkOk w) : Calls Tryd.prog 4 #[.string (S s)] w fun e w' => e = .returned (.bool true) ∧ Below w.heap.size w w' := by
  have HE := Lib.hid hE
  clear hE
  by_cases hl : 400 < s.length
  · go_enter Tryd.func4, Tryd.ntmps4
    go_wp2_with fail
    refine (example_any _ HE.out).mono ?_
    rintro e w1 ⟨rfl, hb1⟩
    go_wp2_with fail
    go_ret
    exact ⟨rfl, hb1⟩
  have hl2 : s.length ≤ 400 := by omega
  clear hl
  rcases scanT_gap nbOk s (by omega) with ⟨q, hs, hq⟩ | ⟨L, hs, hne, hg⟩
  · have HS := Lib.hid (Scan_at hs (by omega))
    clear hs
    go_enter Tryd.func4, Tryd.ntmps4
    go_wp2_with fail
    refine (HS.out _ HE.out).mono ?_
    rintro e w1 ⟨vp, vc, rfl, -, hb1⟩
    have HB1 := Lib.hid hb1
    clear hb1
    go_upto_region 4 with fail
    obtain ⟨g1, g2⟩ := one_below w1 #[.int .i64 8, .int .i64 (q : Int)] 26
    have HB2 := Lib.hid (keepV HB1.out g2)
    clear g2
    generalize w1.alloc (.cells #[.int .i64 8, .int .i64 (q : Int)] 26) = W2 at *
    obtain ⟨x0, x1⟩ := fcells g1
    go_wp2_with fail
    refine (example_any _ (HE.out.below HB2.out)).mono ?_
    rintro e w3 ⟨rfl, hb3⟩
    have HB3 := Lib.hid (keepV HB2.out hb3)
    go_wp2_with fail
    go_ret
    exact ⟨rfl, HB3.out⟩
  · have HS := Lib.hid (Scan_at hs (by omega))
    have hLl := (gap_len s L 0 (Nat.zero_le _) hg).1
    have hLl : L.length ≤ 401 := by omega
    have hLp : (0 : Int) < (L.length : Int) := by have := List.length_pos_iff.2 hne; omega
    have HG := Lib.hid (show gapOK s 0 (L.drop 0) from hg)
    clear hs hg hne
    go_enter Tryd.func4, Tryd.ntmps4
    go_wp2_with fail
    refine (HS.out _ HE.out).mono ?_
    rintro e w1 ⟨vp, vc, rfl, hv1, hb1⟩
    have HB1 := Lib.hid hb1
    clear hb1
    go_upto_region 4 with fail
    obtain ⟨g1, g2⟩ := one_below w1 #[.int .i64 0, .int .i64 0] 26
    have HB2 := Lib.hid (keepV HB1.out g2)
    have HV := Lib.hid (hv1.below g2)
    clear g2 hv1 HB1
    obtain ⟨F, hF⟩ : ∃ F, F = w1.heap.size := ⟨_, rfl⟩
    rw [← hF] at g1 ⊢
    generalize w1.alloc (.cells #[.int .i64 0, .int .i64 0] 26) = W2 at *
    clear hF
    have HF := Lib.hid g1
    obtain ⟨x0, x1⟩ := fcells g1
    clear g1
    go_wp2_with fail
    clear x0 x1
    go_loopw [5, 6] (fun x y wr => ∃ a j : Nat, x = .int .i64 (a : Int) ∧ y = .int .i64 (j : Int) ∧ j ≤ L.length ∧ Hid (gapOK s a (L.drop j)) ∧ Hid (Below W2.heap.size W2 wr)) (fun _ y _ => L.length - (intOf y).toNat)
    case atStart => exact ⟨0, 0, rfl, rfl, Nat.zero_le _, HG, Lib.hid (Below.refl _ _)⟩
    case round =>
      obtain ⟨a, j, rfl, rfl, hj, HGr, HBr⟩ := hrel
      by_cases hlt : j < L.length
      · obtain ⟨B1, rfl, hcp, hB1, c0, c1, c2, c3⟩ := HV.out.cellsAt j hlt
        have k1 : ∀ o, wr.cell? ⟨B1, o, none⟩ = W2.cell? ⟨B1, o, none⟩ := fun o => HBr.out.cell (p := ⟨B1, o, none⟩) hB1
        rw [← k1] at c0 c1 c2 c3
        clear k1
        obtain ⟨gt, hg2⟩ := gap_drop HGr.out hlt
        obtain ⟨⟨xk, xt, xp, xe⟩, hx⟩ : ∃ x, L[j] = x := ⟨_, rfl⟩
        rw [hx] at c0 c1 c2 c3 gt hg2
        clear hx
        simp only at c0 c1 c2 c3 gt hg2
        have HG2 := Lib.hid hg2
        clear hg2 HGr
        obtain ⟨h1, h2, h3, hbl, hkd, hem, hk7, hpl, hco, hip⟩ := gt
        simp only at h1 h2 h3 hbl hkd hem hk7 hpl hco hip
        have hsl := sl_len s a xp h1 (by omega)
        have HBL := Lib.hid (blank_yes (sl s a xp) (by omega) hbl)
        clear hbl
        have j0 : (0 : Int) ≤ (j : Int) := by omega
        have j1 : (j : Int) < (L.length : Int) := by omega
        have q1 : (a : Int) ≤ (xp : Int) := by omega
        have q2 : (xp : Int) ≤ (xe : Int) := by omega
        have q3 : (xe : Int) ≤ (s.length : Int) := by omega
        have q4 : (xp : Int) ≤ (s.length : Int) := by omega
        have q5 : (0 : Int) ≤ (a : Int) := by omega
        have q6 : (0 : Int) ≤ (xp : Int) := by omega
        by_cases hk : xk = 0
        · subst hk
          have hj1 : ((j : Int) == (L.length : Int) - 1) = true := by
            have : j + 1 = L.length := by simpa using hkd.symm
            simp; omega
          have hee : xe = xp := by simpa using hem
          subst hee
          clear hkd hem hpl hco hip hk7
          go_upto_region 11 with fail
          obtain ⟨b1, b2⟩ := one_below wr #[.int .i64 0, .string (S xt), .int .i64 (xe : Int), .int .i64 (xe : Int)] 40
          have HBx := Lib.hid (keepV HBr.out b2)
          clear b2 c0 c1 c2 c3
          generalize wr.alloc (.cells #[.int .i64 0, .string (S xt), .int .i64 (xe : Int), .int .i64 (xe : Int)] 40) = W3 at *
          obtain ⟨z0, z1, z2, z3⟩ := four_cells b1
          clear b1
          go_wp2_with (go_at_call 14; refine (HBL.out _).mono ?_; rintro e w' ⟨rfl, rfl⟩)
          go_roundw
          case rel => exact ⟨xe, j + 1, rfl, rfl, hlt, HG2, HBx⟩
          case measure => simp [intOf]; omega
        · have hj1 : ((j : Int) == (L.length : Int) - 1) = false := by
            have h5 : (xk == 0) = false := by simpa using hk
            rw [h5] at hkd
            have : ¬ j + 1 = L.length := by simpa using hkd.symm
            apply beq_eq_false_iff_ne.2; omega
          have hee : ((xe : Int) == (xp : Int)) = false := by
            have h5 : (xk == 0) = false := by simpa using hk
            rw [h5] at hem
            apply beq_eq_false_iff_ne.2
            intro h6
            have : xe = xp := by omega
            simp [this] at hem
          clear hkd hem
          obtain ⟨src, hsrc⟩ : ∃ src, sl s xp xe = src := ⟨_, rfl⟩
          have hsl2 := sl_len s xp xe h2 h3
          rw [hsrc] at hpl hco hip hsl2
          have HSRC := Lib.hid hsrc
          clear hsrc
          have hcase : (xk = 1 ∧ src = xt) ∨ (xk = 2 ∧ src = xt) ∨ (xk = 5 ∧ src = xt) ∨ (xk = 7 ∧ src = xt) ∨ (xk = 6 ∧ src = ct [47, 47] xt) ∨ (xk = 4 ∧ src = ct (ct [34] xt) [34]) ∨ xk = 3 := by
            have : xk = 1 ∨ xk = 2 ∨ xk = 3 ∨ xk = 4 ∨ xk = 5 ∨ xk = 6 ∨ xk = 7 := by omega
            rcases this with rfl | rfl | rfl | rfl | rfl | rfl | rfl
            · left; exact ⟨rfl, (hpl (by omega)).symm⟩
            · right; left; exact ⟨rfl, (hpl (by omega)).symm⟩
            · right; right; right; right; right; right; rfl
            · right; right; right; right; right; left; exact ⟨rfl, (hip rfl).symm⟩
            · right; right; left; exact ⟨rfl, (hpl (by omega)).symm⟩
            · right; right; right; right; left; exact ⟨rfl, (hco rfl).symm⟩
            · right; right; right; left; exact ⟨rfl, (hpl (by omega)).symm⟩
          clear hpl hco hip hk7
          have hk0 : ((xk : Int) == 0) = false := beq_eq_false_iff_ne.2 (by omega)
          go_upto_region 11 with fail
          obtain ⟨b1, b2⟩ := one_below wr #[.int .i64 (xk : Int), .string (S xt), .int .i64 (xp : Int), .int .i64 (xe : Int)] 40
          have HBx := Lib.hid (keepV HBr.out b2)
          clear b2 c0 c1 c2 c3
          generalize wr.alloc (.cells #[.int .i64 (xk : Int), .string (S xt), .int .i64 (xp : Int), .int .i64 (xe : Int)] 40) = W3 at *
          obtain ⟨z0, z1, z2, z3⟩ := four_cells b1
          clear b1
          go_upto_region 14 with (go_at_call 14; refine (HBL.out _).mono ?_; rintro e w' ⟨rfl, rfl⟩)
          rw [HSRC.out]
          rcases hcase with ⟨rfl, hsx⟩ | ⟨rfl, hsx⟩ | ⟨rfl, hsx⟩ | ⟨rfl, hsx⟩ | ⟨rfl, hsx⟩ | ⟨rfl, hsx⟩ | rfl
          · have y0 : World.cell? _ _ = some (Value.int .i64 1) := z0
            clear z0 hk hk0
            rw [hsx]
            clear hsx HSRC
            go_wp2_with fail
            go_roundw
            case rel => exact ⟨xe, j + 1, rfl, rfl, hlt, HG2, HBx⟩
            case measure => simp [intOf]; omega
          · have y0 : World.cell? _ _ = some (Value.int .i64 2) := z0
            clear z0 hk hk0
            rw [hsx]
            clear hsx HSRC
            go_wp2_with fail
            go_roundw
            case rel => exact ⟨xe, j + 1, rfl, rfl, hlt, HG2, HBx⟩
            case measure => simp [intOf]; omega
          · have y0 : World.cell? _ _ = some (Value.int .i64 5) := z0
            clear z0 hk hk0
            rw [hsx]
            clear hsx HSRC
            go_wp2_with fail
            go_roundw
            case rel => exact ⟨xe, j + 1, rfl, rfl, hlt, HG2, HBx⟩
            case measure => simp [intOf]; omega
          · have y0 : World.cell? _ _ = some (Value.int .i64 7) := z0
            clear z0 hk hk0
            rw [hsx]
            clear hsx HSRC
            go_wp2_with fail
            go_roundw
            case rel => exact ⟨xe, j + 1, rfl, rfl, hlt, HG2, HBx⟩
            case measure => simp [intOf]; omega
          · have y0 : World.cell? _ _ = some (Value.int .i64 6) := z0
            clear z0 hk hk0
            have hxl : xt.length ≤ 400 := by
              rw [hsx] at hsl2
              simp only [ct_len, List.length_cons, List.length_nil] at hsl2
              omega
            have n1 : ¬ (9223372036854775807 : Nat) < 2 + xt.length := by omega
            have n2 : ¬ (9223372036854775807 : Nat) < 1 + xt.length := by omega
            have n3 : ¬ (9223372036854775807 : Nat) < 1 + xt.length + 1 := by omega
            clear hsl2
            rw [hsx]
            clear hsx HSRC
            go_wp2_with fail
            go_roundw
            case rel => exact ⟨xe, j + 1, rfl, rfl, hlt, HG2, HBx⟩
            case measure => simp [intOf]; omega
          · have y0 : World.cell? _ _ = some (Value.int .i64 4) := z0
            clear z0 hk hk0
            have hxl : xt.length ≤ 400 := by
              rw [hsx] at hsl2
              simp only [ct_len, List.length_cons, List.length_nil] at hsl2
              omega
            have n1 : ¬ (9223372036854775807 : Nat) < 2 + xt.length := by omega
            have n2 : ¬ (9223372036854775807 : Nat) < 1 + xt.length := by omega
            have n3 : ¬ (9223372036854775807 : Nat) < 1 + xt.length + 1 := by omega
            clear hsl2
            rw [hsx]
            clear hsx HSRC
            go_wp2_with fail
            go_roundw
            case rel => exact ⟨xe, j + 1, rfl, rfl, hlt, HG2, HBx⟩
            case measure => simp [intOf]; omega
          · have y0 : World.cell? _ _ = some (Value.int .i64 3) := z0
            clear z0 hk hk0
            go_wp2_with fail
            go_roundw
            case rel => exact ⟨xe, j + 1, rfl, rfl, hlt, HG2, HBx⟩
            case measure => simp [intOf]; omega
      · have he : j = L.length := by omega
        have ha : a = s.length := by
          have := HGr.out
          rw [List.drop_of_length_le (by omega)] at this
          exact this
        subst he
        subst ha
        obtain ⟨x0, x1⟩ := fcells (HF.out.below HBr.out)
        go_wp2_with fail
        refine (example_any _ (HE.out.below (keepV HB2.out HBr.out))).mono ?_
        rintro e w3 ⟨rfl, hb3⟩
        have HB3 := Lib.hid (keepV (keepV HB2.out HBr.out) hb3)
        go_wp2_with fail
        go_ret
        exact ⟨rfl, HB3.out⟩
end Go.Proofs.YtadbilonialjnaaDoor
