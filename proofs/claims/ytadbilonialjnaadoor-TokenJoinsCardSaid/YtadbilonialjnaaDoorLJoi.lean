/- The law of the joins: what TokenJoins returns. -/
import Derived.BigQuiet
import Derived.Test.YtadbilonialjnaaDoorLSol
namespace Go.Proofs.YtadbilonialjnaaDoor
open Go.RowKit

theorem solid_mem {L : List Tok} {x : Tok} (h : x ∈ solidL L) : x ∈ L := (List.mem_filter.1 h).1
theorem ct_join (s t : List UInt8) : ct (ct s [10]) t = s ++ 10 :: t := by unfold ct; simp
/-- the list of both, at a place of the first -/
theorem both_left {X Y : List Tok} {d j : Nat} (h : j < X.length) (hz : j < (X ++ Y.map (shT d)).length) : (X ++ Y.map (shT d))[j] = X[j] := List.getElem_append_left h
theorem both_right {X Y : List Tok} {d j m : Nat} (h : j = X.length + m) (hm : m < Y.length) (hz : j < (X ++ Y.map (shT d)).length) : (X ++ Y.map (shT d))[j] = shT d Y[m] := by
  subst h
  rw [List.getElem_append_right (by omega), List.getElem_map]
  congr 1
  simp
set_option maxRecDepth 100000 in
set_option maxHeartbeats 8000000 in
theorem lawTokenJoins (s t : List UInt8) (w : World) (hE : TkOk w) : Calls Tryd.prog 5 #[.string (S s), .string (S t)] w fun e w' => e = .returned (.bool true) ∧ Below w.heap.size w w' := by
  have HE := Lib.hid hE
  clear hE
  by_cases hout : 200 < s.length ∨ 200 < t.length
  · have h1 : decide ((200 : Int) < (s.length : Int)) = true ∨ (decide ((200 : Int) < (s.length : Int)) = false ∧ decide ((200 : Int) < (t.length : Int)) = true) := by
      by_cases a1 : 200 < s.length
      · left; simp; omega
      · right; simp; omega
    clear hout
    rcases h1 with h1 | ⟨h1, h2⟩
    all_goals
      go_enter Tryd.func5, Tryd.ntmps5
      go_wp2_with fail
      refine (example_any _ HE.out).mono ?_
      rintro e w1 ⟨rfl, hb1⟩
      go_wp2_with fail
      go_ret
      exact ⟨rfl, hb1⟩
  have n1 : decide ((200 : Int) < (s.length : Int)) = false := by simp; omega
  have n2 : decide ((200 : Int) < (t.length : Int)) = false := by simp; omega
  have hsl : s.length ≤ 200 := by omega
  have htl : t.length ≤ 200 := by omega
  clear hout
  have m1 : ¬ (9223372036854775807 : Nat) < s.length + 1 := by omega
  have m2 : ¬ (9223372036854775807 : Nat) < s.length + 1 + t.length := by omega
  rcases scanT_gap nbOk s (by omega) with ⟨q, hs, hq⟩ | ⟨L, hs, hne, hg⟩
  · obtain ⟨Lt, et, pt, ht⟩ : ∃ Lt et pt, scanT nbOk t = (Lt, et, pt) := ⟨_, _, _, rfl⟩
    obtain ⟨Lc, ec, pc, hc⟩ : ∃ Lc ec pc, scanT nbOk (ct (ct s [10]) t) = (Lc, ec, pc) := ⟨_, _, _, rfl⟩
    have HS := Lib.hid (Scan_at hs (by omega))
    have HT := Lib.hid (Scan_at ht (by omega))
    have HC := Lib.hid (Scan_at hc (by simp only [ct_len, List.length_cons, List.length_nil]; omega))
    clear hs ht hc hq
    go_enter Tryd.func5, Tryd.ntmps5
    go_wp2_with fail
    refine (HS.out _ HE.out).mono ?_
    rintro e w1 ⟨p1, c1, rfl, -, hb1⟩
    have HB1 := Lib.hid hb1
    clear hb1
    go_wp2_with fail
    refine (HT.out _ (HE.out.below (keepV HB1.out (one_below w1 _ _).2))).mono ?_
    rintro e w2 ⟨p2, c2, rfl, -, hb2⟩
    obtain ⟨f1, hb2⟩ := below_new hb2
    have F1 := Lib.hid f1
    have HB2 := Lib.hid (keepV HB1.out hb2)
    clear hb2 f1
    go_wp2_with fail
    refine (HC.out _ (HE.out.below (keepV HB2.out (one_below w2 _ _).2))).mono ?_
    rintro e w3 ⟨p3, c3, rfl, -, hb3⟩
    obtain ⟨-, hb3⟩ := below_new hb3
    have F2 := Lib.hid (F1.out.below hb3)
    have HB3 := Lib.hid (keepV HB2.out hb3)
    clear hb3
    go_upto_region 6 with fail
    obtain ⟨-, g2⟩ := one_below w3 #[.int .i64 (ec : Int), .int .i64 (pc : Int)] 26
    have F3 := Lib.hid (F2.out.below g2)
    have HB4 := Lib.hid (keepV HB3.out g2)
    clear g2
    generalize w3.alloc (.cells #[.int .i64 (ec : Int), .int .i64 (pc : Int)] 26) = W4 at *
    obtain ⟨x0, x1⟩ := fcells F3.out
    go_wp2_with fail
    refine (example_any _ (HE.out.below HB4.out)).mono ?_
    rintro e w5 ⟨rfl, hb5⟩
    have HB5 := Lib.hid (keepV HB4.out hb5)
    go_wp2_with fail
    go_ret
    exact ⟨rfl, HB5.out⟩
  rcases scanT_join nbOk s t (by omega) L hs with ⟨M, ht, Z, hc, hz⟩ | ⟨p, ht, hc⟩
  · have hgt : gapOK t 0 M := by
      rcases scanT_gap nbOk t (by omega) with ⟨p, h1, -⟩ | ⟨L2, h1, -, h3⟩
      · rw [ht] at h1; cases h1
      · rw [ht] at h1; cases h1; exact h3
    have hgc : gapOK (s ++ 10 :: t) 0 Z := by
      rcases scanT_gap nbOk (s ++ 10 :: t) (by simp; omega) with ⟨p, h1, -⟩ | ⟨L2, h1, -, h3⟩
      · rw [hc] at h1; cases h1
      · rw [hc] at h1; cases h1; exact h3
    have l1 := (gap_len s L 0 (Nat.zero_le _) hg).1
    have l2 := (gap_len t M 0 (Nat.zero_le _) hgt).1
    have l3 := (gap_len _ Z 0 (Nat.zero_le _) hgc).1
    have l3 : Z.length ≤ 402 := by simp at l3; omega
    have HGT := Lib.hid (show ∀ x ∈ solidL M, x.p ≤ t.length ∧ x.e ≤ t.length from fun x hx => by have := gap_all t M 0 hgt x (solid_mem hx); omega)
    have HS := Lib.hid (Scan_at hs (by omega))
    have HT := Lib.hid (Scan_at ht (by omega))
    have HC := Lib.hid (Scan_at (show scanT nbOk (ct (ct s [10]) t) = (Z, 0, 0) by rw [ct_join]; exact hc) (by simp only [ct_len, List.length_cons, List.length_nil]; omega))
    have s1 := solid_le L
    have s2 := solid_le M
    have LX := Lib.hid (solid_any · L · · (by omega : L.length ≤ 100000))
    have LY := Lib.hid (solid_any · M · · (by omega : M.length ≤ 100000))
    have LZ := Lib.hid (solid_any · Z · · (by omega : Z.length ≤ 100000))
    obtain ⟨X, hX⟩ : ∃ X, solidL L = X := ⟨_, rfl⟩
    obtain ⟨Y, hY⟩ : ∃ Y, solidL M = Y := ⟨_, rfl⟩
    rw [hX, hY] at hz
    rw [hX] at LX s1
    rw [hY] at LY HGT s2
    rw [hz] at LZ
    have hXY : (X ++ Y.map (shT (s.length + 1))).length = X.length + Y.length := by simp
    clear hs ht hc hg hgt hgc hne hX hY hz
    go_enter Tryd.func5, Tryd.ntmps5
    go_wp2_with fail
    refine (HS.out _ HE.out).mono ?_
    rintro e w1 ⟨p1, c1, rfl, v1, hb1⟩
    have HB1 := Lib.hid hb1
    have V1 := Lib.hid v1
    clear hb1 v1
    go_wp2_with fail
    refine (HT.out _ (HE.out.below (keepV HB1.out (one_below w1 _ _).2))).mono ?_
    rintro e w2 ⟨p2, c2, rfl, v2, hb2⟩
    obtain ⟨f1, hb2⟩ := below_new hb2
    have F1 := Lib.hid f1
    have V2 := Lib.hid v2
    have U1 := Lib.hid (V1.out.below hb2)
    have HB2 := Lib.hid (keepV HB1.out hb2)
    clear hb2 f1 v2
    go_wp2_with fail
    refine (HC.out _ (HE.out.below (keepV HB2.out (one_below w2 _ _).2))).mono ?_
    rintro e w3 ⟨p3, c3, rfl, v3, hb3⟩
    obtain ⟨f2, hb3⟩ := below_new hb3
    have F2 := Lib.hid (F1.out.below hb3)
    have F3 := Lib.hid f2
    have R1 := Lib.hid (U1.out.below hb3)
    have R2 := Lib.hid (V2.out.below hb3)
    have HB3 := Lib.hid (keepV HB2.out hb3)
    clear hb3 f2
    go_upto_region 6 with fail
    obtain ⟨f4, g2⟩ := one_below w3 #[.int .i64 0, .int .i64 0] 26
    have G1 := Lib.hid (F2.out.below g2)
    have G2 := Lib.hid (F3.out.below g2)
    have G3 := Lib.hid f4
    have A1 := Lib.hid (R1.out.below g2)
    have A2 := Lib.hid (R2.out.below g2)
    have A3 := Lib.hid (v3.below g2)
    have HB4 := Lib.hid (keepV HB3.out g2)
    clear g2 f4 v3 R1 R2 F2 F3 U1 V1 V2 F1 HS HT HC HB1 HB2 HB3
    generalize w3.alloc (.cells #[.int .i64 0, .int .i64 0] 26) = W4 at *
    obtain ⟨x0, x1⟩ := fcells G1.out
    obtain ⟨y0, y1⟩ := fcells G2.out
    go_wp2_with fail
    refine (LX.out _ _ A1.out).mono ?_
    rintro e w5 ⟨q1, d1, rfl, v5, hb5⟩
    have X1 := Lib.hid v5
    have A2 := Lib.hid (A2.out.below hb5)
    have A3 := Lib.hid (A3.out.below hb5)
    have G3 := Lib.hid (G3.out.below hb5)
    have HB5 := Lib.hid (keepV HB4.out hb5)
    clear hb5 v5 x0 x1 y0 y1 A1 LX HB4
    go_wp2_with fail
    refine (LY.out _ _ A2.out).mono ?_
    rintro e w6 ⟨q2, d2, rfl, v6, hb6⟩
    have Y1 := Lib.hid v6
    have X1 := Lib.hid (X1.out.below hb6)
    have A3 := Lib.hid (A3.out.below hb6)
    have G3 := Lib.hid (G3.out.below hb6)
    have HB6 := Lib.hid (keepV HB5.out hb6)
    clear hb6 v6 A2 LY HB5
    go_wp2_with fail
    refine (LZ.out _ _ A3.out).mono ?_
    rintro e w7 ⟨q3, d3, rfl, v7, hb7⟩
    have Z1 := Lib.hid v7
    have X1 := Lib.hid (X1.out.below hb7)
    have Y1 := Lib.hid (Y1.out.below hb7)
    obtain ⟨x0, x1⟩ := fcells (G3.out.below hb7)
    have HB7 := Lib.hid (keepV HB6.out hb7)
    clear hb7 v7 A3 LZ HB6 G3
    rw [hXY] at Z1 ⊢
    obtain ⟨Z0, hZ0⟩ : ∃ Z0, X ++ Y.map (shT (s.length + 1)) = Z0 := ⟨_, rfl⟩
    rw [hZ0] at Z1 hXY
    have HZ := Lib.hid hZ0
    clear hZ0
    have hxl : (X.length : Int) ≤ 201 := by omega
    have hyl : (Y.length : Int) ≤ 201 := by omega
    go_wp2_with fail
    clear x0 x1
    go_loopw [14] (fun i wr => ∃ j : Nat, i = .int .i64 (j : Int) ∧ j ≤ Z0.length ∧ Hid (Below w7.heap.size w7 wr)) (fun i _ => Z0.length - (intOf i).toNat)
    case atStart => exact ⟨0, rfl, Nat.zero_le _, Lib.hid (Below.refl _ _)⟩
    case round =>
      obtain ⟨j, rfl, hj, HBr⟩ := hrel
      by_cases hlt : j < Z0.length
      · obtain ⟨B3, rfl, hc3, hB3, c0, c1, c2, c3⟩ := Z1.out.cellsAt j hlt
        have k3 : ∀ o, wr.cell? ⟨B3, o, none⟩ = w7.cell? ⟨B3, o, none⟩ := fun o => HBr.out.cell (p := ⟨B3, o, none⟩) hB3
        have hjz : (j : Int) < (X.length : Int) + (Y.length : Int) := by omega
        have j0 : (0 : Int) ≤ (j : Int) := by omega
        by_cases hjx : j < X.length
        · obtain ⟨B1, rfl, hc1, hB1, e0, e1, e2, e3⟩ := X1.out.cellsAt j hjx
          have k1 : ∀ o, wr.cell? ⟨B1, o, none⟩ = w7.cell? ⟨B1, o, none⟩ := fun o => HBr.out.cell (p := ⟨B1, o, none⟩) hB1
          have hzj : Z0[j] = X[j] := by have e := HZ.out; subst e; exact both_left hjx _
          rw [hzj] at c0 c1 c2 c3
          clear hzj
          obtain ⟨⟨xk, xt, xp, xe⟩, hx⟩ : ∃ x, X[j] = x := ⟨_, rfl⟩
          rw [hx] at c0 c1 c2 c3 e0 e1 e2 e3
          clear hx
          simp only at c0 c1 c2 c3 e0 e1 e2 e3
          rw [← k3] at c0 c1 c2 c3
          rw [← k1] at e0 e1 e2 e3
          clear k1 k3
          have j1 : (j : Int) < (X.length : Int) := by omega
          go_upto_region 17 with fail
          go_quiet (fail)
          have HB9 := Lib.hid (below_drewN HBr.out nq)
          go_wp2_with fail
          go_roundw
          case rel => exact ⟨j + 1, rfl, hlt, HB9⟩
          case measure => simp [intOf]; omega
        · obtain ⟨m, hm⟩ : ∃ m, j = X.length + m := ⟨j - X.length, by omega⟩
          have hmy : m < Y.length := by omega
          obtain ⟨B2, rfl, hc2, hB2, e0, e1, e2, e3⟩ := Y1.out.cellsAt m hmy
          have k2 : ∀ o, wr.cell? ⟨B2, o, none⟩ = w7.cell? ⟨B2, o, none⟩ := fun o => HBr.out.cell (p := ⟨B2, o, none⟩) hB2
          have hzj : Z0[j] = shT (s.length + 1) Y[m] := by have e := HZ.out; subst e; exact both_right hm hmy _
          have hpe := HGT.out Y[m] (List.getElem_mem hmy)
          rw [hzj] at c0 c1 c2 c3
          clear hzj
          obtain ⟨⟨xk, xt, xp, xe⟩, hx⟩ : ∃ x, Y[m] = x := ⟨_, rfl⟩
          rw [hx] at c0 c1 c2 c3 e0 e1 e2 e3 hpe
          clear hx
          simp only [shT] at c0 c1 c2 c3 e0 e1 e2 e3 hpe
          rw [show ((xp + (s.length + 1) : Nat) : Int) = (xp : Int) + (s.length : Int) + 1 by omega] at c2
          rw [show ((xe + (s.length + 1) : Nat) : Int) = (xe : Int) + (s.length : Int) + 1 by omega] at c3
          rw [← k2] at e0 e1 e2 e3
          clear k2
          have hpb : (xp : Int) ≤ 200 := by omega
          have heb : (xe : Int) ≤ 200 := by omega
          clear hpe
          have j1 : ¬ (j : Int) < (X.length : Int) := by omega
          have w1 : IntKind.i64.wrap ((j : Int) - (X.length : Int)) = (m : Int) := by rw [IntWalk.i64_in _ (by omega)]; omega
          have w2 : IntKind.i64.wrap ((xp : Int) + (s.length : Int)) = (xp : Int) + (s.length : Int) := IntWalk.i64_in _ (by omega)
          have w3 : IntKind.i64.wrap ((xp : Int) + (s.length : Int) + 1) = (xp : Int) + (s.length : Int) + 1 := IntWalk.i64_in _ (by omega)
          have w4 : IntKind.i64.wrap ((xe : Int) + (s.length : Int)) = (xe : Int) + (s.length : Int) := IntWalk.i64_in _ (by omega)
          have w5 : IntKind.i64.wrap ((xe : Int) + (s.length : Int) + 1) = (xe : Int) + (s.length : Int) + 1 := IntWalk.i64_in _ (by omega)
          have m0 : (0 : Int) ≤ (m : Int) := by omega
          have m1' : (m : Int) < (Y.length : Int) := by omega
          clear hm
          go_upto_region 20 with fail
          obtain ⟨b1, b2⟩ := one_below wr #[.int .i64 (xk : Int), .string (S xt), .int .i64 (xp : Int), .int .i64 (xe : Int)] 40
          have HBx := Lib.hid (keepV HBr.out b2)
          have hle := HBr.out.size
          obtain ⟨B, hB⟩ : ∃ B, wr.heap.size = B := ⟨_, rfl⟩
          rw [hB] at b1 hle ⊢
          clear b2 e0 e1 e2 e3 hB
          generalize wr.alloc (.cells #[.int .i64 (xk : Int), .string (S xt), .int .i64 (xp : Int), .int .i64 (xe : Int)] 40) = W3 at *
          obtain ⟨z0, z1, z2, z3⟩ := four_cells b1
          have fz2 := b1.frozen 2
          have fz3 := b1.frozen 3
          have hb21 : Blk ((W3.setCell ⟨B, 2, none⟩ (.int .i64 ((xp : Int) + (s.length : Int) + 1))).setCell ⟨B, 3, none⟩ (.int .i64 ((xe : Int) + (s.length : Int) + 1))) B #[.int .i64 (xk : Int), .string (S xt), .int .i64 ((xp : Int) + (s.length : Int) + 1), .int .i64 ((xe : Int) + (s.length : Int) + 1)] 40 := by
            have h := (b1.set 2 (.int .i64 ((xp : Int) + (s.length : Int) + 1))).set 3 (.int .i64 ((xe : Int) + (s.length : Int) + 1))
            simpa using h
          have HBy := Lib.hid ((HBx.out.setCell (p := ⟨B, 2, none⟩) hle (.int .i64 ((xp : Int) + (s.length : Int) + 1))).setCell (p := ⟨B, 3, none⟩) hle (.int .i64 ((xe : Int) + (s.length : Int) + 1)))
          have B1k := Lib.hid hb21
          clear b1 hb21 HBx
          go_upto_region 21 with fail
          generalize (W3.setCell ⟨B, 2, none⟩ (.int .i64 ((xp : Int) + (s.length : Int) + 1))).setCell ⟨B, 3, none⟩ (.int .i64 ((xe : Int) + (s.length : Int) + 1)) = W6 at *
          clear z0 z1 z2 z3 fz2 fz3 k3 w1 w2 w3 w4 w5
          obtain ⟨z0, z1, z2, z3⟩ := four_cells B1k.out
          have k3 : ∀ o, W6.cell? ⟨B3, o, none⟩ = w7.cell? ⟨B3, o, none⟩ := fun o => HBy.out.cell (p := ⟨B3, o, none⟩) hB3
          rw [← k3] at c0 c1 c2 c3
          clear k3
          go_quiet (fail)
          have HB9 := Lib.hid (below_drewN HBy.out nq)
          go_wp2_with fail
          go_roundw
          case rel => exact ⟨j + 1, rfl, hlt, HB9⟩
          case measure => simp [intOf]; omega
      · go_wp2_with fail
        refine (example_any _ (HE.out.below (keepV HB7.out HBr.out))).mono ?_
        rintro e w8 ⟨rfl, hb8⟩
        have HB8 := Lib.hid (keepV (keepV HB7.out HBr.out) hb8)
        go_wp2_with fail
        go_ret
        exact ⟨rfl, HB8.out⟩
  · have hp : p < t.length := by
      rcases scanT_gap nbOk t (by omega) with ⟨q, h1, h2⟩ | ⟨L2, h1, -, h3⟩
      · rw [ht] at h1; cases h1; exact h2
      · rw [ht] at h1; cases h1
    have HS := Lib.hid (Scan_at hs (by omega))
    have HT := Lib.hid (Scan_at ht (by omega))
    have HC := Lib.hid (Scan_at (show scanT nbOk (ct (ct s [10]) t) = ([], 8, p + (s.length + 1)) by rw [ct_join]; exact hc) (by simp only [ct_len, List.length_cons, List.length_nil]; omega))
    clear hs ht hc hg hne
    rw [show ((p + (s.length + 1) : Nat) : Int) = (p : Int) + (s.length : Int) + 1 by omega] at HC
    have w1 : IntKind.i64.wrap ((p : Int) + (s.length : Int)) = (p : Int) + (s.length : Int) := IntWalk.i64_in _ (by omega)
    have w2 : IntKind.i64.wrap ((p : Int) + (s.length : Int) + 1) = (p : Int) + (s.length : Int) + 1 := IntWalk.i64_in _ (by omega)
    go_enter Tryd.func5, Tryd.ntmps5
    go_wp2_with fail
    refine (HS.out _ HE.out).mono ?_
    rintro e w1 ⟨p1, c1, rfl, -, hb1⟩
    have HB1 := Lib.hid hb1
    clear hb1
    go_wp2_with fail
    refine (HT.out _ (HE.out.below (keepV HB1.out (one_below w1 _ _).2))).mono ?_
    rintro e w2 ⟨p2, c2, rfl, -, hb2⟩
    obtain ⟨f1, hb2⟩ := below_new hb2
    have F1 := Lib.hid f1
    have HB2 := Lib.hid (keepV HB1.out hb2)
    clear hb2 f1
    go_wp2_with fail
    refine (HC.out _ (HE.out.below (keepV HB2.out (one_below w2 _ _).2))).mono ?_
    rintro e w3 ⟨p3, c3, rfl, -, hb3⟩
    obtain ⟨f2, hb3⟩ := below_new hb3
    have F2 := Lib.hid (F1.out.below hb3)
    have F3 := Lib.hid f2
    have HB3 := Lib.hid (keepV HB2.out hb3)
    clear hb3 f2
    go_upto_region 6 with fail
    obtain ⟨f4, g2⟩ := one_below w3 #[.int .i64 8, .int .i64 ((p : Int) + (s.length : Int) + 1)] 26
    have G1 := Lib.hid (F2.out.below g2)
    have G2 := Lib.hid (F3.out.below g2)
    have HB4 := Lib.hid (keepV HB3.out g2)
    clear g2 F2 F3 F1 HS HT HC HB1 HB2 HB3
    generalize w3.alloc (.cells #[.int .i64 8, .int .i64 ((p : Int) + (s.length : Int) + 1)] 26) = W4 at *
    obtain ⟨x0, x1⟩ := fcells G1.out
    obtain ⟨y0, y1⟩ := fcells G2.out
    obtain ⟨z0, z1⟩ := fcells f4
    go_wp2_with fail
    refine (example_any _ (HE.out.below HB4.out)).mono ?_
    rintro e w5 ⟨rfl, hb5⟩
    have HB5 := Lib.hid (keepV HB4.out hb5)
    go_wp2_with fail
    go_ret
    exact ⟨rfl, HB5.out⟩
end Go.Proofs.YtadbilonialjnaaDoor
