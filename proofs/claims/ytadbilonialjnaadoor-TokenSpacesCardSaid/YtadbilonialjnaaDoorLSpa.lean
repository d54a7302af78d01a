/- The law of the spaces: what TokenSpaces returns. -/
import Derived.BigQuiet
import Derived.Test.YtadbilonialjnaaDoorLSol
namespace Go.Proofs.YtadbilonialjnaaDoor
open Go.RowKit

theorem kt_at {L M : List Tok} (h : M.map kt = L.map kt) (j : Nat) (h1 : j < L.length) (h2 : j < M.length) : M[j].k = L[j].k ∧ M[j].t = L[j].t := by
  have e : (M.map kt)[j]'(by simpa using h2) = (L.map kt)[j]'(by simpa using h1) := by simp only [h]
  rw [List.getElem_map, List.getElem_map] at e
  unfold kt at e
  injection e with e1 e2
  exact ⟨e1, e2⟩
theorem pieces_take (s : List UInt8) (L : List Tok) (j : Nat) (h : j < L.length) : piecesT s (L.take (j + 1)) = ct (ct (piecesT s (L.take j)) [32, 32]) (sl s L[j].p L[j].e) := by
  rw [List.take_add_one, List.getElem?_eq_getElem h, Option.toList_some, pieces_snoc]
  unfold ct; simp
theorem pieces_le (s : List UInt8) : ∀ (L : List Tok), (∀ x ∈ L, x.e ≤ s.length) → (piecesT s L).length ≤ L.length * (s.length + 2)
  | [], _ => by simp [piecesT]
  | x :: r, h => by
    have ih := pieces_le s r (fun y hy => h y (by simp [hy]))
    have h1 := sl_le s x.p x.e
    have h2 := h x (by simp)
    rw [pieces_cons]
    simp only [List.length_cons, List.length_append]
    rw [Nat.succ_mul]
    omega
set_option maxRecDepth 100000 in
set_option maxHeartbeats 8000000 in
theorem lawTokenSpaces (s : List UInt8) (w : World) (hE : TkOk w) : Calls Tryd.prog 6 #[.string (S s)] w fun e w' => e = .returned (.bool true) ∧ Below w.heap.size w w' := by
  have HE := Lib.hid hE
  clear hE
  by_cases hl : 200 < s.length
  · go_enter Tryd.func6, Tryd.ntmps6
    go_wp2_with fail
    refine (example_any _ HE.out).mono ?_
    rintro e w1 ⟨rfl, hb1⟩
    go_wp2_with fail
    go_ret
    exact ⟨rfl, hb1⟩
  have hl2 : s.length ≤ 200 := by omega
  clear hl
  rcases scanT_gap nbOk s (by omega) with ⟨q, hs, hq⟩ | ⟨L, hs, hne, hg⟩
  · have HS := Lib.hid (Scan_at hs (by omega))
    clear hs
    go_enter Tryd.func6, Tryd.ntmps6
    go_wp2_with fail
    refine (HS.out _ HE.out).mono ?_
    rintro e w1 ⟨vp, vc, rfl, -, hb1⟩
    have HB1 := Lib.hid hb1
    clear hb1
    go_upto_region 4 with fail
    obtain ⟨g1, g2⟩ := one_below w1 #[.int .i64 8, .int .i64 (q : Int)] 26
    have HB2 := Lib.hid (keepV HB1.out g2)
    clear g2
    generalize w1.alloc (.cells #[.int .i64 8, .int .i64 (q : Int)] 26) = W2 at *
    obtain ⟨x0, x1⟩ := fcells g1
    go_wp2_with fail
    refine (example_any _ (HE.out.below HB2.out)).mono ?_
    rintro e w3 ⟨rfl, hb3⟩
    have HB3 := Lib.hid (keepV HB2.out hb3)
    go_wp2_with fail
    go_ret
    exact ⟨rfl, HB3.out⟩
  have HS := Lib.hid (Scan_at hs (by omega))
  have HSP := Lib.hid (scanT_space nbOk s (by omega) L hs)
  have hLl := (gap_len s L 0 (Nat.zero_le _) hg).1
  have hLl : L.length ≤ 201 := by omega
  have HA := Lib.hid (gap_all s L 0 hg)
  have HPL := Lib.hid (show ∀ j, (piecesT s (L.take j)).length ≤ 100000 from fun j => by
    have h1 := pieces_le s (L.take j) (fun x hx => (gap_all s L 0 hg x (List.mem_of_mem_take hx)).2.1)
    have h2 : (L.take j).length ≤ 201 := by rw [List.length_take]; omega
    have h3 := Nat.mul_le_mul h2 (show s.length + 2 ≤ 202 by omega)
    omega)
  clear hs hg hne
  go_enter Tryd.func6, Tryd.ntmps6
  go_wp2_with fail
  refine (HS.out _ HE.out).mono ?_
  rintro e w1 ⟨vp, vc, rfl, hv1, hb1⟩
  have HB1 := Lib.hid hb1
  clear hb1
  go_upto_region 4 with fail
  obtain ⟨g1, g2⟩ := one_below w1 #[.int .i64 0, .int .i64 0] 26
  have HB2 := Lib.hid (keepV HB1.out g2)
  have HV := Lib.hid (hv1.below g2)
  clear g2 hv1 HB1 HS
  generalize w1.alloc (.cells #[.int .i64 0, .int .i64 0] 26) = W2 at *
  obtain ⟨x0, x1⟩ := fcells g1
  clear g1
  go_wp2_with fail
  clear x0 x1
  go_loopw [5, 6] (fun x y wr => ∃ j : Nat, y = .int .i64 (j : Int) ∧ j ≤ L.length ∧ x = .string (S (piecesT s (L.take j))) ∧ Hid (∀ x ∈ L.take j, ¬ x.k = 6) ∧ Hid (Below W2.heap.size W2 wr)) (fun _ y _ => L.length - (intOf y).toNat)
  case atStart => exact ⟨0, rfl, Nat.zero_le _, rfl, Lib.hid (by simp), Lib.hid (Below.refl _ _)⟩
  case round =>
    obtain ⟨j, rfl, hj, rfl, HK, HBr⟩ := hrel
    by_cases hlt : j < L.length
    · obtain ⟨B1, rfl, hcp, hB1, c0, c1, c2, c3⟩ := HV.out.cellsAt j hlt
      have k1 : ∀ o, wr.cell? ⟨B1, o, none⟩ = W2.cell? ⟨B1, o, none⟩ := fun o => HBr.out.cell (p := ⟨B1, o, none⟩) hB1
      have HP := Lib.hid (pieces_take s L j hlt)
      have HKn := Lib.hid (show ¬ L[j].k = 6 → ∀ x ∈ L.take (j + 1), ¬ x.k = 6 from fun hn x hx => by
        rw [List.take_add_one, List.getElem?_eq_getElem hlt, Option.toList_some, List.mem_append, List.mem_singleton] at hx
        rcases hx with hx | rfl
        · exact HK.out x hx
        · exact hn)
      have hb := HA.out L[j] (List.getElem_mem hlt)
      obtain ⟨⟨xk, xt, xp, xe⟩, hx⟩ : ∃ x, L[j] = x := ⟨_, rfl⟩
      rw [hx] at c0 c1 c2 c3 HP HKn hb
      clear hx
      simp only at c0 c1 c2 c3 HP HKn hb
      obtain ⟨b1, b2, b3⟩ := hb
      rw [← k1] at c0 c1 c2 c3
      clear k1
      have j0 : (0 : Int) ≤ (j : Int) := by omega
      have j1 : (j : Int) < (L.length : Int) := by omega
      by_cases hk : xk = 6
      · subst hk
        go_wp2_with fail
        refine (example_any _ (HE.out.below (keepV HB2.out HBr.out))).mono ?_
        rintro e w3 ⟨rfl, hb3⟩
        have HB3 := Lib.hid (keepV (keepV HB2.out HBr.out) hb3)
        go_wp2_with fail
        go_ret
        exact ⟨rfl, HB3.out⟩
      · have HK2 := Lib.hid (HKn.out hk)
        have t6 : ((xk : Int) == 6) = false := beq_eq_false_iff_ne.2 (by omega)
        have t1 : decide ((xp : Int) < 0) = false := decide_eq_false (by omega)
        have t2 : decide ((xe : Int) < (xp : Int)) = false := decide_eq_false (by omega)
        have t3 : decide ((s.length : Int) < (xe : Int)) = false := decide_eq_false (by omega)
        have q1 : (0 : Int) ≤ (xp : Int) := by omega
        have q2 : (xp : Int) ≤ (xe : Int) := by omega
        have q3 : (xe : Int) ≤ (s.length : Int) := by omega
        have hsl := sl_len s xp xe b3 b2
        have hpl := HPL.out j
        obtain ⟨P, hP⟩ : ∃ P, piecesT s (L.take j) = P := ⟨_, rfl⟩
        rw [hP] at HP hpl ⊢
        clear hP hk HKn
        have n1 : ¬ (9223372036854775807 : Nat) < P.length + 2 := by omega
        have n2 : ¬ (9223372036854775807 : Nat) < P.length + 2 + (xe - xp) := by omega
        go_upto_region 12 with fail
        go_quiet (fail)
        have HB9 := Lib.hid (below_drewN HBr.out nq)
        have k2 : ∀ o, (wr.drewN nq).cell? ⟨B1, o, none⟩ = wr.cell? ⟨B1, o, none⟩ := fun o => rfl
        rw [← k2] at c0 c1 c2 c3
        clear k2
        generalize wr.drewN nq = w9 at *
        go_upto_region 14 with fail
        go_quiet (fail)
        have HB10 := Lib.hid (below_drewN HB9.out nq)
        go_wp2_with fail
        go_roundw
        case rel => exact ⟨j + 1, rfl, hlt, by rw [HP.out], HK2, HB10⟩
        case measure => simp [intOf]; omega
    · have he : j = L.length := by omega
      subst he
      rw [List.take_length] at HK ⊢
      obtain ⟨hpl, M, hM, hkt⟩ := HSP.out HK.out
      have hml : M.length = L.length := by have := congrArg List.length hkt; simpa using this
      have HT := Lib.hid (Scan_at hM (by omega))
      have HKT := Lib.hid (kt_at hkt)
      obtain ⟨P, hP⟩ : ∃ P, piecesT s L = P := ⟨_, rfl⟩
      rw [hP] at HT ⊢
      clear hP hM hkt hpl HPL HSP HK
      go_wp2_with fail
      refine (HT.out _ (HE.out.below (keepV HB2.out HBr.out))).mono ?_
      rintro e w3 ⟨up, uc, rfl, hu, hb3⟩
      rw [hml] at hu ⊢
      have HB3 := Lib.hid (keepV (keepV HB2.out HBr.out) hb3)
      have HV3 := Lib.hid ((HV.out.below HBr.out).below hb3)
      clear hb3 HV HT
      go_upto_region 16 with fail
      obtain ⟨g1, g2⟩ := one_below w3 #[.int .i64 0, .int .i64 0] 26
      have HB4 := Lib.hid (keepV HB3.out g2)
      have HV4 := Lib.hid (HV3.out.below g2)
      have HU4 := Lib.hid (hu.below g2)
      clear g2 hu HB3 HV3
      generalize w3.alloc (.cells #[.int .i64 0, .int .i64 0] 26) = W4 at *
      obtain ⟨x0, x1⟩ := fcells g1
      clear g1
      go_wp2_with fail
      clear x0 x1
      go_loopw [9] (fun y wr => ∃ j : Nat, y = .int .i64 (j : Int) ∧ j ≤ L.length ∧ Hid (Below W4.heap.size W4 wr)) (fun y _ => L.length - (intOf y).toNat)
      case atStart => exact ⟨0, rfl, Nat.zero_le _, Lib.hid (Below.refl _ _)⟩
      case round =>
        obtain ⟨j, rfl, hj2, HBs⟩ := hrel
        by_cases hlt2 : j < L.length
        · obtain ⟨B1, rfl, hcp, hB1, c0, c1, -, -⟩ := HV4.out.cellsAt j hlt2
          obtain ⟨B2, rfl, hcq, hB2, d0, d1, -, -⟩ := HU4.out.cellsAt j (by omega)
          obtain ⟨e0, e1⟩ := HKT.out j hlt2 (by omega)
          rw [e0] at d0
          rw [e1] at d1
          rw [hml] at hcq
          have k1 : ∀ o, wr.cell? ⟨B1, o, none⟩ = W4.cell? ⟨B1, o, none⟩ := fun o => HBs.out.cell (p := ⟨B1, o, none⟩) hB1
          have k2 : ∀ o, wr.cell? ⟨B2, o, none⟩ = W4.cell? ⟨B2, o, none⟩ := fun o => HBs.out.cell (p := ⟨B2, o, none⟩) hB2
          rw [← k1] at c0 c1
          rw [← k2] at d0 d1
          clear k1 k2 e0 e1
          obtain ⟨⟨xk, xt, xp, xe⟩, hx⟩ : ∃ x, L[j] = x := ⟨_, rfl⟩
          rw [hx] at c0 c1 d0 d1
          clear hx
          simp only at c0 c1 d0 d1
          have j0 : (0 : Int) ≤ (j : Int) := by omega
          have j1 : (j : Int) < (L.length : Int) := by omega
          go_upto_region 21 with fail
          go_quiet (fail)
          have HB9 := Lib.hid (below_drewN HBs.out nq)
          go_wp2_with fail
          go_roundw
          case rel => exact ⟨j + 1, rfl, hlt2, HB9⟩
          case measure => simp [intOf]; omega
        · go_wp2_with fail
          refine (example_any _ (HE.out.below (keepV HB4.out HBs.out))).mono ?_
          rintro e w5 ⟨rfl, hb5⟩
          have HB5 := Lib.hid (keepV (keepV HB4.out HBs.out) hb5)
          go_wp2_with fail
          go_ret
          exact ⟨rfl, HB5.out⟩
end Go.Proofs.YtadbilonialjnaaDoor
