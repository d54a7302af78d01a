/- The law of the parts: what TokenParts returns. -/
import Derived.Test.YtadbilonialjnaaDoorTkM
import Derived.Test.YtadbilonialjnaaDoorTkO
namespace Go.Proofs.YtadbilonialjnaaDoor
open Go.RowKit

theorem SlP.cellsAt {W : World} {p : Option Addr} {n cap : Nat} {L : List Prt} (h : SlP W (.slice p n cap) L) (j : Nat) (hj : j < L.length) : ∃ B, p = some ⟨B, 0, none⟩ ∧ L.length ≤ cap ∧ B < W.heap.size ∧ W.cell? ⟨B, j * 3, none⟩ = some (.string (S L[j].t)) ∧ W.cell? ⟨B, j * 3 + 1, none⟩ = some (.bool L[j].c) ∧ W.cell? ⟨B, j * 3 + 2, none⟩ = some (.int .i64 (L[j].p : Int)) := by
  obtain ⟨q, c, e, hq⟩ := h.open
  injection e with e1 e2 e3
  subst e1; subst e3
  exact hq j hj
set_option maxRecDepth 100000 in
set_option maxHeartbeats 4000000 in
theorem lawTokenParts (s : List UInt8) (w : World) (hE : TkOk w) : Calls Tryd.prog 3 #[.string (S s)] w fun e w' => e = .returned (.bool true) ∧ Below w.heap.size w w' := by
  have HE := Lib.hid hE
  clear hE
  by_cases hl : 400 < s.length
  · go_enter Tryd.func3, Tryd.ntmps3
    go_wp2_with fail
    refine (example_any _ HE.out).mono ?_
    rintro e w1 ⟨rfl, hb1⟩
    go_wp2_with fail
    go_ret
    exact ⟨rfl, hb1⟩
  have hl2 : s.length ≤ 400 := by omega
  clear hl
  obtain ⟨⟨L, a, b⟩, hI⟩ : ∃ r, interpR s = r := ⟨_, rfl⟩
  have hLl := interpR_len hI
  have HP := Lib.hid (Interp_all hI (by omega))
  have HR := Lib.hid (refInterp_all hI (by omega))
  clear hI
  go_enter Tryd.func3, Tryd.ntmps3
  go_wp2_with fail
  refine (HP.out _ HE.out.er).mono ?_
  rintro e w1 ⟨vp, vc, rfl, hv1, hb1⟩
  have HB1 := Lib.hid hb1
  clear hb1
  go_upto_region 4 with fail
  obtain ⟨g1, g2⟩ := one_below w1 #[.int .i64 (a : Int), .int .i64 (b : Int)] 26
  have HB2 := Lib.hid (keepV HB1.out g2)
  have HV := Lib.hid (hv1.below g2)
  clear g2 hv1 HB1
  obtain ⟨F, hF⟩ : ∃ F, F = w1.heap.size := ⟨_, rfl⟩
  rw [← hF] at g1 ⊢
  have G1 := Lib.hid g1
  generalize w1.alloc (.cells #[.int .i64 (a : Int), .int .i64 (b : Int)] 26) = W2 at *
  clear g1 hF
  go_wp2_with fail
  refine (HR.out _).mono ?_
  rintro e w3 ⟨up, uc, rfl, hu1, hb3⟩
  have HB3 := Lib.hid (keepV HB2.out hb3)
  have HV3 := Lib.hid (HV.out.below hb3)
  have G3 := Lib.hid (G1.out.below hb3)
  clear hb3 HV G1 HB2
  go_upto_region 5 with fail
  obtain ⟨g1, g2⟩ := one_below w3 #[.int .i64 (a : Int), .int .i64 (b : Int)] 26
  have HB4 := Lib.hid (keepV HB3.out g2)
  have HV4 := Lib.hid (HV3.out.below g2)
  have HU4 := Lib.hid (hu1.below g2)
  have G4 := Lib.hid (G3.out.below g2)
  clear g2 hu1 HB3 HV3 G3
  obtain ⟨F2, hF⟩ : ∃ F2, F2 = w3.heap.size := ⟨_, rfl⟩
  rw [← hF] at g1 ⊢
  generalize w3.alloc (.cells #[.int .i64 (a : Int), .int .i64 (b : Int)] 26) = W4 at *
  clear hF
  obtain ⟨x0, x1⟩ := fcells G4.out
  obtain ⟨y0, y1⟩ := fcells g1
  clear g1
  go_wp2_with fail
  clear x0 x1 y0 y1
  go_loopw [7] (fun i wr => ∃ j : Nat, i = .int .i64 (j : Int) ∧ j ≤ L.length ∧ Hid (Below W4.heap.size W4 wr)) (fun i _ => L.length - (intOf i).toNat)
  case atStart => exact ⟨0, rfl, Nat.zero_le _, Lib.hid (Below.refl _ _)⟩
  case round =>
    obtain ⟨j, rfl, hj, HW⟩ := hrel
    by_cases hlt : j < L.length
    · obtain ⟨B1, rfl, hc1, hB1, c0, c1, c2⟩ := (HV4.out.below HW.out).cellsAt j hlt
      obtain ⟨B2, rfl, hc2, hB2, d0, d1, d2⟩ := (HU4.out.below HW.out).cellsAt j hlt
      obtain ⟨⟨xt, xc, xp⟩, hx⟩ : ∃ x, L[j] = x := ⟨_, rfl⟩
      rw [hx] at c0 c1 c2 d0 d1 d2
      clear hx
      simp only at c0 c1 c2 d0 d1 d2
      have j0 : (0 : Int) ≤ (j : Int) := by omega
      have j1 : (j : Int) < (L.length : Int) := by omega
      go_wp2_with fail
      go_quiet (fail)
      have HW2 := Lib.hid (below_drewN HW.out nq)
      go_wp2_with fail
      go_roundw
      case rel => exact ⟨j + 1, rfl, hlt, HW2⟩
      case measure => simp [intOf]; omega
    · have hj2 : j = L.length := by omega
      subst hj2
      go_wp2_with fail
      refine (example_any _ (HE.out.below (keepV HB4.out HW.out))).mono ?_
      rintro e w9 ⟨rfl, hb9⟩
      have HB9 := Lib.hid (keepV (keepV HB4.out HW.out) hb9)
      go_wp2_with fail
      go_ret
      exact ⟨rfl, HB9.out⟩
end Go.Proofs.YtadbilonialjnaaDoor
