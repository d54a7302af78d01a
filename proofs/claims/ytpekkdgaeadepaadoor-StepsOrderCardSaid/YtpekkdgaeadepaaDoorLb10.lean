/- The law of steps on order: what it returns. -/
import Derived.Deep.LoopGhost
import Derived.Test.YtpekkdgaeadepaaDoorLa10
namespace Go.Proofs.YtpekkdgaeadepaaDoor
open Go.RowKit

theorem take_eq_snoc (L M : List Stp) (j : Nat) (h1 : j < L.length) (h2 : j < M.length) (h : L.take j = M.take j) : (L.take (j + 1) = M.take (j + 1)) ↔ L[j] = M[j] := by
  rw [List.take_succ_eq_append_getElem h1, List.take_succ_eq_append_getElem h2, h]
  constructor
  · intro e; have := List.append_cancel_left e; injection this
  · intro e; rw [e]
set_option maxRecDepth 100000 in
set_option maxHeartbeats 8000000 in
theorem lawStepsOrder (w : World) (v : Value) (L : List Stp) (hv : SlS w v L) (hn : L.length ≤ maxLen) (u : Value) (M : List Stp) (hu : SlS w u M) (hm : M.length ≤ maxLen) (x : Value) (N : List Stp) (hx : SlS w x N) (hk : N.length ≤ maxLen) (hE : StOk w) : Calls Tryd.prog 8 #[v, u, x] w fun e w' => e = .returned (.bool true) ∧ Below w.heap.size w w' := by
  have HE := Lib.hid hE
  have HV := Lib.hid hv
  have HU := Lib.hid hu
  have HX := Lib.hid hx
  clear hE
  obtain ⟨vp, vc, rfl, hvo⟩ := hv.open
  obtain ⟨up, uc, rfl, huo⟩ := hu.open
  obtain ⟨xp, xc, rfl⟩ := hx.form
  have HVO := Lib.hid hvo
  have HUO := Lib.hid huo
  clear hv hu hx hvo huo
  unfold maxLen at hn hm hk
  by_cases hbig : 20 < L.length ∨ 20 < M.length ∨ 20 < N.length
  · have hways : decide ((20 : Int) < (L.length : Int)) = true ∨ (decide ((20 : Int) < (L.length : Int)) = false ∧ decide ((20 : Int) < (M.length : Int)) = true) ∨ (decide ((20 : Int) < (L.length : Int)) = false ∧ decide ((20 : Int) < (M.length : Int)) = false ∧ decide ((20 : Int) < (N.length : Int)) = true) := by
      by_cases h : 20 < L.length
      · exact .inl (by first | (simp; done) | (simp; omega))
      · by_cases h' : 20 < M.length
        · exact .inr (.inl ⟨by first | (simp; done) | (simp; omega), by first | (simp; done) | (simp; omega)⟩)
        · exact .inr (.inr ⟨by first | (simp; done) | (simp; omega), by first | (simp; done) | (simp; omega), by first | (simp; done) | (simp; omega)⟩)
    clear hbig
    rcases hways with h | ⟨h, h'⟩ | ⟨h, h', h''⟩
    all_goals
      go_enter Tryd.func8, Tryd.ntmps8
      go_wp2_with fail
      refine (example_any _ HE.out).mono ?_
      rintro e w1 ⟨rfl, hb1⟩
      go_wp2_with fail
      go_ret
      exact ⟨rfl, hb1⟩
  · have g1 : decide ((20 : Int) < (L.length : Int)) = false := by first | (simp; done) | (simp; omega)
    have g2 : decide ((20 : Int) < (M.length : Int)) = false := by first | (simp; done) | (simp; omega)
    have g3 : decide ((20 : Int) < (N.length : Int)) = false := by first | (simp; done) | (simp; omega)
    have hl1 : L.length ≤ 1000000 := by omega
    have hl2 : M.length ≤ 1000000 := by omega
    have hl3 : N.length ≤ 1000000 := by omega
    clear hbig hn hm hk
    have h0 := cmpS_zero L M
    have hng := cmpS_neg L M
    have htr := cmpS_trans L M N
    have rn := cmpS_range L M
    have rm := cmpS_range M N
    have rk := cmpS_range L N
    obtain ⟨n, hn⟩ : ∃ n, cmpS L M = n := ⟨_, rfl⟩
    obtain ⟨m, hm⟩ : ∃ n, cmpS M N = n := ⟨_, rfl⟩
    obtain ⟨k, hk⟩ : ∃ n, cmpS L N = n := ⟨_, rfl⟩
    obtain ⟨l, hl⟩ : ∃ n, cmpS M L = n := ⟨_, rfl⟩
    have HN := Lib.hid hn
    have HM := Lib.hid hm
    have HK := Lib.hid hk
    have HL := Lib.hid hl
    rw [hn] at h0 hng htr rn
    rw [hl] at hng
    rw [hm] at htr rm
    rw [hk] at htr rk
    obtain ⟨sm, hsm⟩ : ∃ b, decide (L = M) = b := ⟨_, rfl⟩
    have HSM := Lib.hid hsm
    have hways : (n = 1 ∧ l = -1 ∧ sm = false) ∨ (n = 0 ∧ l = 0 ∧ sm = true ∧ (m = 1 ∨ (m = 0 ∧ k ≤ 0) ∨ (m = -1 ∧ k = -1))) ∨ (n = -1 ∧ l = 1 ∧ (m = 1 ∨ (m ≤ 0 ∧ k = -1)) ∧ sm = false) := by
      have hs1 : n ≠ 0 → sm = false := fun h => by rw [← hsm]; exact decide_eq_false (fun e => h (h0.2 e))
      rcases rn with h | h | h
      · refine .inr (.inr ⟨h, by omega, ?_, hs1 (by omega)⟩)
        rcases rm with h' | h' | h'
        · exact .inr ⟨by omega, by have := htr (by omega) (by omega); omega⟩
        · exact .inr ⟨by omega, by have := htr (by omega) (by omega); omega⟩
        · exact .inl h'
      · refine .inr (.inl ⟨h, by omega, by rw [← hsm]; exact decide_eq_true (h0.1 h), ?_⟩)
        rcases rm with h' | h' | h'
        · exact .inr (.inr ⟨h', by have := htr (by omega) (by omega); omega⟩)
        · exact .inr (.inl ⟨h', (htr (by omega) (by omega)).1⟩)
        · exact .inl h'
      · exact .inl ⟨h, by omega, hs1 (by omega)⟩
    have HW := Lib.hid hways
    clear h0 hng htr rn rm rk hn hm hk hl hsm hways
    go_enter Tryd.func8, Tryd.ntmps8
    go_wp2_with fail
    refine (Compare_any _ _ L M _ HV.out HU.out hl1 hl2).mono ?_
    rintro e w1 ⟨rfl, hb1⟩
    rw [HN.out]
    have HB1 := Lib.hid hb1
    clear hb1
    go_wp2_with fail
    refine (Compare_any _ _ M N _ (HU.out.below HB1.out) (HX.out.below HB1.out) hl2 hl3).mono ?_
    rintro e w2 ⟨rfl, hb2⟩
    rw [HM.out]
    have HB2 := Lib.hid (keepV HB1.out hb2)
    clear hb2
    go_wp2_with fail
    refine (Compare_any _ _ L N _ (HV.out.below HB2.out) (HX.out.below HB2.out) hl1 hl3).mono ?_
    rintro e w3 ⟨rfl, hb3⟩
    rw [HK.out]
    have HB3 := Lib.hid (keepV HB2.out hb3)
    clear hb3
    obtain ⟨sl0, hsl0⟩ : ∃ b, ((L.length : Int) == (M.length : Int)) = b := ⟨_, rfl⟩
    have HSL0 := Lib.hid hsl0
    go_wp2_with fail
    go_loopg [10, 11] (L.length + 1) (fun g s i wr => ∃ (j : Nat) (b : Bool), s = .bool b ∧ i = .int .i64 (j : Int) ∧ j ≤ L.length ∧ g = L.length + 1 - j ∧ Hid ((b = true → L.length = M.length ∧ L.take j = M.take j) ∧ (b = false → L ≠ M) ∧ Below w.heap.size w wr))
    case atStart => exact ⟨0, sl0, rfl, rfl, Nat.zero_le _, rfl, Lib.hid ⟨fun h => ⟨by rw [h] at hsl0; have h2 := eq_of_beq hsl0; omega, rfl⟩, fun h e => by rw [h, e] at hsl0; simp at hsl0, HB3.out⟩⟩
    case round =>
      obtain ⟨j, b, rfl, rfl, hj, hg, HQ⟩ := hrel
      have HBW := Lib.hid HQ.out.2.2
      rcases bool_two b with rfl | rfl
      · have hsf : sm = false := by rw [← HSM.out]; exact decide_eq_false (HQ.out.2.1 rfl)
        clear HQ HVO HUO hsl0
        rcases HW.out with ⟨rfl, rfl, hs'⟩ | ⟨rfl, rfl, hs', _⟩ | ⟨rfl, rfl, rfl | ⟨hm0, rfl⟩, hs'⟩
        rotate_left
        · rw [hsf] at hs'; cases hs'
        all_goals
          clear hs' hsf
          go_wp2_with fail
          refine (Compare_any _ _ M L _ (HU.out.below HBW.out) (HV.out.below HBW.out) hl2 hl1).mono ?_
          rintro e w8 ⟨rfl, hb8⟩
          rw [HL.out]
          have HB8 := Lib.hid (keepV HBW.out hb8)
          clear hb8
          go_wp2_with fail
          refine (example_any _ (HE.out.below HB8.out)).mono ?_
          rintro e w9 ⟨rfl, hb9⟩
          go_wp2_with fail
          go_ret
          exact ⟨rfl, keepV HB8.out hb9⟩
      · have hlen := (HQ.out.1 rfl).1
        have HTK := Lib.hid (HQ.out.1 rfl).2
        clear HQ
        by_cases hlt : j < L.length
        · have hlm : j < M.length := by omega
          obtain ⟨B1, o1, rfl, hc1, hB1, c0, c1⟩ := HVO.out j hlt
          obtain ⟨B2, o2, rfl, hc2, hB2, d0, d1⟩ := HUO.out j hlm
          have HSN := Lib.hid (take_eq_snoc L M j hlt hlm HTK.out)
          obtain ⟨⟨lx, ix⟩, hx⟩ : ∃ x, L[j] = x := ⟨_, rfl⟩
          obtain ⟨⟨ly, iy⟩, hy⟩ : ∃ y, M[j] = y := ⟨_, rfl⟩
          have HXE := Lib.hid hx
          have HYE := Lib.hid hy
          rw [hx, hy] at HSN
          rw [hx] at c0 c1
          rw [hy] at d0 d1
          clear hx hy
          simp only at c0 c1 d0 d1
          obtain ⟨c0, c1, d0, d1, -⟩ := keepQ hB1 hB2 HBW.out ⟨c0, c1, d0, d1, Below.refl _ _⟩
          have j0 : (0 : Int) ≤ (j : Int) := by omega
          have j1 : (j : Int) < (L.length : Int) := by omega
          have j2 : (j : Int) < (M.length : Int) := by omega
          have HLEN := Lib.hid hlen
          clear hlen hsl0
          by_cases hxy : (⟨lx, ix⟩ : Stp) = ⟨ly, iy⟩
          · have e1 : (lx == ly) = true := by injection hxy with h1 h2; simpa using h1
            have e2 : (ix == iy) = true := by injection hxy with h1 h2; simpa using h2
            have HT2 := Lib.hid (HSN.out.2 hxy)
            clear hxy
            go_wp2_with fail
            go_quiet (fail)
            go_wp2_with fail
            go_roundg (L.length + 1 - (j + 1))
            case measure => omega
            case rel => exact ⟨j + 1, true, rfl, rfl, by omega, rfl, Lib.hid ⟨fun _ => ⟨HLEN.out, HT2.out⟩, (fun h => by cases h), below_drewN HBW.out _⟩⟩
          · have hne : L ≠ M := fun e => hxy (by
              have h1 := HXE.out
              have h2 := HYE.out
              subst e
              rw [← h1, ← h2])
            have HNE := Lib.hid hne
            have hw : (lx == ly) = false ∨ ((lx == ly) = true ∧ (ix == iy) = false) := by
              by_cases h1 : lx = ly
              · refine .inr ⟨by simpa using h1, ?_⟩
                rw [beq_eq_false_iff_ne]
                exact fun h2 => hxy (by rw [h1, h2])
              · exact .inl (by simpa using h1)
            clear hxy hne
            rcases hw with e1 | ⟨e1, e2⟩
            all_goals
              go_wp2_with fail
              go_quiet (fail)
              go_wp2_with fail
              go_roundg (L.length + 1 - (j + 1))
              case measure => omega
              case rel => exact ⟨j + 1, false, rfl, rfl, by omega, rfl, Lib.hid ⟨(fun h => by cases h), fun _ => HNE.out, below_drewN HBW.out _⟩⟩
        · have hLM : L = M := by have h := HTK.out; rw [List.take_of_length_le (by omega), List.take_of_length_le (by omega)] at h; exact h
          have hst : sm = true := by rw [← HSM.out]; exact decide_eq_true hLM
          have hjl : decide ((j : Int) < (L.length : Int)) = false := by first | (simp; done) | (simp; omega)
          clear HVO HUO hsl0 hLM hlen
          rcases HW.out with ⟨rfl, rfl, hs'⟩ | ⟨rfl, rfl, hs', rfl | ⟨rfl, hk0⟩ | ⟨rfl, rfl⟩⟩ | ⟨rfl, rfl, _, hs'⟩
          · rw [hst] at hs'; cases hs'
          rotate_right
          · rw [hst] at hs'; cases hs'
          all_goals
            clear hs' hst
            go_wp2_with fail
            refine (Compare_any _ _ M L _ (HU.out.below HBW.out) (HV.out.below HBW.out) hl2 hl1).mono ?_
            rintro e w8 ⟨rfl, hb8⟩
            rw [HL.out]
            have HB8 := Lib.hid (keepV HBW.out hb8)
            clear hb8
            go_wp2_with fail
            refine (example_any _ (HE.out.below HB8.out)).mono ?_
            rintro e w9 ⟨rfl, hb9⟩
            go_wp2_with fail
            go_ret
            exact ⟨rfl, keepV HB8.out hb9⟩
end Go.Proofs.YtpekkdgaeadepaaDoor
