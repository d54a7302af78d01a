/- Walks of the steps: the program's Compare, Same, Prefix. -/
import Derived.Deep.LoopGhost
import Derived.Test.YtpekkdgaeadepaaDoorStB
namespace Go.Proofs.YtpekkdgaeadepaaDoor
open Go.RowKit

theorem one_or (x y : Stp) (h : x ≠ y) (he : x.lab.isEmpty = y.lab.isEmpty) : oneS x y = if cmpB x.lab y.lab ≠ 0 then cmpB x.lab y.lab else cmpI x.idx y.idx := by
  rcases one_ways x y with ⟨h1, h2, _⟩ | ⟨h1, h2, _⟩ | ⟨_, h1, h2⟩ | ⟨_, h1, h2, h3⟩ | ⟨_, _, _, h1⟩
  · rw [h1, h2] at he; cases he
  · rw [h1, h2] at he; cases he
  · have hne : x.lab ≠ y.lab := by simpa using h1
    rw [h2]; unfold cmpB
    cases hb : Op.bytesLess x.lab y.lab <;> simp [hne]
  · have hee : x.lab = y.lab := by simpa using h1
    have hni : x.idx ≠ y.idx := by simpa using h2
    rw [h3]; unfold cmpB cmpI
    rw [hee, less_irr]
    by_cases hb : x.idx < y.idx
    · simp [hb]
    · simp [hb]; omega
  · exact absurd h1 h
theorem Or_at (B : Nat) (x y r : Int) (hr : Hid (r = if x ≠ 0 then x else y)) (w : World) (h0 : w.cell? ⟨B, 0, none⟩ = some (.int .i64 x)) (h1 : w.cell? ⟨B, 1, none⟩ = some (.int .i64 y)) : Calls Tryd.prog 33 #[.slice (some ⟨B, 0, none⟩) 2 2] w fun e w' => e = .returned (.int .i64 r) ∧ w' = w := by
  rw [hr.out]; exact Or_any B x y w h0 h1
theorem below_al (W : World) {N : Nat} (o : Obj) (h : N ≤ W.heap.size) : Below N W (W.alloc o) := (Below.refl _ _).alloc h _
theorem below_al2 (W : World) {N : Nat} (o1 o2 : Obj) (h : N ≤ W.heap.size) : Below N W ((W.alloc o1).alloc o2) := ((Below.refl _ _).alloc h _).alloc (by simp; omega) _
set_option maxHeartbeats 4000000 in
set_option maxRecDepth 100000 in
theorem Compare_any (v u : Value) (L M : List Stp) (w : World) (hv : SlS w v L) (hu : SlS w u M) (hL : L.length ≤ 1000000) (hM : M.length ≤ 1000000) : Calls Tryd.prog 20 #[v, u] w fun e w' => e = .returned (.int .i64 (cmpS L M)) ∧ Below w.heap.size w w' := by
  obtain ⟨r, hr⟩ : ∃ r, cmpS L M = r := ⟨_, rfl⟩
  rw [hr]
  have HR := Lib.hid (show cmpS (L.drop 0) (M.drop 0) = r from hr)
  clear hr
  obtain ⟨p, cap, rfl, hp⟩ := hv.open
  obtain ⟨q, caq, rfl, hq⟩ := hu.open
  have HP := Lib.hid hp
  have HQ := Lib.hid hq
  clear hp hq hv hu
  go_enter Tryd.func20, Tryd.ntmps20
  go_wp2_with fail
  obtain ⟨mn, hmn⟩ : ∃ mn : Nat, min (L.length : Int) (M.length : Int) = (mn : Int) := ⟨min L.length M.length, by omega⟩
  rw [hmn]
  have hml : mn ≤ L.length := by omega
  have hmm : mn ≤ M.length := by omega
  have hme : mn = L.length ∨ mn = M.length := by omega
  clear hmn
  go_loopg [13] L.length (fun g i wr => ∃ j : Nat, i = .int .i64 (j : Int) ∧ j ≤ mn ∧ g = L.length - j ∧ Hid (cmpS (L.drop j) (M.drop j) = r ∧ Below w.heap.size w wr))
  case atStart => exact ⟨0, rfl, Nat.zero_le _, rfl, Lib.hid ⟨HR.out, Below.refl _ _⟩⟩
  case round =>
    obtain ⟨j, rfl, hj, hg, HW⟩ := hrel
    by_cases hlt : j < mn
    · have hl : j < L.length := by omega
      have hm : j < M.length := by omega
      obtain ⟨B1, o1, rfl, hc1, hB1, c0, c1⟩ := HP.out j hl
      obtain ⟨B2, o2, rfl, hc2, hB2, d0, d1⟩ := HQ.out j hm
      have HN := Lib.hid (cmpS_drop L M j hl hm)
      obtain ⟨⟨lx, ix⟩, hx⟩ : ∃ x, L[j] = x := ⟨_, rfl⟩
      obtain ⟨⟨ly, iy⟩, hy⟩ : ∃ y, M[j] = y := ⟨_, rfl⟩
      rw [hx, hy] at HN
      rw [hx] at c0 c1
      rw [hy] at d0 d1
      clear hx hy
      simp only at c0 c1 d0 d1
      have hF := keepQ hB1 hB2 HW.out.2 ⟨c0, c1, d0, d1, Below.refl _ _⟩
      have HF := Lib.hid (keepQ hB1 hB2 (below_drew (Below.refl _ _)) hF)
      obtain ⟨c0, c1, d0, d1, -⟩ := hF
      have j0 : (0 : Int) ≤ (j : Int) := by omega
      have j1 : (j : Int) < (L.length : Int) := by omega
      have j2 : (j : Int) < (M.length : Int) := by omega
      go_wp2_with fail
      go_cut [6, 7] (fun a b wx => ∃ C1 C2, a = .pointer (some ⟨C1, 0, none⟩) ∧ b = .pointer (some ⟨C2, 0, none⟩) ∧ Blk wx C1 #[.string (S lx), .int .i64 ix] 37 ∧ Blk wx C2 #[.string (S ly), .int .i64 iy] 37 ∧ Below w.heap.size w wx)
      case first =>
        go_region_held3 (fun w' => w'.cell? ⟨B1, o1 + j * 2, none⟩ = some (.string (S lx)) ∧ w'.cell? ⟨B1, o1 + j * 2 + 1, none⟩ = some (.int .i64 ix) ∧ w'.cell? ⟨B2, o2 + j * 2, none⟩ = some (.string (S ly)) ∧ w'.cell? ⟨B2, o2 + j * 2 + 1, none⟩ = some (.int .i64 iy) ∧ Below w.heap.size w w')
          (first
            | with_reducible exact HF.out
            | with_reducible exact keepQ hB1 hB2 (below_al _ _ (Nat.le_refl _)) HF.out
            | with_reducible exact keepQ hB1 hB2 (below_al2 _ _ _ (Nat.le_refl _)) HF.out
            | go_keep)
          (fail)
        all_goals
          have hBx := (keepQ hB1 hB2 (Below.refl _ _) (by assumption)).2.2.2.2
          go_wp2_with fail
          go_meet
          refine ⟨_, _, rfl, rfl, ?_, ?_, hBx⟩
          · first
              | exact (Blk.new _ _ _).alloc _
              | (have h := Blk.new (wr.alloc (.cells #[.string (S ly), .int .i64 iy] 37)) #[.string (S lx), .int .i64 ix] 37; exact Blk.drew (by simpa using h))
          · first
              | exact (Blk.new _ _ _).alloc _
              | (have h := Blk.new (wr.alloc (.cells #[.string (S lx), .int .i64 ix] 37)) #[.string (S ly), .int .i64 iy] 37; exact Blk.drew (by simpa using h))
      case rest =>
        obtain ⟨C1, C2, rfl, rfl, b1, b2, hBw⟩ := hcut
        have hC1 := b1.lt
        have hC2 := b2.lt
        have x0 := b1.cell 0
        have x1 := b1.cell 1
        have y0 := b2.cell 0
        have y1 := b2.cell 1
        simp at x0 x1 y0 y1
        have HG := Lib.hid (keepQ (w := wc) hC1 hC2 (below_drew (Below.refl _ _)) ⟨x0, x1, y0, y1, Below.refl _ _⟩)
        clear b1 b2 c0 c1 d0 d1 HF
        have HBw := Lib.hid hBw
        clear hBw
        by_cases hxy : (⟨lx, ix⟩ : Stp) = ⟨ly, iy⟩
        · have e1 : (lx == ly) = true := by injection hxy with h1 h2; simpa using h1
          have e2 : (ix == iy) = true := by injection hxy with h1 h2; simpa using h2
          have HN2 := HN.out
          rw [if_pos hxy, HW.out.1] at HN2
          have HN3 := Lib.hid HN2
          clear HN2 hxy HG hC1 hC2
          go_wp2_with fail
          go_roundg (L.length - (j + 1))
          case measure => omega
          case rel => exact ⟨j + 1, rfl, hlt, rfl, Lib.hid ⟨HN3.out.symm, HBw.out⟩⟩
        · have HN2 := HN.out
          rw [if_neg hxy, HW.out.1] at HN2
          have hor := one_or ⟨lx, ix⟩ ⟨ly, iy⟩ hxy
          rcases one_ways ⟨lx, ix⟩ ⟨ly, iy⟩ with ⟨h1, h2, h3⟩ | ⟨h1, h2, h3⟩ | ⟨h1, h2, _⟩ | ⟨h1, h2, h3, _⟩ | ⟨_, _, _, h1⟩
          · simp only at h1 h2
            have e1 : (lx == ly) = false := by rw [beq_eq_false_iff_ne]; rintro rfl; rw [h1] at h2; cases h2
            rw [h3] at HN2
            subst HN2
            clear hxy hor HG hC1 hC2 h3
            go_wp2_with fail
            go_ret
            exact ⟨rfl, HBw.out⟩
          · simp only at h1 h2
            have e1 : (lx == ly) = false := by rw [beq_eq_false_iff_ne]; rintro rfl; rw [h1] at h2; cases h2
            rw [h3] at HN2
            subst HN2
            clear hxy hor HG hC1 hC2 h3
            go_wp2_with fail
            go_ret
            exact ⟨rfl, HBw.out⟩
          · simp only at h1 h2
            rw [hor h1] at HN2
            have HN3 := Lib.hid HN2
            clear hxy hor HN2
            obtain ⟨bs, hbs⟩ : ∃ n, cmpB lx ly = n := ⟨_, rfl⟩
            obtain ⟨bi, hbi⟩ : ∃ n, cmpI ix iy = n := ⟨_, rfl⟩
            have HBS := Lib.hid hbs
            have HBI := Lib.hid hbi
            simp only [hbs, hbi] at HN3
            clear hbs hbi
            obtain ⟨pe, hpe⟩ : ∃ b, lx.isEmpty = b := ⟨_, rfl⟩
            have hqe : ly.isEmpty = pe := h1.symm.trans hpe
            clear h1
            rcases bool_two pe with rfl | rfl
            all_goals
              go_wp2_with fail
              go_region_held3 (fun w' => w'.cell? ⟨C1, 0, none⟩ = some (.string (S lx)) ∧ w'.cell? ⟨C1, 1, none⟩ = some (.int .i64 ix) ∧ w'.cell? ⟨C2, 0, none⟩ = some (.string (S ly)) ∧ w'.cell? ⟨C2, 1, none⟩ = some (.int .i64 iy) ∧ Below wc.heap.size wc w')
                (first
                  | with_reducible exact HG.out
                  | with_reducible assumption
                  | with_reducible exact keepQ (w := wc) hC1 hC2 (below_al _ _ (Nat.le_refl _)) (by assumption)
                  | go_keep)
                (first
                  | (go_at_call 34; refine (cmpStr_any _ _ _).mono ?_; rintro e w9 ⟨rfl, rfl⟩; rw [HBS.out])
                  | (go_at_call 35; refine (cmpInt_any _ _ _).mono ?_; rintro e w9 ⟨rfl, rfl⟩; rw [HBI.out])
                  | (go_at_call 33; refine (Or_at _ bs bi r HN3 _ (by simp) (by simp)).mono ?_; rintro e w9 ⟨rfl, rfl⟩))
              all_goals
                have hBx := (keepQ (w := wc) hC1 hC2 (Below.refl _ _) (by assumption)).2.2.2.2
                go_wp2_with fail
                go_ret
                exact ⟨rfl, HBw.out.trans (hBx.mono HBw.out.size)⟩
          · simp only at h1 h2 h3
            rw [hor h1] at HN2
            have HN3 := Lib.hid HN2
            clear hxy hor HN2
            obtain ⟨bs, hbs⟩ : ∃ n, cmpB lx ly = n := ⟨_, rfl⟩
            obtain ⟨bi, hbi⟩ : ∃ n, cmpI ix iy = n := ⟨_, rfl⟩
            have HBS := Lib.hid hbs
            have HBI := Lib.hid hbi
            simp only [hbs, hbi] at HN3
            clear hbs hbi
            obtain ⟨pe, hpe⟩ : ∃ b, lx.isEmpty = b := ⟨_, rfl⟩
            have hqe : ly.isEmpty = pe := h1.symm.trans hpe
            clear h1
            rcases bool_two pe with rfl | rfl
            all_goals
              go_wp2_with fail
              go_region_held3 (fun w' => w'.cell? ⟨C1, 0, none⟩ = some (.string (S lx)) ∧ w'.cell? ⟨C1, 1, none⟩ = some (.int .i64 ix) ∧ w'.cell? ⟨C2, 0, none⟩ = some (.string (S ly)) ∧ w'.cell? ⟨C2, 1, none⟩ = some (.int .i64 iy) ∧ Below wc.heap.size wc w')
                (first
                  | with_reducible exact HG.out
                  | with_reducible assumption
                  | with_reducible exact keepQ (w := wc) hC1 hC2 (below_al _ _ (Nat.le_refl _)) (by assumption)
                  | go_keep)
                (first
                  | (go_at_call 34; refine (cmpStr_any _ _ _).mono ?_; rintro e w9 ⟨rfl, rfl⟩; rw [HBS.out])
                  | (go_at_call 35; refine (cmpInt_any _ _ _).mono ?_; rintro e w9 ⟨rfl, rfl⟩; rw [HBI.out])
                  | (go_at_call 33; refine (Or_at _ bs bi r HN3 _ (by simp) (by simp)).mono ?_; rintro e w9 ⟨rfl, rfl⟩))
              all_goals
                have hBx := (keepQ (w := wc) hC1 hC2 (Below.refl _ _) (by assumption)).2.2.2.2
                go_wp2_with fail
                go_ret
                exact ⟨rfl, HBw.out.trans (hBx.mono HBw.out.size)⟩
          · exact absurd h1 hxy
    · have h' : j = mn := by omega
      subst h'
      have HE := Lib.hid ((cmpS_end L M j hml hmm (by omega)).symm.trans HW.out.1)
      clear HP HQ
      go_wp2_with fail
      refine (cmpInt_any _ _ _).mono ?_
      rintro e w9 ⟨rfl, rfl⟩
      go_wp2_with fail
      go_ret
      exact ⟨ret_i64 HE.out, HW.out.2⟩
end Go.Proofs.YtpekkdgaeadepaaDoor
