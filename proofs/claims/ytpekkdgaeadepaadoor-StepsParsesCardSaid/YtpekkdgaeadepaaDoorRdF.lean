/- The reference's Reader: quoted. -/
import Derived.Test.YtpekkdgaeadepaaDoorRdM
namespace Go.Proofs.YtpekkdgaeadepaaDoor
open Go.RowKit

theorem rdG {s : List UInt8} {B : Nat} {w W : World} {a : Nat} {F : Bool} (h : RdG s B w W a F) : W.cell? ⟨B, 0, none⟩ = some (.string (S s)) ∧ W.cell? ⟨B, 1, none⟩ = some (.int .i64 (a : Int)) ∧ W.cell? ⟨B, 2, none⟩ = some (.bool F) ∧ RdG s B w W a F :=
  ⟨h.2.cells.1, h.2.cells.2.1, h.2.cells.2.2, h⟩
theorem rdG_on {s : List UInt8} {B : Nat} {w W W' : World} {a : Nat} {F : Bool} (hS : W.cell? ⟨B, 0, none⟩ = some (.string (S s)) ∧ W.cell? ⟨B, 1, none⟩ = some (.int .i64 (a : Int)) ∧ W.cell? ⟨B, 2, none⟩ = some (.bool F) ∧ RdG s B w W a F) (hb : Below W.heap.size W W') :
    W'.cell? ⟨B, 0, none⟩ = some (.string (S s)) ∧ W'.cell? ⟨B, 1, none⟩ = some (.int .i64 (a : Int)) ∧ W'.cell? ⟨B, 2, none⟩ = some (.bool F) ∧ RdG s B w W' a F := rdG (hS.2.2.2.below hb)
theorem resc_le (s : List UInt8) (a : Nat) (ha : a ≤ s.length) : (rescP s a).1.length ≤ 1 ∧ a ≤ (rescP s a).2.1 ∧ (rescP s a).2.1 ≤ s.length ∧ ((rescP s a).2.2 = false → a + 1 ≤ (rescP s a).2.1) := by
  have h1 := fun h => dgAt_lt (s := s) (a := a + 1) h
  have h2 := fun h => dgAt_lt (s := s) (a := a + 2) h
  unfold rescP
  by_cases hlt : a < s.length
  · rw [if_pos hlt]
    repeat' split
    all_goals (refine ⟨by simp, by simp only; omega, by simp only; omega, fun h => ?_⟩; first | (simp only; omega) | cases h)
  · rw [if_neg hlt]
    exact ⟨by simp, by simp only; omega, by simp only; omega, fun h => by cases h⟩
set_option maxRecDepth 100000 in
set_option maxHeartbeats 8000000 in
theorem quoted_ref (s : List UInt8) (a : Nat) (ha : a ≤ s.length) (B : Nat) (w : World) (hl : s.length ≤ 100000) (hR : RdAt w B s a false) : Calls Tryd.prog 67 #[.pointer (some ⟨B, 0, none⟩)] w (RdP s B w (rquo s (s.length + 1) a [])) := by
  have G0 := Lib.hid (RdG.refl hR)
  clear hR
  obtain ⟨r, hr⟩ : ∃ r, rquo s (s.length + 1) a [] = r := ⟨_, rfl⟩
  rw [hr]
  have HR0 := Lib.hid hr
  clear hr
  go_enter Tryd.func67, Tryd.ntmps67
  go_wp2_with fail
  go_loopg [3] (s.length + 1) (fun f v wr => ∃ (acc : List UInt8) (b : Nat) (F : Bool), v = .string (S acc) ∧ acc.length ≤ b ∧ b ≤ s.length ∧ Hid (((F = false ∧ rquo s f b acc = r ∧ s.length + 1 ≤ f + b) ∨ (F = true ∧ r = ([], b, true))) ∧ RdG s B w wr b F))
  case atStart => exact ⟨[], a, false, rfl, Nat.zero_le _, ha, Lib.hid ⟨.inl ⟨rfl, HR0.out, by omega⟩, G0.out⟩⟩
  case round =>
    clear G0 HR0 ha
    obtain ⟨acc, b, F, rfl, hacc, hb, H⟩ := hrel
    rcases bool_two F with rfl | rfl
    · have hq : rquo s gk b acc = r ∧ s.length + 1 ≤ gk + b := by
        rcases H.out.1 with ⟨_, h⟩ | ⟨h, _⟩
        · exact h
        · cases h
      have G1 := Lib.hid H.out.2
      clear H
      obtain ⟨hq, hfu⟩ := hq
      obtain ⟨f, hf⟩ : ∃ f, gk = f + 1 := ⟨gk - 1, by omega⟩
      rw [hf, rquo] at hq
      by_cases hlt : b < s.length
      · rw [if_neg (by omega)] at hq
        have HM : Hid ((!false && decide (b < s.length)) = true) := Lib.hid (by rw [decide_eq_true hlt]; rfl)
        have b0 : (0 : Int) ≤ (b : Int) := by omega
        have b1 : (b : Int) < (s.length : Int) := by omega
        have hcl := byt_lt s b
        obtain ⟨c, hc⟩ : ∃ c, byt s b = c := ⟨_, rfl⟩
        rw [hc] at hq hcl
        have HQ := Lib.hid hq
        have HC := Lib.hid hc
        clear hq hc
        have hw : (((c.toNat : Int) == 34) = true ∧ c = 34) ∨ (((c.toNat : Int) == 34) = false ∧ c ≠ 34 ∧ ((okB c = false ∧ (decide ((c.toNat : Int) < 32) = true ∨ (decide ((c.toNat : Int) < 32) = false ∧ decide (126 < (c.toNat : Int)) = true))) ∨
            (okB c = true ∧ decide ((c.toNat : Int) < 32) = false ∧ decide (126 < (c.toNat : Int)) = false ∧ ((((c.toNat : Int) == 92) = true ∧ c = 92) ∨ (((c.toNat : Int) == 92) = false ∧ c ≠ 92))))) := by
          by_cases h34 : c = 34
          · exact .inl ⟨by rw [h34]; rfl, h34⟩
          refine .inr ⟨u8_ne h34, h34, ?_⟩
          unfold okB
          by_cases g1 : 32 ≤ c.toNat
          · by_cases g2 : c.toNat ≤ 126
            · refine .inr ⟨by simp [g1, g2], decide_eq_false (by omega), decide_eq_false (by omega), ?_⟩
              by_cases h92 : c = 92
              · exact .inl ⟨by rw [h92]; rfl, h92⟩
              · exact .inr ⟨u8_ne h92, h92⟩
            · exact .inl ⟨by simp [g2], .inr ⟨decide_eq_false (by omega), decide_eq_true (by omega)⟩⟩
          · exact .inl ⟨by simp [g1], .inl (decide_eq_true (by omega))⟩
        go_wp2_with fail
        refine (more_any s b false B _ G1.out.2).mono ?_
        rintro e w1 ⟨rfl, hb1⟩
        rw [HM.out]
        have HI := Lib.hid (rdG ((G1.out.below hb1).drew))
        clear hb1 G1
        go_upto_region 3 with fail
        go_region_held3 (fun w' => w'.cell? ⟨B, 0, none⟩ = some (.string (S s)) ∧ w'.cell? ⟨B, 1, none⟩ = some (.int .i64 (b : Int)) ∧ w'.cell? ⟨B, 2, none⟩ = some (.bool false) ∧ RdG s B w w' b false)
          (first | with_reducible exact HI.out | go_keep) (fail)
        all_goals
          rw [HC.out]
          have G2 := Lib.hid HI.out.2.2.2
          clear HI
          obtain ⟨V, hV⟩ : ∃ V, w1.drew = V := ⟨_, rfl⟩
          rw [hV] at G2 ⊢
          clear hV
          obtain ⟨x0, x1, x2⟩ := G2.out.2.cells
          have f1 := Blk.frozen G2.out.2 1
          have f2 := Blk.frozen G2.out.2 2
          have aln : acc.length ≤ 1000000 := by omega
          rcases hw with ⟨e34, h34⟩ | ⟨e34, h34, ⟨ho, hw⟩ | ⟨ho, e1, e2, ⟨e92, h92⟩ | ⟨e92, h92⟩⟩⟩
          · have hq := HQ.out
            rw [if_pos h34] at hq
            clear HQ h34
            rcases (bool_two acc.isEmpty).symm with he | he
            · rw [he, Bool.true_or, if_pos rfl] at hq
              have HV := Lib.hid hq.symm
              clear hq
              go_wp2_with fail
              go_ret
              exact RdP.of HV.out G2.out.fail
            · obtain ⟨i, hi⟩ : ∃ i, identB acc = i := ⟨_, rfl⟩
              rw [he, Bool.false_or, hi] at hq
              have HI := Lib.hid hi
              have HQ := Lib.hid hq
              clear hq hi
              go_wp2_with fail
              refine (refIdent_any acc aln _).mono ?_
              rintro e w2 ⟨rfl, hb2⟩
              rw [HI.out]
              have G3 := Lib.hid (G2.out.below hb2)
              clear hb2 G2 x0 x1 x2 f1 f2
              obtain ⟨x0, x1, x2⟩ := G3.out.2.cells
              have f1 := Blk.frozen G3.out.2 1
              have f2 := Blk.frozen G3.out.2 2
              rcases (bool_two i).symm with rfl | rfl
              · have HV := Lib.hid (show r = ([], b, true) from HQ.out.symm)
                clear HQ
                go_wp2_with fail
                go_ret
                exact RdP.of HV.out G3.out.fail
              · have HV := Lib.hid (show r = (acc, b + 1, false) from HQ.out.symm)
                clear HQ
                go_wp2_with fail
                go_ret
                exact RdP.of HV.out (G3.out.setAt (b + 1))
          · have hq := HQ.out
            rw [if_neg h34, if_pos ho] at hq
            have HV := Lib.hid hq.symm
            clear hq HQ ho h34
            rcases hw with e1 | ⟨e1, e2⟩
            all_goals
              go_wp2_with fail
              go_ret
              exact RdP.of HV.out G2.out.fail
          · have hq := HQ.out
            rw [if_neg h34, if_neg (by rw [ho]; decide), if_pos h92] at hq
            clear HQ ho h34 h92
            have hre := resc_le s (b + 1) (by omega)
            obtain ⟨⟨el, en, eF⟩, he⟩ : ∃ x, rescP s (b + 1) = x := ⟨_, rfl⟩
            rw [he] at hq hre
            simp only at hq hre
            obtain ⟨y1, y2, y3, y4⟩ := hre
            have HE := Lib.hid he
            have HQ := Lib.hid hq
            have hlen1 : ¬ (9223372036854775807 : Nat) < acc.length + el.length := by omega
            clear hq he
            go_wp2_with fail
            refine (escape_ref s (b + 1) B _ hl (G2.out.setAt (b + 1)).2).mono ?_
            rintro e w2 ⟨rfl, hg2, hr2⟩
            rw [HE.out] at hr2 ⊢
            simp only at hr2 ⊢
            have G3 := Lib.hid ((G2.out.setAt (b + 1)).step hg2 hr2)
            clear hg2 hr2 x0 x1 x2 f1 f2
            go_wp2_with fail
            go_roundg f
            case measure => omega
            case rel =>
              refine ⟨ct acc el, en, eF, rfl, by rw [ct_len]; omega, y3, Lib.hid ⟨?_, G3.out⟩⟩
              rcases (bool_two eF).symm with rfl | rfl
              · exact .inr ⟨rfl, HQ.out.symm⟩
              · exact .inl ⟨rfl, HQ.out, by have := y4 rfl; omega⟩
          · have hq := HQ.out
            rw [if_neg h34, if_neg (by rw [ho]; decide), if_neg h92] at hq
            have HQ1 := Lib.hid hq
            clear hq HQ ho h34 h92
            have hcv := fun v cap => conv_one_at (P := Tryd.prog) (V.setCell ⟨B, 1, none⟩ v) V.heap.size (by simp [World.setCell]) 33 9 5 5 c cap Tryd.underlying33 Tryd.underlying5 Tryd.underlying9
            have hlen1 : ¬ (9223372036854775807 : Nat) < acc.length + [c].length := by simp; omega
            have hlen2 : ¬ (9223372036854775807 : Nat) < acc.length + 1 := by omega
            go_wp2_with fail
            go_roundg f
            case measure => omega
            case rel => exact ⟨ct acc [c], b + 1, false, rfl, by rw [ct_len]; simp; omega, by omega, Lib.hid ⟨.inl ⟨rfl, HQ1.out, by omega⟩, (G2.out.setAt (b + 1)).alloc _⟩⟩
      · rw [if_pos (by omega)] at hq
        have HV := Lib.hid hq.symm
        have HM : Hid ((!false && decide (b < s.length)) = false) := Lib.hid (by rw [decide_eq_false hlt]; rfl)
        clear hq
        go_wp2_with fail
        refine (more_any s b false B _ G1.out.2).mono ?_
        rintro e w1 ⟨rfl, hb1⟩
        rw [HM.out]
        have G2 := Lib.hid (G1.out.below hb1)
        clear hb1 G1
        obtain ⟨x0, x1, x2⟩ := G2.out.2.cells
        have f2 := Blk.frozen G2.out.2 2
        go_wp2_with fail
        go_ret
        exact RdP.of HV.out G2.out.fail
    · have HV : Hid (r = ([], b, true)) := by
        rcases H.out.1 with ⟨h, _⟩ | ⟨_, h⟩
        · cases h
        · exact Lib.hid h
      have G1 := Lib.hid H.out.2
      clear H
      have HM : Hid ((!true && decide (b < s.length)) = false) := Lib.hid rfl
      go_wp2_with fail
      refine (more_any s b true B _ G1.out.2).mono ?_
      rintro e w1 ⟨rfl, hb1⟩
      rw [HM.out]
      have G2 := Lib.hid (G1.out.below hb1)
      clear hb1 G1
      obtain ⟨x0, x1, x2⟩ := G2.out.2.cells
      have f2 := Blk.frozen G2.out.2 2
      go_wp2_with fail
      go_ret
      exact RdP.of HV.out G2.out.fail
end Go.Proofs.YtpekkdgaeadepaaDoor
