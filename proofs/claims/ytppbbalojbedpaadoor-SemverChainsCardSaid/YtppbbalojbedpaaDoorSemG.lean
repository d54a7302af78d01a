/- Walks of the versions: the specification's Parse. -/
import Derived.Deep.RegionWith
import Derived.Test.YtppbbalojbedpaaDoorSemE
import Derived.Test.YtppbbalojbedpaaDoorSemF
import Derived.Test.YtppbbalojbedpaaDoorVerR
namespace Go.Proofs.YtppbbalojbedpaaDoor
open Go.RowKit

set_option maxHeartbeats 4000000 in
set_option maxRecDepth 100000 in
theorem refParse_any (l : List UInt8) (w : World) (hl : l.length ≤ 1000000) : Calls Tryd.prog 17 #[.string (S l)] w (OkV (parseV l) w) := by
  by_cases hlong : 15 < l.length
  · have HP := Lib.hid (parseV_no l fun v hv e => by have := textV_len v; rw [e] at this; omega)
    go_enter Tryd.func17, Tryd.ntmps17
    go_wp2_with fail
    exact bodyPost_ret (v := .tuple #[.agg #[.int .i64 0, .int .i64 0, .int .i64 0], .int .i64 8]) (by simp [results, Tryd.results17, go_sem]) rfl ⟨ret_vp HP.out, by go_grown⟩
  · by_cases hsh : l.length < 6
    · have HP := Lib.hid (parseV_no l fun v hv e => by have := textV_len6 v hv; rw [e] at this; omega)
      go_enter Tryd.func17, Tryd.ntmps17
      go_wp2_with fail
      exact bodyPost_ret (v := .tuple #[.agg #[.int .i64 0, .int .i64 0, .int .i64 0], .int .i64 8]) (by simp [results, Tryd.results17, go_sem]) rfl ⟨ret_vp HP.out, by go_grown⟩
    · by_cases hhd : byt l 0 = 118
      · have HHD : Hid (l.head? = some 118) := Lib.hid (by
          cases l with
          | nil => simp at hsh
          | cons c r => rw [← hhd]; rfl)
        have T : (((byt l 0).toNat : Int) != 118) = false := by rw [hhd]; rfl
        have hl15 : l.length ≤ 15 := by omega
        have hl6 : 6 ≤ l.length := by omega
        clear hlong hsh hhd hl
        go_enter Tryd.func17, Tryd.ntmps17
        go_wp2_with fail
        clear T
        have bR : Blk ((w.alloc (.cells #[.int .i64 0, .int .i64 0, .int .i64 0] 23)).alloc (.cells #[.int .i64 0, .int .i64 0, .int .i64 0] 36)) w.heap.size #[.int .i64 0, .int .i64 0, .int .i64 0] 23 := (Blk.new w _ _).alloc _
        have bN : Blk ((w.alloc (.cells #[.int .i64 0, .int .i64 0, .int .i64 0] 23)).alloc (.cells #[.int .i64 0, .int .i64 0, .int .i64 0] 36)) (w.heap.size + 1) #[.int .i64 0, .int .i64 0, .int .i64 0] 36 := by
          have := Blk.new (w.alloc (.cells #[.int .i64 0, .int .i64 0, .int .i64 0] 23)) #[.int .i64 0, .int .i64 0, .int .i64 0] 36
          simpa using this
        have hB0 : Below w.heap.size w ((w.alloc (.cells #[.int .i64 0, .int .i64 0, .int .i64 0] 23)).alloc (.cells #[.int .i64 0, .int .i64 0, .int .i64 0] 36)) := by go_grown
        generalize ((w.alloc (.cells #[.int .i64 0, .int .i64 0, .int .i64 0] 23)).alloc (.cells #[.int .i64 0, .int .i64 0, .int .i64 0] 36)) = W0 at bR bN hB0 ⊢
        go_loopw [5, 6] (fun a b wr => ∃ (i : Nat) (t : Tri), 1 ≤ i ∧ i ≤ l.length ∧ b = .int .i64 (i : Int) ∧ Blk wr w.heap.size #[.int .i64 0, .int .i64 0, .int .i64 0] 23 ∧ Blk wr (w.heap.size + 1) #[.int .i64 (t.a : Int), .int .i64 (t.b : Int), .int .i64 (t.c : Int)] 36 ∧ Below w.heap.size w wr ∧ Hid (t.low i) ∧
            ((a = .int .i64 0 ∧ Hid (rv 0 ⟨0, 0, 0⟩ (l.drop 1) = rv 0 t (l.drop i))) ∨ (a = .int .i64 1 ∧ Hid (rv 0 ⟨0, 0, 0⟩ (l.drop 1) = rv 1 t (l.drop i))) ∨ (a = .int .i64 2 ∧ Hid (rv 0 ⟨0, 0, 0⟩ (l.drop 1) = rv 2 t (l.drop i)))))
          (fun _ b _ => l.length - (intOf b).toNat)
        case atStart => exact ⟨1, ⟨0, 0, 0⟩, by omega, by omega, rfl, bR, bN, hB0, Lib.hid ⟨by decide, by decide, by decide⟩, .inl ⟨rfl, Lib.hid rfl⟩⟩
        case round =>
          clear bR bN hB0
          obtain ⟨i, t, hi1, hi, rfl, bR, bN, hBr, HL, ha⟩ := hrel
          obtain ⟨ma, mb, mc⟩ := Tri.low_max (t := t) (i := i) HL.out (by omega)
          by_cases hlt : i < l.length
          · by_cases hdg : dgt (byt l i)
            · have h46 : (((byt l i).toNat : Int) == 46) = false := u8_ne (dgt_46 hdg)
              obtain ⟨d1, d2⟩ := id hdg
              have hlt15 : i ≤ 14 := by omega
              rcases ha with ⟨rfl, HX⟩ | ⟨rfl, HX⟩ | ⟨rfl, HX⟩
              · have HN := Lib.hid (HX.out.trans (rv_dig 0 t l i hlt hdg))
                clear hdg
                have HP := Lib.hid (show t.put 0 ((byt l i).toNat - 48) = ⟨t.a * 10 + ((byt l i).toNat - 48), t.b, t.c⟩ from rfl)
                have HLP := Lib.hid (Tri.low_put (t := t) (i := i) (k := 0) (d := (byt l i).toNat - 48) HL.out (by omega))
                rw [HP.out] at HN HLP
                obtain ⟨x, hx⟩ : ∃ x, t.a * 10 + ((byt l i).toNat - 48) = x := ⟨_, rfl⟩
                have ex : (t.a : Int) * 10 + (((byt l i).toNat : Int) - 48) = (x : Int) := by omega
                rw [hx] at HN HLP
                clear hx HP
                have f1 := bN.cell 0
                have f2 := bN.frozen 0
                simp at f1
                go_wp2_with fail
                have b1 : IntKind.i64.wrap ((t.a : Int) * 10) = (t.a : Int) * 10 := IntWalk.i64_in _ (by omega)
                have b2 : IntKind.u8.wrap (((byt l i).toNat : Int) - 48) = ((byt l i).toNat : Int) - 48 := IntWalk.u8_in _ (by omega)
                have b3 : IntKind.i64.wrap (((byt l i).toNat : Int) - 48) = ((byt l i).toNat : Int) - 48 := IntWalk.i64_in _ (by omega)
                have b4 : IntKind.i64.wrap (x : Int) = (x : Int) := IntWalk.i64_in _ (by omega)
                go_region_with (fail)
                all_goals
                  clear b1 b2 b3 b4
                  go_wp2_with fail
                  go_roundw
                  case rel => exact ⟨i + 1, ⟨x, t.b, t.c⟩, by omega, by omega, by go_num, by first | exact (bR.set_other _ _ (by omega)).drew | exact bR.drew.set_other _ _ (by omega), by first | exact (bN.set 0 (.int .i64 (x : Int))).drew | exact bN.drew.set 0 (.int .i64 (x : Int)), by first | exact below_drew (hBr.setCell (by first | omega | (simp; done) | (simp; omega)) _) | exact (below_drew hBr).setCell (by first | omega | (simp; done) | (simp; omega)) _, HLP, .inl ⟨rfl, HN⟩⟩
                  case measure => first | (simp [intOf]; done) | (simp [intOf]; omega)
              · have HN := Lib.hid (HX.out.trans (rv_dig 1 t l i hlt hdg))
                clear hdg
                have HP := Lib.hid (show t.put 1 ((byt l i).toNat - 48) = ⟨t.a, t.b * 10 + ((byt l i).toNat - 48), t.c⟩ from rfl)
                have HLP := Lib.hid (Tri.low_put (t := t) (i := i) (k := 1) (d := (byt l i).toNat - 48) HL.out (by omega))
                rw [HP.out] at HN HLP
                obtain ⟨x, hx⟩ : ∃ x, t.b * 10 + ((byt l i).toNat - 48) = x := ⟨_, rfl⟩
                have ex : (t.b : Int) * 10 + (((byt l i).toNat : Int) - 48) = (x : Int) := by omega
                rw [hx] at HN HLP
                clear hx HP
                have f1 := bN.cell 1
                have f2 := bN.frozen 1
                simp at f1
                go_wp2_with fail
                have b1 : IntKind.i64.wrap ((t.b : Int) * 10) = (t.b : Int) * 10 := IntWalk.i64_in _ (by omega)
                have b2 : IntKind.u8.wrap (((byt l i).toNat : Int) - 48) = ((byt l i).toNat : Int) - 48 := IntWalk.u8_in _ (by omega)
                have b3 : IntKind.i64.wrap (((byt l i).toNat : Int) - 48) = ((byt l i).toNat : Int) - 48 := IntWalk.i64_in _ (by omega)
                have b4 : IntKind.i64.wrap (x : Int) = (x : Int) := IntWalk.i64_in _ (by omega)
                go_region_with (fail)
                all_goals
                  clear b1 b2 b3 b4
                  go_wp2_with fail
                  go_roundw
                  case rel => exact ⟨i + 1, ⟨t.a, x, t.c⟩, by omega, by omega, by go_num, by first | exact (bR.set_other _ _ (by omega)).drew | exact bR.drew.set_other _ _ (by omega), by first | exact (bN.set 1 (.int .i64 (x : Int))).drew | exact bN.drew.set 1 (.int .i64 (x : Int)), by first | exact below_drew (hBr.setCell (by first | omega | (simp; done) | (simp; omega)) _) | exact (below_drew hBr).setCell (by first | omega | (simp; done) | (simp; omega)) _, HLP, .inr (.inl ⟨rfl, HN⟩)⟩
                  case measure => first | (simp [intOf]; done) | (simp [intOf]; omega)
              · have HN := Lib.hid (HX.out.trans (rv_dig 2 t l i hlt hdg))
                clear hdg
                have HP := Lib.hid (show t.put 2 ((byt l i).toNat - 48) = ⟨t.a, t.b, t.c * 10 + ((byt l i).toNat - 48)⟩ from rfl)
                have HLP := Lib.hid (Tri.low_put (t := t) (i := i) (k := 2) (d := (byt l i).toNat - 48) HL.out (by omega))
                rw [HP.out] at HN HLP
                obtain ⟨x, hx⟩ : ∃ x, t.c * 10 + ((byt l i).toNat - 48) = x := ⟨_, rfl⟩
                have ex : (t.c : Int) * 10 + (((byt l i).toNat : Int) - 48) = (x : Int) := by omega
                rw [hx] at HN HLP
                clear hx HP
                have f1 := bN.cell 2
                have f2 := bN.frozen 2
                simp at f1
                go_wp2_with fail
                have b1 : IntKind.i64.wrap ((t.c : Int) * 10) = (t.c : Int) * 10 := IntWalk.i64_in _ (by omega)
                have b2 : IntKind.u8.wrap (((byt l i).toNat : Int) - 48) = ((byt l i).toNat : Int) - 48 := IntWalk.u8_in _ (by omega)
                have b3 : IntKind.i64.wrap (((byt l i).toNat : Int) - 48) = ((byt l i).toNat : Int) - 48 := IntWalk.i64_in _ (by omega)
                have b4 : IntKind.i64.wrap (x : Int) = (x : Int) := IntWalk.i64_in _ (by omega)
                go_region_with (fail)
                all_goals
                  clear b1 b2 b3 b4
                  go_wp2_with fail
                  go_roundw
                  case rel => exact ⟨i + 1, ⟨t.a, t.b, x⟩, by omega, by omega, by go_num, by first | exact (bR.set_other _ _ (by omega)).drew | exact bR.drew.set_other _ _ (by omega), by first | exact (bN.set 2 (.int .i64 (x : Int))).drew | exact bN.drew.set 2 (.int .i64 (x : Int)), by first | exact below_drew (hBr.setCell (by first | omega | (simp; done) | (simp; omega)) _) | exact (below_drew hBr).setCell (by first | omega | (simp; done) | (simp; omega)) _, HLP, .inr (.inr ⟨rfl, HN⟩)⟩
                  case measure => first | (simp [intOf]; done) | (simp [intOf]; omega)
            · have hD : (byt l i).toNat < 48 ∨ (48 ≤ (byt l i).toNat ∧ 57 < (byt l i).toNat) := by unfold dgt at hdg; omega
              by_cases h46 : byt l i = 46
              · have T : (((byt l i).toNat : Int) == 46) = true := by rw [h46]; rfl
                rcases ha with ⟨rfl, HX⟩ | ⟨rfl, HX⟩ | ⟨rfl, HX⟩
                · have HN := Lib.hid (HX.out.trans (rv_dot 0 t l i hlt h46 (by decide)))
                  have HLP := Lib.hid (Tri.low_up (t := t) (i := i) HL.out)
                  clear h46 hdg
                  go_wp2_with fail
                  go_roundw
                  case rel => exact ⟨i + 1, t, by omega, by omega, by go_num, bR, bN, hBr, HLP, .inr (.inl ⟨rfl, HN⟩)⟩
                  case measure => first | (simp [intOf]; done) | (simp [intOf]; omega)
                · have HN := Lib.hid (HX.out.trans (rv_dot 1 t l i hlt h46 (by decide)))
                  have HLP := Lib.hid (Tri.low_up (t := t) (i := i) HL.out)
                  clear h46 hdg
                  go_wp2_with fail
                  go_roundw
                  case rel => exact ⟨i + 1, t, by omega, by omega, by go_num, bR, bN, hBr, HLP, .inr (.inr ⟨rfl, HN⟩)⟩
                  case measure => first | (simp [intOf]; done) | (simp [intOf]; omega)
                · have HXX := Lib.hid (rv_none l (HX.out.trans (rv_bad 2 t l i hlt (fun h => absurd h.2 (by decide)) hdg)))
                  have r0 := bR.cell 0
                  have r1 := bR.cell 1
                  have r2 := bR.cell 2
                  have q0 := bR.frozen 0
                  have q1 := bR.frozen 1
                  have q2 := bR.frozen 2
                  simp at r0 r1 r2
                  clear hdg
                  rcases hD with D1 | ⟨D1, D2⟩
                  all_goals
                    go_wp2_with fail
                    exact bodyPost_ret (v := .tuple #[.agg #[.int .i64 0, .int .i64 0, .int .i64 0], .int .i64 8]) (by simp [results, Tryd.results17, go_sem, r0, r1, r2]) rfl ⟨ret_vp HXX.out, by go_grown⟩
              · have T : (((byt l i).toNat : Int) == 46) = false := u8_ne h46
                rcases ha with ⟨rfl, HX⟩ | ⟨rfl, HX⟩ | ⟨rfl, HX⟩
                · have HXX := Lib.hid (rv_none l (HX.out.trans (rv_bad 0 t l i hlt (fun h => h46 h.1) hdg)))
                  have r0 := bR.cell 0
                  have r1 := bR.cell 1
                  have r2 := bR.cell 2
                  have q0 := bR.frozen 0
                  have q1 := bR.frozen 1
                  have q2 := bR.frozen 2
                  simp at r0 r1 r2
                  clear hdg
                  rcases hD with D1 | ⟨D1, D2⟩
                  all_goals
                    go_wp2_with fail
                    exact bodyPost_ret (v := .tuple #[.agg #[.int .i64 0, .int .i64 0, .int .i64 0], .int .i64 8]) (by simp [results, Tryd.results17, go_sem, r0, r1, r2]) rfl ⟨ret_vp HXX.out, by go_grown⟩
                · have HXX := Lib.hid (rv_none l (HX.out.trans (rv_bad 1 t l i hlt (fun h => h46 h.1) hdg)))
                  have r0 := bR.cell 0
                  have r1 := bR.cell 1
                  have r2 := bR.cell 2
                  have q0 := bR.frozen 0
                  have q1 := bR.frozen 1
                  have q2 := bR.frozen 2
                  simp at r0 r1 r2
                  clear hdg
                  rcases hD with D1 | ⟨D1, D2⟩
                  all_goals
                    go_wp2_with fail
                    exact bodyPost_ret (v := .tuple #[.agg #[.int .i64 0, .int .i64 0, .int .i64 0], .int .i64 8]) (by simp [results, Tryd.results17, go_sem, r0, r1, r2]) rfl ⟨ret_vp HXX.out, by go_grown⟩
                · have HXX := Lib.hid (rv_none l (HX.out.trans (rv_bad 2 t l i hlt (fun h => h46 h.1) hdg)))
                  have r0 := bR.cell 0
                  have r1 := bR.cell 1
                  have r2 := bR.cell 2
                  have q0 := bR.frozen 0
                  have q1 := bR.frozen 1
                  have q2 := bR.frozen 2
                  simp at r0 r1 r2
                  clear hdg
                  rcases hD with D1 | ⟨D1, D2⟩
                  all_goals
                    go_wp2_with fail
                    exact bodyPost_ret (v := .tuple #[.agg #[.int .i64 0, .int .i64 0, .int .i64 0], .int .i64 8]) (by simp [results, Tryd.results17, go_sem, r0, r1, r2]) rfl ⟨ret_vp HXX.out, by go_grown⟩
          · rcases ha with ⟨rfl, HX⟩ | ⟨rfl, HX⟩ | ⟨rfl, HX⟩
            · have HXX := Lib.hid (rv_some l t (by rw [HX.out, List.drop_eq_nil_of_le (by omega)]; rfl))
              have f0 := bN.cell 0
              have f1 := bN.cell 1
              have f2 := bN.cell 2
              simp at f0 f1 f2
              go_wp2_with fail
              refine (refText_any _ _ _ _).mono ?_
              rintro e w4 ⟨rfl, hb4⟩
              obtain ⟨b7, hb4⟩ := below_new hb4
              have bR4 := bR.below hb4
              have hB4 := hBr.trans (hb4.mono hBr.size)
              have hlt7 := hBr.size
              have g0 := b7.cell 0
              have g1 := b7.cell 1
              have g2 := b7.cell 2
              have r0 := bR4.cell 0
              have r1 := bR4.cell 1
              have r2 := bR4.cell 2
              have q0 := bR4.frozen 0
              have q1 := bR4.frozen 1
              have q2 := bR4.frozen 2
              simp at g0 g1 g2 r0 r1 r2
              clear f0 f1 f2
              by_cases hte : textV t.ver = l
              · have HTE := Lib.hid hte
                rw [show textV ⟨(t.a : Int), (t.b : Int), (t.c : Int)⟩ = l from hte]
                clear hte
                go_wp2_with fail
                exact bodyPost_ret (v := .tuple #[.agg #[.int .i64 (t.a : Int), .int .i64 (t.b : Int), .int .i64 (t.c : Int)], .int .i64 0]) (by simp [results, Tryd.results17, go_sem, r0, r1, r2]) rfl ⟨ret_vp (by rw [HXX.out, if_pos ((textV_checks _ _ HHD.out).2 HTE.out)]; rfl), by go_grown⟩
              · have T9 : (textV ⟨(t.a : Int), (t.b : Int), (t.c : Int)⟩ == l) = false := by rw [beq_eq_false_iff_ne]; exact hte
                have HTE := Lib.hid hte
                clear hte
                go_wp2_with fail
                exact bodyPost_ret (v := .tuple #[.agg #[.int .i64 0, .int .i64 0, .int .i64 0], .int .i64 8]) (by simp [results, Tryd.results17, go_sem, r0, r1, r2]) rfl ⟨ret_vp (by rw [HXX.out, if_neg (fun h => HTE.out h.2)]; rfl), by go_grown⟩
            · have HXX := Lib.hid (rv_some l t (by rw [HX.out, List.drop_eq_nil_of_le (by omega)]; rfl))
              have f0 := bN.cell 0
              have f1 := bN.cell 1
              have f2 := bN.cell 2
              simp at f0 f1 f2
              go_wp2_with fail
              refine (refText_any _ _ _ _).mono ?_
              rintro e w4 ⟨rfl, hb4⟩
              obtain ⟨b7, hb4⟩ := below_new hb4
              have bR4 := bR.below hb4
              have hB4 := hBr.trans (hb4.mono hBr.size)
              have hlt7 := hBr.size
              have g0 := b7.cell 0
              have g1 := b7.cell 1
              have g2 := b7.cell 2
              have r0 := bR4.cell 0
              have r1 := bR4.cell 1
              have r2 := bR4.cell 2
              have q0 := bR4.frozen 0
              have q1 := bR4.frozen 1
              have q2 := bR4.frozen 2
              simp at g0 g1 g2 r0 r1 r2
              clear f0 f1 f2
              by_cases hte : textV t.ver = l
              · have HTE := Lib.hid hte
                rw [show textV ⟨(t.a : Int), (t.b : Int), (t.c : Int)⟩ = l from hte]
                clear hte
                go_wp2_with fail
                exact bodyPost_ret (v := .tuple #[.agg #[.int .i64 (t.a : Int), .int .i64 (t.b : Int), .int .i64 (t.c : Int)], .int .i64 0]) (by simp [results, Tryd.results17, go_sem, r0, r1, r2]) rfl ⟨ret_vp (by rw [HXX.out, if_pos ((textV_checks _ _ HHD.out).2 HTE.out)]; rfl), by go_grown⟩
              · have T9 : (textV ⟨(t.a : Int), (t.b : Int), (t.c : Int)⟩ == l) = false := by rw [beq_eq_false_iff_ne]; exact hte
                have HTE := Lib.hid hte
                clear hte
                go_wp2_with fail
                exact bodyPost_ret (v := .tuple #[.agg #[.int .i64 0, .int .i64 0, .int .i64 0], .int .i64 8]) (by simp [results, Tryd.results17, go_sem, r0, r1, r2]) rfl ⟨ret_vp (by rw [HXX.out, if_neg (fun h => HTE.out h.2)]; rfl), by go_grown⟩
            · have HXX := Lib.hid (rv_some l t (by rw [HX.out, List.drop_eq_nil_of_le (by omega)]; rfl))
              have f0 := bN.cell 0
              have f1 := bN.cell 1
              have f2 := bN.cell 2
              simp at f0 f1 f2
              go_wp2_with fail
              refine (refText_any _ _ _ _).mono ?_
              rintro e w4 ⟨rfl, hb4⟩
              obtain ⟨b7, hb4⟩ := below_new hb4
              have bR4 := bR.below hb4
              have hB4 := hBr.trans (hb4.mono hBr.size)
              have hlt7 := hBr.size
              have g0 := b7.cell 0
              have g1 := b7.cell 1
              have g2 := b7.cell 2
              have r0 := bR4.cell 0
              have r1 := bR4.cell 1
              have r2 := bR4.cell 2
              have q0 := bR4.frozen 0
              have q1 := bR4.frozen 1
              have q2 := bR4.frozen 2
              simp at g0 g1 g2 r0 r1 r2
              clear f0 f1 f2
              by_cases hte : textV t.ver = l
              · have HTE := Lib.hid hte
                rw [show textV ⟨(t.a : Int), (t.b : Int), (t.c : Int)⟩ = l from hte]
                clear hte
                go_wp2_with fail
                exact bodyPost_ret (v := .tuple #[.agg #[.int .i64 (t.a : Int), .int .i64 (t.b : Int), .int .i64 (t.c : Int)], .int .i64 0]) (by simp [results, Tryd.results17, go_sem, r0, r1, r2]) rfl ⟨ret_vp (by rw [HXX.out, if_pos ((textV_checks _ _ HHD.out).2 HTE.out)]; rfl), by go_grown⟩
              · have T9 : (textV ⟨(t.a : Int), (t.b : Int), (t.c : Int)⟩ == l) = false := by rw [beq_eq_false_iff_ne]; exact hte
                have HTE := Lib.hid hte
                clear hte
                go_wp2_with fail
                exact bodyPost_ret (v := .tuple #[.agg #[.int .i64 0, .int .i64 0, .int .i64 0], .int .i64 8]) (by simp [results, Tryd.results17, go_sem, r0, r1, r2]) rfl ⟨ret_vp (by rw [HXX.out, if_neg (fun h => HTE.out h.2)]; rfl), by go_grown⟩
      · have HP := Lib.hid (parseV_head l (by
          cases l with
          | nil => simp
          | cons c r => intro e; exact hhd (show c = 118 by simpa using e)))
        have T : (((byt l 0).toNat : Int) != 118) = true := by rw [bne_iff_ne]; intro e; exact hhd (UInt8.toNat_inj.1 (by rw [show (118 : UInt8).toNat = 118 from rfl]; omega))
        clear hhd
        go_enter Tryd.func17, Tryd.ntmps17
        go_wp2_with fail
        exact bodyPost_ret (v := .tuple #[.agg #[.int .i64 0, .int .i64 0, .int .i64 0], .int .i64 8]) (by simp [results, Tryd.results17, go_sem]) rfl ⟨ret_vp HP.out, by go_grown⟩
end Go.Proofs.YtppbbalojbedpaaDoor
