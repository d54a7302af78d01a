/- Walks of the versions: Parse. -/
import Derived.Deep.DeepCutAuto
import Derived.Deep.CutBlock
import Derived.Test.YtppbbalojbedpaaDoorSpl
import Derived.Test.YtppbbalojbedpaaDoorVerP
namespace Go.Proofs.YtppbbalojbedpaaDoor
open Go.RowKit

/-- a version and an error -/
def vp (x : Ver × Int) : Value := .tuple #[.agg #[.int .i64 x.1.a, .int .i64 x.1.b, .int .i64 x.1.c], .int .i64 x.2]
def OkV (x : Ver × Int) (w : World) (e : Ending) (w' : World) : Prop := e = .returned (vp x) ∧ Below w.heap.size w w'
theorem ret_vp {a b c e : Int} {x : Ver × Int} (h : x = (⟨a, b, c⟩, e)) : Ending.returned (.tuple #[.agg #[.int .i64 a, .int .i64 b, .int .i64 c], .int .i64 e]) = .returned (vp x) := by rw [h]; rfl
theorem getD_len {P : List (List UInt8)} {n : Nat} (h : ∀ p ∈ P, p.length ≤ n) (k : Nat) : (P.getD k []).length ≤ n := by
  rcases Nat.lt_or_ge k P.length with hk | hk
  · rw [List.getD_eq_getElem?_getD, List.getElem?_eq_getElem hk]; exact h _ (List.getElem_mem _)
  · rw [List.getD_eq_getElem?_getD, List.getElem?_eq_none hk]; simp
theorem scells_get (P : List (List UInt8)) (k : Nat) (h : k < P.length) : (scells P)[k]? = some (.string (S (P.getD k []))) := by
  unfold scells
  rw [List.getElem?_map, List.getD_eq_getElem?_getD, List.getElem?_eq_getElem h]; rfl
theorem pre_head (l : List UInt8) : Lib.hasPrefix l [118] = decide (l.head? = some 118) := by
  cases l with
  | nil => rfl
  | cons c r =>
    by_cases h : c = 118
    · subst h; simp [Lib.hasPrefix, List.isPrefixOf]
    · have h2 : (118 == c) = false := by rw [beq_eq_false_iff_ne]; exact fun e => h e.symm
      simp [Lib.hasPrefix, List.isPrefixOf, h, h2]
set_option maxHeartbeats 4000000 in
set_option maxRecDepth 100000 in
theorem Parse_any (l : List UInt8) (w : World) (hl : l.length ≤ 1000000) (hE : NumOk w) (hM : MaxOk w) : Calls Tryd.prog 16 #[.string (S l)] w (OkV (parseV l) w) := by
  by_cases hlong : 15 < l.length
  · have HP := Lib.hid (parseV_no l fun v hv e => by have := textV_len v; rw [e] at this; omega)
    go_enter Tryd.func16, Tryd.ntmps16
    go_wp2_with fail
    exact bodyPost_ret (v := .tuple #[.agg #[.int .i64 0, .int .i64 0, .int .i64 0], .int .i64 8]) (by simp [results, Tryd.results16, go_sem]) rfl ⟨ret_vp HP.out, by go_grown⟩
  · by_cases hhd : l.head? = some 118
    · have hpre : Lib.hasPrefix l [118] = true := by rw [pre_head, hhd]; rfl
      have HPR := Lib.hid hpre
      have HHD := Lib.hid hhd
      have HE := Lib.hid hE
      have HM := Lib.hid hM
      have hl15 : l.length ≤ 15 := by omega
      have hl1 : 1 ≤ l.length := by cases l with | nil => cases hhd | cons c r => simp
      obtain ⟨r, hr⟩ : ∃ r, l.drop 1 = r := ⟨_, rfl⟩
      have hsl : sl l 1 l.length = r := by rw [sl_from, hr]
      have hr15 : r.length ≤ 15 := by rw [← hr, List.length_drop]; omega
      have HR := Lib.hid hr
      clear hr hpre hhd hE hM hlong hl
      obtain ⟨P, hP⟩ : ∃ P, splitC 46 r = P := ⟨_, rfl⟩
      have hPn : 0 < P.length := by rw [← hP]; exact List.length_pos_iff.2 (splitC_ne _ _)
      have hPm : P.length ≤ 16 := by rw [← hP, splitC_len]; have := List.count_le_length (a := (46 : UInt8)) (l := r); omega
      have HPM : Hid (∀ p ∈ P, p.length ≤ 15) := Lib.hid (fun p hp => by have := splitC_mem_len 46 r p (by rw [hP]; exact hp); omega)
      have HP := Lib.hid hP
      clear hP
      have HT : ∀ k, (k = 3 ∨ P.length ≠ 3) → parseV l = if vldV (tup P k) = true ∧ textV (tup P k) = l then (tup P k, 0) else (zeroV, 8) := fun k hk => by
        have := prog_pieces l k; rw [HR.out, HP.out] at this; exact this hk
      have HTT := Lib.hid HT
      clear HT
      obtain ⟨p0, hp0⟩ : ∃ p, P.getD 0 [] = p := ⟨_, rfl⟩
      obtain ⟨p1, hp1⟩ : ∃ p, P.getD 1 [] = p := ⟨_, rfl⟩
      obtain ⟨p2, hp2⟩ : ∃ p, P.getD 2 [] = p := ⟨_, rfl⟩
      have lp0 : p0.length ≤ 15 := by rw [← hp0]; exact getD_len HPM.out 0
      have lp1 : p1.length ≤ 15 := by rw [← hp1]; exact getD_len HPM.out 1
      have lp2 : p2.length ≤ 15 := by rw [← hp2]; exact getD_len HPM.out 2
      have hg0 : 0 < P.length → (scells P)[0]? = some (.string (S p0)) := fun h => by rw [← hp0]; exact scells_get P 0 h
      have hg1 : 1 < P.length → (scells P)[1]? = some (.string (S p1)) := fun h => by rw [← hp1]; exact scells_get P 1 h
      have hg2 : 2 < P.length → (scells P)[2]? = some (.string (S p2)) := fun h => by rw [← hp2]; exact scells_get P 2 h
      have HG0 := Lib.hid hg0
      have HG1 := Lib.hid hg1
      have HG2 := Lib.hid hg2
      have T0 : Hid (tup P 0 = ⟨0, 0, 0⟩) := Lib.hid rfl
      have T1 : Hid (tup P 1 = ⟨atoiI p0, 0, 0⟩) := Lib.hid (by rw [← hp0]; rfl)
      have T2 : Hid (tup P 2 = ⟨atoiI p0, atoiI p1, 0⟩) := Lib.hid (by rw [← hp0, ← hp1]; rfl)
      have T3 : Hid (tup P 3 = ⟨atoiI p0, atoiI p1, atoiI p2⟩) := Lib.hid (by rw [← hp0, ← hp1, ← hp2]; rfl)
      clear hg0 hg1 hg2 hp0 hp1 hp2
      obtain ⟨a0, ha0⟩ : ∃ a, atoiI p0 = a := ⟨_, rfl⟩
      obtain ⟨a1, ha1⟩ : ∃ a, atoiI p1 = a := ⟨_, rfl⟩
      obtain ⟨a2, ha2⟩ : ∃ a, atoiI p2 = a := ⟨_, rfl⟩
      rw [ha0] at T1 T2 T3
      rw [ha1] at T2 T3
      rw [ha2] at T3
      have HA0 := Lib.hid ha0
      have HA1 := Lib.hid ha1
      have HA2 := Lib.hid ha2
      clear ha0 ha1 ha2
      obtain ⟨M, hM, hM3, hMP, hMe⟩ : ∃ M : Nat, min (P.length : Int) 3 = (M : Int) ∧ M ≤ 3 ∧ M ≤ P.length ∧ (M = 3 ∨ M = P.length ∧ P.length ≠ 3) := ⟨min P.length 3, by omega, by omega, by omega, by omega⟩
      have HME := Lib.hid hMe
      have hM1 : 1 ≤ M := by omega
      clear hMe
      go_enter Tryd.func16, Tryd.ntmps16
      go_wp2_with (go_at_call 29; refine (Tryd.strings_HasPrefix _ _ _).mono ?_; rintro e w' ⟨rfl, rfl⟩; rw [S_data, show Lib.hasPrefix l _ = true from HPR.out])
      refine (Split_any 46 r (by omega) _ (HM.out.below ((Below.refl _ _).alloc (Nat.le_refl _) _))).mono ?_
      rintro e w1 ⟨rfl, hw1⟩
      rw [HP.out] at hw1 ⊢
      go_wp2_with fail
      have bR : Blk ((w.alloc (.cells #[.int .i64 0, .int .i64 0, .int .i64 0] 23)).alloc (.cells (scells P).toArray 9) |>.alloc (.cells #[.int .i64 0, .int .i64 0, .int .i64 0] 36)) w.heap.size #[.int .i64 0, .int .i64 0, .int .i64 0] 23 := ((Blk.new w _ _).alloc _).alloc _
      have bP : Blk ((w.alloc (.cells #[.int .i64 0, .int .i64 0, .int .i64 0] 23)).alloc (.cells (scells P).toArray 9) |>.alloc (.cells #[.int .i64 0, .int .i64 0, .int .i64 0] 36)) (w.heap.size + 1) (scells P).toArray 9 := by
        have := (Blk.new (w.alloc (.cells #[.int .i64 0, .int .i64 0, .int .i64 0] 23)) (scells P).toArray 9).alloc (.cells #[.int .i64 0, .int .i64 0, .int .i64 0] 36)
        simpa using this
      have bN : Blk ((w.alloc (.cells #[.int .i64 0, .int .i64 0, .int .i64 0] 23)).alloc (.cells (scells P).toArray 9) |>.alloc (.cells #[.int .i64 0, .int .i64 0, .int .i64 0] 36)) (w.heap.size + 1 + 1) #[.int .i64 0, .int .i64 0, .int .i64 0] 36 := by
        have := Blk.new ((w.alloc (.cells #[.int .i64 0, .int .i64 0, .int .i64 0] 23)).alloc (.cells (scells P).toArray 9)) #[.int .i64 0, .int .i64 0, .int .i64 0] 36
        simpa using this
      have hB0 : Below w.heap.size w ((w.alloc (.cells #[.int .i64 0, .int .i64 0, .int .i64 0] 23)).alloc (.cells (scells P).toArray 9) |>.alloc (.cells #[.int .i64 0, .int .i64 0, .int .i64 0] 36)) := by go_grown
      generalize ((w.alloc (.cells #[.int .i64 0, .int .i64 0, .int .i64 0] 23)).alloc (.cells (scells P).toArray 9) |>.alloc (.cells #[.int .i64 0, .int .i64 0, .int .i64 0] 36)) = W0 at bR bP bN hB0 ⊢
      go_loopw [23] (fun i wr => Blk wr w.heap.size #[.int .i64 0, .int .i64 0, .int .i64 0] 23 ∧ Blk wr (w.heap.size + 1) (scells P).toArray 9 ∧ Below w.heap.size w wr ∧
          ((i = .int .i64 0 ∧ Blk wr (w.heap.size + 1 + 1) #[.int .i64 0, .int .i64 0, .int .i64 0] 36) ∨ (i = .int .i64 1 ∧ Blk wr (w.heap.size + 1 + 1) #[.int .i64 a0, .int .i64 0, .int .i64 0] 36) ∨ (i = .int .i64 2 ∧ Blk wr (w.heap.size + 1 + 1) #[.int .i64 a0, .int .i64 a1, .int .i64 0] 36) ∨ (i = .int .i64 3 ∧ Blk wr (w.heap.size + 1 + 1) #[.int .i64 a0, .int .i64 a1, .int .i64 a2] 36)))
        (fun i _ => 3 - (intOf i).toNat)
      case atStart => exact ⟨bR, bP, hB0, .inl ⟨rfl, bN⟩⟩
      case round =>
        clear bR bP bN hB0
        obtain ⟨bR, bP, hBr, hi⟩ := hrel
        rcases hi with ⟨rfl, bN⟩ | ⟨rfl, bN⟩ | ⟨rfl, bN⟩ | ⟨rfl, bN⟩
        · by_cases hk : 0 < M
          · have hkP : 0 < P.length := by omega
            have ct : wr.cell? ⟨w.heap.size + 1, 0, none⟩ = some (.string (S p0)) := by rw [bP.cell 0, List.getElem?_toArray]; exact HG0.out hkP
            have f1 := bN.cell 0
            have f2 := bN.frozen 0
            simp at f1
            go_wp2_with fail
            refine (Atoi_any p0 (by omega) _ (HE.out.below hBr)).mono ?_
            rintro e w3 ⟨hb3, ev, rfl⟩
            rw [HA0.out]
            have bN3 := bN.below hb3
            have bR3 := bR.below hb3
            have bP3 := bP.below hb3
            have hB3 := hBr.trans (hb3.mono hBr.size)
            clear ct f1 f2
            have f1 := bN3.cell 0
            have f2 := bN3.frozen 0
            simp at f1
            go_wp2_with fail
            go_roundw
            case rel =>
              refine ⟨bR3.set_other _ _ (by omega), bP3.set_other _ _ (by omega), hB3.setCell (by first | omega | (simp; done) | (simp; omega)) _, .inr (.inl ⟨rfl, ?_⟩)⟩
              exact bN3.set 0 (.int .i64 a0)
            case measure => first | (simp [intOf]; done) | (simp [intOf]; omega)
          · exfalso; omega
        · by_cases hk : 1 < M
          · have hkP : 1 < P.length := by omega
            have ct : wr.cell? ⟨w.heap.size + 1, 1, none⟩ = some (.string (S p1)) := by rw [bP.cell 1, List.getElem?_toArray]; exact HG1.out hkP
            have f1 := bN.cell 1
            have f2 := bN.frozen 1
            simp at f1
            go_wp2_with fail
            refine (Atoi_any p1 (by omega) _ (HE.out.below hBr)).mono ?_
            rintro e w3 ⟨hb3, ev, rfl⟩
            rw [HA1.out]
            have bN3 := bN.below hb3
            have bR3 := bR.below hb3
            have bP3 := bP.below hb3
            have hB3 := hBr.trans (hb3.mono hBr.size)
            clear ct f1 f2
            have f1 := bN3.cell 1
            have f2 := bN3.frozen 1
            simp at f1
            go_wp2_with fail
            go_roundw
            case rel =>
              refine ⟨bR3.set_other _ _ (by omega), bP3.set_other _ _ (by omega), hB3.setCell (by first | omega | (simp; done) | (simp; omega)) _, .inr (.inr (.inl ⟨rfl, ?_⟩))⟩
              exact bN3.set 1 (.int .i64 a1)
            case measure => first | (simp [intOf]; done) | (simp [intOf]; omega)
          · have HX := HTT.out 1 (by have := HME.out; omega)
            rw [T1.out] at HX
            have f0 := bN.cell 0
            have f1 := bN.cell 1
            have f2 := bN.cell 2
            simp at f0 f1 f2
            have HXX := Lib.hid HX
            clear HX
            go_wp2_with fail
            refine (version_any (a0) (0) (0) _).mono ?_
            rintro e w3 ⟨rfl, hb3⟩
            have bR3 := bR.below hb3
            have hB3 := hBr.trans (hb3.mono hBr.size)
            clear f0 f1 f2
            go_wp2_with fail
            refine (Text_any (a0) (0) (0) _ (HE.out.below (hB3.alloc hB3.size _))).mono ?_
            rintro e w4 ⟨rfl, hb4⟩
            obtain ⟨b7, hb4⟩ := below_new hb4
            have bR4 := bR3.below hb4
            have hB4 := hB3.trans (hb4.mono hB3.size)
            have hlt7 := hB3.size
            have g0 := b7.cell 0
            have g1 := b7.cell 1
            have g2 := b7.cell 2
            have r0 := bR4.cell 0
            have r1 := bR4.cell 1
            have r2 := bR4.cell 2
            have q0 := bR4.frozen 0
            have q1 := bR4.frozen 1
            have q2 := bR4.frozen 2
            simp at g0 g1 g2 r0 r1 r2
            by_cases hte : textV ⟨a0, 0, 0⟩ = l
            · have HTE := Lib.hid hte
              rw [hte]
              clear hte
              go_wp2_with fail
              exact bodyPost_ret (v := .tuple #[.agg #[.int .i64 (a0), .int .i64 (0), .int .i64 (0)], .int .i64 0]) (by simp [results, Tryd.results16, go_sem, g0, g1, g2, r0, r1, r2, q0, q1, q2]) rfl ⟨ret_vp (by rw [HXX.out, if_pos ((textV_checks _ _ HHD.out).2 HTE.out)]), by go_grown⟩
            · have T9 : (textV ⟨a0, 0, 0⟩ == l) = false := by rw [beq_eq_false_iff_ne]; exact hte
              have HTE := Lib.hid hte
              clear hte
              go_wp2_with fail
              exact bodyPost_ret (v := .tuple #[.agg #[.int .i64 0, .int .i64 0, .int .i64 0], .int .i64 8]) (by simp [results, Tryd.results16, go_sem, g0, g1, g2, r0, r1, r2, q0, q1, q2]) rfl ⟨ret_vp (by rw [HXX.out, if_neg (fun h => HTE.out h.2)]; rfl), by go_grown⟩
        · by_cases hk : 2 < M
          · have hkP : 2 < P.length := by omega
            have ct : wr.cell? ⟨w.heap.size + 1, 2, none⟩ = some (.string (S p2)) := by rw [bP.cell 2, List.getElem?_toArray]; exact HG2.out hkP
            have f1 := bN.cell 2
            have f2 := bN.frozen 2
            simp at f1
            go_wp2_with fail
            refine (Atoi_any p2 (by omega) _ (HE.out.below hBr)).mono ?_
            rintro e w3 ⟨hb3, ev, rfl⟩
            rw [HA2.out]
            have bN3 := bN.below hb3
            have bR3 := bR.below hb3
            have bP3 := bP.below hb3
            have hB3 := hBr.trans (hb3.mono hBr.size)
            clear ct f1 f2
            have f1 := bN3.cell 2
            have f2 := bN3.frozen 2
            simp at f1
            go_wp2_with fail
            go_roundw
            case rel =>
              refine ⟨bR3.set_other _ _ (by omega), bP3.set_other _ _ (by omega), hB3.setCell (by first | omega | (simp; done) | (simp; omega)) _, .inr (.inr (.inr ⟨rfl, ?_⟩))⟩
              exact bN3.set 2 (.int .i64 a2)
            case measure => first | (simp [intOf]; done) | (simp [intOf]; omega)
          · have HX := HTT.out 2 (by have := HME.out; omega)
            rw [T2.out] at HX
            have f0 := bN.cell 0
            have f1 := bN.cell 1
            have f2 := bN.cell 2
            simp at f0 f1 f2
            have HXX := Lib.hid HX
            clear HX
            go_wp2_with fail
            refine (version_any (a0) (a1) (0) _).mono ?_
            rintro e w3 ⟨rfl, hb3⟩
            have bR3 := bR.below hb3
            have hB3 := hBr.trans (hb3.mono hBr.size)
            clear f0 f1 f2
            go_wp2_with fail
            refine (Text_any (a0) (a1) (0) _ (HE.out.below (hB3.alloc hB3.size _))).mono ?_
            rintro e w4 ⟨rfl, hb4⟩
            obtain ⟨b7, hb4⟩ := below_new hb4
            have bR4 := bR3.below hb4
            have hB4 := hB3.trans (hb4.mono hB3.size)
            have hlt7 := hB3.size
            have g0 := b7.cell 0
            have g1 := b7.cell 1
            have g2 := b7.cell 2
            have r0 := bR4.cell 0
            have r1 := bR4.cell 1
            have r2 := bR4.cell 2
            have q0 := bR4.frozen 0
            have q1 := bR4.frozen 1
            have q2 := bR4.frozen 2
            simp at g0 g1 g2 r0 r1 r2
            by_cases hte : textV ⟨a0, a1, 0⟩ = l
            · have HTE := Lib.hid hte
              rw [hte]
              clear hte
              go_wp2_with fail
              exact bodyPost_ret (v := .tuple #[.agg #[.int .i64 (a0), .int .i64 (a1), .int .i64 (0)], .int .i64 0]) (by simp [results, Tryd.results16, go_sem, g0, g1, g2, r0, r1, r2, q0, q1, q2]) rfl ⟨ret_vp (by rw [HXX.out, if_pos ((textV_checks _ _ HHD.out).2 HTE.out)]), by go_grown⟩
            · have T9 : (textV ⟨a0, a1, 0⟩ == l) = false := by rw [beq_eq_false_iff_ne]; exact hte
              have HTE := Lib.hid hte
              clear hte
              go_wp2_with fail
              exact bodyPost_ret (v := .tuple #[.agg #[.int .i64 0, .int .i64 0, .int .i64 0], .int .i64 8]) (by simp [results, Tryd.results16, go_sem, g0, g1, g2, r0, r1, r2, q0, q1, q2]) rfl ⟨ret_vp (by rw [HXX.out, if_neg (fun h => HTE.out h.2)]; rfl), by go_grown⟩
        · have HX := HTT.out 3 (.inl rfl)
          rw [T3.out] at HX
          have f0 := bN.cell 0
          have f1 := bN.cell 1
          have f2 := bN.cell 2
          simp at f0 f1 f2
          have HXX := Lib.hid HX
          clear HX
          go_wp2_with fail
          refine (version_any (a0) (a1) (a2) _).mono ?_
          rintro e w3 ⟨rfl, hb3⟩
          have bR3 := bR.below hb3
          have hB3 := hBr.trans (hb3.mono hBr.size)
          clear f0 f1 f2
          go_wp2_with fail
          refine (Text_any (a0) (a1) (a2) _ (HE.out.below (hB3.alloc hB3.size _))).mono ?_
          rintro e w4 ⟨rfl, hb4⟩
          obtain ⟨b7, hb4⟩ := below_new hb4
          have bR4 := bR3.below hb4
          have hB4 := hB3.trans (hb4.mono hB3.size)
          have hlt7 := hB3.size
          have g0 := b7.cell 0
          have g1 := b7.cell 1
          have g2 := b7.cell 2
          have r0 := bR4.cell 0
          have r1 := bR4.cell 1
          have r2 := bR4.cell 2
          have q0 := bR4.frozen 0
          have q1 := bR4.frozen 1
          have q2 := bR4.frozen 2
          simp at g0 g1 g2 r0 r1 r2
          by_cases hte : textV ⟨a0, a1, a2⟩ = l
          · have HTE := Lib.hid hte
            rw [hte]
            clear hte
            go_wp2_with fail
            exact bodyPost_ret (v := .tuple #[.agg #[.int .i64 (a0), .int .i64 (a1), .int .i64 (a2)], .int .i64 0]) (by simp [results, Tryd.results16, go_sem, g0, g1, g2, r0, r1, r2, q0, q1, q2]) rfl ⟨ret_vp (by rw [HXX.out, if_pos ((textV_checks _ _ HHD.out).2 HTE.out)]), by go_grown⟩
          · have T9 : (textV ⟨a0, a1, a2⟩ == l) = false := by rw [beq_eq_false_iff_ne]; exact hte
            have HTE := Lib.hid hte
            clear hte
            go_wp2_with fail
            exact bodyPost_ret (v := .tuple #[.agg #[.int .i64 0, .int .i64 0, .int .i64 0], .int .i64 8]) (by simp [results, Tryd.results16, go_sem, g0, g1, g2, r0, r1, r2, q0, q1, q2]) rfl ⟨ret_vp (by rw [HXX.out, if_neg (fun h => HTE.out h.2)]; rfl), by go_grown⟩
    · have HP := Lib.hid (parseV_head l hhd)
      have HPR : Hid (Lib.hasPrefix l [118] = false) := Lib.hid (by rw [pre_head]; simpa using hhd)
      clear hhd
      go_enter Tryd.func16, Tryd.ntmps16
      go_wp2_with (go_at_call 29; refine (Tryd.strings_HasPrefix _ _ _).mono ?_; rintro e w' ⟨rfl, rfl⟩; rw [S_data, show Lib.hasPrefix l _ = false from HPR.out])
      exact bodyPost_ret (v := .tuple #[.agg #[.int .i64 0, .int .i64 0, .int .i64 0], .int .i64 8]) (by simp [results, Tryd.results16, go_sem]) rfl ⟨ret_vp HP.out, by go_grown⟩
end Go.Proofs.YtppbbalojbedpaaDoor
