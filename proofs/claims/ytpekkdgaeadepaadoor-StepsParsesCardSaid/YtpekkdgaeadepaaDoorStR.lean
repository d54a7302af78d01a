/- Walks of the steps: Parse, the walk. -/
import Derived.Test.YtpekkdgaeadepaaDoorStQ
namespace Go.Proofs.YtpekkdgaeadepaaDoor
open Go.RowKit

theorem own_form {W : World} {base : Nat} {e : TypeId} {size : Nat} {v : Value} {n : Nat} {xs : List Value} (h : W.ownsRow base e size v n xs) : ∃ p cap, v = .slice p n cap := by
  rcases h.2 with ⟨hv, h0⟩ | ⟨g, cap, cur, hv, -⟩
  · exact ⟨none, 0, by rw [hv, h0]⟩
  · exact ⟨_, cap, hv⟩
set_option maxRecDepth 100000 in
set_option maxHeartbeats 16000000 in
theorem Parse_any (s : List UInt8) (hs : s.length ≤ 70000) (w : World) (hE : StOk w) : Calls Tryd.prog 17 #[.string (S s)] w (ParR (parseP s) w) := by
  obtain ⟨r, hr⟩ : ∃ r, parseP s = r := ⟨_, rfl⟩
  rw [hr]
  have HE := Lib.hid hE
  clear hE
  unfold parseP at hr
  by_cases hbig : 65536 < s.length
  · rw [if_pos hbig] at hr
    subst hr
    go_enter Tryd.func17, Tryd.ntmps17
    go_wp2_with fail
    exact bodyPost_ret (v := .tuple #[.slice none 0 0, .agg #[.int .i64 2, .int .i64 0]]) (by simp [results, Tryd.results17, go_sem]) rfl ⟨_, rfl, .inl ⟨⟨_, _, rfl⟩, rfl⟩, by go_grown⟩
  rw [if_neg hbig] at hr
  rcases (bool_two (s == [46])).symm with hd | hd
  · rw [if_pos hd] at hr
    subst hr
    go_enter Tryd.func17, Tryd.ntmps17
    go_wp2_with fail
    exact bodyPost_ret (v := .tuple #[.slice none 0 0, .agg #[.int .i64 0, .int .i64 0]]) (by simp [results, Tryd.results17, go_sem]) rfl ⟨_, rfl, .inl ⟨⟨_, _, rfl⟩, rfl⟩, by go_grown⟩
  rw [if_neg (by rw [hd]; decide)] at hr
  have hways : (s.isEmpty = true) ∨ (s.isEmpty = false ∧ 0 < s.length ∧ (((byt s 0).toNat : Int) == 46) = false) ∨ (s.isEmpty = false ∧ 0 < s.length ∧ (((byt s 0).toNat : Int) == 46) = true) := by
    cases s with
    | nil => exact .inl rfl
    | cons c t => rcases bool_two (((byt (c :: t) 0).toNat : Int) == 46) with h | h
                  · exact .inr (.inl ⟨rfl, by simp, h⟩)
                  · exact .inr (.inr ⟨rfl, by simp, h⟩)
  have hfin : ((s.isEmpty = true) ∨ (s.isEmpty = false ∧ 0 < s.length ∧ (((byt s 0).toNat : Int) == 46) = false)) → pgo s (s.length + 1) 0 [] = r := by
    intro h
    rw [if_neg (by rcases h with h | ⟨h, -, h'⟩
                   · rw [h]; simp
                   · rw [h, show isB (byt s 0) 46 = false from h']; simp)] at hr
    exact hr
  have g0 : decide ((65536 : Int) < (s.length : Int)) = false := by first | (simp; done) | (simp; omega)
  rcases hways with he | ⟨he, h0, h46⟩ | ⟨he, h0, h46⟩
  rotate_right
  · rw [if_pos (by rw [he, show isB (byt s 0) 46 = true from h46]; rfl)] at hr
    subst hr
    have hd' : (s != [46]) = true := by rw [bne, hd]; rfl
    go_enter Tryd.func17, Tryd.ntmps17
    go_wp2_with fail
    exact bodyPost_ret (v := .tuple #[.slice none 0 0, .agg #[.int .i64 8, .int .i64 1]]) (by simp [results, Tryd.results17, go_sem]) rfl ⟨_, rfl, .inl ⟨⟨_, _, rfl⟩, rfl⟩, by go_grown⟩
  · have hse : s = [] := by cases s with
      | nil => rfl
      | cons => cases he
    subst hse
    have hr2 : r = ([], 8, 0) := (hfin (.inl rfl)).symm.trans (by decide)
    subst hr2
    have HLB : Hid (labP [] = (noS, 0, false)) := Lib.hid (by decide)
    clear hfin hr
    go_enter Tryd.func17, Tryd.ntmps17
    go_wp2_with fail
    have hB0 := Blk.new w #[.int .i64 0, .int .i64 0] 28
    have hb0 : Below w.heap.size w (w.alloc (.cells #[.int .i64 0, .int .i64 0] 28)) := by go_grown
    generalize w.alloc (.cells #[.int .i64 0, .int .i64 0] 28) = W0 at hB0 hb0 ⊢
    go_loopw [4, 5] (fun v i wr => v = .slice none 0 0 ∧ i = .int .i64 0 ∧ wr = W0) (fun _ _ _ => 0)
    case atStart => exact ⟨rfl, rfl, rfl⟩
    case round =>
      obtain ⟨rfl, rfl, rfl⟩ := hrel
      go_wp2_with fail
      refine (label_any [] (by decide) _ (HE.out.below hb0)).mono ?_
      rintro e w1 ⟨rfl, hb1⟩
      rw [HLB.out]
      unfold rdv
      have B1 := hB0.below hb1
      have HW1 := Lib.hid (hb0.trans (hb1.mono hb0.size))
      have f0 := B1.frozen 0
      have f1 := B1.frozen 1
      have x0 := B1.cell 0
      have x1 := B1.cell 1
      have hlB := B1.lt
      simp at x0 x1
      clear hb1
      have hn1 : ¬ w.heap.size = w1.heap.size := by omega
      have hn2 : ¬ w1.heap.size = w.heap.size := by omega
      go_wp2_with fail
      exact bodyPost_ret (v := .tuple #[.slice none 0 0, .agg #[.int .i64 8, .int .i64 0]]) (by simp [results, Tryd.results17, go_sem, x0, x1, hlB]) rfl ⟨_, rfl, .inl ⟨⟨_, _, rfl⟩, rfl⟩, by first | exact ((HW1.out.setCell (Nat.le_refl _) _).setCell (Nat.le_refl _) _).alloc (by simp; omega) _ | exact ((HW1.out.alloc HW1.out.size _).setCell (Nat.le_refl _) _).setCell (Nat.le_refl _) _⟩
  · have HQ0 := Lib.hid (hfin (.inr ⟨he, h0, h46⟩))
    clear hfin hr
    obtain ⟨i0, hi, hz0, hz1, hz2⟩ := info_parts infoStp
    go_enter Tryd.func17, Tryd.ntmps17
    go_wp2_with fail
    have hB0 := Blk.new w #[.int .i64 0, .int .i64 0] 28
    have hb0 : Below w.heap.size w (w.alloc (.cells #[.int .i64 0, .int .i64 0] 28)) := by go_grown
    have hs0 : w.heap.size + 1 ≤ (w.alloc (.cells #[.int .i64 0, .int .i64 0] 28)).heap.size := by simp
    generalize w.alloc (.cells #[.int .i64 0, .int .i64 0] 28) = W0 at hB0 hb0 hs0 ⊢
    have HB0 := Lib.hid hB0
    have Hb0 := Lib.hid hb0
    go_loopg [4, 5] (s.length + 1) (fun f v i wr => ∃ (a : Nat) (L : List Stp), i = .int .i64 (a : Int) ∧ a ≤ s.length ∧ s.length + 1 ≤ a + f ∧ L.length ≤ a ∧ wr.ownsRow (w.heap.size + 1) 37 2 v L.length (flatC L) ∧ Hid (pgo s f a L = r ∧ Below (w.heap.size + 1) W0 wr))
    case atStart => exact ⟨0, [], rfl, Nat.zero_le _, by omega, Nat.le_refl _, World.ownsRow_nil _ _ _ _, Lib.hid ⟨HQ0.out, Below.refl _ _⟩⟩
    case round =>
      clear hB0 hb0 HQ0
      obtain ⟨a, L, rfl, ha, hf0, hLa, hown, HQ⟩ := hrel
      obtain ⟨f, hf⟩ : ∃ f, gk = f + 1 := ⟨gk - 1, by omega⟩
      have HBB := Lib.hid HQ.out.2
      have BN := HB0.out.underB HQ.out.2 (Nat.lt_succ_self _)
      have HW := Lib.hid (Hb0.out.trans (HQ.out.2.mono (Nat.le_succ _)))
      have hsz : w.heap.size + 1 ≤ wr.heap.size := Nat.le_trans hs0 HQ.out.2.size
      have BNH := Lib.hid BN
      have hqq := HQ.out.1
      rw [hf, pgo] at hqq
      clear HQ
      have f0 := BN.frozen 0
      have f1 := BN.frozen 1
      have x0 := BN.cell 0
      have x1 := BN.cell 1
      simp at x0 x1
      clear BN
      have a0 : (0 : Int) ≤ (a : Int) := by omega
      have a1 : (a : Int) ≤ (s.length : Int) := by omega
      obtain ⟨vp, vc, rfl⟩ := own_form hown
      by_cases hL : L = []
      · subst hL
        simp only [List.isEmpty_nil, Bool.not_true, Bool.and_false, Bool.false_and, Bool.false_eq_true, if_false] at hqq
        by_cases hlt : a < s.length
        · have a2 : (a : Int) < (s.length : Int) := by omega
          rcases (bool_two (isB (byt s a) 91)).symm with h91 | h91
          · have e91 : (((byt s a).toNat : Int) == 91) = true := h91
            unfold rdAt at hqq
            simp only [decide_eq_true hlt, h91, Bool.and_self, if_true] at hqq
            clear h91
            have hle := idxP_le (sl s a s.length) (by rw [sl_len s a s.length (by omega) (Nat.le_refl _)]; omega)
            obtain ⟨⟨⟨xl, xi⟩, xn, xo⟩, hrd⟩ : ∃ x, idxP (sl s (a) s.length) = x := ⟨_, rfl⟩
            have HRD := Lib.hid hrd
            rw [hrd] at hqq hle
            simp only at hqq hle
            have HQQ := Lib.hid hqq
            have hsl : (sl s (a) s.length).length = s.length - (a) := sl_len s (a) s.length (by omega) (Nat.le_refl _)
            rw [hsl] at hle
            have hsl2 : (sl s (a) s.length).length ≤ 100000 := by omega
            clear hqq hrd
            go_wp2_with fail
            refine (index_any _ hsl2 (by rw [hsl]; omega) _).mono ?_
            rintro e w1 ⟨rfl, hb1⟩
            rw [HRD.out]
            unfold rdv
            have B1 := BNH.out.below hb1
            have HW1 := Lib.hid (HW.out.trans (hb1.mono HW.out.size))
            have HB1 := Lib.hid (HBB.out.trans (hb1.mono hsz))
            have own1 := own_under hown hb1
            have hsz1 : w.heap.size + 1 ≤ w1.heap.size := Nat.le_trans hsz hb1.size
            clear hb1 x0 x1 f0 f1 hown
            have hlB := B1.lt
            have f0 := B1.frozen 0
            have f1 := B1.frozen 1
            have x0 := B1.cell 0
            have x1 := B1.cell 1
            simp at x0 x1
            rcases bool_two xo with rfl | rfl
            · have hq := HQQ.out
              simp only [Bool.false_eq_true, if_false] at hq
              subst hq
              have hn : xn ≤ s.length + 1 := by omega
              have hn1 : ¬ w.heap.size = w1.heap.size := by omega
              have hn2 : ¬ w1.heap.size = w.heap.size := by omega
              go_wp2_with fail
              exact bodyPost_ret (v := .tuple #[.slice none 0 0, .agg #[.int .i64 8, .int .i64 (((a) + xn : Nat) : Int)]]) (by simp [results, Tryd.results17, go_sem, x0, x1, hlB]) rfl ⟨_, rfl, .inl ⟨⟨_, _, rfl⟩, rfl⟩, by first | exact ((HW1.out.setCell (Nat.le_refl _) _).setCell (Nat.le_refl _) _).alloc (by simp; omega) _ | exact ((HW1.out.alloc HW1.out.size _).setCell (Nat.le_refl _) _).setCell (Nat.le_refl _) _⟩
            · have hq := HQQ.out
              simp only [if_true] at hq
              have HQ4 := Lib.hid hq
              have hn := hle.2 rfl
              clear hq HQQ
              go_wp2_with (at_builtin; refine wpList_append_own _ rfl _ _ 22 rfl (w.heap.size + 1) 37 i0 (.agg #[.string ⟨#[]⟩, .int .i64 0]) 2 24 Tryd.underlying22 hi hz0 hz1 hz2 rfl (by decide) _ _ _ rfl ((own1.alloc _).alloc _) ⟨w1.heap.size + 1, 0, none⟩ 1 1 [.string (S xl), .int .i64 xi] rfl rfl (by have h := cell_two_new (w1.alloc (.cells #[.string (S xl), .int .i64 xi] 37)) (.string (S xl)) (.int .i64 xi) 37; simpa using h) (by simp [Value.oneCell']) (by unfold maxLen; omega) (by omega) (by simp; omega) ?_; intro v' w2 hown2 hgrow _)
              have HB2 := Lib.hid (own_below1 (HB1.out.alloc hsz1 _) (own1.alloc _) hgrow (by simp; omega))
              have hown3 : w2.ownsRow (w.heap.size + 1) 37 2 v' (([] : List Stp) ++ [(⟨xl, xi⟩ : Stp)]).length (flatC (([] : List Stp) ++ [(⟨xl, xi⟩ : Stp)])) := by rw [flat_snoc, List.length_append]; exact hown2
              clear hgrow own1 x0 x1 f0 f1
              go_wp2_with fail
              go_roundg f
              case measure => omega
              case rel => exact ⟨(a) + xn, ([] : List Stp) ++ [(⟨xl, xi⟩ : Stp)], rfl, by omega, by omega, by simp; omega, hown3, Lib.hid ⟨HQ4.out, HB2.out⟩⟩
          · have e91 : (((byt s a).toNat : Int) == 91) = false := h91
            unfold rdAt at hqq
            simp only [decide_eq_true hlt, h91, Bool.and_false, Bool.false_eq_true, if_false, List.isEmpty_nil, if_true] at hqq
            clear h91
            have hle := labP_le (sl s a s.length)
            obtain ⟨⟨⟨xl, xi⟩, xn, xo⟩, hrd⟩ : ∃ x, labP (sl s (a) s.length) = x := ⟨_, rfl⟩
            have HRD := Lib.hid hrd
            rw [hrd] at hqq hle
            simp only at hqq hle
            have HQQ := Lib.hid hqq
            have hsl : (sl s (a) s.length).length = s.length - (a) := sl_len s (a) s.length (by omega) (Nat.le_refl _)
            rw [hsl] at hle
            have hsl2 : (sl s (a) s.length).length ≤ 100000 := by omega
            clear hqq hrd
            go_wp2_with fail
            refine (label_any _ hsl2 _ (HE.out.below HW.out)).mono ?_
            rintro e w1 ⟨rfl, hb1⟩
            rw [HRD.out]
            unfold rdv
            have B1 := BNH.out.below hb1
            have HW1 := Lib.hid (HW.out.trans (hb1.mono HW.out.size))
            have HB1 := Lib.hid (HBB.out.trans (hb1.mono hsz))
            have own1 := own_under hown hb1
            have hsz1 : w.heap.size + 1 ≤ w1.heap.size := Nat.le_trans hsz hb1.size
            clear hb1 x0 x1 f0 f1 hown
            have hlB := B1.lt
            have f0 := B1.frozen 0
            have f1 := B1.frozen 1
            have x0 := B1.cell 0
            have x1 := B1.cell 1
            simp at x0 x1
            rcases bool_two xo with rfl | rfl
            · have hq := HQQ.out
              simp only [Bool.false_eq_true, if_false] at hq
              subst hq
              have hn : xn ≤ s.length + 1 := by omega
              have hn1 : ¬ w.heap.size = w1.heap.size := by omega
              have hn2 : ¬ w1.heap.size = w.heap.size := by omega
              go_wp2_with fail
              exact bodyPost_ret (v := .tuple #[.slice none 0 0, .agg #[.int .i64 8, .int .i64 (((a) + xn : Nat) : Int)]]) (by simp [results, Tryd.results17, go_sem, x0, x1, hlB]) rfl ⟨_, rfl, .inl ⟨⟨_, _, rfl⟩, rfl⟩, by first | exact ((HW1.out.setCell (Nat.le_refl _) _).setCell (Nat.le_refl _) _).alloc (by simp; omega) _ | exact ((HW1.out.alloc HW1.out.size _).setCell (Nat.le_refl _) _).setCell (Nat.le_refl _) _⟩
            · have hq := HQQ.out
              simp only [if_true] at hq
              have HQ4 := Lib.hid hq
              have hn := hle.2 rfl
              clear hq HQQ
              go_wp2_with (at_builtin; refine wpList_append_own _ rfl _ _ 22 rfl (w.heap.size + 1) 37 i0 (.agg #[.string ⟨#[]⟩, .int .i64 0]) 2 24 Tryd.underlying22 hi hz0 hz1 hz2 rfl (by decide) _ _ _ rfl ((own1.alloc _).alloc _) ⟨w1.heap.size + 1, 0, none⟩ 1 1 [.string (S xl), .int .i64 xi] rfl rfl (by have h := cell_two_new (w1.alloc (.cells #[.string (S xl), .int .i64 xi] 37)) (.string (S xl)) (.int .i64 xi) 37; simpa using h) (by simp [Value.oneCell']) (by unfold maxLen; omega) (by omega) (by simp; omega) ?_; intro v' w2 hown2 hgrow _)
              have HB2 := Lib.hid (own_below1 (HB1.out.alloc hsz1 _) (own1.alloc _) hgrow (by simp; omega))
              have hown3 : w2.ownsRow (w.heap.size + 1) 37 2 v' (([] : List Stp) ++ [(⟨xl, xi⟩ : Stp)]).length (flatC (([] : List Stp) ++ [(⟨xl, xi⟩ : Stp)])) := by rw [flat_snoc, List.length_append]; exact hown2
              clear hgrow own1 x0 x1 f0 f1
              go_wp2_with fail
              go_roundg f
              case measure => omega
              case rel => exact ⟨(a) + xn, ([] : List Stp) ++ [(⟨xl, xi⟩ : Stp)], rfl, by omega, by omega, by simp; omega, hown3, Lib.hid ⟨HQ4.out, HB2.out⟩⟩
        · have hal : a = s.length := by omega
          subst hal
          have a3 : decide ((s.length : Int) < (s.length : Int)) = false := by first | (simp; done) | (simp; omega)
          have hsl0 : sl s s.length s.length = [] := by rw [sl_from]; simp
          have HLB : Hid (labP [] = (noS, 0, false)) := Lib.hid (by decide)
          unfold rdAt at hqq
          simp only [decide_eq_false hlt, Bool.false_and, Bool.false_eq_true, if_false, List.isEmpty_nil, if_true, hsl0, HLB.out, Nat.add_zero] at hqq
          subst hqq
          clear hown hlt
          go_wp2_with fail
          refine (label_any [] (by decide) _ (HE.out.below HW.out)).mono ?_
          rintro e w1 ⟨rfl, hb1⟩
          rw [HLB.out]
          unfold rdv
          have B1 := BNH.out.below hb1
          have HW1 := Lib.hid (HW.out.trans (hb1.mono HW.out.size))
          clear hb1 x0 x1 f0 f1
          have hlB := B1.lt
          have f0 := B1.frozen 0
          have f1 := B1.frozen 1
          have x0 := B1.cell 0
          have x1 := B1.cell 1
          simp at x0 x1
          have hn1 : ¬ w.heap.size = w1.heap.size := by omega
          have hn2 : ¬ w1.heap.size = w.heap.size := by omega
          go_wp2_with fail
          exact bodyPost_ret (v := .tuple #[.slice none 0 0, .agg #[.int .i64 8, .int .i64 ((s.length : Nat) : Int)]]) (by simp [results, Tryd.results17, go_sem, x0, x1, hlB]) rfl ⟨_, rfl, .inl ⟨⟨_, _, rfl⟩, rfl⟩, by first | exact ((HW1.out.setCell (Nat.le_refl _) _).setCell (Nat.le_refl _) _).alloc (by simp; omega) _ | exact ((HW1.out.alloc HW1.out.size _).setCell (Nat.le_refl _) _).setCell (Nat.le_refl _) _⟩
      · have hLe : L.isEmpty = false := by cases L with
          | nil => exact absurd rfl hL
          | cons => rfl
        have hLl : 0 < L.length := List.length_pos_iff.2 hL
        have l1 : ((L.length : Int) == 0) = false := by rw [beq_eq_false_iff_ne]; omega
        have l2 : decide ((0 : Int) < (L.length : Int)) = true := by first | (simp; done) | (simp; omega)
        simp only [hLe, Bool.not_false, Bool.and_true, Bool.true_and] at hqq
        by_cases hlt : a < s.length
        · have a2 : (a : Int) < (s.length : Int) := by omega
          simp only [decide_eq_true hlt, Bool.not_true, Bool.false_eq_true, if_false, Bool.true_and] at hqq
          rcases (bool_two (isB (byt s a) 91)).symm with h91 | h91
          · have e91 : (((byt s a).toNat : Int) == 91) = true := h91
            unfold rdAt at hqq
            simp only [decide_eq_true hlt, h91, Bool.and_self, Bool.not_true, Bool.false_and, Bool.false_eq_true, if_false, if_true] at hqq
            clear h91 hL
            have hle := idxP_le (sl s a s.length) (by rw [sl_len s a s.length (by omega) (Nat.le_refl _)]; omega)
            obtain ⟨⟨⟨xl, xi⟩, xn, xo⟩, hrd⟩ : ∃ x, idxP (sl s (a) s.length) = x := ⟨_, rfl⟩
            have HRD := Lib.hid hrd
            rw [hrd] at hqq hle
            simp only at hqq hle
            have HQQ := Lib.hid hqq
            have hsl : (sl s (a) s.length).length = s.length - (a) := sl_len s (a) s.length (by omega) (Nat.le_refl _)
            rw [hsl] at hle
            have hsl2 : (sl s (a) s.length).length ≤ 100000 := by omega
            clear hqq hrd
            go_wp2_with fail
            refine (index_any _ hsl2 (by rw [hsl]; omega) _).mono ?_
            rintro e w1 ⟨rfl, hb1⟩
            rw [HRD.out]
            unfold rdv
            have B1 := BNH.out.below hb1
            have HW1 := Lib.hid (HW.out.trans (hb1.mono HW.out.size))
            have HB1 := Lib.hid (HBB.out.trans (hb1.mono hsz))
            have own1 := own_under hown hb1
            have hsz1 : w.heap.size + 1 ≤ w1.heap.size := Nat.le_trans hsz hb1.size
            clear hb1 x0 x1 f0 f1 hown
            have hlB := B1.lt
            have f0 := B1.frozen 0
            have f1 := B1.frozen 1
            have x0 := B1.cell 0
            have x1 := B1.cell 1
            simp at x0 x1
            rcases bool_two xo with rfl | rfl
            · have hq := HQQ.out
              simp only [Bool.false_eq_true, if_false] at hq
              subst hq
              have hn : xn ≤ s.length + 1 := by omega
              have hn1 : ¬ w.heap.size = w1.heap.size := by omega
              have hn2 : ¬ w1.heap.size = w.heap.size := by omega
              go_wp2_with fail
              exact bodyPost_ret (v := .tuple #[.slice none 0 0, .agg #[.int .i64 8, .int .i64 (((a) + xn : Nat) : Int)]]) (by simp [results, Tryd.results17, go_sem, x0, x1, hlB]) rfl ⟨_, rfl, .inl ⟨⟨_, _, rfl⟩, rfl⟩, by first | exact ((HW1.out.setCell (Nat.le_refl _) _).setCell (Nat.le_refl _) _).alloc (by simp; omega) _ | exact ((HW1.out.alloc HW1.out.size _).setCell (Nat.le_refl _) _).setCell (Nat.le_refl _) _⟩
            · have hq := HQQ.out
              simp only [if_true] at hq
              have HQ4 := Lib.hid hq
              have hn := hle.2 rfl
              clear hq HQQ
              go_wp2_with (at_builtin; refine wpList_append_own _ rfl _ _ 22 rfl (w.heap.size + 1) 37 i0 (.agg #[.string ⟨#[]⟩, .int .i64 0]) 2 24 Tryd.underlying22 hi hz0 hz1 hz2 rfl (by decide) _ _ _ rfl ((own1.alloc _).alloc _) ⟨w1.heap.size + 1, 0, none⟩ 1 1 [.string (S xl), .int .i64 xi] rfl rfl (by have h := cell_two_new (w1.alloc (.cells #[.string (S xl), .int .i64 xi] 37)) (.string (S xl)) (.int .i64 xi) 37; simpa using h) (by simp [Value.oneCell']) (by unfold maxLen; omega) (by omega) (by simp; omega) ?_; intro v' w2 hown2 hgrow _)
              have HB2 := Lib.hid (own_below1 (HB1.out.alloc hsz1 _) (own1.alloc _) hgrow (by simp; omega))
              have hown3 : w2.ownsRow (w.heap.size + 1) 37 2 v' (L ++ [(⟨xl, xi⟩ : Stp)]).length (flatC (L ++ [(⟨xl, xi⟩ : Stp)])) := by rw [flat_snoc, List.length_append]; exact hown2
              clear hgrow own1 x0 x1 f0 f1
              go_wp2_with fail
              go_roundg f
              case measure => omega
              case rel => exact ⟨(a) + xn, L ++ [(⟨xl, xi⟩ : Stp)], rfl, by omega, by omega, by simp; omega, hown3, Lib.hid ⟨HQ4.out, HB2.out⟩⟩
          · have e91 : (((byt s a).toNat : Int) == 91) = false := h91
            rcases (bool_two (isB (byt s a) 46)).symm with h46 | h46
            · have e46 : (((byt s a).toNat : Int) == 46) = true := h46
              have e46' : (((byt s a).toNat : Int) != 46) = false := by rw [bne, e46]; rfl
              unfold rdAt at hqq
              simp only [decide_eq_true hlt, h91, h46, hLe, Bool.and_false, Bool.not_false, Bool.not_true, Bool.false_eq_true, if_false] at hqq
              clear h91 h46 hL
              have hle := labP_le (sl s (a + 1) s.length)
              obtain ⟨⟨⟨xl, xi⟩, xn, xo⟩, hrd⟩ : ∃ x, labP (sl s (a + 1) s.length) = x := ⟨_, rfl⟩
              have HRD := Lib.hid hrd
              rw [hrd] at hqq hle
              simp only at hqq hle
              have HQQ := Lib.hid hqq
              have hsl : (sl s (a + 1) s.length).length = s.length - (a + 1) := sl_len s (a + 1) s.length (by omega) (Nat.le_refl _)
              rw [hsl] at hle
              have hsl2 : (sl s (a + 1) s.length).length ≤ 100000 := by omega
              clear hqq hrd
              go_wp2_with fail
              refine (label_any _ hsl2 _ (HE.out.below HW.out)).mono ?_
              rintro e w1 ⟨rfl, hb1⟩
              rw [HRD.out]
              unfold rdv
              have B1 := BNH.out.below hb1
              have HW1 := Lib.hid (HW.out.trans (hb1.mono HW.out.size))
              have HB1 := Lib.hid (HBB.out.trans (hb1.mono hsz))
              have own1 := own_under hown hb1
              have hsz1 : w.heap.size + 1 ≤ w1.heap.size := Nat.le_trans hsz hb1.size
              clear hb1 x0 x1 f0 f1 hown
              have hlB := B1.lt
              have f0 := B1.frozen 0
              have f1 := B1.frozen 1
              have x0 := B1.cell 0
              have x1 := B1.cell 1
              simp at x0 x1
              rcases bool_two xo with rfl | rfl
              · have hq := HQQ.out
                simp only [Bool.false_eq_true, if_false] at hq
                subst hq
                have hn : xn ≤ s.length + 1 := by omega
                have hn1 : ¬ w.heap.size = w1.heap.size := by omega
                have hn2 : ¬ w1.heap.size = w.heap.size := by omega
                go_wp2_with fail
                exact bodyPost_ret (v := .tuple #[.slice none 0 0, .agg #[.int .i64 8, .int .i64 (((a + 1) + xn : Nat) : Int)]]) (by simp [results, Tryd.results17, go_sem, x0, x1, hlB]) rfl ⟨_, rfl, .inl ⟨⟨_, _, rfl⟩, rfl⟩, by first | exact ((HW1.out.setCell (Nat.le_refl _) _).setCell (Nat.le_refl _) _).alloc (by simp; omega) _ | exact ((HW1.out.alloc HW1.out.size _).setCell (Nat.le_refl _) _).setCell (Nat.le_refl _) _⟩
              · have hq := HQQ.out
                simp only [if_true] at hq
                have HQ4 := Lib.hid hq
                have hn := hle.2 rfl
                clear hq HQQ
                go_wp2_with (at_builtin; refine wpList_append_own _ rfl _ _ 22 rfl (w.heap.size + 1) 37 i0 (.agg #[.string ⟨#[]⟩, .int .i64 0]) 2 24 Tryd.underlying22 hi hz0 hz1 hz2 rfl (by decide) _ _ _ rfl ((own1.alloc _).alloc _) ⟨w1.heap.size + 1, 0, none⟩ 1 1 [.string (S xl), .int .i64 xi] rfl rfl (by have h := cell_two_new (w1.alloc (.cells #[.string (S xl), .int .i64 xi] 37)) (.string (S xl)) (.int .i64 xi) 37; simpa using h) (by simp [Value.oneCell']) (by unfold maxLen; omega) (by omega) (by simp; omega) ?_; intro v' w2 hown2 hgrow _)
                have HB2 := Lib.hid (own_below1 (HB1.out.alloc hsz1 _) (own1.alloc _) hgrow (by simp; omega))
                have hown3 : w2.ownsRow (w.heap.size + 1) 37 2 v' (L ++ [(⟨xl, xi⟩ : Stp)]).length (flatC (L ++ [(⟨xl, xi⟩ : Stp)])) := by rw [flat_snoc, List.length_append]; exact hown2
                clear hgrow own1 x0 x1 f0 f1
                go_wp2_with fail
                go_roundg f
                case measure => omega
                case rel => exact ⟨(a + 1) + xn, L ++ [(⟨xl, xi⟩ : Stp)], rfl, by omega, by omega, by simp; omega, hown3, Lib.hid ⟨HQ4.out, HB2.out⟩⟩
            · have e46 : (((byt s a).toNat : Int) == 46) = false := h46
              have e46' : (((byt s a).toNat : Int) != 46) = true := by rw [bne, e46]; rfl
              simp only [h91, h46, Bool.not_false, Bool.and_self, if_true] at hqq
              subst hqq
              clear h91 h46 hL
              go_wp2_with fail
              exact bodyPost_ret (v := .tuple #[.slice none 0 0, .agg #[.int .i64 8, .int .i64 ((a : Nat) : Int)]]) (by simp [results, Tryd.results17, go_sem, x0, x1]) rfl ⟨_, rfl, .inl ⟨⟨_, _, rfl⟩, rfl⟩, (HW.out.setCell (Nat.le_refl _) _).setCell (Nat.le_refl _) _⟩
        · have a3 : decide ((a : Int) < (s.length : Int)) = false := by first | (simp; done) | (simp; omega)
          simp only [decide_eq_false hlt, Bool.not_false, if_true] at hqq
          subst hqq
          clear hL
          go_wp2_with fail
          exact bodyPost_ret (v := .tuple #[.slice vp L.length vc, .agg #[.int .i64 0, .int .i64 0]]) (by simp [results, Tryd.results17, go_sem, x0, x1]) rfl ⟨_, rfl, own_SlS hown _ (by simp) (set_keeps (Nat.lt_succ_self _) _ _), (HW.out.setCell (Nat.le_refl _) _).setCell (Nat.le_refl _) _⟩
end Go.Proofs.YtpekkdgaeadepaaDoor
