import Derived.Test.YtoahmganodehkaaGreatDoorN06
import Derived.Deep.AppendLies
import Derived.Test.YtoahmganodehkaaGreatDoorN02
import Derived.Test.YtoahmganodehkaaGreatDoorN01
namespace Go.Proofs.YtoahmganodehkaaGreatDoor
set_option linter.unusedSimpArgs false
set_option linter.unusedVariables false
section
open Go.RowKit
theorem own_form {W : World} {base : Nat} {e : TypeId} {size : Nat} {v : Value} {n : Nat} {xs : List Value} (h : W.ownsRow base e size v n xs) : ∃ p cap, v = .slice p n cap := by
 rcases h.2 with ⟨hv, h0⟩ | ⟨g, cap, cur, hv, -⟩
 · exact ⟨none, 0, by rw [hv, h0]⟩
 · exact ⟨_, cap, hv⟩
set_option maxRecDepth 100000 in
set_option maxHeartbeats 16000000 in
theorem Parse_any (s : List UInt8) (hs : s.length ≤ 70000) (w : World) (hE : StOk w) : Calls Tryz.prog 53 #[.string (S s)] w (ParR (parseP s) w) := by
 obtain ⟨r, hr⟩ : ∃ r, parseP s = r := ⟨_, rfl⟩
 rw [hr]
 have HE := Lib.hid hE
 clear hE
 unfold parseP at hr
 by_cases hbig : 65536 < s.length
 · rw [if_pos hbig] at hr
   subst hr
   go_enter Tryz.func53, Tryz.ntmps53
   go_wp2_with fail
   exact bodyPost_ret (v := .tuple #[.slice none 0 0, .agg #[.int .i64 2, .int .i64 0]]) (by simp [results, Tryz.results53, go_sem]) rfl ⟨_, rfl, .inl ⟨⟨_, _, rfl⟩, rfl⟩, by go_grown⟩
 rw [if_neg hbig] at hr
 rcases (bool_two (s == [46])).symm with hd | hd
 · rw [if_pos hd] at hr
   subst hr
   go_enter Tryz.func53, Tryz.ntmps53
   go_wp2_with fail
   exact bodyPost_ret (v := .tuple #[.slice none 0 0, .agg #[.int .i64 0, .int .i64 0]]) (by simp [results, Tryz.results53, go_sem]) rfl ⟨_, rfl, .inl ⟨⟨_, _, rfl⟩, rfl⟩, by go_grown⟩
 rw [if_neg (by rw [hd]; decide)] at hr
 have hways : (s.isEmpty = true) ∨ (s.isEmpty = false ∧ 0 < s.length ∧ (((byt s 0).toNat : Int) == 46) = false) ∨ (s.isEmpty = false ∧ 0 < s.length ∧ (((byt s 0).toNat : Int) == 46) = true) := by
   cases s with
   | nil => exact .inl rfl
   | cons c t => rcases bool_two (((byt (c :: t) 0).toNat : Int) == 46) with h | h
                 · exact .inr (.inl ⟨rfl, by simp, h⟩)
                 · exact .inr (.inr ⟨rfl, by simp, h⟩)
 have hfin : ((s.isEmpty = true) ∨ (s.isEmpty = false ∧ 0 < s.length ∧ (((byt s 0).toNat : Int) == 46) = false)) → pgo s (s.length + 1) 0 [] = r := by
   intro h
   rw [if_neg (by rcases h with h | ⟨h, -, h'⟩
                  · rw [h]; simp
                  · rw [h, show isB (byt s 0) 46 = false from h']; simp)] at hr
   exact hr
 have g0 : decide ((65536 : Int) < (s.length : Int)) = false := by first | (simp; done) | (simp; omega)
 rcases hways with he | ⟨he, h0, h46⟩ | ⟨he, h0, h46⟩
 rotate_right
 · rw [if_pos (by rw [he, show isB (byt s 0) 46 = true from h46]; rfl)] at hr
   subst hr
   have hd' : (s != [46]) = true := by rw [bne, hd]; rfl
   go_enter Tryz.func53, Tryz.ntmps53
   go_wp2_with fail
   exact bodyPost_ret (v := .tuple #[.slice none 0 0, .agg #[.int .i64 8, .int .i64 1]]) (by simp [results, Tryz.results53, go_sem]) rfl ⟨_, rfl, .inl ⟨⟨_, _, rfl⟩, rfl⟩, by go_grown⟩
 · have hse : s = [] := by cases s with
     | nil => rfl
     | cons => cases he
   subst hse
   have hr2 : r = ([], 8, 0) := (hfin (.inl rfl)).symm.trans (by decide)
   subst hr2
   have HLB : Hid (labP [] = (noS, 0, false)) := Lib.hid (by decide)
   clear hfin hr
   go_enter Tryz.func53, Tryz.ntmps53
   go_wp2_with fail
   have hB0 := Blk.new w #[.int .i64 0, .int .i64 0] 29
   have hb0 : Below w.heap.size w (w.alloc (.cells #[.int .i64 0, .int .i64 0] 29)) := by go_grown
   generalize w.alloc (.cells #[.int .i64 0, .int .i64 0] 29) = W0 at hB0 hb0 ⊢
   go_loopw [4, 5] (fun v i wr => v = .slice none 0 0 ∧ i = .int .i64 0 ∧ wr = W0) (fun _ _ _ => 0)
   case atStart => exact ⟨rfl, rfl, rfl⟩
   case round =>
     obtain ⟨rfl, rfl, rfl⟩ := hrel
     go_wp2_with fail
     refine (label_any [] (by decide) _ (HE.out.below hb0)).mono ?_
     rintro e w1 ⟨rfl, hb1⟩
     rw [HLB.out]
     unfold rdv
     have B1 := hB0.below hb1
     have HW1 := Lib.hid (hb0.trans (hb1.mono hb0.size))
     have f0 := B1.frozen 0
     have f1 := B1.frozen 1
     have x0 := B1.cell 0
     have x1 := B1.cell 1
     have hlB := B1.lt
     simp at x0 x1
     clear hb1
     have hn1 : ¬ w.heap.size = w1.heap.size := by omega
     have hn2 : ¬ w1.heap.size = w.heap.size := by omega
     go_wp2_with fail
     exact bodyPost_ret (v := .tuple #[.slice none 0 0, .agg #[.int .i64 8, .int .i64 0]]) (by simp [results, Tryz.results53, go_sem, x0, x1, hlB]) rfl ⟨_, rfl, .inl ⟨⟨_, _, rfl⟩, rfl⟩, by first | exact ((HW1.out.setCell (Nat.le_refl _) _).setCell (Nat.le_refl _) _).alloc (by simp; omega) _ | exact ((HW1.out.alloc HW1.out.size _).setCell (Nat.le_refl _) _).setCell (Nat.le_refl _) _⟩
 · have HQ0 := Lib.hid (hfin (.inr ⟨he, h0, h46⟩))
   clear hfin hr
   obtain ⟨i0, hi, hz0, hz1, hz2⟩ := info_parts infoStp
   go_enter Tryz.func53, Tryz.ntmps53
   go_wp2_with fail
   have hB0 := Blk.new w #[.int .i64 0, .int .i64 0] 29
   have hb0 : Below w.heap.size w (w.alloc (.cells #[.int .i64 0, .int .i64 0] 29)) := by go_grown
   have hs0 : w.heap.size + 1 ≤ (w.alloc (.cells #[.int .i64 0, .int .i64 0] 29)).heap.size := by simp
   generalize w.alloc (.cells #[.int .i64 0, .int .i64 0] 29) = W0 at hB0 hb0 hs0 ⊢
   have HB0 := Lib.hid hB0
   have Hb0 := Lib.hid hb0
   go_loopg [4, 5] (s.length + 1) (fun f v i wr => ∃ (a : Nat) (L : List Stp), i = .int .i64 (a : Int) ∧ a ≤ s.length ∧ s.length + 1 ≤ a + f ∧ L.length ≤ a ∧ wr.ownsRow (w.heap.size + 1) 44 2 v L.length (flatC L) ∧ Hid (pgo s f a L = r ∧ Below (w.heap.size + 1) W0 wr))
   case atStart => exact ⟨0, [], rfl, Nat.zero_le _, by omega, Nat.le_refl _, World.ownsRow_nil _ _ _ _, Lib.hid ⟨HQ0.out, Below.refl _ _⟩⟩
   case round =>
     clear hB0 hb0 HQ0
     obtain ⟨a, L, rfl, ha, hf0, hLa, hown, HQ⟩ := hrel
     obtain ⟨f, hf⟩ : ∃ f, gk = f + 1 := ⟨gk - 1, by omega⟩
     have HBB := Lib.hid HQ.out.2
     have BN := HB0.out.underB HQ.out.2 (Nat.lt_succ_self _)
     have HW := Lib.hid (Hb0.out.trans (HQ.out.2.mono (Nat.le_succ _)))
     have hsz : w.heap.size + 1 ≤ wr.heap.size := Nat.le_trans hs0 HQ.out.2.size
     have BNH := Lib.hid BN
     have hqq := HQ.out.1
     rw [hf, pgo] at hqq
     clear HQ
     have f0 := BN.frozen 0
     have f1 := BN.frozen 1
     have x0 := BN.cell 0
     have x1 := BN.cell 1
     simp at x0 x1
     clear BN
     have a0 : (0 : Int) ≤ (a : Int) := by omega
     have a1 : (a : Int) ≤ (s.length : Int) := by omega
     obtain ⟨vp, vc, rfl⟩ := own_form hown
     by_cases hL : L = []
     · subst hL
       simp only [List.isEmpty_nil, Bool.not_true, Bool.and_false, Bool.false_and, Bool.false_eq_true, if_false] at hqq
       by_cases hlt : a < s.length
       · have a2 : (a : Int) < (s.length : Int) := by omega
         rcases (bool_two (isB (byt s a) 91)).symm with h91 | h91
         · have e91 : (((byt s a).toNat : Int) == 91) = true := h91
           unfold rdAt at hqq
           simp only [decide_eq_true hlt, h91, Bool.and_self, if_true] at hqq
           clear h91
           have hle := idxP_le (sl s a s.length) (by rw [sl_len s a s.length (by omega) (Nat.le_refl _)]; omega)
           obtain ⟨⟨⟨xl, xi⟩, xn, xo⟩, hrd⟩ : ∃ x, idxP (sl s (a) s.length) = x := ⟨_, rfl⟩
           have HRD := Lib.hid hrd
           rw [hrd] at hqq hle
           simp only at hqq hle
           have HQQ := Lib.hid hqq
           have hsl : (sl s (a) s.length).length = s.length - (a) := sl_len s (a) s.length (by omega) (Nat.le_refl _)
           rw [hsl] at hle
           have hsl2 : (sl s (a) s.length).length ≤ 100000 := by omega
           clear hqq hrd
           go_wp2_with fail
           refine (index_any _ hsl2 (by rw [hsl]; omega) _).mono ?_
           rintro e w1 ⟨rfl, hb1⟩
           rw [HRD.out]
           unfold rdv
           have B1 := BNH.out.below hb1
           have HW1 := Lib.hid (HW.out.trans (hb1.mono HW.out.size))
           have HB1 := Lib.hid (HBB.out.trans (hb1.mono hsz))
           have own1 := own_under hown hb1
           have hsz1 : w.heap.size + 1 ≤ w1.heap.size := Nat.le_trans hsz hb1.size
           clear hb1 x0 x1 f0 f1 hown
           have hlB := B1.lt
           have f0 := B1.frozen 0
           have f1 := B1.frozen 1
           have x0 := B1.cell 0
           have x1 := B1.cell 1
           simp at x0 x1
           rcases bool_two xo with rfl | rfl
           · have hq := HQQ.out
             simp only [Bool.false_eq_true, if_false] at hq
             subst hq
             have hn : xn ≤ s.length + 1 := by omega
             have hn1 : ¬ w.heap.size = w1.heap.size := by omega
             have hn2 : ¬ w1.heap.size = w.heap.size := by omega
             go_wp2_with fail
             exact bodyPost_ret (v := .tuple #[.slice none 0 0, .agg #[.int .i64 8, .int .i64 (((a) + xn : Nat) : Int)]]) (by simp [results, Tryz.results53, go_sem, x0, x1, hlB]) rfl ⟨_, rfl, .inl ⟨⟨_, _, rfl⟩, rfl⟩, by first | exact ((HW1.out.setCell (Nat.le_refl _) _).setCell (Nat.le_refl _) _).alloc (by simp; omega) _ | exact ((HW1.out.alloc HW1.out.size _).setCell (Nat.le_refl _) _).setCell (Nat.le_refl _) _⟩
           · have hq := HQQ.out
             simp only [if_true] at hq
             have HQ4 := Lib.hid hq
             have hn := hle.2 rfl
             clear hq HQQ
             go_wp2_with (at_builtin; refine wpList_append_own _ rfl _ _ 40 rfl (w.heap.size + 1) 44 i0 (.agg #[.string ⟨#[]⟩, .int .i64 0]) 2 24 Tryz.underlying40 hi hz0 hz1 hz2 rfl (by decide) _ _ _ rfl ((own1.alloc _).alloc _) ⟨w1.heap.size + 1, 0, none⟩ 1 1 [.string (S xl), .int .i64 xi] rfl rfl (by have h := cell_two_new (w1.alloc (.cells #[.string (S xl), .int .i64 xi] 44)) (.string (S xl)) (.int .i64 xi) 44; simpa using h) (by simp [Value.oneCell']) (by unfold maxLen; omega) (by omega) (by simp; omega) ?_; intro v' w2 hown2 hgrow _)
             have HB2 := Lib.hid (own_below1 (HB1.out.alloc hsz1 _) (own1.alloc _) hgrow (by simp; omega))
             have hown3 : w2.ownsRow (w.heap.size + 1) 44 2 v' (([] : List Stp) ++ [(⟨xl, xi⟩ : Stp)]).length (flatC (([] : List Stp) ++ [(⟨xl, xi⟩ : Stp)])) := by rw [flat_snoc, List.length_append]; exact hown2
             clear hgrow own1 x0 x1 f0 f1
             go_wp2_with fail
             go_roundg f
             case measure => omega
             case rel => exact ⟨(a) + xn, ([] : List Stp) ++ [(⟨xl, xi⟩ : Stp)], rfl, by omega, by omega, by simp; omega, hown3, Lib.hid ⟨HQ4.out, HB2.out⟩⟩
         · have e91 : (((byt s a).toNat : Int) == 91) = false := h91
           unfold rdAt at hqq
           simp only [decide_eq_true hlt, h91, Bool.and_false, Bool.false_eq_true, if_false, List.isEmpty_nil, if_true] at hqq
           clear h91
           have hle := labP_le (sl s a s.length)
           obtain ⟨⟨⟨xl, xi⟩, xn, xo⟩, hrd⟩ : ∃ x, labP (sl s (a) s.length) = x := ⟨_, rfl⟩
           have HRD := Lib.hid hrd
           rw [hrd] at hqq hle
           simp only at hqq hle
           have HQQ := Lib.hid hqq
           have hsl : (sl s (a) s.length).length = s.length - (a) := sl_len s (a) s.length (by omega) (Nat.le_refl _)
           rw [hsl] at hle
           have hsl2 : (sl s (a) s.length).length ≤ 100000 := by omega
           clear hqq hrd
           go_wp2_with fail
           refine (label_any _ hsl2 _ (HE.out.below HW.out)).mono ?_
           rintro e w1 ⟨rfl, hb1⟩
           rw [HRD.out]
           unfold rdv
           have B1 := BNH.out.below hb1
           have HW1 := Lib.hid (HW.out.trans (hb1.mono HW.out.size))
           have HB1 := Lib.hid (HBB.out.trans (hb1.mono hsz))
           have own1 := own_under hown hb1
           have hsz1 : w.heap.size + 1 ≤ w1.heap.size := Nat.le_trans hsz hb1.size
           clear hb1 x0 x1 f0 f1 hown
           have hlB := B1.lt
           have f0 := B1.frozen 0
           have f1 := B1.frozen 1
           have x0 := B1.cell 0
           have x1 := B1.cell 1
           simp at x0 x1
           rcases bool_two xo with rfl | rfl
           · have hq := HQQ.out
             simp only [Bool.false_eq_true, if_false] at hq
             subst hq
             have hn : xn ≤ s.length + 1 := by omega
             have hn1 : ¬ w.heap.size = w1.heap.size := by omega
             have hn2 : ¬ w1.heap.size = w.heap.size := by omega
             go_wp2_with fail
             exact bodyPost_ret (v := .tuple #[.slice none 0 0, .agg #[.int .i64 8, .int .i64 (((a) + xn : Nat) : Int)]]) (by simp [results, Tryz.results53, go_sem, x0, x1, hlB]) rfl ⟨_, rfl, .inl ⟨⟨_, _, rfl⟩, rfl⟩, by first | exact ((HW1.out.setCell (Nat.le_refl _) _).setCell (Nat.le_refl _) _).alloc (by simp; omega) _ | exact ((HW1.out.alloc HW1.out.size _).setCell (Nat.le_refl _) _).setCell (Nat.le_refl _) _⟩
           · have hq := HQQ.out
             simp only [if_true] at hq
             have HQ4 := Lib.hid hq
             have hn := hle.2 rfl
             clear hq HQQ
             go_wp2_with (at_builtin; refine wpList_append_own _ rfl _ _ 40 rfl (w.heap.size + 1) 44 i0 (.agg #[.string ⟨#[]⟩, .int .i64 0]) 2 24 Tryz.underlying40 hi hz0 hz1 hz2 rfl (by decide) _ _ _ rfl ((own1.alloc _).alloc _) ⟨w1.heap.size + 1, 0, none⟩ 1 1 [.string (S xl), .int .i64 xi] rfl rfl (by have h := cell_two_new (w1.alloc (.cells #[.string (S xl), .int .i64 xi] 44)) (.string (S xl)) (.int .i64 xi) 44; simpa using h) (by simp [Value.oneCell']) (by unfold maxLen; omega) (by omega) (by simp; omega) ?_; intro v' w2 hown2 hgrow _)
             have HB2 := Lib.hid (own_below1 (HB1.out.alloc hsz1 _) (own1.alloc _) hgrow (by simp; omega))
             have hown3 : w2.ownsRow (w.heap.size + 1) 44 2 v' (([] : List Stp) ++ [(⟨xl, xi⟩ : Stp)]).length (flatC (([] : List Stp) ++ [(⟨xl, xi⟩ : Stp)])) := by rw [flat_snoc, List.length_append]; exact hown2
             clear hgrow own1 x0 x1 f0 f1
             go_wp2_with fail
             go_roundg f
             case measure => omega
             case rel => exact ⟨(a) + xn, ([] : List Stp) ++ [(⟨xl, xi⟩ : Stp)], rfl, by omega, by omega, by simp; omega, hown3, Lib.hid ⟨HQ4.out, HB2.out⟩⟩
       · have hal : a = s.length := by omega
         subst hal
         have a3 : decide ((s.length : Int) < (s.length : Int)) = false := by first | (simp; done) | (simp; omega)
         have hsl0 : sl s s.length s.length = [] := by rw [sl_from]; simp
         have HLB : Hid (labP [] = (noS, 0, false)) := Lib.hid (by decide)
         unfold rdAt at hqq
         simp only [decide_eq_false hlt, Bool.false_and, Bool.false_eq_true, if_false, List.isEmpty_nil, if_true, hsl0, HLB.out, Nat.add_zero] at hqq
         subst hqq
         clear hown hlt
         go_wp2_with fail
         refine (label_any [] (by decide) _ (HE.out.below HW.out)).mono ?_
         rintro e w1 ⟨rfl, hb1⟩
         rw [HLB.out]
         unfold rdv
         have B1 := BNH.out.below hb1
         have HW1 := Lib.hid (HW.out.trans (hb1.mono HW.out.size))
         clear hb1 x0 x1 f0 f1
         have hlB := B1.lt
         have f0 := B1.frozen 0
         have f1 := B1.frozen 1
         have x0 := B1.cell 0
         have x1 := B1.cell 1
         simp at x0 x1
         have hn1 : ¬ w.heap.size = w1.heap.size := by omega
         have hn2 : ¬ w1.heap.size = w.heap.size := by omega
         go_wp2_with fail
         exact bodyPost_ret (v := .tuple #[.slice none 0 0, .agg #[.int .i64 8, .int .i64 ((s.length : Nat) : Int)]]) (by simp [results, Tryz.results53, go_sem, x0, x1, hlB]) rfl ⟨_, rfl, .inl ⟨⟨_, _, rfl⟩, rfl⟩, by first | exact ((HW1.out.setCell (Nat.le_refl _) _).setCell (Nat.le_refl _) _).alloc (by simp; omega) _ | exact ((HW1.out.alloc HW1.out.size _).setCell (Nat.le_refl _) _).setCell (Nat.le_refl _) _⟩
     · have hLe : L.isEmpty = false := by cases L with
         | nil => exact absurd rfl hL
         | cons => rfl
       have hLl : 0 < L.length := List.length_pos_iff.2 hL
       have l1 : ((L.length : Int) == 0) = false := by rw [beq_eq_false_iff_ne]; omega
       have l2 : decide ((0 : Int) < (L.length : Int)) = true := by first | (simp; done) | (simp; omega)
       simp only [hLe, Bool.not_false, Bool.and_true, Bool.true_and] at hqq
       by_cases hlt : a < s.length
       · have a2 : (a : Int) < (s.length : Int) := by omega
         simp only [decide_eq_true hlt, Bool.not_true, Bool.false_eq_true, if_false, Bool.true_and] at hqq
         rcases (bool_two (isB (byt s a) 91)).symm with h91 | h91
         · have e91 : (((byt s a).toNat : Int) == 91) = true := h91
           unfold rdAt at hqq
           simp only [decide_eq_true hlt, h91, Bool.and_self, Bool.not_true, Bool.false_and, Bool.false_eq_true, if_false, if_true] at hqq
           clear h91 hL
           have hle := idxP_le (sl s a s.length) (by rw [sl_len s a s.length (by omega) (Nat.le_refl _)]; omega)
           obtain ⟨⟨⟨xl, xi⟩, xn, xo⟩, hrd⟩ : ∃ x, idxP (sl s (a) s.length) = x := ⟨_, rfl⟩
           have HRD := Lib.hid hrd
           rw [hrd] at hqq hle
           simp only at hqq hle
           have HQQ := Lib.hid hqq
           have hsl : (sl s (a) s.length).length = s.length - (a) := sl_len s (a) s.length (by omega) (Nat.le_refl _)
           rw [hsl] at hle
           have hsl2 : (sl s (a) s.length).length ≤ 100000 := by omega
           clear hqq hrd
           go_wp2_with fail
           refine (index_any _ hsl2 (by rw [hsl]; omega) _).mono ?_
           rintro e w1 ⟨rfl, hb1⟩
           rw [HRD.out]
           unfold rdv
           have B1 := BNH.out.below hb1
           have HW1 := Lib.hid (HW.out.trans (hb1.mono HW.out.size))
           have HB1 := Lib.hid (HBB.out.trans (hb1.mono hsz))
           have own1 := own_under hown hb1
           have hsz1 : w.heap.size + 1 ≤ w1.heap.size := Nat.le_trans hsz hb1.size
           clear hb1 x0 x1 f0 f1 hown
           have hlB := B1.lt
           have f0 := B1.frozen 0
           have f1 := B1.frozen 1
           have x0 := B1.cell 0
           have x1 := B1.cell 1
           simp at x0 x1
           rcases bool_two xo with rfl | rfl
           · have hq := HQQ.out
             simp only [Bool.false_eq_true, if_false] at hq
             subst hq
             have hn : xn ≤ s.length + 1 := by omega
             have hn1 : ¬ w.heap.size = w1.heap.size := by omega
             have hn2 : ¬ w1.heap.size = w.heap.size := by omega
             go_wp2_with fail
             exact bodyPost_ret (v := .tuple #[.slice none 0 0, .agg #[.int .i64 8, .int .i64 (((a) + xn : Nat) : Int)]]) (by simp [results, Tryz.results53, go_sem, x0, x1, hlB]) rfl ⟨_, rfl, .inl ⟨⟨_, _, rfl⟩, rfl⟩, by first | exact ((HW1.out.setCell (Nat.le_refl _) _).setCell (Nat.le_refl _) _).alloc (by simp; omega) _ | exact ((HW1.out.alloc HW1.out.size _).setCell (Nat.le_refl _) _).setCell (Nat.le_refl _) _⟩
           · have hq := HQQ.out
             simp only [if_true] at hq
             have HQ4 := Lib.hid hq
             have hn := hle.2 rfl
             clear hq HQQ
             go_wp2_with (at_builtin; refine wpList_append_own _ rfl _ _ 40 rfl (w.heap.size + 1) 44 i0 (.agg #[.string ⟨#[]⟩, .int .i64 0]) 2 24 Tryz.underlying40 hi hz0 hz1 hz2 rfl (by decide) _ _ _ rfl ((own1.alloc _).alloc _) ⟨w1.heap.size + 1, 0, none⟩ 1 1 [.string (S xl), .int .i64 xi] rfl rfl (by have h := cell_two_new (w1.alloc (.cells #[.string (S xl), .int .i64 xi] 44)) (.string (S xl)) (.int .i64 xi) 44; simpa using h) (by simp [Value.oneCell']) (by unfold maxLen; omega) (by omega) (by simp; omega) ?_; intro v' w2 hown2 hgrow _)
             have HB2 := Lib.hid (own_below1 (HB1.out.alloc hsz1 _) (own1.alloc _) hgrow (by simp; omega))
             have hown3 : w2.ownsRow (w.heap.size + 1) 44 2 v' (L ++ [(⟨xl, xi⟩ : Stp)]).length (flatC (L ++ [(⟨xl, xi⟩ : Stp)])) := by rw [flat_snoc, List.length_append]; exact hown2
             clear hgrow own1 x0 x1 f0 f1
             go_wp2_with fail
             go_roundg f
             case measure => omega
             case rel => exact ⟨(a) + xn, L ++ [(⟨xl, xi⟩ : Stp)], rfl, by omega, by omega, by simp; omega, hown3, Lib.hid ⟨HQ4.out, HB2.out⟩⟩
         · have e91 : (((byt s a).toNat : Int) == 91) = false := h91
           rcases (bool_two (isB (byt s a) 46)).symm with h46 | h46
           · have e46 : (((byt s a).toNat : Int) == 46) = true := h46
             have e46' : (((byt s a).toNat : Int) != 46) = false := by rw [bne, e46]; rfl
             unfold rdAt at hqq
             simp only [decide_eq_true hlt, h91, h46, hLe, Bool.and_false, Bool.not_false, Bool.not_true, Bool.false_eq_true, if_false] at hqq
             clear h91 h46 hL
             have hle := labP_le (sl s (a + 1) s.length)
             obtain ⟨⟨⟨xl, xi⟩, xn, xo⟩, hrd⟩ : ∃ x, labP (sl s (a + 1) s.length) = x := ⟨_, rfl⟩
             have HRD := Lib.hid hrd
             rw [hrd] at hqq hle
             simp only at hqq hle
             have HQQ := Lib.hid hqq
             have hsl : (sl s (a + 1) s.length).length = s.length - (a + 1) := sl_len s (a + 1) s.length (by omega) (Nat.le_refl _)
             rw [hsl] at hle
             have hsl2 : (sl s (a + 1) s.length).length ≤ 100000 := by omega
             clear hqq hrd
             go_wp2_with fail
             refine (label_any _ hsl2 _ (HE.out.below HW.out)).mono ?_
             rintro e w1 ⟨rfl, hb1⟩
             rw [HRD.out]
             unfold rdv
             have B1 := BNH.out.below hb1
             have HW1 := Lib.hid (HW.out.trans (hb1.mono HW.out.size))
             have HB1 := Lib.hid (HBB.out.trans (hb1.mono hsz))
             have own1 := own_under hown hb1
             have hsz1 : w.heap.size + 1 ≤ w1.heap.size := Nat.le_trans hsz hb1.size
             clear hb1 x0 x1 f0 f1 hown
             have hlB := B1.lt
             have f0 := B1.frozen 0
             have f1 := B1.frozen 1
             have x0 := B1.cell 0
             have x1 := B1.cell 1
             simp at x0 x1
             rcases bool_two xo with rfl | rfl
             · have hq := HQQ.out
               simp only [Bool.false_eq_true, if_false] at hq
               subst hq
               have hn : xn ≤ s.length + 1 := by omega
               have hn1 : ¬ w.heap.size = w1.heap.size := by omega
               have hn2 : ¬ w1.heap.size = w.heap.size := by omega
               go_wp2_with fail
               exact bodyPost_ret (v := .tuple #[.slice none 0 0, .agg #[.int .i64 8, .int .i64 (((a + 1) + xn : Nat) : Int)]]) (by simp [results, Tryz.results53, go_sem, x0, x1, hlB]) rfl ⟨_, rfl, .inl ⟨⟨_, _, rfl⟩, rfl⟩, by first | exact ((HW1.out.setCell (Nat.le_refl _) _).setCell (Nat.le_refl _) _).alloc (by simp; omega) _ | exact ((HW1.out.alloc HW1.out.size _).setCell (Nat.le_refl _) _).setCell (Nat.le_refl _) _⟩
             · have hq := HQQ.out
               simp only [if_true] at hq
               have HQ4 := Lib.hid hq
               have hn := hle.2 rfl
               clear hq HQQ
               go_wp2_with (at_builtin; refine wpList_append_own _ rfl _ _ 40 rfl (w.heap.size + 1) 44 i0 (.agg #[.string ⟨#[]⟩, .int .i64 0]) 2 24 Tryz.underlying40 hi hz0 hz1 hz2 rfl (by decide) _ _ _ rfl ((own1.alloc _).alloc _) ⟨w1.heap.size + 1, 0, none⟩ 1 1 [.string (S xl), .int .i64 xi] rfl rfl (by have h := cell_two_new (w1.alloc (.cells #[.string (S xl), .int .i64 xi] 44)) (.string (S xl)) (.int .i64 xi) 44; simpa using h) (by simp [Value.oneCell']) (by unfold maxLen; omega) (by omega) (by simp; omega) ?_; intro v' w2 hown2 hgrow _)
               have HB2 := Lib.hid (own_below1 (HB1.out.alloc hsz1 _) (own1.alloc _) hgrow (by simp; omega))
               have hown3 : w2.ownsRow (w.heap.size + 1) 44 2 v' (L ++ [(⟨xl, xi⟩ : Stp)]).length (flatC (L ++ [(⟨xl, xi⟩ : Stp)])) := by rw [flat_snoc, List.length_append]; exact hown2
               clear hgrow own1 x0 x1 f0 f1
               go_wp2_with fail
               go_roundg f
               case measure => omega
               case rel => exact ⟨(a + 1) + xn, L ++ [(⟨xl, xi⟩ : Stp)], rfl, by omega, by omega, by simp; omega, hown3, Lib.hid ⟨HQ4.out, HB2.out⟩⟩
           · have e46 : (((byt s a).toNat : Int) == 46) = false := h46
             have e46' : (((byt s a).toNat : Int) != 46) = true := by rw [bne, e46]; rfl
             simp only [h91, h46, Bool.not_false, Bool.and_self, if_true] at hqq
             subst hqq
             clear h91 h46 hL
             go_wp2_with fail
             exact bodyPost_ret (v := .tuple #[.slice none 0 0, .agg #[.int .i64 8, .int .i64 ((a : Nat) : Int)]]) (by simp [results, Tryz.results53, go_sem, x0, x1]) rfl ⟨_, rfl, .inl ⟨⟨_, _, rfl⟩, rfl⟩, (HW.out.setCell (Nat.le_refl _) _).setCell (Nat.le_refl _) _⟩
       · have a3 : decide ((a : Int) < (s.length : Int)) = false := by first | (simp; done) | (simp; omega)
         simp only [decide_eq_false hlt, Bool.not_false, if_true] at hqq
         subst hqq
         clear hL
         go_wp2_with fail
         exact bodyPost_ret (v := .tuple #[.slice vp L.length vc, .agg #[.int .i64 0, .int .i64 0]]) (by simp [results, Tryz.results53, go_sem, x0, x1]) rfl ⟨_, rfl, own_SlF hown (Nat.le_succ _) _ (by simp) (set_keeps (Nat.lt_succ_self _) _ _), (HW.out.setCell (Nat.le_refl _) _).setCell (Nat.le_refl _) _⟩
end
section
open Go.RowKit
theorem lvI_at : ∀ (its : List Dat) (o i : Nat) (h : i < its.length), lvI (its.take (i + 1)) o = lvI (its.take i) o ++ (lvD its[i]).map (fun p => ⟨[], ((o + i : Nat) : Int)⟩ :: p)
 | x :: r, o, 0, _ => by simp [lvI]
 | x :: r, o, i + 1, h => by
   have ih := lvI_at r (o + 1) i (by simpa using h)
   rw [List.take_succ_cons, List.take_succ_cons, lvI, lvI, ih, List.append_assoc, show o + 1 + i = o + (i + 1) by omega]; rfl
theorem lvM_at : ∀ (mem : List (List UInt8 × Dat)) (i : Nat) (h : i < mem.length), lvM (mem.take (i + 1)) = lvM (mem.take i) ++ (lvD mem[i].2).map (fun p => ⟨mem[i].1, 0⟩ :: p)
 | (l, x) :: r, 0, _ => by simp [lvM]
 | (l, x) :: r, i + 1, h => by
   have ih := lvM_at r i (by simpa using h)
   rw [List.take_succ_cons, List.take_succ_cons, lvM, lvM, ih, List.append_assoc]; rfl
structure Kps (W W' : World) (Bo : Nat) (v v' : Value) : Prop where
 size : W.heap.size ≤ W'.heap.size
 blk : ∀ k, k < W.heap.size → k ≠ Bo → some k ≠ v.ownBlock → W'.heap[k]? = W.heap[k]?
 own : v'.ownBlock = v.ownBlock ∨ ∃ b, v'.ownBlock = some b ∧ W.heap.size ≤ b
theorem Kps.refl (W : World) (Bo : Nat) (v : Value) : Kps W W Bo v v := ⟨Nat.le_refl _, fun _ _ _ _ => rfl, .inl rfl⟩
theorem Kps.trans {a b c : World} {Bo : Nat} {v v' v'' : Value} (h : Kps a b Bo v v') (k : Kps b c Bo v' v'') : Kps a c Bo v v'' := by
 refine ⟨Nat.le_trans h.size k.size, fun j hj h1 h2 => ?_, ?_⟩
 · refine (k.blk j (Nat.lt_of_lt_of_le hj h.size) h1 ?_).trans (h.blk j hj h1 h2)
   rcases h.own with e | ⟨b, e, hb⟩
   · rw [e]; exact h2
   · rw [e]; intro e; injection e; omega
 · rcases k.own with e | ⟨b, e, hb⟩
   · rw [e]; exact h.own
   · exact .inr ⟨b, e, Nat.le_trans h.size hb⟩
theorem Kps.below {W W' : World} (Bo : Nat) (v : Value) (h : Below W.heap.size W W') : Kps W W' Bo v v := ⟨h.size, fun k hk _ _ => h.block k hk, .inl rfl⟩
structure LvS (N : Nat) (w : World) (Bo Bv : Nat) (v : Value) (T : List (List Stp × Value)) (W : World) : Prop where
 bo : Blk W Bo #[v] 68
 bv : Blk W Bv #[.func (.func 63) #[] #[.pointer (some ⟨Bo, 0, none⟩), .pointer (some ⟨Bv, 0, none⟩)]] 91
 own : W.ownsRow N 40 1 v T.length (T.map fun t => t.2)
 paths : ∀ t ∈ T, SlK W (fun B => N ≤ B ∧ some B ≠ v.ownBlock) t.2 t.1
 nw : N ≤ W.heap.size
 lo : Bo < N
 lv : Bv < N
 ne : Bo ≠ Bv
 wo : w.heap.size ≤ Bo
 wv : w.heap.size ≤ Bv
 bel : Below w.heap.size w W
theorem own_ge {W : World} {b : Nat} {e : TypeId} {s : Nat} {v : Value} {k : Nat} {xs : List Value} (h : W.ownsRow b e s v k xs) {B : Nat} (hB : v.ownBlock = some B) : b ≤ B ∧ B < W.heap.size := by
 rcases own_head h with ⟨rfl, -⟩ | ⟨g, cap, rfl, hb, -, hg, ek⟩
 · simp [Value.ownBlock] at hB
 · rw [ek] at hB; injection hB with hB; subst hB; exact ⟨hb, hg⟩
theorem LvS.below {N : Nat} {w : World} {Bo Bv : Nat} {v : Value} {T : List (List Stp × Value)} {W W' : World} (h : LvS N w Bo Bv v T W) (hb : Below W.heap.size W W') : LvS N w Bo Bv v T W' :=
 ⟨h.bo.below hb, h.bv.below hb, own_under h.own hb, fun t ht => (h.paths t ht).under hb, Nat.le_trans h.nw hb.size, h.lo, h.lv, h.ne, h.wo, h.wv, h.bel.trans (hb.mono h.bel.size)⟩
theorem LvS.new_ne {N : Nat} {w : World} {Bo Bv : Nat} {v : Value} {T : List (List Stp × Value)} {W : World} (h : LvS N w Bo Bv v T W) : some W.heap.size ≠ v.ownBlock := fun e => by
 have := (own_ge h.own e.symm).2
 omega
theorem LvS.bo_ne {N : Nat} {w : World} {Bo Bv : Nat} {v : Value} {T : List (List Stp × Value)} {W : World} (h : LvS N w Bo Bv v T W) : some Bo ≠ v.ownBlock := fun e => by
 have := (own_ge h.own e.symm).1
 have := h.lo; omega
theorem LvS.push {N : Nat} {w : World} {Bo Bv : Nat} {v v' pv : Value} {T : List (List Stp × Value)} {W W' : World} {P : List Stp} (h : LvS N w Bo Bv v T W) (hp : SlK W (fun B => N ≤ B ∧ some B ≠ v.ownBlock) pv P)
   (ho : W'.ownsRow N 40 1 v' (T.length + 1) (T.map (fun t => t.2) ++ [pv])) (hg : W.grownBy W' v.ownBlock) (ha : v'.ownBlock = v.ownBlock ∨ ∃ b, v'.ownBlock = some b ∧ W.heap.size ≤ b) :
   LvS N w Bo Bv v' (T ++ [(P, pv)]) (W'.setCell ⟨Bo, 0, none⟩ v') ∧ Kps W (W'.setCell ⟨Bo, 0, none⟩ v') Bo v v' := by
 have ho2 : ∀ B, v.ownBlock = some B → N ≤ B := fun B hB => (own_ge h.own hB).1
 have hBo : some Bo ≠ v.ownBlock := fun e => by have := ho2 Bo e.symm; have := h.lo; omega
 have hBv : some Bv ≠ v.ownBlock := fun e => by have := ho2 Bv e.symm; have := h.lv; omega
 have kb : ∀ k, k < W.heap.size → k ≠ Bo → some k ≠ v.ownBlock → (W'.setCell ⟨Bo, 0, none⟩ v').heap[k]? = W.heap[k]? := by
   intro k hk h1 h2
   rw [← hg.block k hk h2]
   simp only [World.setCell, Array.getElem?_modify, if_neg (Ne.symm h1)]
 have kps : Kps W (W'.setCell ⟨Bo, 0, none⟩ v') Bo v v' := ⟨by simpa using hg.size, kb, ha⟩
 have hnew : ∀ B, N ≤ B ∧ some B ≠ v.ownBlock → B < W.heap.size → N ≤ B ∧ some B ≠ v'.ownBlock := by
   intro B hB hlt
   refine ⟨hB.1, ?_⟩
   rcases ha with e | ⟨b, e, hb⟩
   · rw [e]; exact hB.2
   · rw [e]; intro e; injection e; omega
 have keep : ∀ {q : Value} {L : List Stp}, SlK W (fun B => N ≤ B ∧ some B ≠ v.ownBlock) q L → SlK (W'.setCell ⟨Bo, 0, none⟩ v') (fun B => N ≤ B ∧ some B ≠ v'.ownBlock) q L := by
   intro q L hq
   refine hq.kept kps.size fun B hB hk => ⟨hnew B hk hB, fun o => ?_⟩
   exact World.cell?_of_block (kb B hB (by have := h.lo; omega) hk.2)
 refine ⟨⟨?_, ?_, ?_, ?_, Nat.le_trans h.nw kps.size, h.lo, h.lv, h.ne, h.wo, h.wv, ?_⟩, kps⟩
 · exact (h.bo.kept hg hBo).set 0 v'
 · exact (h.bv.kept hg hBv).set_other 0 v' h.ne
 · rw [List.length_append, List.map_append]
   refine ⟨ho.1, ?_⟩
   rcases ho.2 with hn | ⟨g, cap, cur, e, hb0, hg0, hr⟩
   · exact .inl hn
   · refine .inr ⟨g, cap, cur, e, hb0, ?_, hr⟩
     rw [← hg0]
     have : Bo ≠ g := by have := h.lo; omega
     simp only [World.setCell, Array.getElem?_modify, if_neg this]
 · intro t ht
   rcases List.mem_append.1 ht with ht | ht
   · exact keep (h.paths t ht)
   · rw [List.mem_singleton.1 ht]; exact keep hp
 · refine (h.bel.grown hg h.bel.size ?_).setCell h.wo _
   intro k hk
   have := ho2 k hk
   have := h.lo; have := h.wo
   omega
def VisP (N : Nat) (w : World) (Bo Bv : Nat) (v : Value) (T : List (List Stp × Value)) (LL : List (List Stp)) (W : World) (e : Ending) (W' : World) : Prop :=
 e = .returned (.tuple #[]) ∧ ∃ v' T', LvS N w Bo Bv v' T' W' ∧ T'.map (fun t => t.1) = T.map (fun t => t.1) ++ LL ∧ Kps W W' Bo v v'
theorem infoStps : (Tryz.prog.info? 40).map (fun i => (i.zero, i.size, i.bytes)) = some (some (.slice none 0 0), 1, 24) := by kernel_rfl
theorem slk_form {W : World} {ok : Nat → Prop} {v : Value} {L : List Stp} (h : SlK W ok v L) : ∃ p cap, v = .slice p L.length cap := by
 obtain ⟨p, cap, B, o, e, -⟩ := h
 exact ⟨p, cap, e⟩
set_option maxRecDepth 100000 in
set_option maxHeartbeats 4000000 in
theorem visit_leaf {N : Nat} {w W : World} {Bo Bv : Nat} {v pv : Value} {T : List (List Stp × Value)} {P : List Stp} (d : Dat) (p q : Option Addr) (cap caq : Nat) (h : LvS N w Bo Bv v T W) (hp : SlK W (fun B => N ≤ B ∧ some B ≠ v.ownBlock) pv P) (hT : T.length ≤ 1000000) :
   Calls Tryz.prog 63 #[.agg #[.int .i64 d.k, .int .i64 d.n, .string (S d.s), .slice p 0 cap, .slice q 0 caq], pv, .pointer (some ⟨Bo, 0, none⟩), .pointer (some ⟨Bv, 0, none⟩)] W (VisP N w Bo Bv v T [P] W) := by
 obtain ⟨i0, hi, hz0, hz1, hz2⟩ := info_parts infoStps
 obtain ⟨pp, pc, rfl⟩ := slk_form hp
 obtain ⟨vp, vc, rfl⟩ := own_form5 h.own
 have HH := Lib.hid h
 have HP := Lib.hid hp
 have c0 := h.bo.cell 0
 have f0 := h.bo.frozen 0
 have hlt := h.bo.lt
 simp at c0
 clear h hp
 go_enter Tryz.func63, Tryz.ntmps63
 go_wp2_with (at_builtin; refine wpList_append_own_at _ rfl _ _ 68 rfl N 40 i0 (.slice none 0 0) 1 24 Tryz.underlying68 hi hz0 hz1 hz2 rfl (by decide) (.slice vp T.length vc) T.length (T.map fun t => t.2) rfl ((HH.out.own.alloc _).alloc _) ⟨W.heap.size + 1, 0, none⟩ 1 1 [.slice pp P.length pc] rfl rfl (cells_new_at (by simp) rfl) (by simp [Value.oneCell']) (by unfold maxLen; omega) (by omega) (by have := HH.out.nw; simp; omega) ?_; intro v' w2 hown2 hgrow _ hat; obtain ⟨vp2, vc2, rfl⟩ := own_form5 hown2; have d1 := ((HH.out.bo.alloc (.cells #[.int .i64 d.k, .int .i64 d.n, .string (S d.s), .slice p 0 cap, .slice q 0 caq] 26)).alloc (.cells #[.slice pp P.length pc] 40)).kept hgrow HH.out.bo_ne; have e0 := d1.cell 0; have e1 := d1.frozen 0; have e2 := d1.lt; simp at e0; have d2 := ((Blk.new W #[.int .i64 d.k, .int .i64 d.n, .string (S d.s), .slice p 0 cap, .slice q 0 caq] 26).alloc (.cells #[.slice pp P.length pc] 40)).kept hgrow HH.out.new_ne; have b3 := d2.cell 3; have b4 := d2.cell 4; simp at b3 b4; have b5 : W.heap.size < w2.heap.size := d2.lt; have HO := Lib.hid hown2; have HG := Lib.hid hgrow; have HAT := Lib.hid hat; clear hown2 hgrow hat d1 d2)
 refine wp_loop_rounds 1 ?_
 rw [rounds_succ]
 go_wp2_with fail
 refine wp_loop_rounds 1 ?_
 rw [rounds_succ]
 go_wp2_with fail
 go_end0
 refine ⟨rfl, .slice vp2 (T.length + 1) vc2, T ++ [(P, .slice pp P.length pc)], ?_⟩
 have hb : Below W.heap.size W ((W.alloc (.cells #[.int .i64 d.k, .int .i64 d.n, .string (S d.s), .slice p 0 cap, .slice q 0 caq] 26)).alloc (.cells #[.slice pp P.length pc] 40)) := ((Below.refl _ _).alloc (Nat.le_refl _) _).alloc (by simp) _
 have hp2 := (HP.out).under hb
 obtain ⟨q1, q2⟩ := (HH.out.below hb).push hp2 HO.out HG.out (by
   rcases HAT.out with e | e
   · exact .inl e
   · exact .inr ⟨_, e, Nat.le_refl _⟩)
 exact ⟨q1, by simp, (Kps.below Bo _ hb).trans q2⟩
end
section
theorem path_len : ∀ (n : Nat) (d : Dat) (lv : Nat), SizeOf.sizeOf d < n → chk d lv = 0 → ∀ p ∈ lvD d, p.length + lv ≤ 16
 | 0, _, _, h, _ => absurd h (Nat.not_lt_zero _)
 | n + 1, d, lv, hn, hc => by
   obtain ⟨h1, -, h3, h4⟩ := chk_zero.1 hc
   rw [lvD_eq]
   have hI : ∀ (its : List Dat) (i : Nat), (∀ x ∈ its, SizeOf.sizeOf x < n ∧ chk x (lv + 1) = 0) → ∀ p ∈ lvI its i, p.length + lv ≤ 16 := by
     intro its
     induction its with
     | nil => intro i _ p hp; rw [lvI] at hp; simp at hp
     | cons x r ih =>
       intro i h p hp
       rw [lvI] at hp
       rcases List.mem_append.1 hp with hp | hp
       · obtain ⟨q, hq, rfl⟩ := List.mem_map.1 hp
         have := path_len n x (lv + 1) (h x (List.mem_cons_self ..)).1 (h x (List.mem_cons_self ..)).2 q hq
         simp; omega
       · exact ih (i + 1) (fun y hy => h y (List.mem_cons_of_mem _ hy)) p hp
   have hM : ∀ (mem : List (List UInt8 × Dat)), (∀ q ∈ mem, SizeOf.sizeOf q.2 < n ∧ chk q.2 (lv + 1) = 0) → ∀ p ∈ lvM mem, p.length + lv ≤ 16 := by
     intro mem
     induction mem with
     | nil => intro _ p hp; rw [lvM] at hp; simp at hp
     | cons q r ih =>
       obtain ⟨l, x⟩ := q
       intro h p hp
       rw [lvM] at hp
       rcases List.mem_append.1 hp with hp | hp
       · obtain ⟨q, hq, rfl⟩ := List.mem_map.1 hp
         have := path_len n x (lv + 1) (h (l, x) (List.mem_cons_self ..)).1 (h (l, x) (List.mem_cons_self ..)).2 q hq
         simp; omega
       · exact ih (fun y hy => h y (List.mem_cons_of_mem _ hy)) p hp
   split
   · intro p hp; simp at hp; rw [hp]; simp; exact h1
   · intro p hp
     rcases List.mem_append.1 hp with hp | hp
     · exact hI d.its 0 (fun x hx => ⟨by have := dat_it hx; omega, h3 x hx⟩) p hp
     · exact hM d.mem (fun q hq => ⟨by have := dat_mg hq; omega, h4 q hq⟩) p hp
end
section
open Go.RowKit
theorem lvI_app : ∀ (a b : List Dat) (o : Nat), lvI (a ++ b) o = lvI a o ++ lvI b (o + a.length)
 | [], b, o => by simp [lvI]
 | x :: a, b, o => by rw [List.cons_append, lvI, lvI, lvI_app a b (o + 1), List.append_assoc, List.length_cons, show o + 1 + a.length = o + (a.length + 1) by omega]
theorem lvM_app : ∀ (a b : List (List UInt8 × Dat)), lvM (a ++ b) = lvM a ++ lvM b
 | [], b => by simp [lvM]
 | (l, x) :: a, b => by rw [List.cons_append, lvM, lvM, lvM_app a b, List.append_assoc]
theorem lvI_take (its : List Dat) (i : Nat) : (lvI (its.take i) 0).length ≤ (lvI its 0).length := by
 have h := lvI_app (its.take i) (its.drop i) 0
 rw [List.take_append_drop] at h
 rw [h, List.length_append]; omega
theorem lvM_take (mem : List (List UInt8 × Dat)) (i : Nat) : (lvM (mem.take i)).length ≤ (lvM mem).length := by
 have h := lvM_app (mem.take i) (mem.drop i)
 rw [List.take_append_drop] at h
 rw [h, List.length_append]; omega
theorem flatC_oneC (L : List Stp) : ∀ u ∈ flatC L, u.oneCell' = true := by
 intro u hu
 obtain ⟨t, ht, hu⟩ := List.mem_flatMap.1 hu
 simp only [List.mem_cons, List.not_mem_nil, or_false] at hu
 rcases hu with rfl | rfl <;> rfl
theorem flatC_get : ∀ (T : List Stp) (j : Nat) (h : j < T.length) (i : Nat), i < 2 → (flatC T)[j * 2 + i]? = ([.string (S T[j].lab), .int .i64 T[j].idx] : List Value)[i]?
 | t :: r, 0, _, i, hi => by
   unfold flatC
   rw [List.flatMap_cons, Nat.zero_mul, Nat.zero_add, List.getElem?_append_left (by simp; omega)]; rfl
 | t :: r, j + 1, h, i, hi => by
   have := flatC_get r j (by simpa using h) i hi
   unfold flatC at *
   rw [List.flatMap_cons, List.getElem?_append_right (by simp; omega), show (j + 1) * 2 + i - ([.string (S t.lab), .int .i64 t.idx] : List Value).length = j * 2 + i by simp; omega, this]; rfl
theorem SlK.src {W : World} {ok : Nat → Prop} {p : Option Addr} {cap n : Nat} {L : List Stp} (h : SlK W ok (.slice p n cap) L) : n = L.length ∧ (p = none → n = 0) ∧ ∀ a, p = some a → ∀ j u, (flatC L)[j]? = some u → W.cell? (a.add j) = some u := by
 obtain ⟨p', cap', B, o, e, hp, hc⟩ := h
 injection e with e1 e2 e3
 subst e1; subst e2; subst e3
 refine ⟨rfl, fun h0 => ?_, fun a ha i u hu => ?_⟩
 · rcases Nat.eq_zero_or_pos L.length with h | h
   · exact h
   · obtain ⟨h1, -⟩ := hp h
     rw [h0] at h1; cases h1
 · have hi : i < L.length * 2 := by
     have := (List.getElem?_eq_some_iff.1 hu).1
     rw [flatC_len] at this; exact this
   have hj : i / 2 < L.length := by omega
   have hm : i % 2 < 2 := Nat.mod_lt _ (by decide)
   have e : i = i / 2 * 2 + i % 2 := by omega
   have hg := flatC_get L (i / 2) hj (i % 2) hm
   rw [← e, hu] at hg
   obtain ⟨h1, -, -, -⟩ := hp (by omega)
   rw [ha] at h1
   injection h1 with h1
   subst h1
   rw [Lib.add_plain, e]
   have q1 := hc (i / 2) hj
   generalize i % 2 = r at hg hm
   generalize i / 2 = k at *
   rw [← Nat.add_assoc]
   match r, hm, hg with
   | 0, _, hg => injection hg with hg; rw [hg]; exact q1.1
   | 1, _, hg => injection hg with hg; rw [hg]; exact q1.2
theorem own_less {W : World} {b b' : Nat} {e : TypeId} {s : Nat} {v : Value} {k : Nat} {xs : List Value} (h : W.ownsRow b e s v k xs) (hb : b' ≤ b) : W.ownsRow b' e s v k xs := by
 refine ⟨h.1, ?_⟩
 rcases h.2 with h | ⟨g, cap, cur, h1, h2, h3⟩
 · exact .inl h
 · exact .inr ⟨g, cap, cur, h1, Nat.le_trans hb h2, h3⟩
theorem own_SlK {W : World} {base : Nat} {v : Value} {L : List Stp} {ok : Nat → Prop} (h : W.ownsRow base 44 2 v L.length (flatC L)) (hok : ∀ B, base ≤ B → B < W.heap.size → v.ownBlock = some B → ok B) : SlK W ok v L := by
 rcases own_head h with ⟨rfl, h0⟩ | ⟨g, cap, rfl, hb, hc, hg, ek⟩
 · refine ⟨none, 0, 0, 0, by rw [h0], fun h => by omega, fun j h => by omega⟩
 · refine ⟨_, cap, g, 0, rfl, fun _ => ⟨rfl, hc, hg, hok g hb hg ek⟩, fun j h' => ?_⟩
   have c0 := h.cells (g := g) rfl (j * 2 + 0) _ (flatC_get L j h' 0 (by omega))
   have c1 := h.cells (g := g) rfl (j * 2 + 1) _ (flatC_get L j h' 1 (by omega))
   rw [Lib.add_plain, Nat.zero_add] at c0 c1
   rw [Nat.zero_add]
   exact ⟨c0, c1⟩
theorem below_al1 {N : Nat} {w W : World} (h : Below N w W) (hN : N ≤ w.heap.size) (o : Obj) : Below N w (W.alloc o) := h.alloc (Nat.le_trans hN h.size) o
theorem Kps.blk' {W W' : World} {Bo : Nat} {v v' : Value} (h : Kps W W' Bo v v') {B : Nat} {cs : Array Value} {t : TypeId} (hB : Blk W B cs t) (h1 : B ≠ Bo) (h2 : some B ≠ v.ownBlock) : Blk W' B cs t := (h.blk B hB.lt h1 h2).trans hB
theorem Kps.slk {W W' : World} {Bo N : Nat} {v v' pv : Value} {P : List Stp} (h : Kps W W' Bo v v') (hB : Bo < N) (hp : SlK W (fun B => N ≤ B ∧ some B ≠ v.ownBlock) pv P) : SlK W' (fun B => N ≤ B ∧ some B ≠ v'.ownBlock) pv P := by
 refine hp.kept h.size fun B hlt hk => ⟨⟨hk.1, ?_⟩, fun o => World.cell?_of_block (h.blk B hlt (by omega) hk.2)⟩
 rcases h.own with e | ⟨b, e, hb⟩
 · rw [e]; exact hk.2
 · rw [e]; intro e; injection e; omega
end
end Go.Proofs.YtoahmganodehkaaGreatDoor
