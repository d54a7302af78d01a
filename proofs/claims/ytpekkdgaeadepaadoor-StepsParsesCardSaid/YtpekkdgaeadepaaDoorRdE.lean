/- The reference's Reader: escape. -/
import Derived.Test.YtpekkdgaeadepaaDoorRdA
namespace Go.Proofs.YtpekkdgaeadepaaDoor
open Go.RowKit

/-- behind a backslash: the string, the offset, failed -/
def rescP (s : List UInt8) (a : Nat) : List UInt8 × Nat × Bool :=
  if a < s.length then
    (if byt s a = 34 then ([34], a + 1, false) else if byt s a = 92 then ([92], a + 1, false) else if byt s a = 110 then ([10], a + 1, false) else if byt s a = 116 then ([9], a + 1, false) else if byt s a = 114 then ([13], a + 1, false)
    else if byt s a = 120 then
      (if dgAt s (a + 1) < 0 ∨ (1 < dgAt s (a + 1) ∧ dgAt s (a + 1) < 7) then ([], a + 1, true)
      else if dgAt s (a + 2) < 0 ∨ wrN (16 * dgAt s (a + 1) + dgAt s (a + 2)).toNat = false then ([], a + 2, true)
      else ([UInt8.ofNat (16 * dgAt s (a + 1) + dgAt s (a + 2)).toNat], a + 3, false))
    else ([], a, true))
  else ([], a, true)
def RdP (s : List UInt8) (B : Nat) (w : World) (r : List UInt8 × Nat × Bool) (e : Ending) (w' : World) : Prop := e = .returned (.string (S r.1)) ∧ w.grownBy w' (some B) ∧ RdAt w' B s r.2.1 r.2.2
theorem dgI_range (c : UInt8) : -1 ≤ dgI c ∧ dgI c < 16 := by unfold dgI; split; omega; split <;> omega
theorem dgAt_range (s : List UInt8) (a : Nat) : -1 ≤ dgAt s a ∧ dgAt s a < 16 := by unfold dgAt; split; exact dgI_range _; omega
theorem dgAt_lt {s : List UInt8} {a : Nat} (h : 0 ≤ dgAt s a) : a < s.length := by unfold dgAt at h; split at h; assumption; omega
/-- the state on the way -/
def RdG (s : List UInt8) (B : Nat) (w W : World) (a : Nat) (F : Bool) : Prop := w.grownBy W (some B) ∧ RdAt W B s a F
theorem RdG.refl {s : List UInt8} {B : Nat} {w : World} {a : Nat} {F : Bool} (h : RdAt w B s a F) : RdG s B w w a F := ⟨World.grownBy.refl _ _, h⟩
theorem RdG.below {s : List UInt8} {B : Nat} {w W W' : World} {a : Nat} {F : Bool} (h : RdG s B w W a F) (hb : Below W.heap.size W W') : RdG s B w W' a F := ⟨grown_trans h.1 (below_grown hb _), h.2.below hb⟩
theorem RdG.step {s : List UInt8} {B : Nat} {w W W' : World} {a n : Nat} {F G : Bool} (h : RdG s B w W a F) (hg : W.grownBy W' (some B)) (hr : RdAt W' B s n G) : RdG s B w W' n G := ⟨grown_trans h.1 hg, hr⟩
theorem RdG.setAt {s : List UInt8} {B : Nat} {w W : World} {a : Nat} {F : Bool} (h : RdG s B w W a F) (n : Nat) : RdG s B w (W.setCell ⟨B, 1, none⟩ (.int .i64 (n : Int))) n F := ⟨grown_trans h.1 (grown_set _ _ _ _), h.2.setAt n⟩
theorem RdG.fail {s : List UInt8} {B : Nat} {w W : World} {a : Nat} {F : Bool} (h : RdG s B w W a F) : RdG s B w (W.setCell ⟨B, 2, none⟩ (.bool true)) a true := ⟨grown_trans h.1 (grown_set _ _ _ _), h.2.fail⟩
theorem RdG.alloc {s : List UInt8} {B : Nat} {w W : World} {a : Nat} {F : Bool} (h : RdG s B w W a F) (o : Obj) : RdG s B w (W.alloc o) a F := h.below ((Below.refl _ _).alloc (Nat.le_refl _) _)
theorem RdG.drew {s : List UInt8} {B : Nat} {w W : World} {a : Nat} {F : Bool} (h : RdG s B w W a F) : RdG s B w W.drew a F := h.below (below_drew (Below.refl _ _))
theorem RdP.of {s : List UInt8} {B : Nat} {w W : World} {r : List UInt8 × Nat × Bool} {l : List UInt8} {a : Nat} {F : Bool} (h : r = (l, a, F)) (g : RdG s B w W a F) : RdP s B w r (.returned (.string (S l))) W := by
  subst h; exact ⟨rfl, g.1, g.2⟩
theorem conv_one_at {P : Program} (W : World) (H : Nat) (hH : W.heap.size = H) (src dst e t : TypeId) (c : UInt8) (cap : Nat) (hs : P.underlying src = some (.slice e)) (he : P.underlying e = some (.int .u8)) (hd : P.underlying dst = some .string) :
    (convert src dst (.slice (some ⟨H, 0, none⟩) 1 cap)).run P (W.alloc (.cells #[.int .u8 (c.toNat : Int)] t)) = .ok (.string (S [c])) (W.alloc (.cells #[.int .u8 (c.toNat : Int)] t)) := by
  subst hH; exact conv_one W src dst e t c cap hs he hd
theorem S_one (c : UInt8) : S [c] = ⟨#[c]⟩ := rfl
set_option maxRecDepth 100000 in
set_option maxHeartbeats 8000000 in
theorem escape_ref (s : List UInt8) (a : Nat) (B : Nat) (w : World) (hl : s.length ≤ 100000) (hR : RdAt w B s a false) : Calls Tryd.prog 82 #[.pointer (some ⟨B, 0, none⟩)] w (RdP s B w (rescP s a)) := by
  have G0 := Lib.hid (RdG.refl hR)
  clear hR
  obtain ⟨r, hr⟩ : ∃ r, rescP s a = r := ⟨_, rfl⟩
  rw [hr]
  by_cases hlt : a < s.length
  · skip
    by_cases hb : byt s a = 34
    · have HN : Hid (∀ k : UInt8, k ≠ 34 → (s.length ≤ a ∨ byt s a ≠ k)) := Lib.hid fun k hk => .inr fun e => hk (e.symm.trans hb)
      have HV := Lib.hid (show r = ([34], a + 1, false) by rw [← hr]; unfold rescP; rw [if_pos hlt, hb]; rfl)
      clear hr
      go_enter Tryd.func82, Tryd.ntmps82
      go_wp2_with fail
      refine (is_yes s a 34 B _ hl G0.out.2 hlt hb).mono ?_
      rintro e w1 ⟨rfl, hg1, hr1⟩
      have G1 := Lib.hid (G0.out.step hg1 hr1)
      clear hg1 hr1
      go_wp2_with fail
      go_ret
      exact RdP.of HV.out G1.out
    by_cases hb : byt s a = 92
    · have HN : Hid (∀ k : UInt8, k ≠ 92 → (s.length ≤ a ∨ byt s a ≠ k)) := Lib.hid fun k hk => .inr fun e => hk (e.symm.trans hb)
      have HV := Lib.hid (show r = ([92], a + 1, false) by rw [← hr]; unfold rescP; rw [if_pos hlt, hb]; rfl)
      clear hr
      go_enter Tryd.func82, Tryd.ntmps82
      go_wp2_with fail
      refine (is_no s a 34 B _ hl G0.out.2 (HN.out 34 (by decide))).mono ?_
      rintro e w1 ⟨rfl, hb1⟩
      have G1 := Lib.hid (G0.out.below hb1)
      clear hb1
      go_wp2_with fail
      refine (is_yes s a 92 B _ hl G1.out.2 hlt hb).mono ?_
      rintro e w2 ⟨rfl, hg2, hr2⟩
      have G2 := Lib.hid (G1.out.step hg2 hr2)
      clear hg2 hr2
      go_wp2_with fail
      go_ret
      exact RdP.of HV.out G2.out
    by_cases hb : byt s a = 110
    · have HN : Hid (∀ k : UInt8, k ≠ 110 → (s.length ≤ a ∨ byt s a ≠ k)) := Lib.hid fun k hk => .inr fun e => hk (e.symm.trans hb)
      have HV := Lib.hid (show r = ([10], a + 1, false) by rw [← hr]; unfold rescP; rw [if_pos hlt, hb]; rfl)
      clear hr
      go_enter Tryd.func82, Tryd.ntmps82
      go_wp2_with fail
      refine (is_no s a 34 B _ hl G0.out.2 (HN.out 34 (by decide))).mono ?_
      rintro e w1 ⟨rfl, hb1⟩
      have G1 := Lib.hid (G0.out.below hb1)
      clear hb1
      go_wp2_with fail
      refine (is_no s a 92 B _ hl G1.out.2 (HN.out 92 (by decide))).mono ?_
      rintro e w2 ⟨rfl, hb2⟩
      have G2 := Lib.hid (G1.out.below hb2)
      clear hb2
      go_wp2_with fail
      refine (is_yes s a 110 B _ hl G2.out.2 hlt hb).mono ?_
      rintro e w3 ⟨rfl, hg3, hr3⟩
      have G3 := Lib.hid (G2.out.step hg3 hr3)
      clear hg3 hr3
      go_wp2_with fail
      go_ret
      exact RdP.of HV.out G3.out
    by_cases hb : byt s a = 116
    · have HN : Hid (∀ k : UInt8, k ≠ 116 → (s.length ≤ a ∨ byt s a ≠ k)) := Lib.hid fun k hk => .inr fun e => hk (e.symm.trans hb)
      have HV := Lib.hid (show r = ([9], a + 1, false) by rw [← hr]; unfold rescP; rw [if_pos hlt, hb]; rfl)
      clear hr
      go_enter Tryd.func82, Tryd.ntmps82
      go_wp2_with fail
      refine (is_no s a 34 B _ hl G0.out.2 (HN.out 34 (by decide))).mono ?_
      rintro e w1 ⟨rfl, hb1⟩
      have G1 := Lib.hid (G0.out.below hb1)
      clear hb1
      go_wp2_with fail
      refine (is_no s a 92 B _ hl G1.out.2 (HN.out 92 (by decide))).mono ?_
      rintro e w2 ⟨rfl, hb2⟩
      have G2 := Lib.hid (G1.out.below hb2)
      clear hb2
      go_wp2_with fail
      refine (is_no s a 110 B _ hl G2.out.2 (HN.out 110 (by decide))).mono ?_
      rintro e w3 ⟨rfl, hb3⟩
      have G3 := Lib.hid (G2.out.below hb3)
      clear hb3
      go_wp2_with fail
      refine (is_yes s a 116 B _ hl G3.out.2 hlt hb).mono ?_
      rintro e w4 ⟨rfl, hg4, hr4⟩
      have G4 := Lib.hid (G3.out.step hg4 hr4)
      clear hg4 hr4
      go_wp2_with fail
      go_ret
      exact RdP.of HV.out G4.out
    by_cases hb : byt s a = 114
    · have HN : Hid (∀ k : UInt8, k ≠ 114 → (s.length ≤ a ∨ byt s a ≠ k)) := Lib.hid fun k hk => .inr fun e => hk (e.symm.trans hb)
      have HV := Lib.hid (show r = ([13], a + 1, false) by rw [← hr]; unfold rescP; rw [if_pos hlt, hb]; rfl)
      clear hr
      go_enter Tryd.func82, Tryd.ntmps82
      go_wp2_with fail
      refine (is_no s a 34 B _ hl G0.out.2 (HN.out 34 (by decide))).mono ?_
      rintro e w1 ⟨rfl, hb1⟩
      have G1 := Lib.hid (G0.out.below hb1)
      clear hb1
      go_wp2_with fail
      refine (is_no s a 92 B _ hl G1.out.2 (HN.out 92 (by decide))).mono ?_
      rintro e w2 ⟨rfl, hb2⟩
      have G2 := Lib.hid (G1.out.below hb2)
      clear hb2
      go_wp2_with fail
      refine (is_no s a 110 B _ hl G2.out.2 (HN.out 110 (by decide))).mono ?_
      rintro e w3 ⟨rfl, hb3⟩
      have G3 := Lib.hid (G2.out.below hb3)
      clear hb3
      go_wp2_with fail
      refine (is_no s a 116 B _ hl G3.out.2 (HN.out 116 (by decide))).mono ?_
      rintro e w4 ⟨rfl, hb4⟩
      have G4 := Lib.hid (G3.out.below hb4)
      clear hb4
      go_wp2_with fail
      refine (is_yes s a 114 B _ hl G4.out.2 hlt hb).mono ?_
      rintro e w5 ⟨rfl, hg5, hr5⟩
      have G5 := Lib.hid (G4.out.step hg5 hr5)
      clear hg5 hr5
      go_wp2_with fail
      go_ret
      exact RdP.of HV.out G5.out
    by_cases hb : byt s a = 120
    · have HN : Hid (∀ k : UInt8, k ≠ 120 → (s.length ≤ a ∨ byt s a ≠ k)) := Lib.hid fun k hk => .inr fun e => hk (e.symm.trans hb)
      have hr' : r = (if dgAt s (a + 1) < 0 ∨ (1 < dgAt s (a + 1) ∧ dgAt s (a + 1) < 7) then ([], a + 1, true) else if dgAt s (a + 2) < 0 ∨ wrN (16 * dgAt s (a + 1) + dgAt s (a + 2)).toNat = false then ([], a + 2, true) else ([UInt8.ofNat (16 * dgAt s (a + 1) + dgAt s (a + 2)).toNat], a + 3, false)) := by rw [← hr]; unfold rescP; rw [if_pos hlt, hb]; rfl
      clear hr
      have hq1 := dgAt_range s (a + 1)
      have hq2 := dgAt_range s (a + 2)
      have hq3 := fun h => dgAt_lt (s := s) (a := a + 1) h
      obtain ⟨p, hp⟩ : ∃ p, dgAt s (a + 1) = p := ⟨_, rfl⟩
      obtain ⟨q, hq⟩ : ∃ q, dgAt s (a + 2) = q := ⟨_, rfl⟩
      rw [hp, hq] at hr'
      rw [hp] at hq1 hq3
      rw [hq] at hq2
      have HP := Lib.hid hp
      have HQ := Lib.hid hq
      clear hp hq
      have way : (r = ([], a + 1, true) ∧ (decide (p < 0) = true ∨ (decide (p < 0) = false ∧ decide ((1 : Int) < p) = true ∧ decide (p < 7) = true))) ∨ (0 ≤ p ∧ (decide (p < 0) = false ∧ (decide ((1 : Int) < p) = false ∨ (decide ((1 : Int) < p) = true ∧ decide (p < 7) = false))) ∧ ((r = ([], a + 2, true) ∧ decide (q < 0) = true) ∨ (decide (q < 0) = false ∧ ∃ m : Nat, m < 256 ∧ 16 * p + q = (m : Int) ∧ ((wrN m = false ∧ r = ([], a + 2, true)) ∨ (wrN m = true ∧ r = ([UInt8.ofNat m], a + 3, false)))))) := by
        by_cases h1 : p < 0 ∨ (1 < p ∧ p < 7)
        · rw [if_pos h1] at hr'
          refine .inl ⟨hr', ?_⟩
          by_cases h2 : p < 0
          · exact .inl (decide_eq_true h2)
          · exact .inr ⟨decide_eq_false h2, decide_eq_true (by omega), decide_eq_true (by omega)⟩
        · rw [if_neg h1] at hr'
          refine .inr ⟨by omega, ⟨decide_eq_false (by omega), ?_⟩, ?_⟩
          · by_cases h2 : 1 < p
            · exact .inr ⟨decide_eq_true h2, decide_eq_false (by omega)⟩
            · exact .inl (decide_eq_false h2)
          · by_cases h3 : q < 0
            · rw [if_pos (.inl h3)] at hr'; exact .inl ⟨hr', decide_eq_true h3⟩
            · refine .inr ⟨decide_eq_false h3, (16 * p + q).toNat, by omega, by omega, ?_⟩
              rcases bool_two (wrN (16 * p + q).toNat) with h4 | h4
              · rw [if_pos (.inr h4)] at hr'; exact .inl ⟨h4, hr'⟩
              · rw [if_neg (by rw [h4]; simp; omega)] at hr'; exact .inr ⟨h4, hr'⟩
      clear hr'
      rcases way with ⟨hv, h1 | ⟨h1, h2, h3⟩⟩ | ⟨hp0, hpw, hw⟩
      iterate 2
        · have HV := Lib.hid hv
          clear hv hq1 hq2 hq3
          go_enter Tryd.func82, Tryd.ntmps82
          go_wp2_with fail
          refine (is_no s a 34 B _ hl G0.out.2 (HN.out 34 (by decide))).mono ?_
          rintro e w1 ⟨rfl, hb1⟩
          have G1 := Lib.hid (G0.out.below hb1)
          clear hb1
          go_wp2_with fail
          refine (is_no s a 92 B _ hl G1.out.2 (HN.out 92 (by decide))).mono ?_
          rintro e w2 ⟨rfl, hb2⟩
          have G2 := Lib.hid (G1.out.below hb2)
          clear hb2
          go_wp2_with fail
          refine (is_no s a 110 B _ hl G2.out.2 (HN.out 110 (by decide))).mono ?_
          rintro e w3 ⟨rfl, hb3⟩
          have G3 := Lib.hid (G2.out.below hb3)
          clear hb3
          go_wp2_with fail
          refine (is_no s a 116 B _ hl G3.out.2 (HN.out 116 (by decide))).mono ?_
          rintro e w4 ⟨rfl, hb4⟩
          have G4 := Lib.hid (G3.out.below hb4)
          clear hb4
          go_wp2_with fail
          refine (is_no s a 114 B _ hl G4.out.2 (HN.out 114 (by decide))).mono ?_
          rintro e w5 ⟨rfl, hb5⟩
          have G5 := Lib.hid (G4.out.below hb5)
          clear hb5
          go_wp2_with fail
          refine (is_yes s a 120 B _ hl G5.out.2 hlt hb).mono ?_
          rintro e w6 ⟨rfl, hg6, hr6⟩
          have G6 := Lib.hid (G5.out.step hg6 hr6)
          clear hg6 hr6
          go_wp2_with fail
          refine (digit_any s (a + 1) B _ hl G6.out.2).mono ?_
          rintro e w7 ⟨rfl, hb7⟩
          rw [HP.out]
          have G7 := Lib.hid (G6.out.below hb7)
          clear hb7
          obtain ⟨x0, x1, x2⟩ := G7.out.2.cells
          have f1 := Blk.frozen G7.out.2 1
          have f2 := Blk.frozen G7.out.2 2
          go_wp2_with fail
          go_ret
          exact RdP.of HV.out G7.out.fail
      · have ha1 := hq3 hp0
        have c1 : ((a : Int) + 1) + 1 = ((a + 2 : Nat) : Int) := by omega
        rcases hpw with ⟨h1, h2 | ⟨h2, h3⟩⟩
        all_goals
          rcases hw with ⟨hv, h4⟩ | ⟨h4, m, hm, hpq, ⟨hwr, hv⟩ | ⟨hwr, hv⟩⟩
          · have HV := Lib.hid hv
            clear hv hq1 hq2 hq3
            go_enter Tryd.func82, Tryd.ntmps82
            go_wp2_with fail
            refine (is_no s a 34 B _ hl G0.out.2 (HN.out 34 (by decide))).mono ?_
            rintro e w1 ⟨rfl, hb1⟩
            have G1 := Lib.hid (G0.out.below hb1)
            clear hb1
            go_wp2_with fail
            refine (is_no s a 92 B _ hl G1.out.2 (HN.out 92 (by decide))).mono ?_
            rintro e w2 ⟨rfl, hb2⟩
            have G2 := Lib.hid (G1.out.below hb2)
            clear hb2
            go_wp2_with fail
            refine (is_no s a 110 B _ hl G2.out.2 (HN.out 110 (by decide))).mono ?_
            rintro e w3 ⟨rfl, hb3⟩
            have G3 := Lib.hid (G2.out.below hb3)
            clear hb3
            go_wp2_with fail
            refine (is_no s a 116 B _ hl G3.out.2 (HN.out 116 (by decide))).mono ?_
            rintro e w4 ⟨rfl, hb4⟩
            have G4 := Lib.hid (G3.out.below hb4)
            clear hb4
            go_wp2_with fail
            refine (is_no s a 114 B _ hl G4.out.2 (HN.out 114 (by decide))).mono ?_
            rintro e w5 ⟨rfl, hb5⟩
            have G5 := Lib.hid (G4.out.below hb5)
            clear hb5
            go_wp2_with fail
            refine (is_yes s a 120 B _ hl G5.out.2 hlt hb).mono ?_
            rintro e w6 ⟨rfl, hg6, hr6⟩
            have G6 := Lib.hid (G5.out.step hg6 hr6)
            clear hg6 hr6
            go_wp2_with fail
            refine (digit_any s (a + 1) B _ hl G6.out.2).mono ?_
            rintro e w7 ⟨rfl, hb7⟩
            rw [HP.out]
            have G7 := Lib.hid (G6.out.below hb7)
            clear hb7
            obtain ⟨x0, x1, x2⟩ := G7.out.2.cells
            have f1 := Blk.frozen G7.out.2 1
            have f2 := Blk.frozen G7.out.2 2
            go_wp2_with fail
            have G8 := Lib.hid (G7.out.setAt (a + 2))
            rw [show (w7.setCell ⟨B, 1, none⟩ (.int .i64 ((a + 2 : Nat) : Int))) = w7.setCell ⟨B, 1, none⟩ (.int .i64 ((a : Int) + 1 + 1)) by rw [c1]] at G8
            clear x0 x1 x2 f1 f2
            refine (digit_any s (a + 2) B _ hl G8.out.2).mono ?_
            rintro e w9 ⟨rfl, hb9⟩
            rw [HQ.out]
            have G9 := Lib.hid (G8.out.below hb9)
            clear hb9
            obtain ⟨x0, x1, x2⟩ := G9.out.2.cells
            have f1 := Blk.frozen G9.out.2 1
            have f2 := Blk.frozen G9.out.2 2
            go_wp2_with fail
            go_ret
            exact RdP.of HV.out G9.out.fail
          · have HV := Lib.hid hv
            have HW := Lib.hid hwr
            have HM := Lib.hid hpq
            clear hv hq3 hwr
            go_enter Tryd.func82, Tryd.ntmps82
            go_wp2_with fail
            refine (is_no s a 34 B _ hl G0.out.2 (HN.out 34 (by decide))).mono ?_
            rintro e w1 ⟨rfl, hb1⟩
            have G1 := Lib.hid (G0.out.below hb1)
            clear hb1
            go_wp2_with fail
            refine (is_no s a 92 B _ hl G1.out.2 (HN.out 92 (by decide))).mono ?_
            rintro e w2 ⟨rfl, hb2⟩
            have G2 := Lib.hid (G1.out.below hb2)
            clear hb2
            go_wp2_with fail
            refine (is_no s a 110 B _ hl G2.out.2 (HN.out 110 (by decide))).mono ?_
            rintro e w3 ⟨rfl, hb3⟩
            have G3 := Lib.hid (G2.out.below hb3)
            clear hb3
            go_wp2_with fail
            refine (is_no s a 116 B _ hl G3.out.2 (HN.out 116 (by decide))).mono ?_
            rintro e w4 ⟨rfl, hb4⟩
            have G4 := Lib.hid (G3.out.below hb4)
            clear hb4
            go_wp2_with fail
            refine (is_no s a 114 B _ hl G4.out.2 (HN.out 114 (by decide))).mono ?_
            rintro e w5 ⟨rfl, hb5⟩
            have G5 := Lib.hid (G4.out.below hb5)
            clear hb5
            go_wp2_with fail
            refine (is_yes s a 120 B _ hl G5.out.2 hlt hb).mono ?_
            rintro e w6 ⟨rfl, hg6, hr6⟩
            have G6 := Lib.hid (G5.out.step hg6 hr6)
            clear hg6 hr6
            go_wp2_with fail
            refine (digit_any s (a + 1) B _ hl G6.out.2).mono ?_
            rintro e w7 ⟨rfl, hb7⟩
            rw [HP.out]
            have G7 := Lib.hid (G6.out.below hb7)
            clear hb7
            obtain ⟨x0, x1, x2⟩ := G7.out.2.cells
            have f1 := Blk.frozen G7.out.2 1
            have f2 := Blk.frozen G7.out.2 2
            go_wp2_with fail
            have G8 := Lib.hid (G7.out.setAt (a + 2))
            rw [show (w7.setCell ⟨B, 1, none⟩ (.int .i64 ((a + 2 : Nat) : Int))) = w7.setCell ⟨B, 1, none⟩ (.int .i64 ((a : Int) + 1 + 1)) by rw [c1]] at G8
            clear x0 x1 x2 f1 f2
            refine (digit_any s (a + 2) B _ hl G8.out.2).mono ?_
            rintro e w9 ⟨rfl, hb9⟩
            rw [HQ.out]
            have G9 := Lib.hid (G8.out.below hb9)
            clear hb9
            obtain ⟨x0, x1, x2⟩ := G9.out.2.cells
            have f1 := Blk.frozen G9.out.2 1
            have f2 := Blk.frozen G9.out.2 2
            go_wp2_with fail
            refine (refWritten_any m _).mono ?_
            rintro e w10 ⟨rfl, rfl⟩
            rw [HW.out]
            go_wp2_with fail
            go_ret
            exact RdP.of HV.out G9.out.fail
          · have HV := Lib.hid hv
            have HW := Lib.hid hwr
            have HM := Lib.hid hpq
            clear hv hq3 hwr
            go_enter Tryd.func82, Tryd.ntmps82
            go_wp2_with fail
            refine (is_no s a 34 B _ hl G0.out.2 (HN.out 34 (by decide))).mono ?_
            rintro e w1 ⟨rfl, hb1⟩
            have G1 := Lib.hid (G0.out.below hb1)
            clear hb1
            go_wp2_with fail
            refine (is_no s a 92 B _ hl G1.out.2 (HN.out 92 (by decide))).mono ?_
            rintro e w2 ⟨rfl, hb2⟩
            have G2 := Lib.hid (G1.out.below hb2)
            clear hb2
            go_wp2_with fail
            refine (is_no s a 110 B _ hl G2.out.2 (HN.out 110 (by decide))).mono ?_
            rintro e w3 ⟨rfl, hb3⟩
            have G3 := Lib.hid (G2.out.below hb3)
            clear hb3
            go_wp2_with fail
            refine (is_no s a 116 B _ hl G3.out.2 (HN.out 116 (by decide))).mono ?_
            rintro e w4 ⟨rfl, hb4⟩
            have G4 := Lib.hid (G3.out.below hb4)
            clear hb4
            go_wp2_with fail
            refine (is_no s a 114 B _ hl G4.out.2 (HN.out 114 (by decide))).mono ?_
            rintro e w5 ⟨rfl, hb5⟩
            have G5 := Lib.hid (G4.out.below hb5)
            clear hb5
            go_wp2_with fail
            refine (is_yes s a 120 B _ hl G5.out.2 hlt hb).mono ?_
            rintro e w6 ⟨rfl, hg6, hr6⟩
            have G6 := Lib.hid (G5.out.step hg6 hr6)
            clear hg6 hr6
            go_wp2_with fail
            refine (digit_any s (a + 1) B _ hl G6.out.2).mono ?_
            rintro e w7 ⟨rfl, hb7⟩
            rw [HP.out]
            have G7 := Lib.hid (G6.out.below hb7)
            clear hb7
            obtain ⟨x0, x1, x2⟩ := G7.out.2.cells
            have f1 := Blk.frozen G7.out.2 1
            have f2 := Blk.frozen G7.out.2 2
            go_wp2_with fail
            have G8 := Lib.hid (G7.out.setAt (a + 2))
            rw [show (w7.setCell ⟨B, 1, none⟩ (.int .i64 ((a + 2 : Nat) : Int))) = w7.setCell ⟨B, 1, none⟩ (.int .i64 ((a : Int) + 1 + 1)) by rw [c1]] at G8
            clear x0 x1 x2 f1 f2
            refine (digit_any s (a + 2) B _ hl G8.out.2).mono ?_
            rintro e w9 ⟨rfl, hb9⟩
            rw [HQ.out]
            have G9 := Lib.hid (G8.out.below hb9)
            clear hb9
            obtain ⟨x0, x1, x2⟩ := G9.out.2.cells
            have f1 := Blk.frozen G9.out.2 1
            have f2 := Blk.frozen G9.out.2 2
            go_wp2_with fail
            refine (refWritten_any m _).mono ?_
            rintro e w10 ⟨rfl, rfl⟩
            rw [HW.out]
            have hu : (UInt8.ofNat m).toNat = m := u8_ofNat_toNat m hm
            have hcv := fun v cap => conv_one_at (P := Tryd.prog) (w9.setCell ⟨B, 1, none⟩ v) w9.heap.size (by simp [World.setCell]) 33 9 5 5 (UInt8.ofNat m) cap Tryd.underlying33 Tryd.underlying5 Tryd.underlying9
            simp only [hu] at hcv
            have q0 : IntKind.u8.wrap (m : Int) = (m : Int) := IntWalk.u8_in _ (by omega)
            have c2 : ((a + 2 : Nat) : Int) + 1 = ((a + 3 : Nat) : Int) := by omega
            have G10 := Lib.hid (G9.out.setAt (a + 3))
            go_wp2_with fail
            go_ret
            exact RdP.of HV.out (G10.out.alloc _)
    have HN : Hid (∀ k : UInt8, k = 34 ∨ k = 92 ∨ k = 110 ∨ k = 116 ∨ k = 114 ∨ k = 120 → (s.length ≤ a ∨ byt s a ≠ k)) := Lib.hid fun k hk => .inr fun e => by rcases hk with rfl | rfl | rfl | rfl | rfl | rfl <;> contradiction
    have HV := Lib.hid (show r = ([], a, true) by rw [← hr]; unfold rescP; rw [if_pos hlt]; simp [*])
    clear hr
    go_enter Tryd.func82, Tryd.ntmps82
    go_wp2_with fail
    refine (is_no s a 34 B _ hl G0.out.2 (HN.out 34 (by decide))).mono ?_
    rintro e w1 ⟨rfl, hb1⟩
    have G1 := Lib.hid (G0.out.below hb1)
    clear hb1
    go_wp2_with fail
    refine (is_no s a 92 B _ hl G1.out.2 (HN.out 92 (by decide))).mono ?_
    rintro e w2 ⟨rfl, hb2⟩
    have G2 := Lib.hid (G1.out.below hb2)
    clear hb2
    go_wp2_with fail
    refine (is_no s a 110 B _ hl G2.out.2 (HN.out 110 (by decide))).mono ?_
    rintro e w3 ⟨rfl, hb3⟩
    have G3 := Lib.hid (G2.out.below hb3)
    clear hb3
    go_wp2_with fail
    refine (is_no s a 116 B _ hl G3.out.2 (HN.out 116 (by decide))).mono ?_
    rintro e w4 ⟨rfl, hb4⟩
    have G4 := Lib.hid (G3.out.below hb4)
    clear hb4
    go_wp2_with fail
    refine (is_no s a 114 B _ hl G4.out.2 (HN.out 114 (by decide))).mono ?_
    rintro e w5 ⟨rfl, hb5⟩
    have G5 := Lib.hid (G4.out.below hb5)
    clear hb5
    go_wp2_with fail
    refine (is_no s a 120 B _ hl G5.out.2 (HN.out 120 (by decide))).mono ?_
    rintro e w6 ⟨rfl, hb6⟩
    have G6 := Lib.hid (G5.out.below hb6)
    clear hb6
    obtain ⟨x0, x1, x2⟩ := G6.out.2.cells
    have f1 := Blk.frozen G6.out.2 1
    have f2 := Blk.frozen G6.out.2 2
    go_wp2_with fail
    go_ret
    exact RdP.of HV.out G6.out.fail
  · have HN : Hid (∀ k : UInt8, k = k → (s.length ≤ a ∨ byt s a ≠ k)) := Lib.hid fun k _ => .inl (by omega)
    have HV := Lib.hid (show r = ([], a, true) by rw [← hr]; unfold rescP; rw [if_neg hlt])
    clear hr
    go_enter Tryd.func82, Tryd.ntmps82
    go_wp2_with fail
    refine (is_no s a 34 B _ hl G0.out.2 (HN.out 34 (by decide))).mono ?_
    rintro e w1 ⟨rfl, hb1⟩
    have G1 := Lib.hid (G0.out.below hb1)
    clear hb1
    go_wp2_with fail
    refine (is_no s a 92 B _ hl G1.out.2 (HN.out 92 (by decide))).mono ?_
    rintro e w2 ⟨rfl, hb2⟩
    have G2 := Lib.hid (G1.out.below hb2)
    clear hb2
    go_wp2_with fail
    refine (is_no s a 110 B _ hl G2.out.2 (HN.out 110 (by decide))).mono ?_
    rintro e w3 ⟨rfl, hb3⟩
    have G3 := Lib.hid (G2.out.below hb3)
    clear hb3
    go_wp2_with fail
    refine (is_no s a 116 B _ hl G3.out.2 (HN.out 116 (by decide))).mono ?_
    rintro e w4 ⟨rfl, hb4⟩
    have G4 := Lib.hid (G3.out.below hb4)
    clear hb4
    go_wp2_with fail
    refine (is_no s a 114 B _ hl G4.out.2 (HN.out 114 (by decide))).mono ?_
    rintro e w5 ⟨rfl, hb5⟩
    have G5 := Lib.hid (G4.out.below hb5)
    clear hb5
    go_wp2_with fail
    refine (is_no s a 120 B _ hl G5.out.2 (HN.out 120 (by decide))).mono ?_
    rintro e w6 ⟨rfl, hb6⟩
    have G6 := Lib.hid (G5.out.below hb6)
    clear hb6
    obtain ⟨x0, x1, x2⟩ := G6.out.2.cells
    have f1 := Blk.frozen G6.out.2 1
    have f2 := Blk.frozen G6.out.2 2
    go_wp2_with fail
    go_ret
    exact RdP.of HV.out G6.out.fail
end Go.Proofs.YtpekkdgaeadepaaDoor
