/- Walks of the versions: Compare. -/
import Derived.Deep.RegionHeld3
import Derived.Deep.DeepCutAuto
import Derived.Deep.CutBlock
import Derived.Test.YtppbbalojbedpaaDoorEq3
namespace Go.Proofs.YtppbbalojbedpaaDoor
open Go.RowKit

theorem below_al {W : World} {N : Nat} (o : Obj) (h : N ≤ W.heap.size) : Below N W (W.alloc o) := (Below.refl _ _).alloc h _
theorem below_fold1 {X : World} {N : Nat} {o o' : Obj} (h : N ≤ X.heap.size) : Below N (X.alloc o) (X.alloc o') :=
  ⟨rfl, rfl, rfl, by simp, fun k hk => by simp only [World.alloc]; rw [Array.getElem?_push_lt (by omega), Array.getElem?_push_lt (by omega)]⟩
theorem below_fold2 {X : World} {N : Nat} {o1 o2 o1' o2' : Obj} (h : N ≤ X.heap.size) : Below N ((X.alloc o1).alloc o2) ((X.alloc o1').alloc o2') :=
  ⟨rfl, rfl, rfl, by simp, fun k hk => by
    simp only [World.alloc]
    rw [Array.getElem?_push_lt (by simp; omega), Array.getElem?_push_lt (by simp; omega), Array.getElem_push_lt (by omega), Array.getElem_push_lt (by omega)]⟩
theorem below_set3 {W : World} {N M : Nat} (v0 v1 v2 : Value) (h : N ≤ M) : Below N W (((W.setCell ⟨M, 0, none⟩ v0).setCell ⟨M, 1, none⟩ v1).setCell ⟨M, 2, none⟩ v2) :=
  (((Below.refl _ _).setCell h _).setCell h _).setCell h _
theorem keepS {w W w1 : World} {B : Nat} {v0 v1 v2 v3 v4 v5 : Value} (hb : Below (B + 2) W w1) (h0 : W.cell? ⟨B, 0, none⟩ = some v0) (h1 : W.cell? ⟨B, 1, none⟩ = some v1) (h2 : W.cell? ⟨B, 2, none⟩ = some v2) (h3 : W.cell? ⟨B + 1, 0, none⟩ = some v3) (h4 : W.cell? ⟨B + 1, 1, none⟩ = some v4) (h5 : W.cell? ⟨B + 1, 2, none⟩ = some v5)
    (hs : B + 2 ≤ W.heap.size) (hB : Below B w W) :
    w1.cell? ⟨B, 0, none⟩ = some v0 ∧ w1.cell? ⟨B, 1, none⟩ = some v1 ∧ w1.cell? ⟨B, 2, none⟩ = some v2 ∧ w1.cell? ⟨B + 1, 0, none⟩ = some v3 ∧ w1.cell? ⟨B + 1, 1, none⟩ = some v4 ∧ w1.cell? ⟨B + 1, 2, none⟩ = some v5 ∧ B + 2 ≤ w1.heap.size ∧ Below B w w1 := by
  have hc : ∀ b o, b < B + 2 → w1.cell? ⟨b, o, none⟩ = W.cell? ⟨b, o, none⟩ := fun b o h => hb.cell (p := ⟨b, o, none⟩) h
  refine ⟨(hc _ _ (by omega)).trans h0, (hc _ _ (by omega)).trans h1, (hc _ _ (by omega)).trans h2, (hc _ _ (by omega)).trans h3, (hc _ _ (by omega)).trans h4, (hc _ _ (by omega)).trans h5, Nat.le_trans hs hb.size, hB.trans (hb.mono (by omega))⟩
theorem keepH {w W w1 : World} {B : Nat} {v0 v1 v2 v3 v4 v5 : Value} (hb : Below (B + 2) W w1) (h : W.cell? ⟨B, 0, none⟩ = some v0 ∧ W.cell? ⟨B, 1, none⟩ = some v1 ∧ W.cell? ⟨B, 2, none⟩ = some v2 ∧ W.cell? ⟨B + 1, 0, none⟩ = some v3 ∧ W.cell? ⟨B + 1, 1, none⟩ = some v4 ∧ W.cell? ⟨B + 1, 2, none⟩ = some v5 ∧ B + 2 ≤ W.heap.size ∧ Below B w W) : w1.cell? ⟨B, 0, none⟩ = some v0 ∧ w1.cell? ⟨B, 1, none⟩ = some v1 ∧ w1.cell? ⟨B, 2, none⟩ = some v2 ∧ w1.cell? ⟨B + 1, 0, none⟩ = some v3 ∧ w1.cell? ⟨B + 1, 1, none⟩ = some v4 ∧ w1.cell? ⟨B + 1, 2, none⟩ = some v5 ∧ B + 2 ≤ w1.heap.size ∧ Below B w w1 := keepS hb h.1 h.2.1 h.2.2.1 h.2.2.2.1 h.2.2.2.2.1 h.2.2.2.2.2.1 h.2.2.2.2.2.2.1 h.2.2.2.2.2.2.2
set_option maxRecDepth 100000 in
set_option maxHeartbeats 2000000 in
theorem Compare_any (a b c x y z : Int) (w : World) : Calls Tryd.prog 20 #[.agg #[.int .i64 a, .int .i64 b, .int .i64 c], .agg #[.int .i64 x, .int .i64 y, .int .i64 z]] w fun e w' => e = .returned (.int .i64 (cmpV ⟨a, b, c⟩ ⟨x, y, z⟩)) ∧ Below w.heap.size w w' := by
  have HC : Hid (cmpV ⟨a, b, c⟩ ⟨x, y, z⟩ = if a ≠ x then cmpI a x else if b ≠ y then cmpI b y else cmpI c z) := Lib.hid rfl
  generalize cmpV ⟨a, b, c⟩ ⟨x, y, z⟩ = r at HC ⊢
  go_enter Tryd.func20, Tryd.ntmps20
  go_upto_region 1 with fail
  have hF : ∀ W, W = (w.alloc (.cells #[.int .i64 a, .int .i64 b, .int .i64 c] 23)).alloc (.cells #[.int .i64 x, .int .i64 y, .int .i64 z] 23) → (W.drew.cell? ⟨w.heap.size, 0, none⟩ = some (.int .i64 a) ∧ W.drew.cell? ⟨w.heap.size, 1, none⟩ = some (.int .i64 b) ∧ W.drew.cell? ⟨w.heap.size, 2, none⟩ = some (.int .i64 c) ∧ W.drew.cell? ⟨w.heap.size + 1, 0, none⟩ = some (.int .i64 x) ∧ W.drew.cell? ⟨w.heap.size + 1, 1, none⟩ = some (.int .i64 y) ∧ W.drew.cell? ⟨w.heap.size + 1, 2, none⟩ = some (.int .i64 z)) ∧ w.heap.size + 2 ≤ W.drew.heap.size ∧ Below w.heap.size w W.drew := by
    intro W hW
    have hB : Below w.heap.size w W := by rw [hW]; go_grown
    refine ⟨?_, by rw [hW]; simp, below_drewN hB 1⟩
    rw [hW]; simp
  have hF := hF _ rfl
  generalize (w.alloc (.cells #[.int .i64 a, .int .i64 b, .int .i64 c] 23)).alloc (.cells #[.int .i64 x, .int .i64 y, .int .i64 z] 23) = W0 at hF ⊢
  obtain ⟨⟨f0, f1, f2, f3, f4, f5⟩, f6, f7⟩ := hF
  go_cut [5, 6] (fun p q wx => ∃ B1 B2, p = .pointer (some ⟨B1, 0, none⟩) ∧ q = .pointer (some ⟨B2, 0, none⟩) ∧ Blk wx B1 #[.int .i64 a, .int .i64 b, .int .i64 c] 36 ∧ Blk wx B2 #[.int .i64 x, .int .i64 y, .int .i64 z] 36 ∧ B1 ≠ B2 ∧ Below w.heap.size w wx)
  case first =>
    refine wp_region_noPanic ?_
    refine wp_region_held_drew (S := (fun w' => w'.cell? ⟨w.heap.size, 0, none⟩ = some (.int .i64 a) ∧ w'.cell? ⟨w.heap.size, 1, none⟩ = some (.int .i64 b) ∧ w'.cell? ⟨w.heap.size, 2, none⟩ = some (.int .i64 c) ∧ w'.cell? ⟨w.heap.size + 1, 0, none⟩ = some (.int .i64 x) ∧ w'.cell? ⟨w.heap.size + 1, 1, none⟩ = some (.int .i64 y) ∧ w'.cell? ⟨w.heap.size + 1, 2, none⟩ = some (.int .i64 z) ∧ w.heap.size + 2 ≤ w'.heap.size ∧ Below w.heap.size w w')) (by kernel_rfl) ⟨f0, f1, f2, f3, f4, f5, f6, f7⟩ (fun hS => ?_)
    clear f0 f1 f2 f3 f4 f5 f6 f7
    refine wpAnyH_take (i := 0) (v := ?v0) rfl (by kernel_rfl) (by kernel_rfl) (by kernel_rfl) (fun _ _ _ h => h) (Or.inl ⟨by rfl, ?hy0⟩) hS ?rest0
    case hy0 => (intro v hSw; (try dsimp only at hSw); try simp only [List.getElem_toArray, List.getElem_cons_zero]; go_simp; (try with_reducible rfl))
    try simp only [Act.put, List.setIfInBounds_toArray]
    refine wpAnyH_take (i := 2) (v := ?v2) rfl (by kernel_rfl) (by kernel_rfl) (by kernel_rfl) (fun _ _ _ h => h) (Or.inl ⟨by rfl, ?hy2⟩) hS ?rest2
    case hy2 => (intro v hSw; (try dsimp only at hSw); try simp only [List.getElem_toArray, List.getElem_cons_zero, List.getElem_cons_succ]; go_simp; (try with_reducible rfl))
    try simp only [Act.put]
    generalize W0.drew = V0 at hS ⊢
    try dsimp only at hS
    refine wpAnyH_ready (rs := [1, 4, 5]) (by kernel_rfl) (by simp) ?_
    refine AllReadyH.cons rfl (fun K hK => ?_) ?_
    · try simp only [List.getElem_toArray, List.getElem_cons_zero, List.getElem_cons_succ]
      go_simp
      refine (numbers_any _ _ _ _).mono ?_
      rintro e V1 ⟨rfl, hb⟩
      try go_wp2_with fail
      refine hK.out _ _ (keepH (hb.mono hS.2.2.2.2.2.2.1) hS) (fun hS' => ?_)
      clear hK K hS
      have hS := hS'
      clear hS'
      clear hb
      try simp only [Act.put, List.setIfInBounds_toArray, List.set_cons_zero, List.set_cons_succ]
      refine wpAnyH_ready (rs := [3, 4, 5]) (by kernel_rfl) (by simp) ?_
      refine AllReadyH.cons rfl (fun K hK => ?_) ?_
      · try simp only [List.getElem_toArray, List.getElem_cons_zero, List.getElem_cons_succ]
        go_simp
        refine (numbers_any _ _ _ _).mono ?_
        rintro e V2 ⟨rfl, hb⟩
        try go_wp2_with fail
        refine hK.out _ _ (keepH (hb.mono hS.2.2.2.2.2.2.1) hS) (fun hS' => ?_)
        clear hK K hS
        have hS := hS'
        clear hS'
        clear hb
        try simp only [Act.put, List.setIfInBounds_toArray, List.set_cons_zero, List.set_cons_succ]
        refine wpAnyH_ready (rs := [4, 5]) (by kernel_rfl) (by simp) ?_
        refine AllReadyH.cons rfl (fun K hK => ?_) ?_
        · try simp only [List.getElem_toArray, List.getElem_cons_zero, List.getElem_cons_succ]
          go_simp
          have hb5 : w.heap.size + 2 ≤ V2.heap.size := hS.2.2.2.2.2.2.1
          have hbw := below_al (.cells #[.int .i64 0, .int .i64 0, .int .i64 0] 36) hS.2.2.2.2.2.2.1
          refine hK.out _ _ (keepH hbw hS) (fun hS' => ?_)
          clear hK K hbw
          have b5 := Blk.new V2 #[.int .i64 0, .int .i64 0, .int .i64 0] 36
          generalize hU : V2.alloc (.cells #[.int .i64 0, .int .i64 0, .int .i64 0] 36) = V3 at b5 hS' ⊢
          clear hU hS
          have hS := hS'
          clear hS'
          try simp only [Act.put, List.setIfInBounds_toArray, List.set_cons_zero, List.set_cons_succ]
          refine wpAnyH_ready (rs := [5]) (by kernel_rfl) (by simp) ?_
          refine AllReadyH.cons rfl (fun K hK => ?_) ?_
          · try simp only [List.getElem_toArray, List.getElem_cons_zero, List.getElem_cons_succ]
            go_simp
            have hb6 : w.heap.size + 2 ≤ V3.heap.size := hS.2.2.2.2.2.2.1
            have hbw := below_al (.cells #[.int .i64 0, .int .i64 0, .int .i64 0] 36) hS.2.2.2.2.2.2.1
            refine hK.out _ _ (keepH hbw hS) (fun hS' => ?_)
            clear hK K hbw
            have b6 := Blk.new V3 #[.int .i64 0, .int .i64 0, .int .i64 0] 36
            have hn := Nat.ne_of_lt b5.lt
            have b5 := b5.alloc (.cells #[.int .i64 0, .int .i64 0, .int .i64 0] 36)
            generalize hU : V3.alloc (.cells #[.int .i64 0, .int .i64 0, .int .i64 0] 36) = V4 at b6 b5 hS' ⊢
            clear hU hS
            have hS := hS'
            clear hS'
            try simp only [Act.put, List.setIfInBounds_toArray, List.set_cons_zero, List.set_cons_succ]
            refine wpAnyH_ready (rs := [6]) (by kernel_rfl) (by simp) ?_
            refine AllReadyH.cons rfl (fun K hK => ?_) ?_
            · try simp only [List.getElem_toArray, List.getElem_cons_zero, List.getElem_cons_succ]
              have c0 := b5.cell 0
              have g0 := b5.frozen 0
              have c1 := b5.cell 1
              have g1 := b5.frozen 1
              have c2 := b5.cell 2
              have g2 := b5.frozen 2
              simp at c0 c1 c2
              go_simp
              clear c0 c1 c2 g0 g1 g2
              have hbw := below_set3 (W := V4) (.int .i64 a) (.int .i64 b) (.int .i64 c) hb5
              refine hK.out _ _ (keepH hbw hS) (fun hS' => ?_)
              clear hK K hbw
              have b6 := ((b6.set_other 0 (.int .i64 a) hn).set_other 1 (.int .i64 b) hn).set_other 2 (.int .i64 c) hn
              have b5 := ((b5.set 0 (.int .i64 a)).set 1 (.int .i64 b)).set 2 (.int .i64 c)
              simp only [List.setIfInBounds_toArray, List.set_cons_zero, List.set_cons_succ] at b5
              generalize ((V4.setCell _ _).setCell _ _).setCell _ _ = V5 at b5 b6 hS' ⊢
              clear hS
              have hS := hS'
              clear hS'
              try simp only [Act.put, List.setIfInBounds_toArray, List.set_cons_zero, List.set_cons_succ]
              refine wpAnyH_ready (rs := [7]) (by kernel_rfl) (by simp) ?_
              refine AllReadyH.cons rfl (fun K hK => ?_) ?_
              · try simp only [List.getElem_toArray, List.getElem_cons_zero, List.getElem_cons_succ]
                have c0 := b6.cell 0
                have g0 := b6.frozen 0
                have c1 := b6.cell 1
                have g1 := b6.frozen 1
                have c2 := b6.cell 2
                have g2 := b6.frozen 2
                simp at c0 c1 c2
                go_simp
                clear c0 c1 c2 g0 g1 g2
                have hbw := below_set3 (W := V5) (.int .i64 x) (.int .i64 y) (.int .i64 z) hb6
                refine hK.out _ _ (keepH hbw hS) (fun hS' => ?_)
                clear hK K hbw
                have b5 := ((b5.set_other 0 (.int .i64 x) hn.symm).set_other 1 (.int .i64 y) hn.symm).set_other 2 (.int .i64 z) hn.symm
                have b6 := ((b6.set 0 (.int .i64 x)).set 1 (.int .i64 y)).set 2 (.int .i64 z)
                simp only [List.setIfInBounds_toArray, List.set_cons_zero, List.set_cons_succ] at b6
                generalize ((V5.setCell _ _).setCell _ _).setCell _ _ = V6 at b5 b6 hS' ⊢
                clear hS
                have hS := hS'
                clear hS'
                try simp only [Act.put, List.setIfInBounds_toArray, List.set_cons_zero, List.set_cons_succ]
                refine wpAnyH_done (by kernel_rfl) ?_ _
                refine NoPanic.normal ?_
                go_wp2_with fail
                go_meet
                exact ⟨_, _, rfl, rfl, b5, b6, hn, hS.2.2.2.2.2.2.2⟩
              exact AllReadyH.nil
            exact AllReadyH.nil
          exact AllReadyH.nil
        refine AllReadyH.cons rfl (fun K hK => ?_) ?_
        · try simp only [List.getElem_toArray, List.getElem_cons_zero, List.getElem_cons_succ]
          go_simp
          have hb6 : w.heap.size + 2 ≤ V2.heap.size := hS.2.2.2.2.2.2.1
          have hbw := below_al (.cells #[.int .i64 0, .int .i64 0, .int .i64 0] 36) hS.2.2.2.2.2.2.1
          refine hK.out _ _ (keepH hbw hS) (fun hS' => ?_)
          clear hK K hbw
          have b6 := Blk.new V2 #[.int .i64 0, .int .i64 0, .int .i64 0] 36
          generalize hU : V2.alloc (.cells #[.int .i64 0, .int .i64 0, .int .i64 0] 36) = V3 at b6 hS' ⊢
          clear hU hS
          have hS := hS'
          clear hS'
          try simp only [Act.put, List.setIfInBounds_toArray, List.set_cons_zero, List.set_cons_succ]
          refine wpAnyH_ready (rs := [4]) (by kernel_rfl) (by simp) ?_
          refine AllReadyH.cons rfl (fun K hK => ?_) ?_
          · try simp only [List.getElem_toArray, List.getElem_cons_zero, List.getElem_cons_succ]
            go_simp
            have hb5 : w.heap.size + 2 ≤ V3.heap.size := hS.2.2.2.2.2.2.1
            have hbw := below_al (.cells #[.int .i64 0, .int .i64 0, .int .i64 0] 36) hS.2.2.2.2.2.2.1
            refine hK.out _ _ (keepH hbw hS) (fun hS' => ?_)
            clear hK K hbw
            have b5 := Blk.new V3 #[.int .i64 0, .int .i64 0, .int .i64 0] 36
            have hn := Nat.ne_of_gt b6.lt
            have b6 := b6.alloc (.cells #[.int .i64 0, .int .i64 0, .int .i64 0] 36)
            generalize hU : V3.alloc (.cells #[.int .i64 0, .int .i64 0, .int .i64 0] 36) = V4 at b5 b6 hS' ⊢
            clear hU hS
            have hS := hS'
            clear hS'
            try simp only [Act.put, List.setIfInBounds_toArray, List.set_cons_zero, List.set_cons_succ]
            refine wpAnyH_ready (rs := [6]) (by kernel_rfl) (by simp) ?_
            refine AllReadyH.cons rfl (fun K hK => ?_) ?_
            · try simp only [List.getElem_toArray, List.getElem_cons_zero, List.getElem_cons_succ]
              have c0 := b5.cell 0
              have g0 := b5.frozen 0
              have c1 := b5.cell 1
              have g1 := b5.frozen 1
              have c2 := b5.cell 2
              have g2 := b5.frozen 2
              simp at c0 c1 c2
              go_simp
              clear c0 c1 c2 g0 g1 g2
              have hbw := below_set3 (W := V4) (.int .i64 a) (.int .i64 b) (.int .i64 c) hb5
              refine hK.out _ _ (keepH hbw hS) (fun hS' => ?_)
              clear hK K hbw
              have b6 := ((b6.set_other 0 (.int .i64 a) hn).set_other 1 (.int .i64 b) hn).set_other 2 (.int .i64 c) hn
              have b5 := ((b5.set 0 (.int .i64 a)).set 1 (.int .i64 b)).set 2 (.int .i64 c)
              simp only [List.setIfInBounds_toArray, List.set_cons_zero, List.set_cons_succ] at b5
              generalize ((V4.setCell _ _).setCell _ _).setCell _ _ = V5 at b5 b6 hS' ⊢
              clear hS
              have hS := hS'
              clear hS'
              try simp only [Act.put, List.setIfInBounds_toArray, List.set_cons_zero, List.set_cons_succ]
              refine wpAnyH_ready (rs := [7]) (by kernel_rfl) (by simp) ?_
              refine AllReadyH.cons rfl (fun K hK => ?_) ?_
              · try simp only [List.getElem_toArray, List.getElem_cons_zero, List.getElem_cons_succ]
                have c0 := b6.cell 0
                have g0 := b6.frozen 0
                have c1 := b6.cell 1
                have g1 := b6.frozen 1
                have c2 := b6.cell 2
                have g2 := b6.frozen 2
                simp at c0 c1 c2
                go_simp
                clear c0 c1 c2 g0 g1 g2
                have hbw := below_set3 (W := V5) (.int .i64 x) (.int .i64 y) (.int .i64 z) hb6
                refine hK.out _ _ (keepH hbw hS) (fun hS' => ?_)
                clear hK K hbw
                have b5 := ((b5.set_other 0 (.int .i64 x) hn.symm).set_other 1 (.int .i64 y) hn.symm).set_other 2 (.int .i64 z) hn.symm
                have b6 := ((b6.set 0 (.int .i64 x)).set 1 (.int .i64 y)).set 2 (.int .i64 z)
                simp only [List.setIfInBounds_toArray, List.set_cons_zero, List.set_cons_succ] at b6
                generalize ((V5.setCell _ _).setCell _ _).setCell _ _ = V6 at b5 b6 hS' ⊢
                clear hS
                have hS := hS'
                clear hS'
                try simp only [Act.put, List.setIfInBounds_toArray, List.set_cons_zero, List.set_cons_succ]
                refine wpAnyH_done (by kernel_rfl) ?_ _
                refine NoPanic.normal ?_
                go_wp2_with fail
                go_meet
                exact ⟨_, _, rfl, rfl, b5, b6, hn, hS.2.2.2.2.2.2.2⟩
              exact AllReadyH.nil
            exact AllReadyH.nil
          exact AllReadyH.nil
        exact AllReadyH.nil
      refine AllReadyH.cons rfl (fun K hK => ?_) ?_
      · try simp only [List.getElem_toArray, List.getElem_cons_zero, List.getElem_cons_succ]
        go_simp
        have hb5 : w.heap.size + 2 ≤ V1.heap.size := hS.2.2.2.2.2.2.1
        have hbw := below_al (.cells #[.int .i64 0, .int .i64 0, .int .i64 0] 36) hS.2.2.2.2.2.2.1
        refine hK.out _ _ (keepH hbw hS) (fun hS' => ?_)
        clear hK K hbw
        have b5 := Blk.new V1 #[.int .i64 0, .int .i64 0, .int .i64 0] 36
        generalize hU : V1.alloc (.cells #[.int .i64 0, .int .i64 0, .int .i64 0] 36) = V2 at b5 hS' ⊢
        clear hU hS
        have hS := hS'
        clear hS'
        try simp only [Act.put, List.setIfInBounds_toArray, List.set_cons_zero, List.set_cons_succ]
        refine wpAnyH_ready (rs := [3, 5]) (by kernel_rfl) (by simp) ?_
        refine AllReadyH.cons rfl (fun K hK => ?_) ?_
        · try simp only [List.getElem_toArray, List.getElem_cons_zero, List.getElem_cons_succ]
          go_simp
          refine (numbers_any _ _ _ _).mono ?_
          rintro e V3 ⟨rfl, hb⟩
          try go_wp2_with fail
          refine hK.out _ _ (keepH (hb.mono hS.2.2.2.2.2.2.1) hS) (fun hS' => ?_)
          clear hK K hS
          have hS := hS'
          clear hS'
          have b5 := b5.below hb
          clear hb
          try simp only [Act.put, List.setIfInBounds_toArray, List.set_cons_zero, List.set_cons_succ]
          refine wpAnyH_ready (rs := [5]) (by kernel_rfl) (by simp) ?_
          refine AllReadyH.cons rfl (fun K hK => ?_) ?_
          · try simp only [List.getElem_toArray, List.getElem_cons_zero, List.getElem_cons_succ]
            go_simp
            have hb6 : w.heap.size + 2 ≤ V3.heap.size := hS.2.2.2.2.2.2.1
            have hbw := below_al (.cells #[.int .i64 0, .int .i64 0, .int .i64 0] 36) hS.2.2.2.2.2.2.1
            refine hK.out _ _ (keepH hbw hS) (fun hS' => ?_)
            clear hK K hbw
            have b6 := Blk.new V3 #[.int .i64 0, .int .i64 0, .int .i64 0] 36
            have hn := Nat.ne_of_lt b5.lt
            have b5 := b5.alloc (.cells #[.int .i64 0, .int .i64 0, .int .i64 0] 36)
            generalize hU : V3.alloc (.cells #[.int .i64 0, .int .i64 0, .int .i64 0] 36) = V4 at b6 b5 hS' ⊢
            clear hU hS
            have hS := hS'
            clear hS'
            try simp only [Act.put, List.setIfInBounds_toArray, List.set_cons_zero, List.set_cons_succ]
            refine wpAnyH_ready (rs := [6]) (by kernel_rfl) (by simp) ?_
            refine AllReadyH.cons rfl (fun K hK => ?_) ?_
            · try simp only [List.getElem_toArray, List.getElem_cons_zero, List.getElem_cons_succ]
              have c0 := b5.cell 0
              have g0 := b5.frozen 0
              have c1 := b5.cell 1
              have g1 := b5.frozen 1
              have c2 := b5.cell 2
              have g2 := b5.frozen 2
              simp at c0 c1 c2
              go_simp
              clear c0 c1 c2 g0 g1 g2
              have hbw := below_set3 (W := V4) (.int .i64 a) (.int .i64 b) (.int .i64 c) hb5
              refine hK.out _ _ (keepH hbw hS) (fun hS' => ?_)
              clear hK K hbw
              have b6 := ((b6.set_other 0 (.int .i64 a) hn).set_other 1 (.int .i64 b) hn).set_other 2 (.int .i64 c) hn
              have b5 := ((b5.set 0 (.int .i64 a)).set 1 (.int .i64 b)).set 2 (.int .i64 c)
              simp only [List.setIfInBounds_toArray, List.set_cons_zero, List.set_cons_succ] at b5
              generalize ((V4.setCell _ _).setCell _ _).setCell _ _ = V5 at b5 b6 hS' ⊢
              clear hS
              have hS := hS'
              clear hS'
              try simp only [Act.put, List.setIfInBounds_toArray, List.set_cons_zero, List.set_cons_succ]
              refine wpAnyH_ready (rs := [7]) (by kernel_rfl) (by simp) ?_
              refine AllReadyH.cons rfl (fun K hK => ?_) ?_
              · try simp only [List.getElem_toArray, List.getElem_cons_zero, List.getElem_cons_succ]
                have c0 := b6.cell 0
                have g0 := b6.frozen 0
                have c1 := b6.cell 1
                have g1 := b6.frozen 1
                have c2 := b6.cell 2
                have g2 := b6.frozen 2
                simp at c0 c1 c2
                go_simp
                clear c0 c1 c2 g0 g1 g2
                have hbw := below_set3 (W := V5) (.int .i64 x) (.int .i64 y) (.int .i64 z) hb6
                refine hK.out _ _ (keepH hbw hS) (fun hS' => ?_)
                clear hK K hbw
                have b5 := ((b5.set_other 0 (.int .i64 x) hn.symm).set_other 1 (.int .i64 y) hn.symm).set_other 2 (.int .i64 z) hn.symm
                have b6 := ((b6.set 0 (.int .i64 x)).set 1 (.int .i64 y)).set 2 (.int .i64 z)
                simp only [List.setIfInBounds_toArray, List.set_cons_zero, List.set_cons_succ] at b6
                generalize ((V5.setCell _ _).setCell _ _).setCell _ _ = V6 at b5 b6 hS' ⊢
                clear hS
                have hS := hS'
                clear hS'
                try simp only [Act.put, List.setIfInBounds_toArray, List.set_cons_zero, List.set_cons_succ]
                refine wpAnyH_done (by kernel_rfl) ?_ _
                refine NoPanic.normal ?_
                go_wp2_with fail
                go_meet
                exact ⟨_, _, rfl, rfl, b5, b6, hn, hS.2.2.2.2.2.2.2⟩
              exact AllReadyH.nil
            exact AllReadyH.nil
          exact AllReadyH.nil
        refine AllReadyH.cons rfl (fun K hK => ?_) ?_
        · try simp only [List.getElem_toArray, List.getElem_cons_zero, List.getElem_cons_succ]
          go_simp
          have hb6 : w.heap.size + 2 ≤ V2.heap.size := hS.2.2.2.2.2.2.1
          have hbw := below_al (.cells #[.int .i64 0, .int .i64 0, .int .i64 0] 36) hS.2.2.2.2.2.2.1
          refine hK.out _ _ (keepH hbw hS) (fun hS' => ?_)
          clear hK K hbw
          have b6 := Blk.new V2 #[.int .i64 0, .int .i64 0, .int .i64 0] 36
          have hn := Nat.ne_of_lt b5.lt
          have b5 := b5.alloc (.cells #[.int .i64 0, .int .i64 0, .int .i64 0] 36)
          generalize hU : V2.alloc (.cells #[.int .i64 0, .int .i64 0, .int .i64 0] 36) = V3 at b6 b5 hS' ⊢
          clear hU hS
          have hS := hS'
          clear hS'
          try simp only [Act.put, List.setIfInBounds_toArray, List.set_cons_zero, List.set_cons_succ]
          refine wpAnyH_ready (rs := [3]) (by kernel_rfl) (by simp) ?_
          refine AllReadyH.cons rfl (fun K hK => ?_) ?_
          · try simp only [List.getElem_toArray, List.getElem_cons_zero, List.getElem_cons_succ]
            go_simp
            refine (numbers_any _ _ _ _).mono ?_
            rintro e V4 ⟨rfl, hb⟩
            try go_wp2_with fail
            refine hK.out _ _ (keepH (hb.mono hS.2.2.2.2.2.2.1) hS) (fun hS' => ?_)
            clear hK K hS
            have hS := hS'
            clear hS'
            have b5 := b5.below hb
            have b6 := b6.below hb
            clear hb
            try simp only [Act.put, List.setIfInBounds_toArray, List.set_cons_zero, List.set_cons_succ]
            refine wpAnyH_ready (rs := [6]) (by kernel_rfl) (by simp) ?_
            refine AllReadyH.cons rfl (fun K hK => ?_) ?_
            · try simp only [List.getElem_toArray, List.getElem_cons_zero, List.getElem_cons_succ]
              have c0 := b5.cell 0
              have g0 := b5.frozen 0
              have c1 := b5.cell 1
              have g1 := b5.frozen 1
              have c2 := b5.cell 2
              have g2 := b5.frozen 2
              simp at c0 c1 c2
              go_simp
              clear c0 c1 c2 g0 g1 g2
              have hbw := below_set3 (W := V4) (.int .i64 a) (.int .i64 b) (.int .i64 c) hb5
              refine hK.out _ _ (keepH hbw hS) (fun hS' => ?_)
              clear hK K hbw
              have b6 := ((b6.set_other 0 (.int .i64 a) hn).set_other 1 (.int .i64 b) hn).set_other 2 (.int .i64 c) hn
              have b5 := ((b5.set 0 (.int .i64 a)).set 1 (.int .i64 b)).set 2 (.int .i64 c)
              simp only [List.setIfInBounds_toArray, List.set_cons_zero, List.set_cons_succ] at b5
              generalize ((V4.setCell _ _).setCell _ _).setCell _ _ = V5 at b5 b6 hS' ⊢
              clear hS
              have hS := hS'
              clear hS'
              try simp only [Act.put, List.setIfInBounds_toArray, List.set_cons_zero, List.set_cons_succ]
              refine wpAnyH_ready (rs := [7]) (by kernel_rfl) (by simp) ?_
              refine AllReadyH.cons rfl (fun K hK => ?_) ?_
              · try simp only [List.getElem_toArray, List.getElem_cons_zero, List.getElem_cons_succ]
                have c0 := b6.cell 0
                have g0 := b6.frozen 0
                have c1 := b6.cell 1
                have g1 := b6.frozen 1
                have c2 := b6.cell 2
                have g2 := b6.frozen 2
                simp at c0 c1 c2
                go_simp
                clear c0 c1 c2 g0 g1 g2
                have hbw := below_set3 (W := V5) (.int .i64 x) (.int .i64 y) (.int .i64 z) hb6
                refine hK.out _ _ (keepH hbw hS) (fun hS' => ?_)
                clear hK K hbw
                have b5 := ((b5.set_other 0 (.int .i64 x) hn.symm).set_other 1 (.int .i64 y) hn.symm).set_other 2 (.int .i64 z) hn.symm
                have b6 := ((b6.set 0 (.int .i64 x)).set 1 (.int .i64 y)).set 2 (.int .i64 z)
                simp only [List.setIfInBounds_toArray, List.set_cons_zero, List.set_cons_succ] at b6
                generalize ((V5.setCell _ _).setCell _ _).setCell _ _ = V6 at b5 b6 hS' ⊢
                clear hS
                have hS := hS'
                clear hS'
                try simp only [Act.put, List.setIfInBounds_toArray, List.set_cons_zero, List.set_cons_succ]
                refine wpAnyH_done (by kernel_rfl) ?_ _
                refine NoPanic.normal ?_
                go_wp2_with fail
                go_meet
                exact ⟨_, _, rfl, rfl, b5, b6, hn, hS.2.2.2.2.2.2.2⟩
              exact AllReadyH.nil
            exact AllReadyH.nil
          exact AllReadyH.nil
        exact AllReadyH.nil
      refine AllReadyH.cons rfl (fun K hK => ?_) ?_
      · try simp only [List.getElem_toArray, List.getElem_cons_zero, List.getElem_cons_succ]
        go_simp
        have hb6 : w.heap.size + 2 ≤ V1.heap.size := hS.2.2.2.2.2.2.1
        have hbw := below_al (.cells #[.int .i64 0, .int .i64 0, .int .i64 0] 36) hS.2.2.2.2.2.2.1
        refine hK.out _ _ (keepH hbw hS) (fun hS' => ?_)
        clear hK K hbw
        have b6 := Blk.new V1 #[.int .i64 0, .int .i64 0, .int .i64 0] 36
        generalize hU : V1.alloc (.cells #[.int .i64 0, .int .i64 0, .int .i64 0] 36) = V2 at b6 hS' ⊢
        clear hU hS
        have hS := hS'
        clear hS'
        try simp only [Act.put, List.setIfInBounds_toArray, List.set_cons_zero, List.set_cons_succ]
        refine wpAnyH_ready (rs := [3, 4]) (by kernel_rfl) (by simp) ?_
        refine AllReadyH.cons rfl (fun K hK => ?_) ?_
        · try simp only [List.getElem_toArray, List.getElem_cons_zero, List.getElem_cons_succ]
          go_simp
          refine (numbers_any _ _ _ _).mono ?_
          rintro e V3 ⟨rfl, hb⟩
          try go_wp2_with fail
          refine hK.out _ _ (keepH (hb.mono hS.2.2.2.2.2.2.1) hS) (fun hS' => ?_)
          clear hK K hS
          have hS := hS'
          clear hS'
          have b6 := b6.below hb
          clear hb
          try simp only [Act.put, List.setIfInBounds_toArray, List.set_cons_zero, List.set_cons_succ]
          refine wpAnyH_ready (rs := [4]) (by kernel_rfl) (by simp) ?_
          refine AllReadyH.cons rfl (fun K hK => ?_) ?_
          · try simp only [List.getElem_toArray, List.getElem_cons_zero, List.getElem_cons_succ]
            go_simp
            have hb5 : w.heap.size + 2 ≤ V3.heap.size := hS.2.2.2.2.2.2.1
            have hbw := below_al (.cells #[.int .i64 0, .int .i64 0, .int .i64 0] 36) hS.2.2.2.2.2.2.1
            refine hK.out _ _ (keepH hbw hS) (fun hS' => ?_)
            clear hK K hbw
            have b5 := Blk.new V3 #[.int .i64 0, .int .i64 0, .int .i64 0] 36
            have hn := Nat.ne_of_gt b6.lt
            have b6 := b6.alloc (.cells #[.int .i64 0, .int .i64 0, .int .i64 0] 36)
            generalize hU : V3.alloc (.cells #[.int .i64 0, .int .i64 0, .int .i64 0] 36) = V4 at b5 b6 hS' ⊢
            clear hU hS
            have hS := hS'
            clear hS'
            try simp only [Act.put, List.setIfInBounds_toArray, List.set_cons_zero, List.set_cons_succ]
            refine wpAnyH_ready (rs := [6]) (by kernel_rfl) (by simp) ?_
            refine AllReadyH.cons rfl (fun K hK => ?_) ?_
            · try simp only [List.getElem_toArray, List.getElem_cons_zero, List.getElem_cons_succ]
              have c0 := b5.cell 0
              have g0 := b5.frozen 0
              have c1 := b5.cell 1
              have g1 := b5.frozen 1
              have c2 := b5.cell 2
              have g2 := b5.frozen 2
              simp at c0 c1 c2
              go_simp
              clear c0 c1 c2 g0 g1 g2
              have hbw := below_set3 (W := V4) (.int .i64 a) (.int .i64 b) (.int .i64 c) hb5
              refine hK.out _ _ (keepH hbw hS) (fun hS' => ?_)
              clear hK K hbw
              have b6 := ((b6.set_other 0 (.int .i64 a) hn).set_other 1 (.int .i64 b) hn).set_other 2 (.int .i64 c) hn
              have b5 := ((b5.set 0 (.int .i64 a)).set 1 (.int .i64 b)).set 2 (.int .i64 c)
              simp only [List.setIfInBounds_toArray, List.set_cons_zero, List.set_cons_succ] at b5
              generalize ((V4.setCell _ _).setCell _ _).setCell _ _ = V5 at b5 b6 hS' ⊢
              clear hS
              have hS := hS'
              clear hS'
              try simp only [Act.put, List.setIfInBounds_toArray, List.set_cons_zero, List.set_cons_succ]
              refine wpAnyH_ready (rs := [7]) (by kernel_rfl) (by simp) ?_
              refine AllReadyH.cons rfl (fun K hK => ?_) ?_
              · try simp only [List.getElem_toArray, List.getElem_cons_zero, List.getElem_cons_succ]
                have c0 := b6.cell 0
                have g0 := b6.frozen 0
                have c1 := b6.cell 1
                have g1 := b6.frozen 1
                have c2 := b6.cell 2
                have g2 := b6.frozen 2
                simp at c0 c1 c2
                go_simp
                clear c0 c1 c2 g0 g1 g2
                have hbw := below_set3 (W := V5) (.int .i64 x) (.int .i64 y) (.int .i64 z) hb6
                refine hK.out _ _ (keepH hbw hS) (fun hS' => ?_)
                clear hK K hbw
                have b5 := ((b5.set_other 0 (.int .i64 x) hn.symm).set_other 1 (.int .i64 y) hn.symm).set_other 2 (.int .i64 z) hn.symm
                have b6 := ((b6.set 0 (.int .i64 x)).set 1 (.int .i64 y)).set 2 (.int .i64 z)
                simp only [List.setIfInBounds_toArray, List.set_cons_zero, List.set_cons_succ] at b6
                generalize ((V5.setCell _ _).setCell _ _).setCell _ _ = V6 at b5 b6 hS' ⊢
                clear hS
                have hS := hS'
                clear hS'
                try simp only [Act.put, List.setIfInBounds_toArray, List.set_cons_zero, List.set_cons_succ]
                refine wpAnyH_done (by kernel_rfl) ?_ _
                refine NoPanic.normal ?_
                go_wp2_with fail
                go_meet
                exact ⟨_, _, rfl, rfl, b5, b6, hn, hS.2.2.2.2.2.2.2⟩
              exact AllReadyH.nil
            exact AllReadyH.nil
          exact AllReadyH.nil
        refine AllReadyH.cons rfl (fun K hK => ?_) ?_
        · try simp only [List.getElem_toArray, List.getElem_cons_zero, List.getElem_cons_succ]
          go_simp
          have hb5 : w.heap.size + 2 ≤ V2.heap.size := hS.2.2.2.2.2.2.1
          have hbw := below_al (.cells #[.int .i64 0, .int .i64 0, .int .i64 0] 36) hS.2.2.2.2.2.2.1
          refine hK.out _ _ (keepH hbw hS) (fun hS' => ?_)
          clear hK K hbw
          have b5 := Blk.new V2 #[.int .i64 0, .int .i64 0, .int .i64 0] 36
          have hn := Nat.ne_of_gt b6.lt
          have b6 := b6.alloc (.cells #[.int .i64 0, .int .i64 0, .int .i64 0] 36)
          generalize hU : V2.alloc (.cells #[.int .i64 0, .int .i64 0, .int .i64 0] 36) = V3 at b5 b6 hS' ⊢
          clear hU hS
          have hS := hS'
          clear hS'
          try simp only [Act.put, List.setIfInBounds_toArray, List.set_cons_zero, List.set_cons_succ]
          refine wpAnyH_ready (rs := [3]) (by kernel_rfl) (by simp) ?_
          refine AllReadyH.cons rfl (fun K hK => ?_) ?_
          · try simp only [List.getElem_toArray, List.getElem_cons_zero, List.getElem_cons_succ]
            go_simp
            refine (numbers_any _ _ _ _).mono ?_
            rintro e V4 ⟨rfl, hb⟩
            try go_wp2_with fail
            refine hK.out _ _ (keepH (hb.mono hS.2.2.2.2.2.2.1) hS) (fun hS' => ?_)
            clear hK K hS
            have hS := hS'
            clear hS'
            have b5 := b5.below hb
            have b6 := b6.below hb
            clear hb
            try simp only [Act.put, List.setIfInBounds_toArray, List.set_cons_zero, List.set_cons_succ]
            refine wpAnyH_ready (rs := [6]) (by kernel_rfl) (by simp) ?_
            refine AllReadyH.cons rfl (fun K hK => ?_) ?_
            · try simp only [List.getElem_toArray, List.getElem_cons_zero, List.getElem_cons_succ]
              have c0 := b5.cell 0
              have g0 := b5.frozen 0
              have c1 := b5.cell 1
              have g1 := b5.frozen 1
              have c2 := b5.cell 2
              have g2 := b5.frozen 2
              simp at c0 c1 c2
              go_simp
              clear c0 c1 c2 g0 g1 g2
              have hbw := below_set3 (W := V4) (.int .i64 a) (.int .i64 b) (.int .i64 c) hb5
              refine hK.out _ _ (keepH hbw hS) (fun hS' => ?_)
              clear hK K hbw
              have b6 := ((b6.set_other 0 (.int .i64 a) hn).set_other 1 (.int .i64 b) hn).set_other 2 (.int .i64 c) hn
              have b5 := ((b5.set 0 (.int .i64 a)).set 1 (.int .i64 b)).set 2 (.int .i64 c)
              simp only [List.setIfInBounds_toArray, List.set_cons_zero, List.set_cons_succ] at b5
              generalize ((V4.setCell _ _).setCell _ _).setCell _ _ = V5 at b5 b6 hS' ⊢
              clear hS
              have hS := hS'
              clear hS'
              try simp only [Act.put, List.setIfInBounds_toArray, List.set_cons_zero, List.set_cons_succ]
              refine wpAnyH_ready (rs := [7]) (by kernel_rfl) (by simp) ?_
              refine AllReadyH.cons rfl (fun K hK => ?_) ?_
              · try simp only [List.getElem_toArray, List.getElem_cons_zero, List.getElem_cons_succ]
                have c0 := b6.cell 0
                have g0 := b6.frozen 0
                have c1 := b6.cell 1
                have g1 := b6.frozen 1
                have c2 := b6.cell 2
                have g2 := b6.frozen 2
                simp at c0 c1 c2
                go_simp
                clear c0 c1 c2 g0 g1 g2
                have hbw := below_set3 (W := V5) (.int .i64 x) (.int .i64 y) (.int .i64 z) hb6
                refine hK.out _ _ (keepH hbw hS) (fun hS' => ?_)
                clear hK K hbw
                have b5 := ((b5.set_other 0 (.int .i64 x) hn.symm).set_other 1 (.int .i64 y) hn.symm).set_other 2 (.int .i64 z) hn.symm
                have b6 := ((b6.set 0 (.int .i64 x)).set 1 (.int .i64 y)).set 2 (.int .i64 z)
                simp only [List.setIfInBounds_toArray, List.set_cons_zero, List.set_cons_succ] at b6
                generalize ((V5.setCell _ _).setCell _ _).setCell _ _ = V6 at b5 b6 hS' ⊢
                clear hS
                have hS := hS'
                clear hS'
                try simp only [Act.put, List.setIfInBounds_toArray, List.set_cons_zero, List.set_cons_succ]
                refine wpAnyH_done (by kernel_rfl) ?_ _
                refine NoPanic.normal ?_
                go_wp2_with fail
                go_meet
                exact ⟨_, _, rfl, rfl, b5, b6, hn, hS.2.2.2.2.2.2.2⟩
              exact AllReadyH.nil
            exact AllReadyH.nil
          exact AllReadyH.nil
        exact AllReadyH.nil
      exact AllReadyH.nil
    refine AllReadyH.cons rfl (fun K hK => ?_) ?_
    · try simp only [List.getElem_toArray, List.getElem_cons_zero, List.getElem_cons_succ]
      go_simp
      have hb5 : w.heap.size + 2 ≤ V0.heap.size := hS.2.2.2.2.2.2.1
      have hbw := below_al (.cells #[.int .i64 0, .int .i64 0, .int .i64 0] 36) hS.2.2.2.2.2.2.1
      refine hK.out _ _ (keepH hbw hS) (fun hS' => ?_)
      clear hK K hbw
      have b5 := Blk.new V0 #[.int .i64 0, .int .i64 0, .int .i64 0] 36
      generalize hU : V0.alloc (.cells #[.int .i64 0, .int .i64 0, .int .i64 0] 36) = V1 at b5 hS' ⊢
      clear hU hS
      have hS := hS'
      clear hS'
      try simp only [Act.put, List.setIfInBounds_toArray, List.set_cons_zero, List.set_cons_succ]
      refine wpAnyH_ready (rs := [1, 5]) (by kernel_rfl) (by simp) ?_
      refine AllReadyH.cons rfl (fun K hK => ?_) ?_
      · try simp only [List.getElem_toArray, List.getElem_cons_zero, List.getElem_cons_succ]
        go_simp
        refine (numbers_any _ _ _ _).mono ?_
        rintro e V2 ⟨rfl, hb⟩
        try go_wp2_with fail
        refine hK.out _ _ (keepH (hb.mono hS.2.2.2.2.2.2.1) hS) (fun hS' => ?_)
        clear hK K hS
        have hS := hS'
        clear hS'
        have b5 := b5.below hb
        clear hb
        try simp only [Act.put, List.setIfInBounds_toArray, List.set_cons_zero, List.set_cons_succ]
        refine wpAnyH_ready (rs := [3, 5]) (by kernel_rfl) (by simp) ?_
        refine AllReadyH.cons rfl (fun K hK => ?_) ?_
        · try simp only [List.getElem_toArray, List.getElem_cons_zero, List.getElem_cons_succ]
          go_simp
          refine (numbers_any _ _ _ _).mono ?_
          rintro e V3 ⟨rfl, hb⟩
          try go_wp2_with fail
          refine hK.out _ _ (keepH (hb.mono hS.2.2.2.2.2.2.1) hS) (fun hS' => ?_)
          clear hK K hS
          have hS := hS'
          clear hS'
          have b5 := b5.below hb
          clear hb
          try simp only [Act.put, List.setIfInBounds_toArray, List.set_cons_zero, List.set_cons_succ]
          refine wpAnyH_ready (rs := [5]) (by kernel_rfl) (by simp) ?_
          refine AllReadyH.cons rfl (fun K hK => ?_) ?_
          · try simp only [List.getElem_toArray, List.getElem_cons_zero, List.getElem_cons_succ]
            go_simp
            have hb6 : w.heap.size + 2 ≤ V3.heap.size := hS.2.2.2.2.2.2.1
            have hbw := below_al (.cells #[.int .i64 0, .int .i64 0, .int .i64 0] 36) hS.2.2.2.2.2.2.1
            refine hK.out _ _ (keepH hbw hS) (fun hS' => ?_)
            clear hK K hbw
            have b6 := Blk.new V3 #[.int .i64 0, .int .i64 0, .int .i64 0] 36
            have hn := Nat.ne_of_lt b5.lt
            have b5 := b5.alloc (.cells #[.int .i64 0, .int .i64 0, .int .i64 0] 36)
            generalize hU : V3.alloc (.cells #[.int .i64 0, .int .i64 0, .int .i64 0] 36) = V4 at b6 b5 hS' ⊢
            clear hU hS
            have hS := hS'
            clear hS'
            try simp only [Act.put, List.setIfInBounds_toArray, List.set_cons_zero, List.set_cons_succ]
            refine wpAnyH_ready (rs := [6]) (by kernel_rfl) (by simp) ?_
            refine AllReadyH.cons rfl (fun K hK => ?_) ?_
            · try simp only [List.getElem_toArray, List.getElem_cons_zero, List.getElem_cons_succ]
              have c0 := b5.cell 0
              have g0 := b5.frozen 0
              have c1 := b5.cell 1
              have g1 := b5.frozen 1
              have c2 := b5.cell 2
              have g2 := b5.frozen 2
              simp at c0 c1 c2
              go_simp
              clear c0 c1 c2 g0 g1 g2
              have hbw := below_set3 (W := V4) (.int .i64 a) (.int .i64 b) (.int .i64 c) hb5
              refine hK.out _ _ (keepH hbw hS) (fun hS' => ?_)
              clear hK K hbw
              have b6 := ((b6.set_other 0 (.int .i64 a) hn).set_other 1 (.int .i64 b) hn).set_other 2 (.int .i64 c) hn
              have b5 := ((b5.set 0 (.int .i64 a)).set 1 (.int .i64 b)).set 2 (.int .i64 c)
              simp only [List.setIfInBounds_toArray, List.set_cons_zero, List.set_cons_succ] at b5
              generalize ((V4.setCell _ _).setCell _ _).setCell _ _ = V5 at b5 b6 hS' ⊢
              clear hS
              have hS := hS'
              clear hS'
              try simp only [Act.put, List.setIfInBounds_toArray, List.set_cons_zero, List.set_cons_succ]
              refine wpAnyH_ready (rs := [7]) (by kernel_rfl) (by simp) ?_
              refine AllReadyH.cons rfl (fun K hK => ?_) ?_
              · try simp only [List.getElem_toArray, List.getElem_cons_zero, List.getElem_cons_succ]
                have c0 := b6.cell 0
                have g0 := b6.frozen 0
                have c1 := b6.cell 1
                have g1 := b6.frozen 1
                have c2 := b6.cell 2
                have g2 := b6.frozen 2
                simp at c0 c1 c2
                go_simp
                clear c0 c1 c2 g0 g1 g2
                have hbw := below_set3 (W := V5) (.int .i64 x) (.int .i64 y) (.int .i64 z) hb6
                refine hK.out _ _ (keepH hbw hS) (fun hS' => ?_)
                clear hK K hbw
                have b5 := ((b5.set_other 0 (.int .i64 x) hn.symm).set_other 1 (.int .i64 y) hn.symm).set_other 2 (.int .i64 z) hn.symm
                have b6 := ((b6.set 0 (.int .i64 x)).set 1 (.int .i64 y)).set 2 (.int .i64 z)
                simp only [List.setIfInBounds_toArray, List.set_cons_zero, List.set_cons_succ] at b6
                generalize ((V5.setCell _ _).setCell _ _).setCell _ _ = V6 at b5 b6 hS' ⊢
                clear hS
                have hS := hS'
                clear hS'
                try simp only [Act.put, List.setIfInBounds_toArray, List.set_cons_zero, List.set_cons_succ]
                refine wpAnyH_done (by kernel_rfl) ?_ _
                refine NoPanic.normal ?_
                go_wp2_with fail
                go_meet
                exact ⟨_, _, rfl, rfl, b5, b6, hn, hS.2.2.2.2.2.2.2⟩
              exact AllReadyH.nil
            exact AllReadyH.nil
          exact AllReadyH.nil
        refine AllReadyH.cons rfl (fun K hK => ?_) ?_
        · try simp only [List.getElem_toArray, List.getElem_cons_zero, List.getElem_cons_succ]
          go_simp
          have hb6 : w.heap.size + 2 ≤ V2.heap.size := hS.2.2.2.2.2.2.1
          have hbw := below_al (.cells #[.int .i64 0, .int .i64 0, .int .i64 0] 36) hS.2.2.2.2.2.2.1
          refine hK.out _ _ (keepH hbw hS) (fun hS' => ?_)
          clear hK K hbw
          have b6 := Blk.new V2 #[.int .i64 0, .int .i64 0, .int .i64 0] 36
          have hn := Nat.ne_of_lt b5.lt
          have b5 := b5.alloc (.cells #[.int .i64 0, .int .i64 0, .int .i64 0] 36)
          generalize hU : V2.alloc (.cells #[.int .i64 0, .int .i64 0, .int .i64 0] 36) = V3 at b6 b5 hS' ⊢
          clear hU hS
          have hS := hS'
          clear hS'
          try simp only [Act.put, List.setIfInBounds_toArray, List.set_cons_zero, List.set_cons_succ]
          refine wpAnyH_ready (rs := [3]) (by kernel_rfl) (by simp) ?_
          refine AllReadyH.cons rfl (fun K hK => ?_) ?_
          · try simp only [List.getElem_toArray, List.getElem_cons_zero, List.getElem_cons_succ]
            go_simp
            refine (numbers_any _ _ _ _).mono ?_
            rintro e V4 ⟨rfl, hb⟩
            try go_wp2_with fail
            refine hK.out _ _ (keepH (hb.mono hS.2.2.2.2.2.2.1) hS) (fun hS' => ?_)
            clear hK K hS
            have hS := hS'
            clear hS'
            have b5 := b5.below hb
            have b6 := b6.below hb
            clear hb
            try simp only [Act.put, List.setIfInBounds_toArray, List.set_cons_zero, List.set_cons_succ]
            refine wpAnyH_ready (rs := [6]) (by kernel_rfl) (by simp) ?_
            refine AllReadyH.cons rfl (fun K hK => ?_) ?_
            · try simp only [List.getElem_toArray, List.getElem_cons_zero, List.getElem_cons_succ]
              have c0 := b5.cell 0
              have g0 := b5.frozen 0
              have c1 := b5.cell 1
              have g1 := b5.frozen 1
              have c2 := b5.cell 2
              have g2 := b5.frozen 2
              simp at c0 c1 c2
              go_simp
              clear c0 c1 c2 g0 g1 g2
              have hbw := below_set3 (W := V4) (.int .i64 a) (.int .i64 b) (.int .i64 c) hb5
              refine hK.out _ _ (keepH hbw hS) (fun hS' => ?_)
              clear hK K hbw
              have b6 := ((b6.set_other 0 (.int .i64 a) hn).set_other 1 (.int .i64 b) hn).set_other 2 (.int .i64 c) hn
              have b5 := ((b5.set 0 (.int .i64 a)).set 1 (.int .i64 b)).set 2 (.int .i64 c)
              simp only [List.setIfInBounds_toArray, List.set_cons_zero, List.set_cons_succ] at b5
              generalize ((V4.setCell _ _).setCell _ _).setCell _ _ = V5 at b5 b6 hS' ⊢
              clear hS
              have hS := hS'
              clear hS'
              try simp only [Act.put, List.setIfInBounds_toArray, List.set_cons_zero, List.set_cons_succ]
              refine wpAnyH_ready (rs := [7]) (by kernel_rfl) (by simp) ?_
              refine AllReadyH.cons rfl (fun K hK => ?_) ?_
              · try simp only [List.getElem_toArray, List.getElem_cons_zero, List.getElem_cons_succ]
                have c0 := b6.cell 0
                have g0 := b6.frozen 0
                have c1 := b6.cell 1
                have g1 := b6.frozen 1
                have c2 := b6.cell 2
                have g2 := b6.frozen 2
                simp at c0 c1 c2
                go_simp
                clear c0 c1 c2 g0 g1 g2
                have hbw := below_set3 (W := V5) (.int .i64 x) (.int .i64 y) (.int .i64 z) hb6
                refine hK.out _ _ (keepH hbw hS) (fun hS' => ?_)
                clear hK K hbw
                have b5 := ((b5.set_other 0 (.int .i64 x) hn.symm).set_other 1 (.int .i64 y) hn.symm).set_other 2 (.int .i64 z) hn.symm
                have b6 := ((b6.set 0 (.int .i64 x)).set 1 (.int .i64 y)).set 2 (.int .i64 z)
                simp only [List.setIfInBounds_toArray, List.set_cons_zero, List.set_cons_succ] at b6
                generalize ((V5.setCell _ _).setCell _ _).setCell _ _ = V6 at b5 b6 hS' ⊢
                clear hS
                have hS := hS'
                clear hS'
                try simp only [Act.put, List.setIfInBounds_toArray, List.set_cons_zero, List.set_cons_succ]
                refine wpAnyH_done (by kernel_rfl) ?_ _
                refine NoPanic.normal ?_
                go_wp2_with fail
                go_meet
                exact ⟨_, _, rfl, rfl, b5, b6, hn, hS.2.2.2.2.2.2.2⟩
              exact AllReadyH.nil
            exact AllReadyH.nil
          exact AllReadyH.nil
        exact AllReadyH.nil
      refine AllReadyH.cons rfl (fun K hK => ?_) ?_
      · try simp only [List.getElem_toArray, List.getElem_cons_zero, List.getElem_cons_succ]
        go_simp
        have hb6 : w.heap.size + 2 ≤ V1.heap.size := hS.2.2.2.2.2.2.1
        have hbw := below_al (.cells #[.int .i64 0, .int .i64 0, .int .i64 0] 36) hS.2.2.2.2.2.2.1
        refine hK.out _ _ (keepH hbw hS) (fun hS' => ?_)
        clear hK K hbw
        have b6 := Blk.new V1 #[.int .i64 0, .int .i64 0, .int .i64 0] 36
        have hn := Nat.ne_of_lt b5.lt
        have b5 := b5.alloc (.cells #[.int .i64 0, .int .i64 0, .int .i64 0] 36)
        generalize hU : V1.alloc (.cells #[.int .i64 0, .int .i64 0, .int .i64 0] 36) = V2 at b6 b5 hS' ⊢
        clear hU hS
        have hS := hS'
        clear hS'
        try simp only [Act.put, List.setIfInBounds_toArray, List.set_cons_zero, List.set_cons_succ]
        refine wpAnyH_ready (rs := [1]) (by kernel_rfl) (by simp) ?_
        refine AllReadyH.cons rfl (fun K hK => ?_) ?_
        · try simp only [List.getElem_toArray, List.getElem_cons_zero, List.getElem_cons_succ]
          go_simp
          refine (numbers_any _ _ _ _).mono ?_
          rintro e V3 ⟨rfl, hb⟩
          try go_wp2_with fail
          refine hK.out _ _ (keepH (hb.mono hS.2.2.2.2.2.2.1) hS) (fun hS' => ?_)
          clear hK K hS
          have hS := hS'
          clear hS'
          have b5 := b5.below hb
          have b6 := b6.below hb
          clear hb
          try simp only [Act.put, List.setIfInBounds_toArray, List.set_cons_zero, List.set_cons_succ]
          refine wpAnyH_ready (rs := [3]) (by kernel_rfl) (by simp) ?_
          refine AllReadyH.cons rfl (fun K hK => ?_) ?_
          · try simp only [List.getElem_toArray, List.getElem_cons_zero, List.getElem_cons_succ]
            go_simp
            refine (numbers_any _ _ _ _).mono ?_
            rintro e V4 ⟨rfl, hb⟩
            try go_wp2_with fail
            refine hK.out _ _ (keepH (hb.mono hS.2.2.2.2.2.2.1) hS) (fun hS' => ?_)
            clear hK K hS
            have hS := hS'
            clear hS'
            have b5 := b5.below hb
            have b6 := b6.below hb
            clear hb
            try simp only [Act.put, List.setIfInBounds_toArray, List.set_cons_zero, List.set_cons_succ]
            refine wpAnyH_ready (rs := [6]) (by kernel_rfl) (by simp) ?_
            refine AllReadyH.cons rfl (fun K hK => ?_) ?_
            · try simp only [List.getElem_toArray, List.getElem_cons_zero, List.getElem_cons_succ]
              have c0 := b5.cell 0
              have g0 := b5.frozen 0
              have c1 := b5.cell 1
              have g1 := b5.frozen 1
              have c2 := b5.cell 2
              have g2 := b5.frozen 2
              simp at c0 c1 c2
              go_simp
              clear c0 c1 c2 g0 g1 g2
              have hbw := below_set3 (W := V4) (.int .i64 a) (.int .i64 b) (.int .i64 c) hb5
              refine hK.out _ _ (keepH hbw hS) (fun hS' => ?_)
              clear hK K hbw
              have b6 := ((b6.set_other 0 (.int .i64 a) hn).set_other 1 (.int .i64 b) hn).set_other 2 (.int .i64 c) hn
              have b5 := ((b5.set 0 (.int .i64 a)).set 1 (.int .i64 b)).set 2 (.int .i64 c)
              simp only [List.setIfInBounds_toArray, List.set_cons_zero, List.set_cons_succ] at b5
              generalize ((V4.setCell _ _).setCell _ _).setCell _ _ = V5 at b5 b6 hS' ⊢
              clear hS
              have hS := hS'
              clear hS'
              try simp only [Act.put, List.setIfInBounds_toArray, List.set_cons_zero, List.set_cons_succ]
              refine wpAnyH_ready (rs := [7]) (by kernel_rfl) (by simp) ?_
              refine AllReadyH.cons rfl (fun K hK => ?_) ?_
              · try simp only [List.getElem_toArray, List.getElem_cons_zero, List.getElem_cons_succ]
                have c0 := b6.cell 0
                have g0 := b6.frozen 0
                have c1 := b6.cell 1
                have g1 := b6.frozen 1
                have c2 := b6.cell 2
                have g2 := b6.frozen 2
                simp at c0 c1 c2
                go_simp
                clear c0 c1 c2 g0 g1 g2
                have hbw := below_set3 (W := V5) (.int .i64 x) (.int .i64 y) (.int .i64 z) hb6
                refine hK.out _ _ (keepH hbw hS) (fun hS' => ?_)
                clear hK K hbw
                have b5 := ((b5.set_other 0 (.int .i64 x) hn.symm).set_other 1 (.int .i64 y) hn.symm).set_other 2 (.int .i64 z) hn.symm
                have b6 := ((b6.set 0 (.int .i64 x)).set 1 (.int .i64 y)).set 2 (.int .i64 z)
                simp only [List.setIfInBounds_toArray, List.set_cons_zero, List.set_cons_succ] at b6
                generalize ((V5.setCell _ _).setCell _ _).setCell _ _ = V6 at b5 b6 hS' ⊢
                clear hS
                have hS := hS'
                clear hS'
                try simp only [Act.put, List.setIfInBounds_toArray, List.set_cons_zero, List.set_cons_succ]
                refine wpAnyH_done (by kernel_rfl) ?_ _
                refine NoPanic.normal ?_
                go_wp2_with fail
                go_meet
                exact ⟨_, _, rfl, rfl, b5, b6, hn, hS.2.2.2.2.2.2.2⟩
              exact AllReadyH.nil
            exact AllReadyH.nil
          exact AllReadyH.nil
        exact AllReadyH.nil
      exact AllReadyH.nil
    refine AllReadyH.cons rfl (fun K hK => ?_) ?_
    · try simp only [List.getElem_toArray, List.getElem_cons_zero, List.getElem_cons_succ]
      go_simp
      have hb6 : w.heap.size + 2 ≤ V0.heap.size := hS.2.2.2.2.2.2.1
      have hbw := below_al (.cells #[.int .i64 0, .int .i64 0, .int .i64 0] 36) hS.2.2.2.2.2.2.1
      refine hK.out _ _ (keepH hbw hS) (fun hS' => ?_)
      clear hK K hbw
      have b6 := Blk.new V0 #[.int .i64 0, .int .i64 0, .int .i64 0] 36
      generalize hU : V0.alloc (.cells #[.int .i64 0, .int .i64 0, .int .i64 0] 36) = V1 at b6 hS' ⊢
      clear hU hS
      have hS := hS'
      clear hS'
      try simp only [Act.put, List.setIfInBounds_toArray, List.set_cons_zero, List.set_cons_succ]
      refine wpAnyH_ready (rs := [1, 4]) (by kernel_rfl) (by simp) ?_
      refine AllReadyH.cons rfl (fun K hK => ?_) ?_
      · try simp only [List.getElem_toArray, List.getElem_cons_zero, List.getElem_cons_succ]
        go_simp
        refine (numbers_any _ _ _ _).mono ?_
        rintro e V2 ⟨rfl, hb⟩
        try go_wp2_with fail
        refine hK.out _ _ (keepH (hb.mono hS.2.2.2.2.2.2.1) hS) (fun hS' => ?_)
        clear hK K hS
        have hS := hS'
        clear hS'
        have b6 := b6.below hb
        clear hb
        try simp only [Act.put, List.setIfInBounds_toArray, List.set_cons_zero, List.set_cons_succ]
        refine wpAnyH_ready (rs := [3, 4]) (by kernel_rfl) (by simp) ?_
        refine AllReadyH.cons rfl (fun K hK => ?_) ?_
        · try simp only [List.getElem_toArray, List.getElem_cons_zero, List.getElem_cons_succ]
          go_simp
          refine (numbers_any _ _ _ _).mono ?_
          rintro e V3 ⟨rfl, hb⟩
          try go_wp2_with fail
          refine hK.out _ _ (keepH (hb.mono hS.2.2.2.2.2.2.1) hS) (fun hS' => ?_)
          clear hK K hS
          have hS := hS'
          clear hS'
          have b6 := b6.below hb
          clear hb
          try simp only [Act.put, List.setIfInBounds_toArray, List.set_cons_zero, List.set_cons_succ]
          refine wpAnyH_ready (rs := [4]) (by kernel_rfl) (by simp) ?_
          refine AllReadyH.cons rfl (fun K hK => ?_) ?_
          · try simp only [List.getElem_toArray, List.getElem_cons_zero, List.getElem_cons_succ]
            go_simp
            have hb5 : w.heap.size + 2 ≤ V3.heap.size := hS.2.2.2.2.2.2.1
            have hbw := below_al (.cells #[.int .i64 0, .int .i64 0, .int .i64 0] 36) hS.2.2.2.2.2.2.1
            refine hK.out _ _ (keepH hbw hS) (fun hS' => ?_)
            clear hK K hbw
            have b5 := Blk.new V3 #[.int .i64 0, .int .i64 0, .int .i64 0] 36
            have hn := Nat.ne_of_gt b6.lt
            have b6 := b6.alloc (.cells #[.int .i64 0, .int .i64 0, .int .i64 0] 36)
            generalize hU : V3.alloc (.cells #[.int .i64 0, .int .i64 0, .int .i64 0] 36) = V4 at b5 b6 hS' ⊢
            clear hU hS
            have hS := hS'
            clear hS'
            try simp only [Act.put, List.setIfInBounds_toArray, List.set_cons_zero, List.set_cons_succ]
            refine wpAnyH_ready (rs := [6]) (by kernel_rfl) (by simp) ?_
            refine AllReadyH.cons rfl (fun K hK => ?_) ?_
            · try simp only [List.getElem_toArray, List.getElem_cons_zero, List.getElem_cons_succ]
              have c0 := b5.cell 0
              have g0 := b5.frozen 0
              have c1 := b5.cell 1
              have g1 := b5.frozen 1
              have c2 := b5.cell 2
              have g2 := b5.frozen 2
              simp at c0 c1 c2
              go_simp
              clear c0 c1 c2 g0 g1 g2
              have hbw := below_set3 (W := V4) (.int .i64 a) (.int .i64 b) (.int .i64 c) hb5
              refine hK.out _ _ (keepH hbw hS) (fun hS' => ?_)
              clear hK K hbw
              have b6 := ((b6.set_other 0 (.int .i64 a) hn).set_other 1 (.int .i64 b) hn).set_other 2 (.int .i64 c) hn
              have b5 := ((b5.set 0 (.int .i64 a)).set 1 (.int .i64 b)).set 2 (.int .i64 c)
              simp only [List.setIfInBounds_toArray, List.set_cons_zero, List.set_cons_succ] at b5
              generalize ((V4.setCell _ _).setCell _ _).setCell _ _ = V5 at b5 b6 hS' ⊢
              clear hS
              have hS := hS'
              clear hS'
              try simp only [Act.put, List.setIfInBounds_toArray, List.set_cons_zero, List.set_cons_succ]
              refine wpAnyH_ready (rs := [7]) (by kernel_rfl) (by simp) ?_
              refine AllReadyH.cons rfl (fun K hK => ?_) ?_
              · try simp only [List.getElem_toArray, List.getElem_cons_zero, List.getElem_cons_succ]
                have c0 := b6.cell 0
                have g0 := b6.frozen 0
                have c1 := b6.cell 1
                have g1 := b6.frozen 1
                have c2 := b6.cell 2
                have g2 := b6.frozen 2
                simp at c0 c1 c2
                go_simp
                clear c0 c1 c2 g0 g1 g2
                have hbw := below_set3 (W := V5) (.int .i64 x) (.int .i64 y) (.int .i64 z) hb6
                refine hK.out _ _ (keepH hbw hS) (fun hS' => ?_)
                clear hK K hbw
                have b5 := ((b5.set_other 0 (.int .i64 x) hn.symm).set_other 1 (.int .i64 y) hn.symm).set_other 2 (.int .i64 z) hn.symm
                have b6 := ((b6.set 0 (.int .i64 x)).set 1 (.int .i64 y)).set 2 (.int .i64 z)
                simp only [List.setIfInBounds_toArray, List.set_cons_zero, List.set_cons_succ] at b6
                generalize ((V5.setCell _ _).setCell _ _).setCell _ _ = V6 at b5 b6 hS' ⊢
                clear hS
                have hS := hS'
                clear hS'
                try simp only [Act.put, List.setIfInBounds_toArray, List.set_cons_zero, List.set_cons_succ]
                refine wpAnyH_done (by kernel_rfl) ?_ _
                refine NoPanic.normal ?_
                go_wp2_with fail
                go_meet
                exact ⟨_, _, rfl, rfl, b5, b6, hn, hS.2.2.2.2.2.2.2⟩
              exact AllReadyH.nil
            exact AllReadyH.nil
          exact AllReadyH.nil
        refine AllReadyH.cons rfl (fun K hK => ?_) ?_
        · try simp only [List.getElem_toArray, List.getElem_cons_zero, List.getElem_cons_succ]
          go_simp
          have hb5 : w.heap.size + 2 ≤ V2.heap.size := hS.2.2.2.2.2.2.1
          have hbw := below_al (.cells #[.int .i64 0, .int .i64 0, .int .i64 0] 36) hS.2.2.2.2.2.2.1
          refine hK.out _ _ (keepH hbw hS) (fun hS' => ?_)
          clear hK K hbw
          have b5 := Blk.new V2 #[.int .i64 0, .int .i64 0, .int .i64 0] 36
          have hn := Nat.ne_of_gt b6.lt
          have b6 := b6.alloc (.cells #[.int .i64 0, .int .i64 0, .int .i64 0] 36)
          generalize hU : V2.alloc (.cells #[.int .i64 0, .int .i64 0, .int .i64 0] 36) = V3 at b5 b6 hS' ⊢
          clear hU hS
          have hS := hS'
          clear hS'
          try simp only [Act.put, List.setIfInBounds_toArray, List.set_cons_zero, List.set_cons_succ]
          refine wpAnyH_ready (rs := [3]) (by kernel_rfl) (by simp) ?_
          refine AllReadyH.cons rfl (fun K hK => ?_) ?_
          · try simp only [List.getElem_toArray, List.getElem_cons_zero, List.getElem_cons_succ]
            go_simp
            refine (numbers_any _ _ _ _).mono ?_
            rintro e V4 ⟨rfl, hb⟩
            try go_wp2_with fail
            refine hK.out _ _ (keepH (hb.mono hS.2.2.2.2.2.2.1) hS) (fun hS' => ?_)
            clear hK K hS
            have hS := hS'
            clear hS'
            have b5 := b5.below hb
            have b6 := b6.below hb
            clear hb
            try simp only [Act.put, List.setIfInBounds_toArray, List.set_cons_zero, List.set_cons_succ]
            refine wpAnyH_ready (rs := [6]) (by kernel_rfl) (by simp) ?_
            refine AllReadyH.cons rfl (fun K hK => ?_) ?_
            · try simp only [List.getElem_toArray, List.getElem_cons_zero, List.getElem_cons_succ]
              have c0 := b5.cell 0
              have g0 := b5.frozen 0
              have c1 := b5.cell 1
              have g1 := b5.frozen 1
              have c2 := b5.cell 2
              have g2 := b5.frozen 2
              simp at c0 c1 c2
              go_simp
              clear c0 c1 c2 g0 g1 g2
              have hbw := below_set3 (W := V4) (.int .i64 a) (.int .i64 b) (.int .i64 c) hb5
              refine hK.out _ _ (keepH hbw hS) (fun hS' => ?_)
              clear hK K hbw
              have b6 := ((b6.set_other 0 (.int .i64 a) hn).set_other 1 (.int .i64 b) hn).set_other 2 (.int .i64 c) hn
              have b5 := ((b5.set 0 (.int .i64 a)).set 1 (.int .i64 b)).set 2 (.int .i64 c)
              simp only [List.setIfInBounds_toArray, List.set_cons_zero, List.set_cons_succ] at b5
              generalize ((V4.setCell _ _).setCell _ _).setCell _ _ = V5 at b5 b6 hS' ⊢
              clear hS
              have hS := hS'
              clear hS'
              try simp only [Act.put, List.setIfInBounds_toArray, List.set_cons_zero, List.set_cons_succ]
              refine wpAnyH_ready (rs := [7]) (by kernel_rfl) (by simp) ?_
              refine AllReadyH.cons rfl (fun K hK => ?_) ?_
              · try simp only [List.getElem_toArray, List.getElem_cons_zero, List.getElem_cons_succ]
                have c0 := b6.cell 0
                have g0 := b6.frozen 0
                have c1 := b6.cell 1
                have g1 := b6.frozen 1
                have c2 := b6.cell 2
                have g2 := b6.frozen 2
                simp at c0 c1 c2
                go_simp
                clear c0 c1 c2 g0 g1 g2
                have hbw := below_set3 (W := V5) (.int .i64 x) (.int .i64 y) (.int .i64 z) hb6
                refine hK.out _ _ (keepH hbw hS) (fun hS' => ?_)
                clear hK K hbw
                have b5 := ((b5.set_other 0 (.int .i64 x) hn.symm).set_other 1 (.int .i64 y) hn.symm).set_other 2 (.int .i64 z) hn.symm
                have b6 := ((b6.set 0 (.int .i64 x)).set 1 (.int .i64 y)).set 2 (.int .i64 z)
                simp only [List.setIfInBounds_toArray, List.set_cons_zero, List.set_cons_succ] at b6
                generalize ((V5.setCell _ _).setCell _ _).setCell _ _ = V6 at b5 b6 hS' ⊢
                clear hS
                have hS := hS'
                clear hS'
                try simp only [Act.put, List.setIfInBounds_toArray, List.set_cons_zero, List.set_cons_succ]
                refine wpAnyH_done (by kernel_rfl) ?_ _
                refine NoPanic.normal ?_
                go_wp2_with fail
                go_meet
                exact ⟨_, _, rfl, rfl, b5, b6, hn, hS.2.2.2.2.2.2.2⟩
              exact AllReadyH.nil
            exact AllReadyH.nil
          exact AllReadyH.nil
        exact AllReadyH.nil
      refine AllReadyH.cons rfl (fun K hK => ?_) ?_
      · try simp only [List.getElem_toArray, List.getElem_cons_zero, List.getElem_cons_succ]
        go_simp
        have hb5 : w.heap.size + 2 ≤ V1.heap.size := hS.2.2.2.2.2.2.1
        have hbw := below_al (.cells #[.int .i64 0, .int .i64 0, .int .i64 0] 36) hS.2.2.2.2.2.2.1
        refine hK.out _ _ (keepH hbw hS) (fun hS' => ?_)
        clear hK K hbw
        have b5 := Blk.new V1 #[.int .i64 0, .int .i64 0, .int .i64 0] 36
        have hn := Nat.ne_of_gt b6.lt
        have b6 := b6.alloc (.cells #[.int .i64 0, .int .i64 0, .int .i64 0] 36)
        generalize hU : V1.alloc (.cells #[.int .i64 0, .int .i64 0, .int .i64 0] 36) = V2 at b5 b6 hS' ⊢
        clear hU hS
        have hS := hS'
        clear hS'
        try simp only [Act.put, List.setIfInBounds_toArray, List.set_cons_zero, List.set_cons_succ]
        refine wpAnyH_ready (rs := [1]) (by kernel_rfl) (by simp) ?_
        refine AllReadyH.cons rfl (fun K hK => ?_) ?_
        · try simp only [List.getElem_toArray, List.getElem_cons_zero, List.getElem_cons_succ]
          go_simp
          refine (numbers_any _ _ _ _).mono ?_
          rintro e V3 ⟨rfl, hb⟩
          try go_wp2_with fail
          refine hK.out _ _ (keepH (hb.mono hS.2.2.2.2.2.2.1) hS) (fun hS' => ?_)
          clear hK K hS
          have hS := hS'
          clear hS'
          have b5 := b5.below hb
          have b6 := b6.below hb
          clear hb
          try simp only [Act.put, List.setIfInBounds_toArray, List.set_cons_zero, List.set_cons_succ]
          refine wpAnyH_ready (rs := [3]) (by kernel_rfl) (by simp) ?_
          refine AllReadyH.cons rfl (fun K hK => ?_) ?_
          · try simp only [List.getElem_toArray, List.getElem_cons_zero, List.getElem_cons_succ]
            go_simp
            refine (numbers_any _ _ _ _).mono ?_
            rintro e V4 ⟨rfl, hb⟩
            try go_wp2_with fail
            refine hK.out _ _ (keepH (hb.mono hS.2.2.2.2.2.2.1) hS) (fun hS' => ?_)
            clear hK K hS
            have hS := hS'
            clear hS'
            have b5 := b5.below hb
            have b6 := b6.below hb
            clear hb
            try simp only [Act.put, List.setIfInBounds_toArray, List.set_cons_zero, List.set_cons_succ]
            refine wpAnyH_ready (rs := [6]) (by kernel_rfl) (by simp) ?_
            refine AllReadyH.cons rfl (fun K hK => ?_) ?_
            · try simp only [List.getElem_toArray, List.getElem_cons_zero, List.getElem_cons_succ]
              have c0 := b5.cell 0
              have g0 := b5.frozen 0
              have c1 := b5.cell 1
              have g1 := b5.frozen 1
              have c2 := b5.cell 2
              have g2 := b5.frozen 2
              simp at c0 c1 c2
              go_simp
              clear c0 c1 c2 g0 g1 g2
              have hbw := below_set3 (W := V4) (.int .i64 a) (.int .i64 b) (.int .i64 c) hb5
              refine hK.out _ _ (keepH hbw hS) (fun hS' => ?_)
              clear hK K hbw
              have b6 := ((b6.set_other 0 (.int .i64 a) hn).set_other 1 (.int .i64 b) hn).set_other 2 (.int .i64 c) hn
              have b5 := ((b5.set 0 (.int .i64 a)).set 1 (.int .i64 b)).set 2 (.int .i64 c)
              simp only [List.setIfInBounds_toArray, List.set_cons_zero, List.set_cons_succ] at b5
              generalize ((V4.setCell _ _).setCell _ _).setCell _ _ = V5 at b5 b6 hS' ⊢
              clear hS
              have hS := hS'
              clear hS'
              try simp only [Act.put, List.setIfInBounds_toArray, List.set_cons_zero, List.set_cons_succ]
              refine wpAnyH_ready (rs := [7]) (by kernel_rfl) (by simp) ?_
              refine AllReadyH.cons rfl (fun K hK => ?_) ?_
              · try simp only [List.getElem_toArray, List.getElem_cons_zero, List.getElem_cons_succ]
                have c0 := b6.cell 0
                have g0 := b6.frozen 0
                have c1 := b6.cell 1
                have g1 := b6.frozen 1
                have c2 := b6.cell 2
                have g2 := b6.frozen 2
                simp at c0 c1 c2
                go_simp
                clear c0 c1 c2 g0 g1 g2
                have hbw := below_set3 (W := V5) (.int .i64 x) (.int .i64 y) (.int .i64 z) hb6
                refine hK.out _ _ (keepH hbw hS) (fun hS' => ?_)
                clear hK K hbw
                have b5 := ((b5.set_other 0 (.int .i64 x) hn.symm).set_other 1 (.int .i64 y) hn.symm).set_other 2 (.int .i64 z) hn.symm
                have b6 := ((b6.set 0 (.int .i64 x)).set 1 (.int .i64 y)).set 2 (.int .i64 z)
                simp only [List.setIfInBounds_toArray, List.set_cons_zero, List.set_cons_succ] at b6
                generalize ((V5.setCell _ _).setCell _ _).setCell _ _ = V6 at b5 b6 hS' ⊢
                clear hS
                have hS := hS'
                clear hS'
                try simp only [Act.put, List.setIfInBounds_toArray, List.set_cons_zero, List.set_cons_succ]
                refine wpAnyH_done (by kernel_rfl) ?_ _
                refine NoPanic.normal ?_
                go_wp2_with fail
                go_meet
                exact ⟨_, _, rfl, rfl, b5, b6, hn, hS.2.2.2.2.2.2.2⟩
              exact AllReadyH.nil
            exact AllReadyH.nil
          exact AllReadyH.nil
        exact AllReadyH.nil
      exact AllReadyH.nil
    exact AllReadyH.nil
  case rest =>
    obtain ⟨B1, B2, rfl, rfl, b1, b2, hne, hB⟩ := hcut
    have x0 := b1.cell 0
    have x1 := b1.cell 1
    have x2 := b1.cell 2
    have y0 := b2.cell 0
    have y1 := b2.cell 1
    have y2 := b2.cell 2
    simp at x0 x1 x2 y0 y1 y2
    clear hne
    have heq := fun w => eql3 w a b c x y z
    have hways : ((a == x) = true ∧ (b == y) = true ∧ (c == z) = true) ∨ ((a == x) = false) ∨ ((a == x) = true ∧ (b == y) = false) ∨ ((a == x) = true ∧ (b == y) = true ∧ (c == z) = false) := by
      by_cases h1 : a = x <;> by_cases h2 : b = y <;> by_cases h3 : c = z <;> simp [h1, h2, h3]
    rcases hways with ⟨e1, e2, e3⟩ | e1 | ⟨e1, e2⟩ | ⟨e1, e2, e3⟩
    · have H1 : Hid (a = x ∧ b = y ∧ c = z) := Lib.hid ⟨by simpa using e1, by simpa using e2, by simpa using e3⟩
      go_wp2_with fail
      go_ret
      exact ⟨ret_i64 (by obtain ⟨h1, h2, h3⟩ := H1.out; rw [HC.out, if_neg (fun h => h h1), if_neg (fun h => h h2), h3]; unfold cmpI; rw [if_neg (by omega), if_neg (by omega)]), hB⟩
    all_goals
      go_wp2_with fail
      clear e1
      first | clear e2 e3 | clear e2 | skip
      clear x0 x1 x2 y0 y1 y2
      go_loopw [15] (fun v wr => (v = .int .i64 0 ∨ (v = .int .i64 1 ∧ Hid (a = x)) ∨ (v = .int .i64 2 ∧ Hid (a = x ∧ b = y)) ∨ (v = .int .i64 3 ∧ Hid (a = x ∧ b = y ∧ c = z))) ∧ Hid (Blk wr B1 #[.int .i64 a, .int .i64 b, .int .i64 c] 36 ∧ Blk wr B2 #[.int .i64 x, .int .i64 y, .int .i64 z] 36 ∧ Below w.heap.size w wr)) (fun v _ => 3 - (intOf v).toNat)
      case atStart => exact ⟨.inl rfl, Lib.hid ⟨b1, b2, hB⟩⟩
      case round =>
        clear b1 b2 hB
        obtain ⟨hv, HW⟩ := hrel
        have x0 := HW.out.1.cell 0
        have x1 := HW.out.1.cell 1
        have x2 := HW.out.1.cell 2
        have y0 := HW.out.2.1.cell 0
        have y1 := HW.out.2.1.cell 1
        have y2 := HW.out.2.1.cell 2
        simp at x0 x1 x2 y0 y1 y2
        have hB := Lib.hid HW.out.2.2
        rcases hv with rfl | ⟨rfl, HR⟩ | ⟨rfl, HR⟩ | ⟨rfl, HR⟩
        · by_cases h1 : a < x
          · go_wp2_with fail
            go_quiet (fail)
            go_wp2_with fail
            go_ret
            exact ⟨ret_i64 (by rw [HC.out, if_pos (by omega)]; unfold cmpI; rw [if_pos (by omega)]), by first | exact hB.out | exact below_drewN hB.out _ | exact below_drewN (below_drewN hB.out _) _⟩
          · by_cases h2 : x < a
            · go_wp2_with fail
              go_quiet (fail)
              go_wp2_with fail
              go_quiet (fail)
              go_wp2_with fail
              go_ret
              exact ⟨ret_i64 (by rw [HC.out, if_pos (by omega)]; unfold cmpI; rw [if_neg (by omega), if_pos (by omega)]), by first | exact hB.out | exact below_drewN hB.out _ | exact below_drewN (below_drewN hB.out _) _⟩
            · go_wp2_with fail
              go_quiet (fail)
              go_wp2_with fail
              go_quiet (fail)
              go_wp2_with fail
              go_roundw
              case rel => exact ⟨.inr (.inl ⟨rfl, Lib.hid (by omega)⟩), Lib.hid ⟨HW.out.1, HW.out.2.1, by first | exact below_drewN hB.out _ | exact below_drewN (below_drewN hB.out _) _⟩⟩
              case measure => simp [intOf]
        · by_cases h1 : b < y
          · go_wp2_with fail
            go_quiet (fail)
            go_wp2_with fail
            go_ret
            exact ⟨ret_i64 (by have := HR.out; rw [HC.out, if_neg (by omega), if_pos (by omega)]; unfold cmpI; rw [if_pos (by omega)]), by first | exact hB.out | exact below_drewN hB.out _ | exact below_drewN (below_drewN hB.out _) _⟩
          · by_cases h2 : y < b
            · go_wp2_with fail
              go_quiet (fail)
              go_wp2_with fail
              go_quiet (fail)
              go_wp2_with fail
              go_ret
              exact ⟨ret_i64 (by have := HR.out; rw [HC.out, if_neg (by omega), if_pos (by omega)]; unfold cmpI; rw [if_neg (by omega), if_pos (by omega)]), by first | exact hB.out | exact below_drewN hB.out _ | exact below_drewN (below_drewN hB.out _) _⟩
            · go_wp2_with fail
              go_quiet (fail)
              go_wp2_with fail
              go_quiet (fail)
              go_wp2_with fail
              go_roundw
              case rel => exact ⟨.inr (.inr (.inl ⟨rfl, Lib.hid ⟨HR.out, by omega⟩⟩)), Lib.hid ⟨HW.out.1, HW.out.2.1, by first | exact below_drewN hB.out _ | exact below_drewN (below_drewN hB.out _) _⟩⟩
              case measure => simp [intOf]
        · by_cases h1 : c < z
          · go_wp2_with fail
            go_quiet (fail)
            go_wp2_with fail
            go_ret
            exact ⟨ret_i64 (by have := HR.out; rw [HC.out, if_neg (by omega), if_neg (by omega)]; unfold cmpI; rw [if_pos (by omega)]), by first | exact hB.out | exact below_drewN hB.out _ | exact below_drewN (below_drewN hB.out _) _⟩
          · by_cases h2 : z < c
            · go_wp2_with fail
              go_quiet (fail)
              go_wp2_with fail
              go_quiet (fail)
              go_wp2_with fail
              go_ret
              exact ⟨ret_i64 (by have := HR.out; rw [HC.out, if_neg (by omega), if_neg (by omega)]; unfold cmpI; rw [if_neg (by omega), if_pos (by omega)]), by first | exact hB.out | exact below_drewN hB.out _ | exact below_drewN (below_drewN hB.out _) _⟩
            · go_wp2_with fail
              go_quiet (fail)
              go_wp2_with fail
              go_quiet (fail)
              go_wp2_with fail
              go_roundw
              case rel => exact ⟨.inr (.inr (.inr ⟨rfl, Lib.hid ⟨HR.out.1, HR.out.2, by omega⟩⟩)), Lib.hid ⟨HW.out.1, HW.out.2.1, by first | exact below_drewN hB.out _ | exact below_drewN (below_drewN hB.out _) _⟩⟩
              case measure => simp [intOf]
        · go_wp2_with fail
          go_ret
          exact ⟨ret_i64 (by have := HR.out; rw [HC.out, if_neg (by omega), if_neg (by omega)]; unfold cmpI; rw [if_neg (by omega), if_neg (by omega)]), by first | exact hB.out | exact below_drewN hB.out _ | exact below_drewN (below_drewN hB.out _) _⟩

end Go.Proofs.YtppbbalojbedpaaDoor
