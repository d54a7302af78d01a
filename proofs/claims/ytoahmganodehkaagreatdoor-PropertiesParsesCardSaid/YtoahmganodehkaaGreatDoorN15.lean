import Derived.Test.YtoahmganodehkaaGreatDoorN01
import Derived.IntWalk
import Derived.Test.YtoahmganodehkaaGreatDoorN14
import Derived.Test.YtoahmganodehkaaGreatDoorN07
import Derived.RegionTactic
import Derived.ChangeAlike
import Derived.Test.YtoahmganodehkaaGreatDoorN12
import Derived.Test.YtoahmganodehkaaGreatDoorN13
import Derived.Test.YtoahmganodehkaaGreatDoorN02
import Derived.Test.YtoahmganodehkaaGreatDoorN04
import Derived.Test.YtoahmganodehkaaGreatDoorN08
import Derived.Test.YtoahmganodehkaaGreatDoorN09
import Derived.Maps.AppendAt
import Derived.Deep.AppendLies
namespace Go.Proofs.YtoahmganodehkaaGreatDoor
set_option linter.unusedSimpArgs false
set_option linter.unusedVariables false
section
open Go.RowKit
def RdPI (s : List UInt8) (B : Nat) (w : World) (r : Nat × Nat × Bool) (e : Ending) (w' : World) : Prop := e = .returned (.int .i64 (r.1 : Int)) ∧ w.grownBy w' (some B) ∧ RdAt w' B s r.2.1 r.2.2
theorem RdPI.of {s : List UInt8} {B : Nat} {w W : World} {r : Nat × Nat × Bool} {l a : Nat} {F : Bool} (h : r = (l, a, F)) (g : RdG s B w W a F) : RdPI s B w r (.returned (.int .i64 (l : Int))) W := by
 subst h; exact ⟨rfl, g.1, g.2⟩
set_option maxRecDepth 100000 in
set_option maxHeartbeats 16000000 in
theorem index_ref (s : List UInt8) (a : Nat) (ha : a ≤ s.length) (B : Nat) (w : World) (hl : s.length ≤ 100000) (hR : RdAt w B s a false) : Calls Tryz.prog 172 #[.pointer (some ⟨B, 0, none⟩)] w (RdPI s B w (ridx s (s.length + 1) a 0 0)) := by
 have G0 := Lib.hid (RdG.refl hR)
 clear hR
 obtain ⟨r, hr⟩ : ∃ r, ridx s (s.length + 1) a 0 0 = r := ⟨_, rfl⟩
 rw [hr]
 have HR0 := Lib.hid hr
 clear hr
 go_enter Tryz.func172, Tryz.ntmps172
 go_wp2_with fail
 go_loopg [3, 4] (s.length + 1) (fun f v u wr => ∃ (b n d : Nat), v = .int .i64 (n : Int) ∧ u = .int .i64 (d : Int) ∧ n ≤ 1000000 ∧ d ≤ b ∧ b ≤ s.length ∧ s.length + 1 ≤ f + b ∧ Hid (ridx s f b n d = r ∧ RdG s B w wr b false))
 case atStart => exact ⟨a, 0, 0, rfl, rfl, by omega, by omega, ha, by omega, Lib.hid ⟨HR0.out, G0.out⟩⟩
 case round =>
   clear G0 HR0 ha
   obtain ⟨b, n, d, rfl, rfl, hn, hd, hb, hfu, H⟩ := hrel
   obtain ⟨f, hf⟩ : ∃ f, gk = f + 1 := ⟨gk - 1, by omega⟩
   have hr := H.out.1
   rw [hf, ridx] at hr
   have HI := Lib.hid (rdG H.out.2.drew)
   clear H
   have b0 : (0 : Int) ≤ (b : Int) := by omega
   have hcl := byt_lt s b
   have hw : ((b : Int) < (s.length : Int) ∧ b < s.length ∧ Hid ((!false && decide (b < s.length)) = true) ∧ decide ((48 : Int) ≤ ((byt s b).toNat : Int)) = true ∧ decide (((byt s b).toNat : Int) ≤ 57) = true ∧ 48 ≤ (byt s b).toNat ∧ (byt s b).toNat ≤ 57 ∧ Hid ((if 1000000 < n * 10 + ((byt s b).toNat - 48) ∨ (0 < d ∧ n = 0) then (0, b, true) else ridx s f (b + 1) (n * 10 + ((byt s b).toNat - 48)) (d + 1)) = r)) ∨
       ((b : Int) < (s.length : Int) ∧ b < s.length ∧ Hid ((!false && decide (b < s.length)) = true) ∧ decide ((48 : Int) ≤ ((byt s b).toNat : Int)) = false ∧ Hid ((if d = 0 then (n, b, true) else if b < s.length ∧ byt s b = 93 then (n, b + 1, false) else (n, b, true)) = r)) ∨
       ((b : Int) < (s.length : Int) ∧ b < s.length ∧ Hid ((!false && decide (b < s.length)) = true) ∧ decide ((48 : Int) ≤ ((byt s b).toNat : Int)) = true ∧ decide (((byt s b).toNat : Int) ≤ 57) = false ∧ Hid ((if d = 0 then (n, b, true) else if b < s.length ∧ byt s b = 93 then (n, b + 1, false) else (n, b, true)) = r)) ∨
       (Hid ((!false && decide (b < s.length)) = false) ∧ s.length ≤ b ∧ Hid ((if d = 0 then (n, b, true) else if b < s.length ∧ byt s b = 93 then (n, b + 1, false) else (n, b, true)) = r)) := by
     by_cases hlt : b < s.length
     · have HM : Hid ((!false && decide (b < s.length)) = true) := Lib.hid (by rw [decide_eq_true hlt]; rfl)
       by_cases h1 : 48 ≤ (byt s b).toNat
       · by_cases h2 : (byt s b).toNat ≤ 57
         · rw [if_pos ⟨hlt, by unfold digB; simp [h1, h2]⟩] at hr
           exact .inl ⟨by omega, hlt, HM, decide_eq_true (by omega), decide_eq_true (by omega), h1, h2, Lib.hid hr⟩
         · rw [if_neg (by unfold digB; simp [h2])] at hr
           exact .inr (.inr (.inl ⟨by omega, hlt, HM, decide_eq_true (by omega), decide_eq_false (by omega), Lib.hid hr⟩))
       · rw [if_neg (by unfold digB; simp [h1])] at hr
         exact .inr (.inl ⟨by omega, hlt, HM, decide_eq_false (by omega), Lib.hid hr⟩)
     · rw [if_neg (fun h => hlt h.1)] at hr
       exact .inr (.inr (.inr ⟨Lib.hid (by rw [decide_eq_false hlt]; rfl), by omega, Lib.hid hr⟩))
   clear hr
   rcases hw with ⟨b1, hlt, HM, d1, d2, c1, c2, HQ⟩ | ⟨b1, hlt, HM, d1, HQ⟩ | ⟨b1, hlt, HM, d1, d2, HQ⟩ | ⟨HM, hlt, HQ⟩
   · go_upto_region 2 with fail
     refine wp_region_noPanic ?_
     refine wp_region_held_drew (S := fun w' => w'.cell? ⟨B, 0, none⟩ = some (.string (S s)) ∧ w'.cell? ⟨B, 1, none⟩ = some (.int .i64 (b : Int)) ∧ w'.cell? ⟨B, 2, none⟩ = some (.bool false) ∧ RdG s B w w' b false) (by kernel_rfl) (HI.out) (fun hS => ?_)
     generalize hV0 : wr.drew = V0 at hS ⊢
     refine tL (i := 0) hS ?_
     try simp only [gA, gB, gC, Act.put, pB, pC, pD]
     refine wpAnyH_ready (rs := [1]) (by kernel_rfl) (by simp) ?_
     refine AllReadyH.cons rfl (fun K hK => ?_) AllReadyH.nil
     try simp only [gA, gB, gC]
     go_simp
     refine (more_any s b false B _ hS.2.2.2.2).mono ?_
     rintro e w9 ⟨rfl, hb9⟩
     rw [HM.out]
     try go_wp2_with fail
     refine hK.out _ _ (rdG_on hS hb9) (fun hS' => ?_)
     clear hK K hS hb9
     have hS := hS'
     clear hS'
     try simp only [Act.put, pB, pC, pD]
     refine tL (i := 2) hS ?_
     try simp only [gA, gB, gC, Act.put, pB, pC, pD]
     refine tL (i := 3) hS ?_
     try simp only [gA, gB, gC, Act.put, pB, pC, pD]
     refine tL (i := 4) hS ?_
     try simp only [gA, gB, gC, Act.put, pB, pC, pD]
     refine tL (i := 5) hS ?_
     try simp only [gA, gB, gC, Act.put, pB, pC, pD]
     refine tL (i := 6) hS ?_
     try simp only [gA, gB, gC, Act.put, pB, pC, pD]
     refine tL (i := 7) hS ?_
     try simp only [gA, gB, gC, Act.put, pB, pC, pD]
     refine tL (i := 8) hS ?_
     try simp only [gA, gB, gC, Act.put, pB, pC, pD]
     refine tL (i := 9) hS ?_
     try simp only [gA, gB, gC, Act.put, pB, pC, pD]
     refine tL (i := 10) hS ?_
     try simp only [gA, gB, gC, Act.put, pB, pC, pD]
     refine tL (i := 11) hS ?_
     try simp only [gA, gB, gC, Act.put, pB, pC, pD]
     refine tL (i := 12) hS ?_
     try simp only [gA, gB, gC, Act.put, pB, pC, pD]
     refine tL (i := 13) hS ?_
     try simp only [gA, gB, gC, Act.put, pB, pC, pD]
     refine tL (i := 14) hS ?_
     try simp only [gA, gB, gC, Act.put, pB, pC, pD]
     refine tL (i := 15) hS ?_
     try simp only [gA, gB, gC, Act.put, pB, pC, pD]
     refine tL (i := 16) hS ?_
     try simp only [gA, gB, gC, Act.put, pB, pC, pD]
     refine tL (i := 17) hS ?_
     try simp only [gA, gB, gC, Act.put, pB, pC, pD]
     refine tL (i := 18) hS ?_
     try simp only [gA, gB, gC, Act.put, pB, pC, pD]
     refine tL (i := 19) hS ?_
     try simp only [gA, gB, gC, Act.put, pB, pC, pD]
     refine tL (i := 20) hS ?_
     try simp only [gA, gB, gC, Act.put, pB, pC, pD]
     refine tL (i := 21) hS ?_
     try simp only [gA, gB, gC, Act.put, pB, pC, pD]
     refine tL (i := 22) hS ?_
     try simp only [gA, gB, gC, Act.put, pB, pC, pD]
     refine tL (i := 23) hS ?_
     try simp only [gA, gB, gC, Act.put, pB, pC, pD]
     refine tL (i := 24) hS ?_
     try simp only [gA, gB, gC, Act.put, pB, pC, pD]
     refine tL (i := 25) hS ?_
     try simp only [gA, gB, gC, Act.put, pB, pC, pD]
     refine wpAnyH_done (by kernel_rfl) ?_ _
     refine NoPanic.normal ?_
     have G2 := Lib.hid hS.2.2.2
     clear hS HI HM
     have w1 : IntKind.u8.wrap (((byt s b).toNat : Int) - 48) = ((byt s b).toNat : Int) - 48 := IntWalk.u8_in _ (by omega)
     have w2 : (0 : Int) ≤ ((byt s b).toNat : Int) - 48 := by omega
     have w3 : ((byt s b).toNat : Int) - 48 < 256 := by omega
     have w4 : IntKind.i64.wrap ((n : Int) * 10) = (n : Int) * 10 := IntWalk.i64_in _ (by omega)
     have w5 : IntKind.i64.wrap ((n : Int) * 10 + (((byt s b).toNat : Int) - 48)) = (n : Int) * 10 + (((byt s b).toNat : Int) - 48) := IntWalk.i64_in _ (by omega)
     have w6 : IntKind.i64.wrap (((byt s b).toNat : Int) - 48) = ((byt s b).toNat : Int) - 48 := IntWalk.i64_in _ (by omega)
     obtain ⟨m, hm⟩ : ∃ m, n * 10 + ((byt s b).toNat - 48) = m := ⟨_, rfl⟩
     have HMM : Hid ((n : Int) * 10 + (((byt s b).toNat : Int) - 48) = (m : Int)) := Lib.hid (by omega)
     have hq := HQ.out
     rw [hm] at hq
     have HQ2 := Lib.hid hq
     clear hq hm HQ
     go_wp2_with fail
     have HI := Lib.hid (rdG G2.out.drew)
     clear G2
     go_upto_region 3 with fail
     go_region_held3 (fun w' => w'.cell? ⟨B, 0, none⟩ = some (.string (S s)) ∧ w'.cell? ⟨B, 1, none⟩ = some (.int .i64 (b : Int)) ∧ w'.cell? ⟨B, 2, none⟩ = some (.bool false) ∧ RdG s B w w' b false)
       (first | with_reducible exact HI.out | go_keep) (fail)
     all_goals
       try simp only [w1, w4, w6, w5]
       rw [HMM.out]
       have G3 := Lib.hid HI.out.2.2.2
       clear HI w1 w2 w3 w4 w5 w6
       obtain ⟨x0, x1, x2⟩ := G3.out.2.cells
       have f1 := Blk.frozen G3.out.2 1
       have f2 := Blk.frozen G3.out.2 2
       have hw : (decide ((1000000 : Int) < (m : Int)) = true ∧ Hid (r = (0, b, true))) ∨ (decide ((1000000 : Int) < (m : Int)) = false ∧ 0 < d ∧ ((n : Int) == 0) = true ∧ Hid (r = (0, b, true))) ∨
           (decide ((1000000 : Int) < (m : Int)) = false ∧ 0 < d ∧ ((n : Int) == 0) = false ∧ m ≤ 1000000 ∧ Hid (ridx s f (b + 1) m (d + 1) = r)) ∨ (decide ((1000000 : Int) < (m : Int)) = false ∧ decide (0 < d) = false ∧ m ≤ 1000000 ∧ Hid (ridx s f (b + 1) m (d + 1) = r)) := by
         have hq := HQ2.out
         by_cases h1 : 1000000 < m
         · rw [if_pos (.inl h1)] at hq
           exact .inl ⟨decide_eq_true (by omega), Lib.hid hq.symm⟩
         · by_cases h2 : 0 < d
           · by_cases h3 : n = 0
             · rw [if_pos (.inr ⟨h2, h3⟩)] at hq
               exact .inr (.inl ⟨decide_eq_false (by omega), h2, by rw [h3]; rfl, Lib.hid hq.symm⟩)
             · rw [if_neg (by rintro (h | h); exact h1 h; exact h3 h.2)] at hq
               exact .inr (.inr (.inl ⟨decide_eq_false (by omega), h2, by rw [beq_eq_false_iff_ne]; omega, by omega, Lib.hid hq⟩))
           · rw [if_neg (by rintro (h | h); exact h1 h; exact h2 h.1)] at hq
             exact .inr (.inr (.inr ⟨decide_eq_false (by omega), decide_eq_false (by omega), by omega, Lib.hid hq⟩))
       clear HQ2 HMM d1 d2
       rcases hw with ⟨k1, HV⟩ | ⟨k1, k2, k3, HV⟩ | ⟨k1, k2, k3, k4, HQ3⟩ | ⟨k1, k2, k4, HQ3⟩
       iterate 2
         · go_wp2_with fail
           go_ret
           exact RdPI.of HV.out G3.out.fail
       all_goals
         go_wp2_with fail
         go_roundg f
         case measure => omega
         case rel => exact ⟨b + 1, m, d + 1, rfl, rfl, k4, by omega, by omega, by omega, Lib.hid ⟨HQ3.out, G3.out.setAt (b + 1)⟩⟩
   focus
     go_upto_region 2 with fail
     refine wp_region_noPanic ?_
     refine wp_region_held_drew (S := fun w' => w'.cell? ⟨B, 0, none⟩ = some (.string (S s)) ∧ w'.cell? ⟨B, 1, none⟩ = some (.int .i64 (b : Int)) ∧ w'.cell? ⟨B, 2, none⟩ = some (.bool false) ∧ RdG s B w w' b false) (by kernel_rfl) (HI.out) (fun hS => ?_)
     generalize hV0 : wr.drew = V0 at hS ⊢
     refine tL (i := 0) hS ?_
     try simp only [gA, gB, gC, Act.put, pB, pC, pD]
     refine wpAnyH_ready (rs := [1]) (by kernel_rfl) (by simp) ?_
     refine AllReadyH.cons rfl (fun K hK => ?_) AllReadyH.nil
     try simp only [gA, gB, gC]
     go_simp
     refine (more_any s b false B _ hS.2.2.2.2).mono ?_
     rintro e w9 ⟨rfl, hb9⟩
     rw [HM.out]
     try go_wp2_with fail
     refine hK.out _ _ (rdG_on hS hb9) (fun hS' => ?_)
     clear hK K hS hb9
     have hS := hS'
     clear hS'
     try simp only [Act.put, pB, pC, pD]
     refine tL (i := 2) hS ?_
     try simp only [gA, gB, gC, Act.put, pB, pC, pD]
     refine tL (i := 3) hS ?_
     try simp only [gA, gB, gC, Act.put, pB, pC, pD]
     refine tL (i := 4) hS ?_
     try simp only [gA, gB, gC, Act.put, pB, pC, pD]
     refine tL (i := 5) hS ?_
     try simp only [gA, gB, gC, Act.put, pB, pC, pD]
     refine tL (i := 6) hS ?_
     try simp only [gA, gB, gC, Act.put, pB, pC, pD]
     refine tL (i := 7) hS ?_
     try simp only [gA, gB, gC, Act.put, pB, pC, pD]
     refine tL (i := 8) hS ?_
     try simp only [gA, gB, gC, Act.put, pB, pC, pD]
     refine tL (i := 9) hS ?_
     try simp only [gA, gB, gC, Act.put, pB, pC, pD]
     refine tL (i := 10) hS ?_
     try simp only [gA, gB, gC, Act.put, pB, pC, pD]
     refine tL (i := 11) hS ?_
     try simp only [gA, gB, gC, Act.put, pB, pC, pD]
     refine tL (i := 12) hS ?_
     try simp only [gA, gB, gC, Act.put, pB, pC, pD]
     refine tL (i := 13) hS ?_
     try simp only [gA, gB, gC, Act.put, pB, pC, pD]
     refine tL (i := 14) hS ?_
     try simp only [gA, gB, gC, Act.put, pB, pC, pD]
     refine tR (i := 15) hS ?_
     try simp only [gA, gB, gC, Act.put, pB, pC, pD]
     refine tR (i := 16) hS ?_
     try simp only [gA, gB, gC, Act.put, pB, pC, pD]
     refine tR (i := 17) hS ?_
     try simp only [gA, gB, gC, Act.put, pB, pC, pD]
     refine tR (i := 18) hS ?_
     try simp only [gA, gB, gC, Act.put, pB, pC, pD]
     refine tR (i := 19) hS ?_
     try simp only [gA, gB, gC, Act.put, pB, pC, pD]
     refine tR (i := 20) hS ?_
     try simp only [gA, gB, gC, Act.put, pB, pC, pD]
     refine tR (i := 21) hS ?_
     try simp only [gA, gB, gC, Act.put, pB, pC, pD]
     refine tR (i := 22) hS ?_
     try simp only [gA, gB, gC, Act.put, pB, pC, pD]
     refine tR (i := 23) hS ?_
     try simp only [gA, gB, gC, Act.put, pB, pC, pD]
     refine tR (i := 24) hS ?_
     try simp only [gA, gB, gC, Act.put, pB, pC, pD]
     refine tL (i := 25) hS ?_
     try simp only [gA, gB, gC, Act.put, pB, pC, pD]
     refine wpAnyH_done (by kernel_rfl) ?_ _
     refine NoPanic.normal ?_
     have G2 := Lib.hid hS.2.2.2
     clear hS HI HM
     have hlt' : b ≤ s.length := hb
     clear hlt
   rotate_left
   focus
     go_upto_region 2 with fail
     refine wp_region_noPanic ?_
     refine wp_region_held_drew (S := fun w' => w'.cell? ⟨B, 0, none⟩ = some (.string (S s)) ∧ w'.cell? ⟨B, 1, none⟩ = some (.int .i64 (b : Int)) ∧ w'.cell? ⟨B, 2, none⟩ = some (.bool false) ∧ RdG s B w w' b false) (by kernel_rfl) (HI.out) (fun hS => ?_)
     generalize hV0 : wr.drew = V0 at hS ⊢
     refine tL (i := 0) hS ?_
     try simp only [gA, gB, gC, Act.put, pB, pC, pD]
     refine wpAnyH_ready (rs := [1]) (by kernel_rfl) (by simp) ?_
     refine AllReadyH.cons rfl (fun K hK => ?_) AllReadyH.nil
     try simp only [gA, gB, gC]
     go_simp
     refine (more_any s b false B _ hS.2.2.2.2).mono ?_
     rintro e w9 ⟨rfl, hb9⟩
     rw [HM.out]
     try go_wp2_with fail
     refine hK.out _ _ (rdG_on hS hb9) (fun hS' => ?_)
     clear hK K hS hb9
     have hS := hS'
     clear hS'
     try simp only [Act.put, pB, pC, pD]
     refine tL (i := 2) hS ?_
     try simp only [gA, gB, gC, Act.put, pB, pC, pD]
     refine tL (i := 3) hS ?_
     try simp only [gA, gB, gC, Act.put, pB, pC, pD]
     refine tL (i := 4) hS ?_
     try simp only [gA, gB, gC, Act.put, pB, pC, pD]
     refine tL (i := 5) hS ?_
     try simp only [gA, gB, gC, Act.put, pB, pC, pD]
     refine tL (i := 6) hS ?_
     try simp only [gA, gB, gC, Act.put, pB, pC, pD]
     refine tL (i := 7) hS ?_
     try simp only [gA, gB, gC, Act.put, pB, pC, pD]
     refine tL (i := 8) hS ?_
     try simp only [gA, gB, gC, Act.put, pB, pC, pD]
     refine tL (i := 9) hS ?_
     try simp only [gA, gB, gC, Act.put, pB, pC, pD]
     refine tL (i := 10) hS ?_
     try simp only [gA, gB, gC, Act.put, pB, pC, pD]
     refine tL (i := 11) hS ?_
     try simp only [gA, gB, gC, Act.put, pB, pC, pD]
     refine tL (i := 12) hS ?_
     try simp only [gA, gB, gC, Act.put, pB, pC, pD]
     refine tL (i := 13) hS ?_
     try simp only [gA, gB, gC, Act.put, pB, pC, pD]
     refine tL (i := 14) hS ?_
     try simp only [gA, gB, gC, Act.put, pB, pC, pD]
     refine tL (i := 15) hS ?_
     try simp only [gA, gB, gC, Act.put, pB, pC, pD]
     refine tL (i := 16) hS ?_
     try simp only [gA, gB, gC, Act.put, pB, pC, pD]
     refine tL (i := 17) hS ?_
     try simp only [gA, gB, gC, Act.put, pB, pC, pD]
     refine tL (i := 18) hS ?_
     try simp only [gA, gB, gC, Act.put, pB, pC, pD]
     refine tL (i := 19) hS ?_
     try simp only [gA, gB, gC, Act.put, pB, pC, pD]
     refine tL (i := 20) hS ?_
     try simp only [gA, gB, gC, Act.put, pB, pC, pD]
     refine tL (i := 21) hS ?_
     try simp only [gA, gB, gC, Act.put, pB, pC, pD]
     refine tL (i := 22) hS ?_
     try simp only [gA, gB, gC, Act.put, pB, pC, pD]
     refine tL (i := 23) hS ?_
     try simp only [gA, gB, gC, Act.put, pB, pC, pD]
     refine tL (i := 24) hS ?_
     try simp only [gA, gB, gC, Act.put, pB, pC, pD]
     refine tL (i := 25) hS ?_
     try simp only [gA, gB, gC, Act.put, pB, pC, pD]
     refine wpAnyH_done (by kernel_rfl) ?_ _
     refine NoPanic.normal ?_
     have G2 := Lib.hid hS.2.2.2
     clear hS HI HM
     have hlt' : b ≤ s.length := hb
     clear hlt
   rotate_left
   focus
     go_upto_region 2 with fail
     refine wp_region_noPanic ?_
     refine wp_region_held_drew (S := fun w' => w'.cell? ⟨B, 0, none⟩ = some (.string (S s)) ∧ w'.cell? ⟨B, 1, none⟩ = some (.int .i64 (b : Int)) ∧ w'.cell? ⟨B, 2, none⟩ = some (.bool false) ∧ RdG s B w w' b false) (by kernel_rfl) (HI.out) (fun hS => ?_)
     generalize hV0 : wr.drew = V0 at hS ⊢
     refine tL (i := 0) hS ?_
     try simp only [gA, gB, gC, Act.put, pB, pC, pD]
     refine wpAnyH_ready (rs := [1]) (by kernel_rfl) (by simp) ?_
     refine AllReadyH.cons rfl (fun K hK => ?_) AllReadyH.nil
     try simp only [gA, gB, gC]
     go_simp
     refine (more_any s b false B _ hS.2.2.2.2).mono ?_
     rintro e w9 ⟨rfl, hb9⟩
     rw [HM.out]
     try go_wp2_with fail
     refine hK.out _ _ (rdG_on hS hb9) (fun hS' => ?_)
     clear hK K hS hb9
     have hS := hS'
     clear hS'
     try simp only [Act.put, pB, pC, pD]
     refine tL (i := 2) hS ?_
     try simp only [gA, gB, gC, Act.put, pB, pC, pD]
     refine tR (i := 3) hS ?_
     try simp only [gA, gB, gC, Act.put, pB, pC, pD]
     refine tR (i := 4) hS ?_
     try simp only [gA, gB, gC, Act.put, pB, pC, pD]
     refine tR (i := 5) hS ?_
     try simp only [gA, gB, gC, Act.put, pB, pC, pD]
     refine tR (i := 6) hS ?_
     try simp only [gA, gB, gC, Act.put, pB, pC, pD]
     refine tR (i := 7) hS ?_
     try simp only [gA, gB, gC, Act.put, pB, pC, pD]
     refine tR (i := 8) hS ?_
     try simp only [gA, gB, gC, Act.put, pB, pC, pD]
     refine tR (i := 9) hS ?_
     try simp only [gA, gB, gC, Act.put, pB, pC, pD]
     refine tR (i := 10) hS ?_
     try simp only [gA, gB, gC, Act.put, pB, pC, pD]
     refine tR (i := 11) hS ?_
     try simp only [gA, gB, gC, Act.put, pB, pC, pD]
     refine tR (i := 12) hS ?_
     try simp only [gA, gB, gC, Act.put, pB, pC, pD]
     refine tL (i := 13) hS ?_
     try simp only [gA, gB, gC, Act.put, pB, pC, pD]
     refine tL (i := 14) hS ?_
     try simp only [gA, gB, gC, Act.put, pB, pC, pD]
     refine tR (i := 15) hS ?_
     try simp only [gA, gB, gC, Act.put, pB, pC, pD]
     refine tR (i := 16) hS ?_
     try simp only [gA, gB, gC, Act.put, pB, pC, pD]
     refine tR (i := 17) hS ?_
     try simp only [gA, gB, gC, Act.put, pB, pC, pD]
     refine tR (i := 18) hS ?_
     try simp only [gA, gB, gC, Act.put, pB, pC, pD]
     refine tR (i := 19) hS ?_
     try simp only [gA, gB, gC, Act.put, pB, pC, pD]
     refine tR (i := 20) hS ?_
     try simp only [gA, gB, gC, Act.put, pB, pC, pD]
     refine tR (i := 21) hS ?_
     try simp only [gA, gB, gC, Act.put, pB, pC, pD]
     refine tR (i := 22) hS ?_
     try simp only [gA, gB, gC, Act.put, pB, pC, pD]
     refine tR (i := 23) hS ?_
     try simp only [gA, gB, gC, Act.put, pB, pC, pD]
     refine tR (i := 24) hS ?_
     try simp only [gA, gB, gC, Act.put, pB, pC, pD]
     refine tL (i := 25) hS ?_
     try simp only [gA, gB, gC, Act.put, pB, pC, pD]
     refine wpAnyH_done (by kernel_rfl) ?_ _
     refine NoPanic.normal ?_
     have G2 := Lib.hid hS.2.2.2
     clear hS HI HM
     have hlt' : b ≤ s.length := hb
     clear hlt
   rotate_left
   all_goals
     have hq := HQ.out
     clear HQ
     by_cases hd0 : d = 0
     · subst hd0
       rw [if_pos rfl] at hq
       have HV := Lib.hid hq.symm
       clear hq
       obtain ⟨x0, x1, x2⟩ := G2.out.2.cells
       have f2 := Blk.frozen G2.out.2 2
       go_wp2_with fail
       go_ret
       exact RdPI.of HV.out G2.out.fail
     · rw [if_neg hd0] at hq
       have e0 : ((d : Int) == 0) = false := by rw [beq_eq_false_iff_ne]; omega
       clear hd0
       by_cases h93 : b < s.length ∧ byt s b = 93
       · rw [if_pos h93] at hq
         have HV := Lib.hid hq.symm
         obtain ⟨hlt, h93⟩ := h93
         have H93 : Hid (byt s b = 93) := Lib.hid h93
         clear hq h93
         go_wp2_with fail
         refine (is_yes s b 93 B _ hl G2.out.2 hlt H93.out).mono ?_
         rintro e w3 ⟨rfl, hg3, hr3⟩
         have G3 := Lib.hid (G2.out.step hg3 hr3)
         clear hg3 hr3 G2
         go_wp2_with fail
         go_ret
         exact RdPI.of HV.out G3.out
       · rw [if_neg h93] at hq
         have HV := Lib.hid hq.symm
         have H93 : Hid (s.length ≤ b ∨ byt s b ≠ 93) := Lib.hid (by
           by_cases h : b < s.length
           · exact .inr fun e => h93 ⟨h, e⟩
           · exact .inl (by omega))
         clear hq h93
         go_wp2_with fail
         refine (is_no s b 93 B _ hl G2.out.2 H93.out).mono ?_
         rintro e w3 ⟨rfl, hb3⟩
         have G3 := Lib.hid (G2.out.below hb3)
         clear hb3 G2
         obtain ⟨x0, x1, x2⟩ := G3.out.2.cells
         have f2 := Blk.frozen G3.out.2 2
         go_wp2_with fail
         go_ret
         exact RdPI.of HV.out G3.out.fail
end
section
open Go.RowKit
theorem ridx_le (s : List UInt8) : ∀ f a n d, a ≤ s.length → n ≤ 1000000 → a ≤ (ridx s f a n d).2.1 ∧ (ridx s f a n d).2.1 ≤ s.length ∧ (ridx s f a n d).1 ≤ 1000000
 | 0, a, n, d, h, hn => by rw [ridx]; exact ⟨Nat.le_refl _, h, hn⟩
 | f + 1, a, n, d, h, hn => by
   rw [ridx]
   split
   · rename_i h1
     split
     · exact ⟨Nat.le_refl _, h, by simp⟩
     · rename_i h2
       have := ridx_le s f (a + 1) (n * 10 + ((byt s a).toNat - 48)) (d + 1) (by omega) (by omega)
       exact ⟨by omega, this.2⟩
   · split
     · exact ⟨Nat.le_refl _, h, hn⟩
     · split
       · rename_i h1; exact ⟨by simp only; omega, by simp only; omega, hn⟩
       · exact ⟨Nat.le_refl _, h, hn⟩
theorem rlab_le (s : List UInt8) (hs : s.length ≤ 65536) (b : Nat) (hb : b ≤ s.length) : b ≤ (rlab s b).2.1 ∧ (rlab s b).2.1 ≤ s.length ∧ ((rlab s b).2.2 = false → b + 1 ≤ (rlab s b).2.1) := by
 have hle := labP_le (sl s b s.length)
 have hl := sl_len s b s.length hb (Nat.le_refl _)
 rw [hl] at hle
 rcases lab_both s hs b hb with ⟨k1, k2, k3⟩ | ⟨k1, k2, k3⟩ | ⟨k1, k2, k3, k4, k5⟩
 · have := hle.2 k1
   rw [k2]; exact ⟨by simp only; omega, by simp only; omega, fun _ => by simp only; omega⟩
 · obtain ⟨⟨x, n, ok⟩, hx⟩ : ∃ y, labP (sl s b s.length) = y := ⟨_, rfl⟩
   rw [hx] at k1 k3
   simp only at k1 k3
   subst k1
   have := lab_no hx
   rw [k3, k2]; exact ⟨by omega, by omega, fun h => by cases h⟩
 · refine ⟨by omega, by omega, fun _ => ?_⟩
   rcases Nat.eq_zero_or_pos (labP (sl s b s.length)).2.1 with h0 | h0
   · exfalso
     -- the label is not empty: '#' at its head is no end
     rw [k3, h0, Nat.add_zero] at k4 k5
     have hq : ¬ (b < s.length ∧ byt s b = 34) := by rw [k5]; exact fun h => absurd h.2 (by decide)
     have hr : rlab s b = (if s.length ≤ rhd s b then (([] : List UInt8), rhd s b, true) else if letterB (byt s (rhd s b)) = false then ([], rhd s b, true) else ridn s b (rrun s b (s.length + 1) (rhd s b))) := by unfold rlab; rw [if_neg hq]
     have hh : rhd s b = b + 1 := by unfold rhd; rw [if_pos ⟨k4, .inr k5⟩]
     rw [hh] at hr
     by_cases h1 : s.length ≤ b + 1
     · rw [if_pos h1] at hr; rw [hr] at k2; cases k2
     · rw [if_neg h1] at hr
       rcases bool_two (letterB (byt s (b + 1))) with h2 | h2
       · rw [if_pos h2] at hr; rw [hr] at k2; cases k2
       · rw [if_neg (by rw [h2]; decide)] at hr
         obtain ⟨e, j1, j2, j3, j4, j5⟩ := rrun_spec s b (s.length + 1) (b + 1) (by omega) (by omega) (by omega) (by omega)
         have h21 : (rlab s b).2.1 = e := by
           rw [hr]
           rcases j5 with ⟨j5, _⟩ | ⟨j5, _⟩ <;> rw [j5] <;> unfold ridn
           · rw [if_neg (by simp)]; split <;> rfl
           · rw [if_pos rfl]
         omega
   · omega
theorem own_kept {W W' : World} {B base : Nat} {e : TypeId} {size : Nat} {v : Value} {k : Nat} {xs : List Value} (h : W.ownsRow base e size v k xs) (hg : W.grownBy W' (some B)) (hB : B < base) : W'.ownsRow base e size v k xs := by
 refine ⟨h.1, ?_⟩
 rcases h.2 with hn | ⟨g, cap, cur, rfl, hb0, hg0, hr⟩
 · exact .inl hn
 · exact .inr ⟨g, cap, cur, rfl, hb0, (hg.block g (Array.getElem?_eq_some_iff.1 hg0).1 (by intro h; injection h; omega)).trans hg0, hr⟩
theorem RdG.grow {s : List UInt8} {B : Nat} {w W W' : World} {a : Nat} {F : Bool} (h : RdG s B w W a F) {row : Option Nat} (hg : W.grownBy W' row) (hr : ∀ j, row = some j → w.heap.size ≤ j) (hB : B < w.heap.size) : RdG s B w W' a F := by
 refine ⟨⟨hg.os.trans h.1.os, hg.tape.trans h.1.tape, hg.output.trans h.1.output, Nat.le_trans h.1.size hg.size, fun k hk hn => ?_⟩, h.2.kept hg (fun e => by have := hr B e.symm; omega)⟩
 exact (hg.block k (Nat.lt_of_lt_of_le hk h.1.size) (fun e => by have := hr k e.symm; omega)).trans (h.1.block k hk hn)
def PathR (s : List UInt8) (B : Nat) (w : World) (r : List Stp × Nat × Nat) (e : Ending) (w' : World) : Prop :=
 ∃ v a F, e = .returned v ∧ (∃ p n c, v = .slice p n c) ∧ RdG s B w w' a F ∧ ((F = true ∧ r = ([], 8, a)) ∨ (F = false ∧ ∃ L, r = (L, 0, 0) ∧ w'.ownsRow w.heap.size 44 2 v L.length (flatC L)))
theorem PathR.bad {s : List UInt8} {B : Nat} {w W : World} {r : List Stp × Nat × Nat} {a : Nat} (h : r = ([], 8, a)) (g : RdG s B w W a true) (p : Option Addr) (n c : Nat) : PathR s B w r (.returned (.slice p n c)) W :=
 ⟨_, a, true, rfl, ⟨p, n, c, rfl⟩, g, .inl ⟨rfl, h⟩⟩
set_option maxRecDepth 100000 in
set_option maxHeartbeats 16000000 in
theorem path_ref (s : List UInt8) (hs : s.length ≤ 65536) (B : Nat) (w : World) (hR : RdAt w B s 0 false) : Calls Tryz.prog 126 #[.pointer (some ⟨B, 0, none⟩)] w (PathR s B w (rgo s (s.length + 2) 0 [])) := by
 have hl : s.length ≤ 100000 := by omega
 have hB : B < w.heap.size := Blk.lt hR
 have G0 := Lib.hid (RdG.refl hR)
 clear hR
 obtain ⟨r, hr⟩ : ∃ r, rgo s (s.length + 2) 0 [] = r := ⟨_, rfl⟩
 rw [hr]
 have HR0 := Lib.hid hr
 clear hr
 obtain ⟨i0, hi, hz0, hz1, hz2⟩ := info_parts infoStp
 go_enter Tryz.func126, Tryz.ntmps126
 go_wp2_with fail
 go_loopg [3] (s.length + 2) (fun f v wr => ∃ (a : Nat) (L : List Stp) (F : Bool), a ≤ s.length ∧ L.length ≤ s.length + 1 ∧ wr.ownsRow w.heap.size 44 2 v L.length (flatC L) ∧ Hid (((F = false ∧ rgo s f a L = r ∧ s.length + 2 ≤ f + a ∧ L.length ≤ a) ∨ (F = true ∧ r = ([], 8, a))) ∧ RdG s B w wr a F))
 case atStart => exact ⟨0, [], false, Nat.zero_le _, by simp, World.ownsRow_nil _ _ _ _, Lib.hid ⟨.inl ⟨rfl, HR0.out, by omega, by simp⟩, G0.out⟩⟩
 case round =>
   clear G0 HR0
   obtain ⟨a, L, F, ha, hLs, hown, H⟩ := hrel
   obtain ⟨vp, vc, rfl⟩ := own_form hown
   have HI := Lib.hid (rdG H.out.2.drew)
   have own0 := Lib.hid (own_under hown (below_drew (Below.refl wr.heap.size wr)))
   clear hown
   have a0 : (0 : Int) ≤ (a : Int) := by omega
   rcases (bool_two F).symm with rfl | rfl
   · have HV : Hid (r = ([], 8, a)) := Lib.hid (by
       rcases H.out.1 with ⟨h, _⟩ | ⟨_, h⟩
       · cases h
       · exact h)
     clear H
     go_upto_region 2 with fail
     refine wp_region_noPanic ?_
     refine wp_region_held_drew (S := fun w' => w'.cell? ⟨B, 0, none⟩ = some (.string (S s)) ∧ w'.cell? ⟨B, 1, none⟩ = some (.int .i64 (a : Int)) ∧ w'.cell? ⟨B, 2, none⟩ = some (.bool true) ∧ RdG s B w w' a true) (by kernel_rfl) (HI.out) (fun hS => ?_)
     generalize hV0 : wr.drew = V0 at hS ⊢
     refine tL (i := 0) hS ?_
     try simp only [gA, gB, gC, Act.put, pB, pC, pD]
     refine tL (i := 1) hS ?_
     try simp only [gA, gB, gC, Act.put, pB, pC, pD]
     refine tL (i := 2) hS ?_
     try simp only [gA, gB, gC, Act.put, pB, pC, pD]
     refine tL (i := 3) hS ?_
     try simp only [gA, gB, gC, Act.put, pB, pC, pD]
     refine tL (i := 4) hS ?_
     try simp only [gA, gB, gC, Act.put, pB, pC, pD]
     refine tL (i := 5) hS ?_
     try simp only [gA, gB, gC, Act.put, pB, pC, pD]
     refine tR (i := 6) hS ?_
     try simp only [gA, gB, gC, Act.put, pB, pC, pD]
     refine tR (i := 7) hS ?_
     try simp only [gA, gB, gC, Act.put, pB, pC, pD]
     refine tR (i := 8) hS ?_
     try simp only [gA, gB, gC, Act.put, pB, pC, pD]
     refine tR (i := 9) hS ?_
     try simp only [gA, gB, gC, Act.put, pB, pC, pD]
     refine tR (i := 10) hS ?_
     try simp only [gA, gB, gC, Act.put, pB, pC, pD]
     refine tR (i := 11) hS ?_
     try simp only [gA, gB, gC, Act.put, pB, pC, pD]
     refine tR (i := 12) hS ?_
     try simp only [gA, gB, gC, Act.put, pB, pC, pD]
     refine tR (i := 13) hS ?_
     try simp only [gA, gB, gC, Act.put, pB, pC, pD]
     refine tR (i := 14) hS ?_
     try simp only [gA, gB, gC, Act.put, pB, pC, pD]
     refine tR (i := 15) hS ?_
     try simp only [gA, gB, gC, Act.put, pB, pC, pD]
     refine tR (i := 16) hS ?_
     try simp only [gA, gB, gC, Act.put, pB, pC, pD]
     refine tR (i := 17) hS ?_
     try simp only [gA, gB, gC, Act.put, pB, pC, pD]
     refine tR (i := 18) hS ?_
     try simp only [gA, gB, gC, Act.put, pB, pC, pD]
     refine tR (i := 19) hS ?_
     try simp only [gA, gB, gC, Act.put, pB, pC, pD]
     refine tR (i := 20) hS ?_
     try simp only [gA, gB, gC, Act.put, pB, pC, pD]
     refine tL (i := 21) hS ?_
     try simp only [gA, gB, gC, Act.put, pB, pC, pD]
     refine wpAnyH_done (by kernel_rfl) ?_ _
     refine NoPanic.normal ?_
     have G2 := Lib.hid hS.2.2.2
     clear hS HI
     go_wp2_with fail
     go_ret
     exact PathR.bad HV.out G2.out _ _ _
   · have hq : rgo s gk a L = r ∧ s.length + 2 ≤ gk + a ∧ L.length ≤ a := by
       rcases H.out.1 with ⟨_, h⟩ | ⟨h, _⟩
       · exact h
       · cases h
     clear H
     obtain ⟨hq, hfu, hLa⟩ := hq
     obtain ⟨f, hf⟩ : ∃ f, gk = f + 1 := ⟨gk - 1, by omega⟩
     rw [hf, rgo] at hq
     have HQ := Lib.hid hq
     clear hq
     have hway : ((a : Int) < (s.length : Int) ∧ Hid (a < s.length)) ∨ (decide (a < s.length) = false ∧ Hid (s.length ≤ a) ∧ ((L.length : Int) == 0) = true ∧ Hid (L = [])) ∨ (decide (a < s.length) = false ∧ ((L.length : Int) == 0) = false ∧ Hid (r = (L, 0, 0))) := by
       by_cases hlt : a < s.length
       · exact .inl ⟨by omega, Lib.hid hlt⟩
       · by_cases hL : L = []
         · exact .inr (.inl ⟨decide_eq_false (by omega), Lib.hid (by omega), by rw [hL]; rfl, Lib.hid hL⟩)
         · have hlp := List.length_pos_iff.2 hL
           have hq := HQ.out
           rw [if_pos ⟨by omega, by cases L with
             | nil => exact absurd rfl hL
             | cons => rfl⟩] at hq
           exact .inr (.inr ⟨decide_eq_false (by omega), by rw [beq_eq_false_iff_ne]; omega, Lib.hid hq.symm⟩)
     rcases hway with ⟨b1, HLT⟩ | ⟨b1, HLE, b2, HL⟩ | ⟨b1, b2, HV⟩
     focus
       go_upto_region 2 with fail
       refine wp_region_noPanic ?_
       refine wp_region_held_drew (S := fun w' => w'.cell? ⟨B, 0, none⟩ = some (.string (S s)) ∧ w'.cell? ⟨B, 1, none⟩ = some (.int .i64 (a : Int)) ∧ w'.cell? ⟨B, 2, none⟩ = some (.bool false) ∧ RdG s B w w' a false) (by kernel_rfl) (HI.out) (fun hS => ?_)
       generalize hV0 : wr.drew = V0 at hS ⊢
       refine tL (i := 0) hS ?_
       try simp only [gA, gB, gC, Act.put, pB, pC, pD]
       refine tL (i := 1) hS ?_
       try simp only [gA, gB, gC, Act.put, pB, pC, pD]
       refine tL (i := 2) hS ?_
       try simp only [gA, gB, gC, Act.put, pB, pC, pD]
       refine tL (i := 3) hS ?_
       try simp only [gA, gB, gC, Act.put, pB, pC, pD]
       refine tL (i := 4) hS ?_
       try simp only [gA, gB, gC, Act.put, pB, pC, pD]
       refine tL (i := 5) hS ?_
       try simp only [gA, gB, gC, Act.put, pB, pC, pD]
       refine tL (i := 6) hS ?_
       try simp only [gA, gB, gC, Act.put, pB, pC, pD]
       refine tL (i := 7) hS ?_
       try simp only [gA, gB, gC, Act.put, pB, pC, pD]
       refine tL (i := 8) hS ?_
       try simp only [gA, gB, gC, Act.put, pB, pC, pD]
       refine tL (i := 9) hS ?_
       try simp only [gA, gB, gC, Act.put, pB, pC, pD]
       refine tL (i := 10) hS ?_
       try simp only [gA, gB, gC, Act.put, pB, pC, pD]
       refine tL (i := 11) hS ?_
       try simp only [gA, gB, gC, Act.put, pB, pC, pD]
       refine tL (i := 12) hS ?_
       try simp only [gA, gB, gC, Act.put, pB, pC, pD]
       refine tL (i := 13) hS ?_
       try simp only [gA, gB, gC, Act.put, pB, pC, pD]
       refine tL (i := 14) hS ?_
       try simp only [gA, gB, gC, Act.put, pB, pC, pD]
       refine tL (i := 15) hS ?_
       try simp only [gA, gB, gC, Act.put, pB, pC, pD]
       refine tL (i := 16) hS ?_
       try simp only [gA, gB, gC, Act.put, pB, pC, pD]
       refine tR (i := 17) hS ?_
       try simp only [gA, gB, gC, Act.put, pB, pC, pD]
       refine tR (i := 18) hS ?_
       try simp only [gA, gB, gC, Act.put, pB, pC, pD]
       refine tR (i := 19) hS ?_
       try simp only [gA, gB, gC, Act.put, pB, pC, pD]
       refine tL (i := 20) hS ?_
       try simp only [gA, gB, gC, Act.put, pB, pC, pD]
       refine tL (i := 21) hS ?_
       try simp only [gA, gB, gC, Act.put, pB, pC, pD]
       refine wpAnyH_done (by kernel_rfl) ?_ _
       refine NoPanic.normal ?_
       have G2 := Lib.hid hS.2.2.2
       have HNE : Hid (L = [] ∨ a < s.length) := Lib.hid (.inr HLT.out)
       have own1 : Hid (V0.ownsRow w.heap.size 44 2 (.slice vp L.length vc) L.length (flatC L)) := Lib.hid (by rw [← hV0]; exact own0.out)
       clear hS HI b1 HLT own0 hV0
     rotate_left
     focus
       go_upto_region 2 with fail
       refine wp_region_noPanic ?_
       refine wp_region_held_drew (S := fun w' => w'.cell? ⟨B, 0, none⟩ = some (.string (S s)) ∧ w'.cell? ⟨B, 1, none⟩ = some (.int .i64 (a : Int)) ∧ w'.cell? ⟨B, 2, none⟩ = some (.bool false) ∧ RdG s B w w' a false) (by kernel_rfl) (HI.out) (fun hS => ?_)
       generalize hV0 : wr.drew = V0 at hS ⊢
       refine tL (i := 0) hS ?_
       try simp only [gA, gB, gC, Act.put, pB, pC, pD]
       refine tL (i := 1) hS ?_
       try simp only [gA, gB, gC, Act.put, pB, pC, pD]
       refine tL (i := 2) hS ?_
       try simp only [gA, gB, gC, Act.put, pB, pC, pD]
       refine tL (i := 3) hS ?_
       try simp only [gA, gB, gC, Act.put, pB, pC, pD]
       refine tL (i := 4) hS ?_
       try simp only [gA, gB, gC, Act.put, pB, pC, pD]
       refine tL (i := 5) hS ?_
       try simp only [gA, gB, gC, Act.put, pB, pC, pD]
       refine tL (i := 6) hS ?_
       try simp only [gA, gB, gC, Act.put, pB, pC, pD]
       refine tL (i := 7) hS ?_
       try simp only [gA, gB, gC, Act.put, pB, pC, pD]
       refine tL (i := 8) hS ?_
       try simp only [gA, gB, gC, Act.put, pB, pC, pD]
       refine tL (i := 9) hS ?_
       try simp only [gA, gB, gC, Act.put, pB, pC, pD]
       refine tL (i := 10) hS ?_
       try simp only [gA, gB, gC, Act.put, pB, pC, pD]
       refine tL (i := 11) hS ?_
       try simp only [gA, gB, gC, Act.put, pB, pC, pD]
       refine tL (i := 12) hS ?_
       try simp only [gA, gB, gC, Act.put, pB, pC, pD]
       refine tL (i := 13) hS ?_
       try simp only [gA, gB, gC, Act.put, pB, pC, pD]
       refine tL (i := 14) hS ?_
       try simp only [gA, gB, gC, Act.put, pB, pC, pD]
       refine tL (i := 15) hS ?_
       try simp only [gA, gB, gC, Act.put, pB, pC, pD]
       refine tL (i := 16) hS ?_
       try simp only [gA, gB, gC, Act.put, pB, pC, pD]
       refine tL (i := 17) hS ?_
       try simp only [gA, gB, gC, Act.put, pB, pC, pD]
       refine tL (i := 18) hS ?_
       try simp only [gA, gB, gC, Act.put, pB, pC, pD]
       refine tL (i := 19) hS ?_
       try simp only [gA, gB, gC, Act.put, pB, pC, pD]
       refine tL (i := 20) hS ?_
       try simp only [gA, gB, gC, Act.put, pB, pC, pD]
       refine tL (i := 21) hS ?_
       try simp only [gA, gB, gC, Act.put, pB, pC, pD]
       refine wpAnyH_done (by kernel_rfl) ?_ _
       refine NoPanic.normal ?_
       have G2 := Lib.hid hS.2.2.2
       have HNE : Hid (L = [] ∨ a < s.length) := Lib.hid (.inl HL.out)
       have own1 : Hid (V0.ownsRow w.heap.size 44 2 (.slice vp L.length vc) L.length (flatC L)) := Lib.hid (by rw [← hV0]; exact own0.out)
       clear hS HI b1 b2 HLE HL own0 hV0
     rotate_left
     focus
       go_upto_region 2 with fail
       refine wp_region_noPanic ?_
       refine wp_region_held_drew (S := fun w' => w'.cell? ⟨B, 0, none⟩ = some (.string (S s)) ∧ w'.cell? ⟨B, 1, none⟩ = some (.int .i64 (a : Int)) ∧ w'.cell? ⟨B, 2, none⟩ = some (.bool false) ∧ RdG s B w w' a false) (by kernel_rfl) (HI.out) (fun hS => ?_)
       generalize hV0 : wr.drew = V0 at hS ⊢
       refine tL (i := 0) hS ?_
       try simp only [gA, gB, gC, Act.put, pB, pC, pD]
       refine tL (i := 1) hS ?_
       try simp only [gA, gB, gC, Act.put, pB, pC, pD]
       refine tL (i := 2) hS ?_
       try simp only [gA, gB, gC, Act.put, pB, pC, pD]
       refine tL (i := 3) hS ?_
       try simp only [gA, gB, gC, Act.put, pB, pC, pD]
       refine tL (i := 4) hS ?_
       try simp only [gA, gB, gC, Act.put, pB, pC, pD]
       refine tL (i := 5) hS ?_
       try simp only [gA, gB, gC, Act.put, pB, pC, pD]
       refine tL (i := 6) hS ?_
       try simp only [gA, gB, gC, Act.put, pB, pC, pD]
       refine tL (i := 7) hS ?_
       try simp only [gA, gB, gC, Act.put, pB, pC, pD]
       refine tL (i := 8) hS ?_
       try simp only [gA, gB, gC, Act.put, pB, pC, pD]
       refine tL (i := 9) hS ?_
       try simp only [gA, gB, gC, Act.put, pB, pC, pD]
       refine tL (i := 10) hS ?_
       try simp only [gA, gB, gC, Act.put, pB, pC, pD]
       refine tL (i := 11) hS ?_
       try simp only [gA, gB, gC, Act.put, pB, pC, pD]
       refine tL (i := 12) hS ?_
       try simp only [gA, gB, gC, Act.put, pB, pC, pD]
       refine tL (i := 13) hS ?_
       try simp only [gA, gB, gC, Act.put, pB, pC, pD]
       refine tL (i := 14) hS ?_
       try simp only [gA, gB, gC, Act.put, pB, pC, pD]
       refine tL (i := 15) hS ?_
       try simp only [gA, gB, gC, Act.put, pB, pC, pD]
       refine tL (i := 16) hS ?_
       try simp only [gA, gB, gC, Act.put, pB, pC, pD]
       refine tL (i := 17) hS ?_
       try simp only [gA, gB, gC, Act.put, pB, pC, pD]
       refine tL (i := 18) hS ?_
       try simp only [gA, gB, gC, Act.put, pB, pC, pD]
       refine tL (i := 19) hS ?_
       try simp only [gA, gB, gC, Act.put, pB, pC, pD]
       refine tL (i := 20) hS ?_
       try simp only [gA, gB, gC, Act.put, pB, pC, pD]
       refine tL (i := 21) hS ?_
       try simp only [gA, gB, gC, Act.put, pB, pC, pD]
       refine wpAnyH_done (by kernel_rfl) ?_ _
       refine NoPanic.normal ?_
       have G2 := Lib.hid hS.2.2.2
       have own1 : Hid (V0.ownsRow w.heap.size 44 2 (.slice vp L.length vc) L.length (flatC L)) := Lib.hid (by rw [← hV0]; exact own0.out)
       clear hS HI own0 hV0 HQ
       go_wp2_with fail
       go_ret
       exact ⟨_, a, false, rfl, ⟨_, _, _, rfl⟩, G2.out, .inr ⟨rfl, L, HV.out, own1.out⟩⟩
     all_goals
       have hway : (Hid (a < s.length ∧ byt s a = 91) ∧ a < s.length ∧ Hid ((if (ridx s (s.length + 1) (a + 1) 0 0).2.2 then ([], 8, (ridx s (s.length + 1) (a + 1) 0 0).2.1) else rgo s f (ridx s (s.length + 1) (a + 1) 0 0).2.1 (L ++ [⟨[], ((ridx s (s.length + 1) (a + 1) 0 0).1 : Int)⟩])) = r)) ∨
           (Hid (s.length ≤ a ∨ byt s a ≠ 91) ∧ decide (0 < L.length) = false ∧ ((L.length : Int) == 0) = true ∧ a < s.length ∧ Hid (byt s a = 46) ∧ Hid (r = ([], 8, a + 1))) ∨
           (Hid (s.length ≤ a ∨ byt s a ≠ 91) ∧ decide (0 < L.length) = false ∧ ((L.length : Int) == 0) = true ∧ Hid (s.length ≤ a ∨ byt s a ≠ 46) ∧ Hid ((if (rlab s a).2.2 then ([], 8, (rlab s a).2.1) else rgo s f (rlab s a).2.1 (L ++ [⟨(rlab s a).1, 0⟩])) = r)) ∨
           (Hid (s.length ≤ a ∨ byt s a ≠ 91) ∧ 0 < L.length ∧ ((L.length : Int) == 0) = false ∧ a < s.length ∧ Hid (byt s a = 46) ∧ Hid ((if (rlab s (a + 1)).2.2 then ([], 8, (rlab s (a + 1)).2.1) else rgo s f (rlab s (a + 1)).2.1 (L ++ [⟨(rlab s (a + 1)).1, 0⟩])) = r)) ∨
           (Hid (s.length ≤ a ∨ byt s a ≠ 91) ∧ 0 < L.length ∧ ((L.length : Int) == 0) = false ∧ Hid (s.length ≤ a ∨ byt s a ≠ 46) ∧ Hid (r = ([], 8, a))) := by
         have hq := HQ.out
         rw [if_neg (show ¬ (s.length ≤ a ∧ L.isEmpty = false) by
           rintro ⟨h1, h2⟩
           rcases HNE.out with h | h
           · rw [h] at h2; cases h2
           · omega)] at hq
         by_cases h91 : a < s.length ∧ byt s a = 91
         · rw [if_pos h91] at hq
           exact .inl ⟨Lib.hid h91, h91.1, Lib.hid hq⟩
         rw [if_neg h91] at hq
         have n91 : s.length ≤ a ∨ byt s a ≠ 91 := by
           by_cases h : a < s.length
           · exact .inr fun e => h91 ⟨h, e⟩
           · exact .inl (by omega)
         by_cases hL : L = []
         · have hl0 : L.length = 0 := by rw [hL]; rfl
           rw [if_pos (show L.isEmpty = true by rw [hL]; rfl)] at hq
           by_cases h46 : a < s.length ∧ byt s a = 46
           · rw [if_pos h46] at hq
             exact .inr (.inl ⟨Lib.hid n91, decide_eq_false (by omega), by rw [hl0]; rfl, h46.1, Lib.hid h46.2, Lib.hid hq.symm⟩)
           · rw [if_neg h46] at hq
             refine .inr (.inr (.inl ⟨Lib.hid n91, decide_eq_false (by omega), by rw [hl0]; rfl, Lib.hid ?_, Lib.hid hq⟩))
             by_cases h : a < s.length
             · exact .inr fun e => h46 ⟨h, e⟩
             · exact .inl (by omega)
         · have hlp := List.length_pos_iff.2 hL
           have b2 : ((L.length : Int) == 0) = false := by rw [beq_eq_false_iff_ne]; omega
           rw [if_neg (show ¬ L.isEmpty = true by cases L with
             | nil => exact absurd rfl hL
             | cons => simp)] at hq
           by_cases h46 : a < s.length ∧ byt s a = 46
           · rw [if_pos h46] at hq
             exact .inr (.inr (.inr (.inl ⟨Lib.hid n91, hlp, b2, h46.1, Lib.hid h46.2, Lib.hid hq⟩)))
           · rw [if_neg h46] at hq
             refine .inr (.inr (.inr (.inr ⟨Lib.hid n91, hlp, b2, Lib.hid ?_, Lib.hid hq.symm⟩)))
             by_cases h : a < s.length
             · exact .inr fun e => h46 ⟨h, e⟩
             · exact .inl (by omega)
       clear HQ HNE
       rcases hway with ⟨H91, hlt, HQ⟩ | ⟨N91, b1, b2, hlt, H46, HV⟩ | ⟨N91, b1, b2, H46, HQ⟩ | ⟨N91, b1, b2, hlt, H46, HQ⟩ | ⟨N91, b1, b2, H46, HV⟩
       · skip
         go_wp2_with fail
         refine (is_yes s a 91 B _ hl G2.out.2 hlt H91.out.2).mono ?_
         rintro e w3 ⟨rfl, hg, hr⟩
         have G3 := Lib.hid (G2.out.step hg hr)
         have own2 := Lib.hid (own_kept own1.out hg hB)
         clear hg hr
         have hri := ridx_le s (s.length + 1) (a + 1) 0 0 (by omega) (by omega)
         obtain ⟨⟨n, c, F⟩, hx⟩ : ∃ x, ridx s (s.length + 1) (a + 1) 0 0 = x := ⟨_, rfl⟩
         rw [hx] at HQ hri
         simp only at hri
         have HX := Lib.hid hx
         clear hx H91
         go_wp2_with fail
         refine (index_ref s (a + 1) (by omega) B _ hl G3.out.2).mono ?_
         rintro e w4 ⟨rfl, hg, hr⟩
         rw [HX.out] at hr ⊢
         simp only at hr ⊢
         have G4 := Lib.hid (G3.out.step hg hr)
         have own3 := Lib.hid (own_kept own2.out hg hB)
         have hsz := G4.out.1.size
         clear hg hr
         go_wp2_with (at_builtin; refine wpList_append_own _ rfl _ _ 40 rfl w.heap.size 44 i0 (.agg #[.string ⟨#[]⟩, .int .i64 0]) 2 24 Tryz.underlying40 hi hz0 hz1 hz2 rfl (by decide) _ _ _ rfl (own3.out.alloc _) ⟨w4.heap.size, 0, none⟩ 1 1 [(.string ⟨#[]⟩), (.int .i64 (n : Int))] rfl rfl (cell_two_new w4 (.string ⟨#[]⟩) (.int .i64 (n : Int)) 44) (by simp [Value.oneCell']) (by unfold maxLen; omega) (by omega) (by simp; omega) ?_; intro v' w20 hown2 hgrow _)
         have hob := own_base own3.out
         have G20 := Lib.hid ((G4.out.alloc _).grow hgrow (fun k hk => (hob k hk).1) hB)
         have hown3 : w20.ownsRow w.heap.size 44 2 v' (L ++ [(⟨[], (n : Int)⟩ : Stp)]).length (flatC (L ++ [(⟨[], (n : Int)⟩ : Stp)])) := by rw [flat_snoc, List.length_append]; exact hown2
         clear hob hgrow hown2
         go_wp2_with fail
         go_roundg f
         case measure => omega
         case rel =>
           refine ⟨c, L ++ [(⟨[], (n : Int)⟩ : Stp)], F, hri.2.1, by simp; omega, hown3, Lib.hid ⟨?_, G20.out⟩⟩
           have hq := HQ.out
           try simp only at hq
           rcases (bool_two F).symm with rfl | rfl
           · rw [if_pos rfl] at hq; exact .inr ⟨rfl, hq.symm⟩
           · rw [if_neg (by decide)] at hq; exact .inl ⟨rfl, hq, by omega, by simp; omega⟩
       · skip
         go_wp2_with fail
         refine (is_no s a 91 B _ hl G2.out.2 N91.out).mono ?_
         rintro e w3 ⟨rfl, hb⟩
         have G3 := Lib.hid (G2.out.below hb)
         have own2 := Lib.hid (own_under own1.out hb)
         clear hb
         go_wp2_with fail
         refine (is_yes s a 46 B _ hl G3.out.2 hlt H46.out).mono ?_
         rintro e w4 ⟨rfl, hg, hr⟩
         have G4 := Lib.hid (G3.out.step hg hr)
         have own3 := Lib.hid (own_kept own2.out hg hB)
         clear hg hr
         obtain ⟨x0, x1, x2⟩ := G4.out.2.cells
         have f2 := Blk.frozen G4.out.2 2
         go_wp2_with fail
         go_ret
         exact PathR.bad HV.out G4.out.fail _ _ _
       focus
         go_wp2_with fail
         refine (is_no s a 91 B _ hl G2.out.2 N91.out).mono ?_
         rintro e w3 ⟨rfl, hb⟩
         have G3 := Lib.hid (G2.out.below hb)
         have own2 := Lib.hid (own_under own1.out hb)
         clear hb
         go_wp2_with fail
         refine (is_no s a 46 B _ hl G3.out.2 H46.out).mono ?_
         rintro e w4 ⟨rfl, hb⟩
         have G4 := Lib.hid (G3.out.below hb)
         have own3 := Lib.hid (own_under own2.out hb)
         clear hb
         have G9 : Hid (RdG s B w w4 a false) := G4
         have hc : a ≤ s.length := ha
         have hca : L.length ≤ a := hLa
         have hcf : s.length + 2 ≤ gk + a := hfu
         clear N91 H46 ha hLa
         obtain ⟨c, hcc⟩ : ∃ c, c = a := ⟨_, rfl⟩
         rw [← hcc] at G9 HQ hc hca hcf
         clear hcc
       rotate_left
       focus
         go_wp2_with fail
         refine (is_no s a 91 B _ hl G2.out.2 N91.out).mono ?_
         rintro e w3 ⟨rfl, hb⟩
         have G3 := Lib.hid (G2.out.below hb)
         have own2 := Lib.hid (own_under own1.out hb)
         clear hb
         go_wp2_with fail
         refine (is_yes s a 46 B _ hl G3.out.2 hlt H46.out).mono ?_
         rintro e w4 ⟨rfl, hg, hr⟩
         have G4 := Lib.hid (G3.out.step hg hr)
         have own3 := Lib.hid (own_kept own2.out hg hB)
         clear hg hr
         have G9 : Hid (RdG s B w w4 (a + 1) false) := G4
         have hc : a + 1 ≤ s.length := by omega
         have hca : L.length ≤ a + 1 := by omega
         have hcf : s.length + 2 ≤ gk + (a + 1) := by omega
         clear N91 H46 ha hLa hlt
         obtain ⟨c, hcc⟩ : ∃ c, c = a + 1 := ⟨_, rfl⟩
         rw [← hcc] at G9 HQ hc hca hcf
         clear hcc
       rotate_left
       focus
         go_wp2_with fail
         refine (is_no s a 91 B _ hl G2.out.2 N91.out).mono ?_
         rintro e w3 ⟨rfl, hb⟩
         have G3 := Lib.hid (G2.out.below hb)
         have own2 := Lib.hid (own_under own1.out hb)
         clear hb
         go_wp2_with fail
         refine (is_no s a 46 B _ hl G3.out.2 H46.out).mono ?_
         rintro e w4 ⟨rfl, hb⟩
         have G4 := Lib.hid (G3.out.below hb)
         have own3 := Lib.hid (own_under own2.out hb)
         clear hb
         obtain ⟨x0, x1, x2⟩ := G4.out.2.cells
         have f2 := Blk.frozen G4.out.2 2
         go_wp2_with fail
         go_ret
         exact PathR.bad HV.out G4.out.fail _ _ _
       all_goals
         have hri := rlab_le s hs c hc
         obtain ⟨⟨xl, d, F⟩, hx⟩ : ∃ x, rlab s c = x := ⟨_, rfl⟩
         rw [hx] at HQ hri
         simp only at hri
         have HX := Lib.hid hx
         clear hx
         go_wp2_with fail
         refine (label_ref s c hc B _ hl G9.out.2).mono ?_
         rintro e w5 ⟨rfl, hg, hr⟩
         rw [HX.out] at hr ⊢
         simp only at hr ⊢
         have G5 := Lib.hid (G9.out.step hg hr)
         have own4 := Lib.hid (own_kept own3.out hg hB)
         have hsz := G5.out.1.size
         clear hg hr
         go_wp2_with (at_builtin; refine wpList_append_own _ rfl _ _ 40 rfl w.heap.size 44 i0 (.agg #[.string ⟨#[]⟩, .int .i64 0]) 2 24 Tryz.underlying40 hi hz0 hz1 hz2 rfl (by decide) _ _ _ rfl (own4.out.alloc _) ⟨w5.heap.size, 0, none⟩ 1 1 [(.string (S xl)), (.int .i64 0)] rfl rfl (cell_two_new w5 (.string (S xl)) (.int .i64 0) 44) (by simp [Value.oneCell']) (by unfold maxLen; omega) (by omega) (by simp; omega) ?_; intro v' w20 hown2 hgrow _)
         have hob := own_base own4.out
         have G20 := Lib.hid ((G5.out.alloc _).grow hgrow (fun k hk => (hob k hk).1) hB)
         have hown3 : w20.ownsRow w.heap.size 44 2 v' (L ++ [(⟨xl, 0⟩ : Stp)]).length (flatC (L ++ [(⟨xl, 0⟩ : Stp)])) := by rw [flat_snoc, List.length_append]; exact hown2
         clear hob hgrow hown2
         go_wp2_with fail
         go_roundg f
         case measure => omega
         case rel =>
           refine ⟨d, L ++ [(⟨xl, 0⟩ : Stp)], F, hri.2.1, by simp; omega, hown3, Lib.hid ⟨?_, G20.out⟩⟩
           have hq := HQ.out
           try simp only at hq
           rcases (bool_two F).symm with rfl | rfl
           · rw [if_pos rfl] at hq; exact .inr ⟨rfl, hq.symm⟩
           · rw [if_neg (by decide)] at hq; exact .inl ⟨rfl, hq, by have := hri.2.2 rfl; omega, by have := hri.2.2 rfl; simp; omega⟩
end
section
open Go.RowKit
set_option maxRecDepth 100000 in
set_option maxHeartbeats 8000000 in
theorem refParse_any (s : List UInt8) (hs : s.length ≤ 70000) (w : World) : Calls Tryz.prog 90 #[.string (S s)] w (ParR (rparse s) w) := by
 obtain ⟨r, hr⟩ : ∃ r, rparse s = r := ⟨_, rfl⟩
 rw [hr]
 unfold rparse at hr
 by_cases hbig : 65536 < s.length
 · rw [if_pos hbig] at hr
   subst hr
   go_enter Tryz.func90, Tryz.ntmps90
   go_wp2_with fail
   exact bodyPost_ret (v := .tuple #[.slice none 0 0, .agg #[.int .i64 2, .int .i64 0]]) (by simp [results, Tryz.results90, go_sem]) rfl ⟨_, rfl, .inl ⟨⟨_, _, rfl⟩, rfl⟩, by go_grown⟩
 rw [if_neg hbig] at hr
 have g0 : decide ((65536 : Int) < (s.length : Int)) = false := decide_eq_false (by omega)
 rcases (bool_two (s == [46])).symm with hd | hd
 · rw [if_pos hd] at hr
   subst hr
   go_enter Tryz.func90, Tryz.ntmps90
   go_wp2_with fail
   exact bodyPost_ret (v := .tuple #[.slice none 0 0, .agg #[.int .i64 0, .int .i64 0]]) (by simp [results, Tryz.results90, go_sem]) rfl ⟨_, rfl, .inl ⟨⟨_, _, rfl⟩, rfl⟩, by go_grown⟩
 rw [if_neg (by rw [hd]; decide)] at hr
 have HRR := Lib.hid hr
 clear hr
 have hRd : RdAt ((w.alloc (.cells #[.int .i64 0, .int .i64 0] 29)).alloc (.cells #[.string (S s), .int .i64 0, .bool false] 141)) (w.heap.size + 1) s 0 false := by
   have h := Blk.new (w.alloc (.cells #[.int .i64 0, .int .i64 0] 29)) (rdC s 0 false) 141
   have e : (w.alloc (.cells #[.int .i64 0, .int .i64 0] 29)).heap.size = w.heap.size + 1 := by simp
   rw [e] at h
   exact h
 have hFb : Blk ((w.alloc (.cells #[.int .i64 0, .int .i64 0] 29)).alloc (.cells #[.string (S s), .int .i64 0, .bool false] 141)) w.heap.size #[.int .i64 0, .int .i64 0] 29 := (Blk.new w _ _).alloc _
 have hBl : Below w.heap.size w ((w.alloc (.cells #[.int .i64 0, .int .i64 0] 29)).alloc (.cells #[.string (S s), .int .i64 0, .bool false] 141)) := by go_grown
 have hsz : ((w.alloc (.cells #[.int .i64 0, .int .i64 0] 29)).alloc (.cells #[.string (S s), .int .i64 0, .bool false] 141)).heap.size = w.heap.size + 2 := by simp
 have HRd := Lib.hid hRd
 have HFb := Lib.hid hFb
 have HBl := Lib.hid hBl
 have HSZ := Lib.hid hsz
 clear hRd hFb hBl hsz
 go_enter Tryz.func90, Tryz.ntmps90
 go_wp2_with fail
 refine (path_ref s (by omega) (w.heap.size + 1) _ HRd.out).mono ?_
 rintro e w2 ⟨v, a, F, rfl, ⟨p, n, c, rfl⟩, hG, hres⟩
 rw [HRR.out, HSZ.out] at hres
 have HG := Lib.hid hG
 have HB2 : Hid (Below w.heap.size w w2) := Lib.hid ⟨hG.1.os.trans HBl.out.os, hG.1.tape.trans HBl.out.tape, hG.1.output.trans HBl.out.output, Nat.le_trans HBl.out.size hG.1.size, fun k hk => (hG.1.block k (Nat.lt_of_lt_of_le hk HBl.out.size) (by intro h; injection h; omega)).trans (HBl.out.block k hk)⟩
 have HF2 : Hid (Blk w2 w.heap.size #[.int .i64 0, .int .i64 0] 29) := Lib.hid (HFb.out.kept hG.1 (by intro h; injection h; omega))
 clear hG HFb HBl HSZ HRd HRR
 obtain ⟨x0, x1, x2⟩ := HG.out.2.cells
 have f0 := HF2.out.frozen 0
 have f1 := HF2.out.frozen 1
 have y0 := HF2.out.cell 0
 have y1 := HF2.out.cell 1
 simp at y0 y1
 have hlt := HF2.out.lt
 rcases hres with ⟨rfl, hr⟩ | ⟨rfl, L, hr, hown⟩
 · subst hr
   go_wp2_with fail
   go_region
   all_goals
     go_wp2_with fail
     exact bodyPost_ret (v := .tuple #[.slice none 0 0, .agg #[.int .i64 8, .int .i64 (a : Int)]]) (by simp [results, Tryz.results90, go_sem, hlt, y0, y1]) rfl ⟨_, rfl, .inl ⟨⟨_, _, rfl⟩, rfl⟩, by first | exact ((below_drew HB2.out).setCell (Nat.le_refl _) _).setCell (Nat.le_refl _) _ | exact below_drew ((HB2.out.setCell (Nat.le_refl _) _).setCell (Nat.le_refl _) _)⟩
 · subst hr
   have HO := Lib.hid hown
   obtain ⟨vp, vc, hv⟩ := own_form hown
   injection hv with h1 h2 h3
   subst h1 h2 h3
   clear hown
   go_wp2_with fail
   exact bodyPost_ret (v := .tuple #[.slice p L.length c, .agg #[.int .i64 0, .int .i64 0]]) (by simp [results, Tryz.results90, go_sem, hlt, y0, y1]) rfl ⟨_, rfl, own_SlF HO.out (by simp) _ (by simp) (set_keeps (by omega) _ _), (HB2.out.setCell (Nat.le_refl _) _).setCell (Nat.le_refl _) _⟩
end
section
open Go.RowKit
theorem scan_step {s : List UInt8} {a : Nat} (h : a + 3 ≤ s.length) : scanE s (s.length + 1 - a) a = if sl s a (a + 3) = [32, 61, 32] then (match scalarP (s.drop (a + 3)) with | some d => some (a, d) | none => scanE s (s.length + 1 - (a + 1)) (a + 1)) else scanE s (s.length + 1 - (a + 1)) (a + 1) := by
 rw [show s.length + 1 - a = (s.length + 1 - (a + 1)) + 1 by omega, scanE, if_pos h]
 split <;> rfl
theorem scan_end {s : List UInt8} {a : Nat} (h : ¬ a + 3 ≤ s.length) : scanE s (s.length + 1 - a) a = none := by
 cases hn : s.length + 1 - a with
 | zero => rfl
 | succ n => rw [scanE, if_neg h]
theorem refParse_p (s : List UInt8) (hs : s.length ≤ 70000) (w : World) : Calls Tryz.prog 90 #[.string (S s)] w (ParR (parseP s) w) := by
 have h := refParse_any s hs w
 rw [parse_both] at h
 exact h
set_option maxRecDepth 100000 in
set_option maxHeartbeats 8000000 in
theorem refentry_any (l : List UInt8) (hl : l.length ≤ 65536) (w : World) :
   Calls Tryz.prog 49 #[.string (S l)] w (EntP w (entryP parseP l)) := by
 have HEQ := Lib.hid (entryP_eq parseP l)
 generalize entryP parseP l = r at HEQ ⊢
 have hN : Blk (w.alloc (.cells #[.slice none 0 0, .int .i64 0, .int .i64 0, .string ⟨#[]⟩, .slice none 0 0, .slice none 0 0] 74)) w.heap.size #[.slice none 0 0, .int .i64 0, .int .i64 0, .string ⟨#[]⟩, .slice none 0 0, .slice none 0 0] 74 := Blk.new w _ _
 have hb : Below w.heap.size w (w.alloc (.cells #[.slice none 0 0, .int .i64 0, .int .i64 0, .string ⟨#[]⟩, .slice none 0 0, .slice none 0 0] 74)) := (Below.refl _ _).alloc (Nat.le_refl _) _
 go_enter Tryz.func49, Tryz.ntmps49
 go_upto_region 1 with fail
 generalize w.alloc (.cells #[.slice none 0 0, .int .i64 0, .int .i64 0, .string ⟨#[]⟩, .slice none 0 0, .slice none 0 0] 74) = W at hN hb ⊢
 have HN := Lib.hid hN
 have HB := Lib.hid hb
 clear hN hb
 go_wp2_with fail
 go_loopw [4] (fun x wr => ∃ a : Nat, x = .int .i64 (a : Int) ∧ a ≤ l.length ∧ Hid (r = (match scanE l (l.length + 1 - a) a with | none => none | some (i, d) => if (parseP (l.take i)).2.1 = 0 then some ((parseP (l.take i)).1, d) else none)) ∧ Hid (Blk wr w.heap.size #[.slice none 0 0, .int .i64 0, .int .i64 0, .string ⟨#[]⟩, .slice none 0 0, .slice none 0 0] 74) ∧ Hid (Below w.heap.size w wr)) (fun x _ => l.length + 1 - (intOf x).toNat)
 case atStart => exact ⟨0, rfl, Nat.zero_le _, HEQ, HN, HB⟩
 case round =>
   clear HEQ HN HB
   obtain ⟨a, rfl, ha, HQ, HN, HB⟩ := hrel
   have w1' : IntKind.i64.wrap ((a : Int) + 3) = (a : Int) + 3 := IntWalk.i64_in _ (by omega)
   by_cases h3 : a + 3 ≤ l.length
   · have HSP := Lib.hid (scan_step h3)
     have b1 : (0 : Int) ≤ (a : Int) + 3 := by omega
     have b2 : (a : Int) + 3 ≤ (l.length : Int) := by omega
     have b3 : ((a : Int) + 3).toNat = a + 3 := by omega
     have b4 : (0 : Int) ≤ (a : Int) := by omega
     have b5 : (a : Int) ≤ (a : Int) + 3 := by omega
     have b6 : (a : Int) ≤ (l.length : Int) := by omega
     by_cases hsl : sl l a (a + 3) = [32, 61, 32]
     case neg =>
       have t1 : (sl l a (a + 3) == [32, 61, 32]) = false := beq_eq_false_iff_ne.2 hsl
       have t2 : (sl l a (a + 3) != [32, 61, 32]) = true := by show (!(sl l a (a + 3) == [32, 61, 32])) = true; rw [t1]; rfl
       have HQ2 := Lib.hid (show r = (match scanE l (l.length + 1 - (a + 1)) (a + 1) with | none => none | some (i, d) => if (parseP (l.take i)).2.1 = 0 then some ((parseP (l.take i)).1, d) else none) by rw [HQ.out, HSP.out, if_neg hsl])
       clear hsl HQ HSP
       go_wp2_with fail
       go_roundw
       case rel => exact ⟨a + 1, by go_num, by omega, HQ2, HN, HB⟩
       case measure => simp [intOf]; omega
     have HQ1 := Lib.hid (show r = (match scalarP (l.drop (a + 3)) with | some d => (if (parseP (l.take a)).2.1 = 0 then some ((parseP (l.take a)).1, d) else none) | none => (match scanE l (l.length + 1 - (a + 1)) (a + 1) with | none => none | some (i, d) => if (parseP (l.take i)).2.1 = 0 then some ((parseP (l.take i)).1, d) else none)) by
       rw [HQ.out, HSP.out, if_pos hsl]; cases scalarP (l.drop (a + 3)) <;> rfl)
     have t1 : (sl l a (a + 3) == [32, 61, 32]) = true := by rw [hsl]; rfl
     have t2 : (sl l a (a + 3) != [32, 61, 32]) = false := by rw [hsl]; rfl
     have HDR := Lib.hid (sl_from l (a + 3))
     have HTK := Lib.hid (sl_to l a)
     have HDL := Lib.hid (show (sl l (a + 3) l.length).length ≤ 1000000 by rw [sl_from, List.length_drop]; omega)
     have HTL := Lib.hid (show (sl l 0 a).length ≤ 70000 by rw [sl_to, List.length_take]; omega)
     rw [← HDR.out, ← HTK.out] at HQ1
     clear hsl HQ HSP
     go_wp2_with fail
     refine (leaf_any (sl l (a + 3) l.length) HDL.out _).mono ?_
     rintro e w2 ⟨k, nn, s, rfl, hd, hb⟩
     have HN2 := Lib.hid (HN.out.below hb)
     have HB2 := Lib.hid (HB.out.trans (hb.mono HB.out.size))
     have HD := Lib.hid hd
     generalize scalarP (sl l (a + 3) l.length) = q at HQ1 HD
     clear hb hd HN HB t1 t2
     have hN3 := HN2.out.alloc (.cells #[.int .i64 k, .int .i64 nn, .string (S s), .slice none 0 0, .slice none 0 0] 26)
     have hK3 := Blk.new w2 #[.int .i64 k, .int .i64 nn, .string (S s), .slice none 0 0, .slice none 0 0] 26
     have hB3 := HB2.out.alloc HB2.out.size (.cells #[.int .i64 k, .int .i64 nn, .string (S s), .slice none 0 0, .slice none 0 0] 26)
     rcases q with _ | d
     · have HQ2 := Lib.hid (show r = (match scanE l (l.length + 1 - (a + 1)) (a + 1) with | none => none | some (i, d) => if (parseP (l.take i)).2.1 = 0 then some ((parseP (l.take i)).1, d) else none) from HQ1.out)
       rw [Option.isSome_none]
       have HN3 := Lib.hid hN3
       have HB3 := Lib.hid hB3
       clear hN3 hK3 hB3 HQ1
       go_wp2_with fail
       go_roundw
       case rel => exact ⟨a + 1, by go_num, by omega, HQ2, HN3, HB3⟩
       case measure => simp [intOf]; omega
     · have HQ2 := Lib.hid (show r = if (parseP (sl l 0 a)).2.1 = 0 then some ((parseP (sl l 0 a)).1, d) else none from HQ1.out)
       have hd : d = .mk k nn s [] [] := HD.out d rfl
       rw [Option.isSome_some]
       go_upto_region 6 with fail
       generalize w2.alloc (.cells #[.int .i64 k, .int .i64 nn, .string (S s), .slice none 0 0, .slice none 0 0] 26) = W3 at hN3 hK3 hB3 ⊢
       have HN3 := Lib.hid hN3
       have HK3 := Lib.hid hK3
       have HB3 := Lib.hid hB3
       have HDD := Lib.hid hd
       clear hN3 hK3 hB3 HQ1 hd HN2 HB2 HD
       go_wp2_with fail
       refine (refParse_p (sl l 0 a) HTL.out _).mono ?_
       rintro e w4 ⟨pv, rfl, hpv, hb⟩
       have hpk := hpv.slk.mono (ok' := fun B => w.heap.size < B) fun B _ hB => Nat.lt_of_lt_of_le HN3.out.lt hB
       generalize parseP (sl l 0 a) = pr at HQ2 hpv hpk
       obtain ⟨P, en, ep⟩ := pr
       simp only at HQ2 hpv hpk ⊢
       obtain ⟨pp, pc, rfl⟩ := slk_form hpk
       have hlt5 : w.heap.size < w4.heap.size := (HN3.out.below hb).lt
       have e1 : ¬ (w.heap.size = w4.heap.size) := by omega
       have e2 : ¬ (w4.heap.size = w.heap.size) := by omega
       have e3 : (w.heap.size == w4.heap.size) = false := by rw [beq_eq_false_iff_ne]; exact e1
       have e4 : (w4.heap.size == w.heap.size) = false := by rw [beq_eq_false_iff_ne]; exact e2
       have hF := Blk.new w4 #[.int .i64 (en : Int), .int .i64 (ep : Int)] 29
       have hN5 := (HN3.out.below hb).alloc (.cells #[.int .i64 (en : Int), .int .i64 (ep : Int)] 29)
       have hK5 := (HK3.out.below hb).alloc (.cells #[.int .i64 (en : Int), .int .i64 (ep : Int)] 29)
       have hb5 := (Below.refl w4.heap.size w4).alloc (Nat.le_refl _) (.cells #[.int .i64 (en : Int), .int .i64 (ep : Int)] 29)
       have hB5 := (HB3.out.trans (hb.mono HB3.out.size)).trans (hb5.mono (HB3.out.trans (hb.mono HB3.out.size)).size)
       have HP5 := Lib.hid (hpk.under hb5)
       clear hpv hpk hb hb5 HN3 HK3 HB3
       go_upto_region 8 with fail
       generalize w4.alloc (.cells #[.int .i64 (en : Int), .int .i64 (ep : Int)] 29) = W5 at hF hN5 hK5 hB5 HP5 ⊢
       have f0 := hF.cell 0
       have k0 := hK5.cell 0
       have k1 := hK5.cell 1
       have k2 := hK5.cell 2
       have k3 := hK5.cell 3
       have k4 := hK5.cell 4
       simp at f0 k0 k1 k2 k3 k4
       have z0 := hN5.cell 0
       have z1 := hN5.cell 1
       have z2 := hN5.cell 2
       have z3 := hN5.cell 3
       have z4 := hN5.cell 4
       have z5 := hN5.cell 5
       have y0 := hN5.frozen 0
       have y1 := hN5.frozen 1
       have y2 := hN5.frozen 2
       have y3 := hN5.frozen 3
       have y4 := hN5.frozen 4
       have y5 := hN5.frozen 5
       simp at z0 z1 z2 z3 z4 z5
       have hzl := hN5.lt
       have HB5 := Lib.hid hB5
       clear hF hN5 hK5 hB5
       by_cases hen : en = 0
       · have HR := Lib.hid (show r = some (P, d) by rw [HQ2.out, if_pos hen])
         subst hen
         have f1 : W5.cell? ⟨w4.heap.size, 0, none⟩ = some (.int .i64 0) := f0
         clear f0
         go_region
         all_goals
           go_wp2_with fail
           refine bodyPost_ret (v := .tuple #[.agg #[.slice pp P.length pc, .int .i64 k, .int .i64 nn, .string (S s), .slice none 0 0, .slice none 0 0], .bool true]) (by simp [results, Tryz.results49, go_sem, z0, z1, z2, z3, z4, z5, y0, y1, y2, y3, y4, y5, hzl]) rfl ?_
           rw [HR.out]
           refine ⟨.slice pp P.length pc, k, nn, s, ⟨_, _, _, rfl⟩, rfl, fun x hx => by injection hx with hx; subst hx; exact ⟨(HP5.out.six _ _ _ _ _ _).drew, HDD.out⟩, ?_⟩
           have hbw := HB5.out
           go_grown
           all_goals exact hbw
       · have HR := Lib.hid (show r = none by rw [HQ2.out, if_neg hen])
         have c1 : ((en : Int) == 0) = false := by rw [beq_eq_false_iff_ne]; omega
         have c2 : ¬ ((en : Int) = 0) := by omega
         clear hen
         go_region
         all_goals
           go_wp2_with fail
           refine bodyPost_ret (v := .tuple #[.agg #[.slice pp P.length pc, .int .i64 k, .int .i64 nn, .string (S s), .slice none 0 0, .slice none 0 0], .bool false]) (by simp [results, Tryz.results49, go_sem, z0, z1, z2, z3, z4, z5, y0, y1, y2, y3, y4, y5, hzl]) rfl ?_
           rw [HR.out]
           refine ⟨.slice pp P.length pc, k, nn, s, ⟨_, _, _, rfl⟩, rfl, (fun x h => nomatch h), ?_⟩
           have hbw := HB5.out
           go_grown
           all_goals exact hbw
   · have HR := Lib.hid (show r = none by rw [HQ.out, scan_end h3])
     have c1 : ¬ ((a : Int) + 3 ≤ (l.length : Int)) := by omega
     have hN5 := HN.out
     have z0 := hN5.cell 0
     have z1 := hN5.cell 1
     have z2 := hN5.cell 2
     have z3 := hN5.cell 3
     have z4 := hN5.cell 4
     have z5 := hN5.cell 5
     have y0 := hN5.frozen 0
     have y1 := hN5.frozen 1
     have y2 := hN5.frozen 2
     have y3 := hN5.frozen 3
     have y4 := hN5.frozen 4
     have y5 := hN5.frozen 5
     simp at z0 z1 z2 z3 z4 z5
     have hzl := hN5.lt
     clear hN5 HN HQ
     go_wp2_with fail
     refine bodyPost_ret (v := .tuple #[.agg #[.slice none 0 0, .int .i64 0, .int .i64 0, .string ⟨#[]⟩, .slice none 0 0, .slice none 0 0], .bool false]) (by simp [results, Tryz.results49, go_sem, z0, z1, z2, z3, z4, z5, y0, y1, y2, y3, y4, y5, hzl]) rfl ?_
     rw [HR.out]
     refine ⟨.slice none 0 0, 0, 0, [], ⟨_, _, _, rfl⟩, rfl, (fun x h => nomatch h), ?_⟩
     have hbw := HB.out
     go_grown
     all_goals exact hbw
end
section
open Go.RowKit
theorem onlyV_no {k : Int} (h : ¬ (1 ≤ k ∧ k ≤ 6)) (n : Int) (s : List UInt8) (a b : Nat) : onlyV k n s a b = false := by
 unfold onlyV
 by_cases h1 : 1 ≤ k
 · rw [decide_eq_false (show ¬ k ≤ 6 by omega)]; simp only [Bool.and_false, Bool.false_and]
 · rw [decide_eq_false h1]; simp only [Bool.false_and]
set_option maxRecDepth 100000 in
set_option maxHeartbeats 2000000 in
theorem plain_none (k n : Int) (s : List UInt8) (p q : Option Addr) (a cap b caq : Nat) (w : World) (h : ¬ (1 ≤ k ∧ k ≤ 6)) : Calls Tryz.prog 117 #[dval k n s p a cap q b caq] w fun e w' => e = .returned (.bool (onlyV k n s a b)) ∧ Below w.heap.size w w' := by
 obtain ⟨r, hr⟩ : ∃ r, onlyV k n s a b = r := ⟨_, rfl⟩
 rw [hr]
 have HR := Lib.hid (hr.symm.trans (onlyV_no h n s a b))
 clear hr
 have h : decide (k < 1) = true ∨ (decide (k < 1) = false ∧ decide (k > 6) = true) := by
   simp only [decide_eq_true_eq, decide_eq_false_iff_not]; omega
 rcases h with h1 | ⟨h1, h2⟩
 all_goals
   go_enter Tryz.func117, Tryz.ntmps117
   go_wp2_with fail
   go_ret
   exact ⟨by rw [HR.out]; rfl, by go_grown⟩
set_option maxRecDepth 100000 in
set_option maxHeartbeats 2000000 in
theorem plain_1 (n : Int) (s : List UInt8) (p q : Option Addr) (a cap b caq : Nat) (w : World) : Calls Tryz.prog 117 #[dval 1 n s p a cap q b caq] w fun e w' => e = .returned (.bool (onlyV 1 n s a b)) ∧ Below w.heap.size w w' := by
 obtain ⟨r, hr⟩ : ∃ r, onlyV 1 n s a b = r := ⟨_, rfl⟩
 rw [hr]
 rw [onlyV_eq _ _ _ _ _ (by omega)] at hr
 have HR := Lib.hid hr
 clear hr
 rcases four_ways (n == 0) s.isEmpty ((a : Int) == 0) ((b : Int) == 0) with t1 | ⟨t1, t2⟩ | ⟨t1, t2, t3⟩ | ⟨t1, t2, t3, t4⟩ | ⟨t1, t2, t3, t4⟩
 all_goals
   (first | (have u1 : (n != 0) = true := by (show (!(n == 0)) = true); rw [t1]; rfl) | (have u1 : (n != 0) = false := by (show (!(n == 0)) = false); rw [t1]; rfl) | skip)
   (first | (have u2 : (!s.isEmpty) = true := by rw [t1]; rfl) | (have u2 : (!s.isEmpty) = true := by rw [t2]; rfl) | (have u2 : (!s.isEmpty) = false := by rw [t1]; rfl) | (have u2 : (!s.isEmpty) = false := by rw [t2]; rfl) | skip)
   go_enter Tryz.func117, Tryz.ntmps117
   go_wp2_with fail
   go_ret
   exact ⟨by rw [← HR.out]; (try rw [t1]); (try rw [t2]); (try rw [t3]); (try rw [t4]); rfl, by go_grown⟩
set_option maxRecDepth 100000 in
set_option maxHeartbeats 2000000 in
theorem plain_2 (n : Int) (s : List UInt8) (p q : Option Addr) (a cap b caq : Nat) (w : World) : Calls Tryz.prog 117 #[dval 2 n s p a cap q b caq] w fun e w' => e = .returned (.bool (onlyV 2 n s a b)) ∧ Below w.heap.size w w' := by
 obtain ⟨r, hr⟩ : ∃ r, onlyV 2 n s a b = r := ⟨_, rfl⟩
 rw [hr]
 rw [onlyV_eq _ _ _ _ _ (by omega)] at hr
 have HR := Lib.hid hr
 clear hr
 rcases three_ways s.isEmpty ((a : Int) == 0) ((b : Int) == 0) with t1 | ⟨t1, t2⟩ | ⟨t1, t2, t3⟩ | ⟨t1, t2, t3⟩
 all_goals
   (first | (have u1 : (n != 0) = true := by (show (!(n == 0)) = true); rw [t1]; rfl) | (have u1 : (n != 0) = false := by (show (!(n == 0)) = false); rw [t1]; rfl) | skip)
   (first | (have u2 : (!s.isEmpty) = true := by rw [t1]; rfl) | (have u2 : (!s.isEmpty) = true := by rw [t2]; rfl) | (have u2 : (!s.isEmpty) = false := by rw [t1]; rfl) | (have u2 : (!s.isEmpty) = false := by rw [t2]; rfl) | skip)
   go_enter Tryz.func117, Tryz.ntmps117
   go_wp2_with fail
   go_ret
   exact ⟨by rw [← HR.out]; (try rw [t1]); (try rw [t2]); (try rw [t3]); (try rw [t4]); rfl, by go_grown⟩
set_option maxRecDepth 100000 in
set_option maxHeartbeats 2000000 in
theorem plain_3 (n : Int) (s : List UInt8) (p q : Option Addr) (a cap b caq : Nat) (w : World) : Calls Tryz.prog 117 #[dval 3 n s p a cap q b caq] w fun e w' => e = .returned (.bool (onlyV 3 n s a b)) ∧ Below w.heap.size w w' := by
 obtain ⟨r, hr⟩ : ∃ r, onlyV 3 n s a b = r := ⟨_, rfl⟩
 rw [hr]
 rw [onlyV_eq _ _ _ _ _ (by omega)] at hr
 have HR := Lib.hid hr
 clear hr
 rcases three_ways s.isEmpty ((a : Int) == 0) ((b : Int) == 0) with t1 | ⟨t1, t2⟩ | ⟨t1, t2, t3⟩ | ⟨t1, t2, t3⟩
 all_goals
   (first | (have u1 : (n != 0) = true := by (show (!(n == 0)) = true); rw [t1]; rfl) | (have u1 : (n != 0) = false := by (show (!(n == 0)) = false); rw [t1]; rfl) | skip)
   (first | (have u2 : (!s.isEmpty) = true := by rw [t1]; rfl) | (have u2 : (!s.isEmpty) = true := by rw [t2]; rfl) | (have u2 : (!s.isEmpty) = false := by rw [t1]; rfl) | (have u2 : (!s.isEmpty) = false := by rw [t2]; rfl) | skip)
   go_enter Tryz.func117, Tryz.ntmps117
   go_wp2_with fail
   go_ret
   exact ⟨by rw [← HR.out]; (try rw [t1]); (try rw [t2]); (try rw [t3]); (try rw [t4]); rfl, by go_grown⟩
set_option maxRecDepth 100000 in
set_option maxHeartbeats 2000000 in
theorem plain_4 (n : Int) (s : List UInt8) (p q : Option Addr) (a cap b caq : Nat) (w : World) : Calls Tryz.prog 117 #[dval 4 n s p a cap q b caq] w fun e w' => e = .returned (.bool (onlyV 4 n s a b)) ∧ Below w.heap.size w w' := by
 obtain ⟨r, hr⟩ : ∃ r, onlyV 4 n s a b = r := ⟨_, rfl⟩
 rw [hr]
 rw [onlyV_eq _ _ _ _ _ (by omega)] at hr
 have HR := Lib.hid hr
 clear hr
 rcases three_ways (n == 0) ((a : Int) == 0) ((b : Int) == 0) with t1 | ⟨t1, t2⟩ | ⟨t1, t2, t3⟩ | ⟨t1, t2, t3⟩
 all_goals
   (first | (have u1 : (n != 0) = true := by (show (!(n == 0)) = true); rw [t1]; rfl) | (have u1 : (n != 0) = false := by (show (!(n == 0)) = false); rw [t1]; rfl) | skip)
   (first | (have u2 : (!s.isEmpty) = true := by rw [t1]; rfl) | (have u2 : (!s.isEmpty) = true := by rw [t2]; rfl) | (have u2 : (!s.isEmpty) = false := by rw [t1]; rfl) | (have u2 : (!s.isEmpty) = false := by rw [t2]; rfl) | skip)
   go_enter Tryz.func117, Tryz.ntmps117
   go_wp2_with fail
   go_ret
   exact ⟨by rw [← HR.out]; (try rw [t1]); (try rw [t2]); (try rw [t3]); (try rw [t4]); rfl, by go_grown⟩
set_option maxRecDepth 100000 in
set_option maxHeartbeats 2000000 in
theorem plain_5 (n : Int) (s : List UInt8) (p q : Option Addr) (a cap b caq : Nat) (w : World) : Calls Tryz.prog 117 #[dval 5 n s p a cap q b caq] w fun e w' => e = .returned (.bool (onlyV 5 n s a b)) ∧ Below w.heap.size w w' := by
 obtain ⟨r, hr⟩ : ∃ r, onlyV 5 n s a b = r := ⟨_, rfl⟩
 rw [hr]
 rw [onlyV_eq _ _ _ _ _ (by omega)] at hr
 have HR := Lib.hid hr
 clear hr
 rcases three_ways (n == 0) s.isEmpty ((b : Int) == 0) with t1 | ⟨t1, t2⟩ | ⟨t1, t2, t3⟩ | ⟨t1, t2, t3⟩
 all_goals
   (first | (have u1 : (n != 0) = true := by (show (!(n == 0)) = true); rw [t1]; rfl) | (have u1 : (n != 0) = false := by (show (!(n == 0)) = false); rw [t1]; rfl) | skip)
   (first | (have u2 : (!s.isEmpty) = true := by rw [t1]; rfl) | (have u2 : (!s.isEmpty) = true := by rw [t2]; rfl) | (have u2 : (!s.isEmpty) = false := by rw [t1]; rfl) | (have u2 : (!s.isEmpty) = false := by rw [t2]; rfl) | skip)
   go_enter Tryz.func117, Tryz.ntmps117
   go_wp2_with fail
   go_ret
   exact ⟨by rw [← HR.out]; (try rw [t1]); (try rw [t2]); (try rw [t3]); (try rw [t4]); rfl, by go_grown⟩
set_option maxRecDepth 100000 in
set_option maxHeartbeats 2000000 in
theorem plain_6 (n : Int) (s : List UInt8) (p q : Option Addr) (a cap b caq : Nat) (w : World) : Calls Tryz.prog 117 #[dval 6 n s p a cap q b caq] w fun e w' => e = .returned (.bool (onlyV 6 n s a b)) ∧ Below w.heap.size w w' := by
 obtain ⟨r, hr⟩ : ∃ r, onlyV 6 n s a b = r := ⟨_, rfl⟩
 rw [hr]
 rw [onlyV_eq _ _ _ _ _ (by omega)] at hr
 have HR := Lib.hid hr
 clear hr
 rcases three_ways (n == 0) s.isEmpty ((a : Int) == 0) with t1 | ⟨t1, t2⟩ | ⟨t1, t2, t3⟩ | ⟨t1, t2, t3⟩
 all_goals
   (first | (have u1 : (n != 0) = true := by (show (!(n == 0)) = true); rw [t1]; rfl) | (have u1 : (n != 0) = false := by (show (!(n == 0)) = false); rw [t1]; rfl) | skip)
   (first | (have u2 : (!s.isEmpty) = true := by rw [t1]; rfl) | (have u2 : (!s.isEmpty) = true := by rw [t2]; rfl) | (have u2 : (!s.isEmpty) = false := by rw [t1]; rfl) | (have u2 : (!s.isEmpty) = false := by rw [t2]; rfl) | skip)
   go_enter Tryz.func117, Tryz.ntmps117
   go_wp2_with fail
   go_ret
   exact ⟨by rw [← HR.out]; (try rw [t1]); (try rw [t2]); (try rw [t3]); (try rw [t4]); rfl, by go_grown⟩
theorem plain_any (k n : Int) (s : List UInt8) (p q : Option Addr) (a cap b caq : Nat) (w : World) : Calls Tryz.prog 117 #[dval k n s p a cap q b caq] w fun e w' => e = .returned (.bool (onlyV k n s a b)) ∧ Below w.heap.size w w' := by
 by_cases h : 1 ≤ k ∧ k ≤ 6
 · rcases (by omega : k = 1 ∨ k = 2 ∨ k = 3 ∨ k = 4 ∨ k = 5 ∨ k = 6) with rfl | rfl | rfl | rfl | rfl | rfl
   · exact plain_1 n s p q a cap b caq w
   · exact plain_2 n s p q a cap b caq w
   · exact plain_3 n s p q a cap b caq w
   · exact plain_4 n s p q a cap b caq w
   · exact plain_5 n s p q a cap b caq w
   · exact plain_6 n s p q a cap b caq w
 · exact plain_none k n s p q a cap b caq w h
end
section
open Go.RowKit
theorem chkI_drop {its : List Dat} {lv i : Nat} (h : i < its.length) : chkI (its.drop i) lv = if chk its[i] lv = 0 then chkI (its.drop (i + 1)) lv else chk its[i] lv := by
 rw [List.drop_eq_getElem_cons h, chkI]
theorem chkI_over {its : List Dat} {lv i : Nat} (h : its.length ≤ i) : chkI (its.drop i) lv = 0 := by
 rw [List.drop_of_length_le h, chkI]
theorem chkM_drop {mem : List (List UInt8 × Dat)} {lv i : Nat} (h : i < mem.length) : chkM (mem.drop i) lv = if chk mem[i].2 lv = 0 then chkM (mem.drop (i + 1)) lv else chk mem[i].2 lv := by
 rw [List.drop_eq_getElem_cons h]
 obtain ⟨l, x⟩ := mem[i]
 rw [chkM]
theorem chkM_over {mem : List (List UInt8 × Dat)} {lv i : Nat} (h : mem.length ≤ i) : chkM (mem.drop i) lv = 0 := by
 rw [List.drop_of_length_le h, chkM]
theorem chk_deep {d : Dat} {lv : Nat} (h : 16 < lv) : chk d lv = 9 := by rw [chk_eq, if_pos h]
theorem chk_kind {d : Dat} {lv : Nat} (h : ¬ 16 < lv) (h1 : plainB d = false) : chk d lv = 11 := by
 rw [chk_eq, if_neg h, show ownE d = 11 by unfold ownE; rw [if_pos h1]]; rfl
theorem chk_range {d : Dat} {lv : Nat} (h : ¬ 16 < lv) (h1 : plainB d = true) (h2 : badNum d = true) : chk d lv = 1 := by
 rw [chk_eq, if_neg h, show ownE d = 1 by unfold ownE; rw [if_neg (by rw [h1]; decide), if_pos h2]]; rfl
theorem chk_twice {d : Dat} {lv : Nat} (h : ¬ 16 < lv) (h1 : plainB d = true) (h2 : badNum d = false) (h3 : ascM d.mem = false) : chk d lv = 6 := by
 rw [chk_eq, if_neg h, show ownE d = 6 by unfold ownE; rw [if_neg (by rw [h1]; decide), if_neg (by rw [h2]; decide), if_pos h3]]; rfl
theorem chk_parts {d : Dat} {lv : Nat} (h : ¬ 16 < lv) (h1 : plainB d = true) (h2 : badNum d = false) (h3 : ascM d.mem = true) : chk d lv = if chkI d.its (lv + 1) = 0 then chkM d.mem (lv + 1) else chkI d.its (lv + 1) := by
 rw [chk_eq, if_neg h, show ownE d = 0 by unfold ownE; rw [if_neg (by rw [h1]; decide), if_neg (by rw [h2]; decide), if_neg (by rw [h3]; decide)], if_pos rfl]
set_option maxRecDepth 100000 in
set_option maxHeartbeats 4000000 in
theorem refCheck_any (m : Nat) : ∀ (d : Dat), SizeOf.sizeOf d < m → ∀ (lv : Nat), lv ≤ 17 → ∀ (vi vm : Value) (ok : Nat → Prop) (w : World), Rep w ok d vi vm →
   Calls Tryz.prog 76 #[.agg #[.int .i64 d.k, .int .i64 d.n, .string (S d.s), vi, vm], .int .i64 (lv : Int)] w fun e w' => e = .returned (.int .i64 (chk d lv : Int)) ∧ Below w.heap.size w w' := by
 induction m with
 | zero => intro d h; exact absurd h (Nat.not_lt_zero _)
 | succ m ih =>
   intro d hd lv hlv vi vm ok w hr
   obtain ⟨r, hrr⟩ : ∃ r, chk d lv = r := ⟨_, rfl⟩
   rw [hrr]
   have HR := Lib.hid hrr
   clear hrr
   have IH := Lib.hid ih
   clear ih
   obtain ⟨p, cap, rfl, hil, hit⟩ := hr.items
   obtain ⟨q, caq, rfl, hml, hme⟩ := hr.members
   clear hr
   unfold maxLen at hil hml
   have HT := Lib.hid hit
   have HM := Lib.hid hme
   clear hit hme
   have HD := Lib.hid hd
   clear hd
   have hS : CkS w.heap.size w d (.slice p d.its.length cap) (.slice q d.mem.length caq) (w.alloc (.cells #[.int .i64 d.k, .int .i64 d.n, .string (S d.s), .slice p d.its.length cap, .slice q d.mem.length caq] 26)) := CkS.new w d _ _
   by_cases h16 : 16 < lv
   · have HV := Lib.hid ((chk_deep h16).symm.trans HR.out)
     have HS := Lib.hid hS
     clear hS
     go_enter Tryz.func76, Tryz.ntmps76
     go_wp2_with fail
     go_ret
     exact ⟨by rw [← HV.out]; rfl, HS.out.2⟩
   go_enter Tryz.func76, Tryz.ntmps76
   go_upto_region 1 with fail
   generalize w.alloc (.cells #[.int .i64 d.k, .int .i64 d.n, .string (S d.s), .slice p d.its.length cap, .slice q d.mem.length caq] 26) = W at hS ⊢
   obtain ⟨c0, c1, c2, c3, c4, hlw⟩ := hS.cells
   have HS := Lib.hid hS
   clear hS
   have HP := Lib.hid (plain_only d)
   go_upto_region 3 with fail
   go_wp2_with fail
   refine (plain_any d.k d.n d.s p q d.its.length cap d.mem.length caq _).mono ?_
   rintro e w1 ⟨rfl, hb⟩
   have HS1 := Lib.hid (HS.out.below hb)
   rw [← HP.out]
   clear hb HS c0 c1 c2 c3 c4 hlw
   obtain ⟨c0, c1, c2, c3, c4, hlw⟩ := HS1.out.cells
   rcases Bool.eq_false_or_eq_true (plainB d) with hpl | hpl
   case inr =>
     rw [hpl]
     have HV := Lib.hid ((chk_kind h16 hpl).symm.trans HR.out)
     go_wp2_with fail
     go_ret
     exact ⟨by rw [← HV.out]; rfl, HS1.out.2⟩
   rw [hpl]
   have HPL := Lib.hid hpl
   clear hpl
   go_upto_region 5 with fail
   go_cut [38] (fun v wx => v = .bool (badV d.k d.n) ∧ Hid (CkS w.heap.size w d (.slice p d.its.length cap) (.slice q d.mem.length caq) wx))
   case first =>
     rcases bad_ways d.k d.n with ⟨t1, t2, t3, tv⟩ | ⟨t1, t2, t3, t4, tv⟩ | ⟨t1, t2, t3, tv⟩ | ⟨t1, t2, tv⟩ | ⟨t1, t2, tv⟩
     all_goals
       have TV := Lib.hid tv
       clear tv
       go_wp2_with (go_at_call 118; refine (dRefVld_any _ _).mono ?_; rintro e w' ⟨rfl, rfl⟩)
       go_meet
       exact ⟨by rw [TV.out], HS1⟩
   case rest =>
     obtain ⟨rfl, HS2⟩ := hcut
     have HB0 := Lib.hid (badNum_eq d)
     clear c0 c1 c2 c3 c4 hlw HS1
     rcases Bool.eq_false_or_eq_true (badV d.k d.n) with hbv | hbv
     · rw [hbv]
       have HV := Lib.hid ((chk_range h16 HPL.out (HB0.out.trans hbv)).symm.trans HR.out)
       go_wp2_with fail
       go_ret
       exact ⟨by rw [← HV.out]; rfl, HS2.out.2⟩
     rw [hbv]
     have HBV := Lib.hid (HB0.out.trans hbv)
     clear hbv HB0
     obtain ⟨-, -, -, c3, c4, hlw⟩ := HS2.out.cells
     go_wp2_with fail
     go_loopw [5] (fun x wr => ∃ i : Nat, x = .int .i64 ((i + 1 : Nat) : Int) ∧ (i = 0 ∨ i + 1 ≤ d.mem.length) ∧ Hid (CkS w.heap.size w d (.slice p d.its.length cap) (.slice q d.mem.length caq) wr) ∧ Hid (ascM d.mem = ascF d.mem i)) (fun x _ => d.mem.length + 1 - (intOf x).toNat)
     case atStart => exact ⟨0, rfl, .inl rfl, HS2, Lib.hid rfl⟩
     case round =>
       obtain ⟨i, rfl, hi, HC, HV⟩ := hrel
       by_cases hlt : i + 1 < d.mem.length
       · obtain ⟨B, o, xi, xm, hqq, hcap, hB, hlab, -, -⟩ := HM.out i (by omega)
         obtain ⟨B', o', ui, um, hqq', -, -, hlab', -, -⟩ := HM.out (i + 1) hlt
         have hae : B' = B ∧ o' = o := by rw [hqq] at hqq'; injection hqq' with h; injection h with h1 h2; exact ⟨h1.symm, h2.symm⟩
         obtain ⟨rfl, rfl⟩ := hae
         subst hqq
         have k0 := (HC.out.2.cell (p := ⟨B', o' + i * 6, none⟩) hB).trans hlab
         have k1 := (HC.out.2.cell (p := ⟨B', o' + (i + 1) * 6, none⟩) hB).trans hlab'
         have HV1 := Lib.hid (HV.out.trans (ascF_step hlt))
         clear hqq' hlab hlab' HV
         generalize (d.mem[i]'(by omega)).1 = x at k0 HV1
         generalize d.mem[i + 1].1 = y at k1 HV1
         obtain ⟨-, -, -, c3, c4, hlw⟩ := HC.out.cells
         have b0 : (0 : Int) ≤ ((i + 1 : Nat) : Int) - 1 := by omega
         have b1 : ((i + 1 : Nat) : Int) - 1 < (d.mem.length : Int) := by omega
         have b2 : (((i + 1 : Nat) : Int) - 1).toNat = i := by omega
         go_wp2_with fail
         go_quiet (fail)
         have HC2 := Lib.hid (HC.out.drewN nq)
         rcases Bool.eq_false_or_eq_true (Op.bytesLess x y) with hxy | hxy
         · have HV2 := Lib.hid (show ascM d.mem = ascF d.mem (i + 1) by rw [HV1.out, hxy]; rfl)
           rw [hxy, Bool.not_true]
           go_wp2_with fail
           go_roundw
           case rel => exact ⟨i + 1, by go_num, .inr hlt, HC2, HV2⟩
           case measure => simp [intOf]; omega
         · have HV2 := Lib.hid (show ascM d.mem = false by rw [HV1.out, hxy]; rfl)
           rw [hxy, Bool.not_false]
           have HV3 := Lib.hid ((chk_twice h16 HPL.out HBV.out HV2.out).symm.trans HR.out)
           go_wp2_with fail
           go_ret
           exact ⟨by rw [← HV3.out]; rfl, HC2.out.2⟩
       · have HV1 := Lib.hid (HV.out.trans (ascF_end (by omega)))
         clear HV
         have HV2 := Lib.hid ((chk_parts h16 HPL.out HBV.out HV1.out).symm.trans HR.out)
         obtain ⟨-, -, -, c3, c4, hlw⟩ := HC.out.cells
         go_wp2_with fail
         go_loopw [6] (fun x wr => ∃ i : Nat, x = .int .i64 (i : Int) ∧ i ≤ d.its.length ∧ Hid (CkS w.heap.size w d (.slice p d.its.length cap) (.slice q d.mem.length caq) wr) ∧ Hid ((if chkI (d.its.drop i) (lv + 1) = 0 then chkM d.mem (lv + 1) else chkI (d.its.drop i) (lv + 1)) = r)) (fun x _ => d.its.length - (intOf x).toNat)
         case atStart => exact ⟨0, rfl, Nat.zero_le _, HC, HV2⟩
         case round =>
           clear hi hlt HC HV1 HV2 c3 c4 hlw
           obtain ⟨i, rfl, hi, HC, HV⟩ := hrel
           by_cases hlt : i < d.its.length
           · obtain ⟨B, o, xi, xm, rfl, hcap, hB, hc, hx⟩ := HT.out i hlt
             obtain ⟨k0, k1, k2, k3, k4⟩ := hc.below HC.out.2 hB
             have HX := Lib.hid (hx.under HC.out.2)
             have HL := Lib.hid (Nat.lt_of_lt_of_le (dat_it (List.getElem_mem hlt)) (Nat.le_of_lt_succ HD.out))
             have HV1 := HV.out
             rw [chkI_drop hlt] at HV1
             have HV1 := Lib.hid HV1
             obtain ⟨-, -, -, c3, c4, hlw⟩ := HC.out.cells
             clear hc hx HV
             generalize d.its[i] = x at k0 k1 k2 HX HL HV1
             go_wp2_with fail
             refine (IH.out x HL.out (lv + 1) (by omega) xi xm ok _ HX.out).mono ?_
             rintro e w1 ⟨rfl, hb⟩
             have HC1 := Lib.hid (HC.out.below hb)
             clear hb
             rcases Nat.eq_zero_or_pos (chk x (lv + 1)) with hl | hl
             · rw [hl]
               have HV2 := HV1.out
               rw [if_pos hl] at HV2
               have HV2 := Lib.hid HV2
               clear hl
               go_wp2_with fail
               go_roundw
               case rel =>
                 repeat apply Exists.intro
                 refine And.intro ?relA ?relB
                 case relB => rfl
                 case relA => exact ⟨i + 1, by go_num, hlt, HC1, HV2⟩
               case measure => simp [intOf]; omega
             · have HV2 := HV1.out
               rw [if_neg (by omega : ¬ chk x (lv + 1) = 0), if_neg (by omega : ¬ chk x (lv + 1) = 0)] at HV2
               generalize chk x (lv + 1) = z at hl HV2 HV1 ⊢
               subst HV2
               have ez : ((z : Int) == 0) = false := beq_eq_false_iff_ne.2 (by omega)
               have ez' : ((z : Int) != 0) = true := by simpa using (by omega : ¬ z = 0)
               go_wp2_with fail
               go_ret
               exact ⟨rfl, HC1.out.2⟩
           · have HV1 := HV.out
             rw [chkI_over (by omega), if_pos rfl] at HV1
             have HV1 := Lib.hid (show chkM (d.mem.drop 0) (lv + 1) = r from HV1)
             obtain ⟨-, -, -, c3, c4, hlw⟩ := HC.out.cells
             clear HV
             go_wp2_with fail
             go_loopw [8] (fun x wr => ∃ i : Nat, x = .int .i64 (i : Int) ∧ i ≤ d.mem.length ∧ Hid (CkS w.heap.size w d (.slice p d.its.length cap) (.slice q d.mem.length caq) wr) ∧ Hid (chkM (d.mem.drop i) (lv + 1) = r)) (fun x _ => d.mem.length - (intOf x).toNat)
             case atStart => exact ⟨0, rfl, Nat.zero_le _, HC, HV1⟩
             case round =>
               clear hi hlt HC HV1 c3 c4 hlw
               obtain ⟨j, rfl, hj, HC, HV⟩ := hrel
               by_cases hlt : j < d.mem.length
               · obtain ⟨B, o, xi, xm, rfl, hcap, hB, hlab, hc, hx⟩ := HM.out j hlt
                 obtain ⟨k0, k1, k2, k3, k4⟩ := hc.below HC.out.2 hB
                 have HX := Lib.hid (hx.under HC.out.2)
                 have HL := Lib.hid (Nat.lt_of_lt_of_le (dat_mg (List.getElem_mem hlt)) (Nat.le_of_lt_succ HD.out))
                 have HV1 := HV.out
                 rw [chkM_drop hlt] at HV1
                 have HV1 := Lib.hid HV1
                 obtain ⟨-, -, -, c3, c4, hlw⟩ := HC.out.cells
                 clear hc hx HV hlab
                 generalize d.mem[j].2 = x at k0 k1 k2 HX HL HV1
                 go_wp2_with fail
                 refine (IH.out x HL.out (lv + 1) (by omega) xi xm ok _ HX.out).mono ?_
                 rintro e w1 ⟨rfl, hb⟩
                 have HC1 := Lib.hid (HC.out.below hb)
                 clear hb
                 rcases Nat.eq_zero_or_pos (chk x (lv + 1)) with hl | hl
                 · rw [hl]
                   have HV2 := HV1.out
                   rw [if_pos hl] at HV2
                   have HV2 := Lib.hid HV2
                   clear hl
                   go_wp2_with fail
                   go_roundw
                   case rel =>
                     repeat apply Exists.intro
                     refine And.intro ?relA ?relB
                     case relB => rfl
                     case relA => exact ⟨j + 1, by go_num, hlt, HC1, HV2⟩
                   case measure => simp [intOf]; omega
                 · have HV2 := HV1.out
                   rw [if_neg (by omega : ¬ chk x (lv + 1) = 0)] at HV2
                   generalize chk x (lv + 1) = z at hl HV2 HV1 ⊢
                   subst HV2
                   have ez : ((z : Int) == 0) = false := beq_eq_false_iff_ne.2 (by omega)
                   have ez' : ((z : Int) != 0) = true := by simpa using (by omega : ¬ z = 0)
                   go_wp2_with fail
                   go_ret
                   exact ⟨rfl, HC1.out.2⟩
               · have HV1 := Lib.hid (HV.out.symm.trans (chkM_over (by omega)))
                 obtain ⟨-, -, -, c3, c4, hlw⟩ := HC.out.cells
                 clear HV
                 go_wp2_with fail
                 go_ret
                 exact ⟨by rw [HV1.out]; rfl, HC.out.2⟩
end
section
open Go.RowKit
end
section
open Go.RowKit
end
section
open Go.RowKit
end
section
open Go.RowKit
variable {d : Dat} {vi vm : Value} {ok : Nat → Prop} {w : World}
theorem refChk_any (hr : Rep w ok d vi vm) : Calls Tryz.prog 39 #[.agg #[.int .i64 d.k, .int .i64 d.n, .string (S d.s), vi, vm]] w fun e w' => e = .returned (.int .i64 (chk d 1 : Int)) ∧ Below w.heap.size w w' := by
 have HW := Lib.hid (fun w' (hb : Below w.heap.size w w') => refCheck_any (SizeOf.sizeOf d + 1) d (Nat.lt_succ_self _) 1 (by omega) vi vm ok w' (hr.under hb))
 clear hr
 have e1 : ((1 : Nat) : Int) = 1 := rfl
 simp only [e1] at HW
 generalize chk d 1 = r at HW ⊢
 go_enter Tryz.func39, Tryz.ntmps39
 go_upto_region 1 with fail
 have hS : CkS w.heap.size w d vi vm (w.alloc (.cells #[.int .i64 d.k, .int .i64 d.n, .string (S d.s), vi, vm] 26)) := CkS.new w d _ _
 generalize w.alloc (.cells #[.int .i64 d.k, .int .i64 d.n, .string (S d.s), vi, vm] 26) = W at hS ⊢
 obtain ⟨c0, c1, c2, c3, c4, hlw⟩ := hS.cells
 have HS0 := Lib.hid hS
 clear hS
 go_wp2_with fail
 refine (HW.out _ HS0.out.2).mono ?_
 rintro e w1 ⟨rfl, hb⟩
 have hS := HS0.out.below hb
 clear hb HS0 c0 c1 c2 c3 c4 hlw
 obtain ⟨c0, c1, c2, c3, c4, hlw⟩ := hS.cells
 have HS1 := Lib.hid hS
 have HB := Lib.hid hS.2
 clear hS
 go_wp2_with fail
 go_ret
 exact ⟨rfl, HB.out⟩
theorem refVal_any (hr : Rep w ok d vi vm) : Calls Tryz.prog 77 #[.agg #[.int .i64 d.k, .int .i64 d.n, .string (S d.s), vi, vm]] w fun e w' => e = .returned (.bool (decide (chk d 1 = 0))) ∧ Below w.heap.size w w' := by
 have HW := Lib.hid (fun w' (hb : Below w.heap.size w w') => refChk_any (hr.under hb))
 clear hr
 generalize chk d 1 = r at HW ⊢
 have HE := Lib.hid (show decide (r = 0) = ((r : Int) == 0) by rw [Bool.eq_iff_iff]; simp)
 go_enter Tryz.func77, Tryz.ntmps77
 go_upto_region 1 with fail
 have hS : CkS w.heap.size w d vi vm (w.alloc (.cells #[.int .i64 d.k, .int .i64 d.n, .string (S d.s), vi, vm] 26)) := CkS.new w d _ _
 generalize w.alloc (.cells #[.int .i64 d.k, .int .i64 d.n, .string (S d.s), vi, vm] 26) = W at hS ⊢
 obtain ⟨c0, c1, c2, c3, c4, hlw⟩ := hS.cells
 have HS0 := Lib.hid hS
 clear hS
 go_wp2_with fail
 refine (HW.out _ HS0.out.2).mono ?_
 rintro e w1 ⟨rfl, hb⟩
 have hS := HS0.out.below hb
 clear hb HS0 c0 c1 c2 c3 c4 hlw
 obtain ⟨c0, c1, c2, c3, c4, hlw⟩ := hS.cells
 have HS1 := Lib.hid hS
 have HB := Lib.hid hS.2
 clear hS
 go_wp2_with fail
 go_ret
 exact ⟨by rw [HE.out]; rfl, HB.out⟩
end
section
open Go.RowKit
def leafC (d : Dat) : Bool := decide (chk d 1 = 0) && ((d.its.length : Int) == 0) && ((d.mem.length : Int) == 0)
theorem refLeaf_any {d : Dat} {vi vm : Value} {ok : Nat → Prop} {w : World} (hr : Rep w ok d vi vm) : Calls Tryz.prog 81 #[.agg #[.int .i64 d.k, .int .i64 d.n, .string (S d.s), vi, vm]] w fun e w' => e = .returned (.bool (leafC d)) ∧ Below w.heap.size w w' := by
 have HW := Lib.hid (fun w' (hb : Below w.heap.size w w') => refVal_any (hr.under hb))
 obtain ⟨p, cap, rfl, hil, -⟩ := hr.items
 obtain ⟨q, caq, rfl, hml, -⟩ := hr.members
 clear hr
 have HC := Lib.hid (show leafC d = (decide (chk d 1 = 0) && ((d.its.length : Int) == 0) && ((d.mem.length : Int) == 0)) from rfl)
 generalize leafC d = r at HC ⊢
 generalize decide (chk d 1 = 0) = c at HC HW
 go_enter Tryz.func81, Tryz.ntmps81
 go_upto_region 1 with fail
 have hS : CkS w.heap.size w d (.slice p d.its.length cap) (.slice q d.mem.length caq) (w.alloc (.cells #[.int .i64 d.k, .int .i64 d.n, .string (S d.s), .slice p d.its.length cap, .slice q d.mem.length caq] 26)) := CkS.new w d _ _
 generalize w.alloc (.cells #[.int .i64 d.k, .int .i64 d.n, .string (S d.s), .slice p d.its.length cap, .slice q d.mem.length caq] 26) = W at hS ⊢
 obtain ⟨c0, c1, c2, c3, c4, hlw⟩ := hS.cells
 have HS0 := Lib.hid hS
 clear hS
 go_wp2_with fail
 refine (HW.out _ HS0.out.2).mono ?_
 rintro e w1 ⟨rfl, hb⟩
 have hS := HS0.out.below hb
 clear hb HS0 c0 c1 c2 c3 c4 hlw
 obtain ⟨c0, c1, c2, c3, c4, hlw⟩ := hS.cells
 have HB := Lib.hid hS.2
 clear hS
 rcases three_ways c ((d.its.length : Int) == 0) ((d.mem.length : Int) == 0) with rfl | ⟨rfl, t2⟩ | ⟨rfl, t2, t3⟩ | ⟨rfl, t2, t3⟩
 all_goals
   go_wp2_with fail
   go_ret
   exact ⟨by rw [HC.out]; (try rw [t2]); (try rw [t3]); rfl, HB.out⟩
end
section
open Go.RowKit
theorem leafC_eq (d : Dat) : leafC d = leafB d := by
 rw [Bool.eq_iff_iff, leaf_iff]
 unfold leafC
 simp only [Bool.and_eq_true, decide_eq_true_eq, beq_iff_eq]
 constructor
 · rintro ⟨⟨h1, h2⟩, h3⟩
   exact ⟨h1, List.length_eq_zero_iff.1 (by omega), List.length_eq_zero_iff.1 (by omega)⟩
 · rintro ⟨h1, h2, h3⟩
   rw [h2, h3]; exact ⟨⟨h1, rfl⟩, rfl⟩
theorem kinds_drop {L : List Ent} {i : Nat} (h : i < L.length) : kindsB (L.drop i) = (okL L[i].1 && leafB L[i].2 && kindsB (L.drop (i + 1))) := by
 rw [List.drop_eq_getElem_cons h]; rfl
set_option maxRecDepth 100000 in
set_option maxHeartbeats 4000000 in
theorem refKinds_any {w : World} {ok : Nat → Prop} {v : Value} {L : List Ent} (h : EntR w ok v L) (hl : L.length ≤ 1000000) (hm : ∀ e ∈ L, e.1.length ≤ 1000000) :
   Calls Tryz.prog 44 #[v] w fun e w' => e = .returned (.bool (kindsB L)) ∧ Below w.heap.size w w' := by
 obtain ⟨pa, ca, Ba, oa, rfl, hA⟩ := h.open
 have HA := Lib.hid hA
 have HM := Lib.hid hm
 obtain ⟨r, hr⟩ : ∃ r, kindsB L = r := ⟨_, rfl⟩
 rw [hr]
 have HR := Lib.hid (show kindsB (L.drop 0) = r from hr)
 clear h hA hm hr
 go_enter Tryz.func44, Tryz.ntmps44
 go_wp2_with fail
 go_loopw [3] (fun x wr => ∃ i : Nat, x = .int .i64 (i : Int) ∧ i ≤ L.length ∧ Hid (Below w.heap.size w wr) ∧ Hid (kindsB (L.drop i) = r)) (fun x _ => L.length - (intOf x).toNat)
 case atStart => exact ⟨0, rfl, Nat.zero_le _, Lib.hid (Below.refl _ _), HR⟩
 case round =>
   clear HR
   obtain ⟨i, rfl, hi, HW, HV⟩ := hrel
   by_cases hlt : i < L.length
   · obtain ⟨pva, via, vma, rfl, hca, hla, -, a0, da, sa, ra⟩ := HA.out i hlt
     have HPL := Lib.hid (HM.out _ (List.getElem_mem hlt))
     have HSA := Lib.hid (sa.under HW.out)
     have HRA := Lib.hid (ra.under HW.out)
     have HV1 := Lib.hid ((kinds_drop hlt).symm.trans HV.out)
     obtain ⟨a1, a2, a3, a4, a5⟩ := da.below HW.out hla
     replace a0 := (HW.out.cell (p := ⟨Ba, oa + i * 6, none⟩) hla).trans a0
     have hBl : Ba < wr.heap.size := Nat.lt_of_lt_of_le hla HW.out.size
     clear da sa ra HV
     generalize L[i] = q at a0 a1 a2 a3 a4 a5 HSA HRA HPL HV1
     obtain ⟨P, x⟩ := q
     simp only at a0 a1 a2 a3 a4 a5 HSA HRA HPL HV1
     go_wp2_with fail
     refine (refValid_any _ P _ HSA.out.sls HPL.out).mono ?_
     rintro e x1 ⟨rfl, hb⟩
     replace a1 := (hb.cell (p := ⟨Ba, oa + i * 6 + 1, none⟩) hBl).trans a1
     replace a2 := (hb.cell (p := ⟨Ba, oa + i * 6 + 1 + 1, none⟩) hBl).trans a2
     replace a3 := (hb.cell (p := ⟨Ba, oa + i * 6 + 1 + 2, none⟩) hBl).trans a3
     replace a4 := (hb.cell (p := ⟨Ba, oa + i * 6 + 1 + 3, none⟩) hBl).trans a4
     replace a5 := (hb.cell (p := ⟨Ba, oa + i * 6 + 1 + 4, none⟩) hBl).trans a5
     have HB1 := Lib.hid hb
     have HW1 := Lib.hid (HW.out.trans (hb.mono HW.out.size))
     clear hb a0
     generalize okL P = b1 at HV1 ⊢
     rcases Bool.eq_false_or_eq_true b1 with rfl | rfl
     · go_wp2_with fail
       refine (refLeaf_any (HRA.out.under HB1.out)).mono ?_
       rintro e x2 ⟨rfl, hb⟩
       rw [leafC_eq]
       have HW2 := Lib.hid (HW1.out.trans (hb.mono HW1.out.size))
       clear hb
       generalize leafB x = b2 at HV1 ⊢
       rcases Bool.eq_false_or_eq_true b2 with rfl | rfl
       · have HV2 := Lib.hid (show kindsB (L.drop (i + 1)) = r from HV1.out)
         go_wp2_with fail
         go_roundw
         case rel => exact ⟨i + 1, by go_num, hlt, HW2, HV2⟩
         case measure => simp [intOf]; omega
       · have HV2 := Lib.hid (show false = r from HV1.out)
         go_wp2_with fail
         go_ret
         exact ⟨by rw [← HV2.out]; rfl, HW2.out⟩
     · have HV2 := Lib.hid (show false = r from HV1.out)
       go_wp2_with fail
       go_ret
       exact ⟨by rw [← HV2.out]; rfl, HW1.out⟩
   · have HV2 := Lib.hid (show true = r by have h := HV.out; rw [List.drop_of_length_le (by omega)] at h; exact h)
     go_wp2_with fail
     go_ret
     exact ⟨by rw [← HV2.out]; rfl, HW.out⟩
end
section
open Go.RowKit
theorem preS_iff {P Q : List Stp} : preS P Q = true ↔ P <+: Q := by
 unfold preS
 simp only [Bool.and_eq_true, decide_eq_true_eq]
 constructor
 · rintro ⟨h1, h2⟩
   rw [h2]; exact List.take_prefix ..
 · rintro ⟨t, rfl⟩
   refine ⟨by simp, by simp⟩
theorem twice_of {L : List Ent} {i k : Nat} (hi : i < L.length) (hk : k < L.length) (hne : i ≠ k) (hp : preS L[i].1 L[k].1 = true) : twiceB L = true := by
 rw [← Bool.not_eq_false]
 intro h
 have hn := List.pairwise_iff_getElem.1 (twice_iff.1 h)
 rw [preS_iff] at hp
 rcases Nat.lt_or_gt_of_ne hne with h1 | h1
 · exact hn i k hi hk h1 (.inl hp)
 · exact hn k i hk hi h1 (.inr hp)
theorem twice_none {L : List Ent} (h : ∀ i k (hi : i < L.length) (hk : k < L.length), i ≠ k → preS L[i].1 L[k].1 = false) : twiceB L = false := by
 rw [twice_iff]
 refine List.pairwise_iff_getElem.2 fun i k hi hk hlt hc => ?_
 rcases hc with hc | hc
 · have := h i k hi hk (by omega)
   rw [preS_iff.2 hc] at this; cases this
 · have := h k i hk hi (by omega)
   rw [preS_iff.2 hc] at this; cases this
set_option maxRecDepth 100000 in
set_option maxHeartbeats 4000000 in
theorem refTwice_any {w : World} {ok : Nat → Prop} {v : Value} {L : List Ent} (h : EntR w ok v L) (hl : L.length ≤ 1000000) (hm : ∀ e ∈ L, e.1.length ≤ 1000000) :
   Calls Tryz.prog 45 #[v] w fun e w' => e = .returned (.bool (twiceB L)) ∧ Below w.heap.size w w' := by
 obtain ⟨pa, ca, Ba, oa, rfl, hA⟩ := h.open
 have HA := Lib.hid hA
 have HM := Lib.hid hm
 clear h hA hm
 go_enter Tryz.func45, Tryz.ntmps45
 go_wp2_with fail
 go_loopw [3] (fun x wr => ∃ i : Nat, x = .int .i64 (i : Int) ∧ i ≤ L.length ∧ Hid (Below w.heap.size w wr) ∧ Hid (∀ i' k (hi : i' < L.length) (hk : k < L.length), i' < i → i' ≠ k → preS L[i'].1 L[k].1 = false)) (fun x _ => L.length - (intOf x).toNat)
 case atStart => exact ⟨0, rfl, Nat.zero_le _, Lib.hid (Below.refl _ _), Lib.hid (fun _ _ _ _ h => absurd h (Nat.not_lt_zero _))⟩
 case round =>
   obtain ⟨i, rfl, hi, HW, HV⟩ := hrel
   by_cases hlt : i < L.length
   · go_wp2_with fail
     go_loopw [4] (fun x wr => ∃ k : Nat, x = .int .i64 (k : Int) ∧ k ≤ L.length ∧ Hid (Below w.heap.size w wr) ∧ Hid (∀ k' (hk : k' < L.length), k' < k → i ≠ k' → preS L[i].1 L[k'].1 = false)) (fun x _ => L.length - (intOf x).toNat)
     case atStart => exact ⟨0, rfl, Nat.zero_le _, HW, Lib.hid (fun _ _ h => absurd h (Nat.not_lt_zero _))⟩
     case round =>
       clear HW
       obtain ⟨k, rfl, hk, HW, HU⟩ := hrel
       by_cases hkt : k < L.length
       · obtain ⟨pva, via, vma, rfl, hca, hla, -, a0, -, sa, -⟩ := HA.out i hlt
         obtain ⟨pvb, vib, vmb, hpe, -, -, -, b0, -, sb, -⟩ := HA.out k hkt
         clear hpe
         replace a0 := (HW.out.cell (p := ⟨Ba, oa + i * 6, none⟩) hla).trans a0
         replace b0 := (HW.out.cell (p := ⟨Ba, oa + k * 6, none⟩) hla).trans b0
         have HSA := Lib.hid (sa.under HW.out)
         have HSB := Lib.hid (sb.under HW.out)
         have HPA := Lib.hid (HM.out _ (List.getElem_mem hlt))
         have HPB := Lib.hid (HM.out _ (List.getElem_mem hkt))
         have HTW := Lib.hid (fun (h1 : i ≠ k) (h2 : preS L[i].1 L[k].1 = true) => twice_of hlt hkt h1 h2)
         have HUK := Lib.hid (fun (h : i = k ∨ preS L[i].1 L[k].1 = false) => (show ∀ k' (hk : k' < L.length), k' < k + 1 → i ≠ k' → preS L[i].1 L[k'].1 = false from fun k' hk' h1 h2 => by
           rcases Nat.lt_succ_iff_lt_or_eq.1 h1 with h3 | h3
           · exact HU.out k' hk' h3 h2
           · subst h3
             rcases h with h | h
             · exact absurd h h2
             · exact h))
         have hBl : Ba < wr.heap.size := Nat.lt_of_lt_of_le hla HW.out.size
         clear sa sb HU
         by_cases hik : i = k
         · have t1 : ((i : Int) != (k : Int)) = false := by simp; omega
           have t2 : (i != k) = false := by simpa using hik
           have HU9 := Lib.hid (HUK.out (.inl hik))
           have hun : undef = Value.tuple #[] := rfl
           clear hik a0 b0 HUK HTW
           go_wp2_with fail
           go_quiet (fail)
           go_wp2_with fail
           go_roundw
           case rel =>
             repeat apply Exists.intro
             refine And.intro ?relA ?relB
             case relB => rfl
             case relA => exact ⟨k + 1, by go_num, hkt, Lib.hid (below_drewN HW.out nq), HU9⟩
           case measure => simp [intOf]; omega
         · have t1 : ((i : Int) != (k : Int)) = true := by simp; omega
           have t2 : (i != k) = true := by simpa using hik
           have HIK := Lib.hid hik
           have HKE := Lib.hid (fun w' (hb : Below wr.heap.size wr w') => And.intro ((hb.cell (p := ⟨Ba, oa + i * 6, none⟩) hBl).trans a0) ((hb.cell (p := ⟨Ba, oa + k * 6, none⟩) hBl).trans b0))
           have HB0 := Lib.hid (below_drew (Below.refl wr.heap.size wr))
           clear hik
           go_wp2_with fail
           go_region_held3 (fun w' => w'.cell? ⟨Ba, oa + i * 6, none⟩ = some pva ∧ w'.cell? ⟨Ba, oa + k * 6, none⟩ = some pvb)
             (first
               | with_reducible exact HKE.out _ HB0.out
               | with_reducible exact HKE.out _ HB1.out
               | go_keep)
             (first
               | (go_at_call 82; refine (refPrefix_any _ _ L[i].1 L[k].1 _ (HSA.out.under HB0.out).sls (HSB.out.under HB0.out).sls HPA.out HPB.out).mono ?_; rintro e x1 ⟨rfl, hb⟩; have HB1 := Lib.hid (HB0.out.trans (hb.mono HB0.out.size)); clear hb))
           all_goals
             have HW9 := Lib.hid (HW.out.trans (HB1.out.mono HW.out.size))
             generalize preS L[i].1 L[k].1 = b at HTW HUK ⊢
             rcases Bool.eq_false_or_eq_true b with rfl | rfl
             · have HT9 := Lib.hid (HTW.out HIK.out rfl)
               go_wp2_with fail
               go_ret
               exact ⟨by rw [HT9.out]; rfl, HW9.out⟩
             · have HU9 := Lib.hid (HUK.out (.inr rfl))
               go_wp2_with fail
               go_roundw
               case rel => exact ⟨k + 1, by go_num, hkt, HW9, HU9⟩
               case measure => simp [intOf]; omega
       · have HV9 := Lib.hid (show ∀ i' k (hi : i' < L.length) (hk : k < L.length), i' < i + 1 → i' ≠ k → preS L[i'].1 L[k].1 = false from fun i' k' h1 h2 h3 h4 => by
           rcases Nat.lt_succ_iff_lt_or_eq.1 h3 with h5 | h5
           · exact HV.out i' k' h1 h2 h5 h4
           · subst h5; exact HU.out k' h2 (by omega) h4)
         go_wp2_with fail
         go_roundw
         case rel => exact ⟨i + 1, by go_num, hlt, HW, HV9⟩
         case measure => simp [intOf]; omega
   · have HT9 := Lib.hid (show twiceB L = false from twice_none fun i' k h1 h2 h3 => HV.out i' k h1 h2 (by omega) h3)
     go_wp2_with fail
     go_ret
     exact ⟨by rw [HT9.out]; rfl, HW.out⟩
end
section
open Go.RowKit
theorem Rep.back {w W : World} {ok : Nat → Prop} (hb : Below w.heap.size w W) {d : Dat} {vi vm : Value} (h : Rep W (fun B => B < w.heap.size ∧ ok B) d vi vm) : Rep w ok d vi vm := by
 induction h with
 | mk p q cap caq B o B' o' vi vm ui um hl hp hc hr hq hd hs ihr ihs =>
   refine .mk p q cap caq B o B' o' vi vm ui um hl (fun h => ?_) (fun j h => ?_) ihr (fun h => ?_) (fun j h => ?_) ihs
   · obtain ⟨h1, h2, -, h4, h5⟩ := hp h; exact ⟨h1, h2, h4, h5⟩
   · obtain ⟨-, -, -, h4, -⟩ := hp (by omega)
     have k := fun o => hb.cell (p := ⟨B, o, none⟩) h4
     have c := hc j h
     exact ⟨(k _).symm.trans c.c0, (k _).symm.trans c.c1, (k _).symm.trans c.c2, (k _).symm.trans c.c3, (k _).symm.trans c.c4⟩
   · obtain ⟨h1, h2, -, h4, h5⟩ := hq h; exact ⟨h1, h2, h4, h5⟩
   · obtain ⟨-, -, -, h4, -⟩ := hq (by omega)
     have k := fun o => hb.cell (p := ⟨B', o, none⟩) h4
     have c := (hd j h).2
     exact ⟨(k _).symm.trans (hd j h).1, (k _).symm.trans c.c0, (k _).symm.trans c.c1, (k _).symm.trans c.c2, (k _).symm.trans c.c3, (k _).symm.trans c.c4⟩
theorem Rep.old {w W : World} {ok : Nat → Prop} (hb : Below w.heap.size w W) {d : Dat} {vi vm : Value} (h : Rep w ok d vi vm) : Rep W (fun B => B < w.heap.size ∧ ok B) d vi vm :=
 (h.mono fun _ h1 h2 => ⟨h1, h2⟩).under hb
def GetT (w : World) (K : Nat) (d : Dat) (vi vm : Value) (W : World) : Prop :=
 Blk W (w.heap.size + 1) #[.int .i64 0, .int .i64 0, .string ⟨#[]⟩, .slice none 0 0, .slice none 0 0] 26 ∧ Blk W K (boxD d vi vm) 26 ∧ w.heap.size + 1 < K ∧ Below w.heap.size w W
theorem GetT.below {w W W' : World} {K : Nat} {d : Dat} {vi vm : Value} (h : GetT w K d vi vm W) (hb : Below W.heap.size W W') : GetT w K d vi vm W' :=
 ⟨h.1.below hb, h.2.1.below hb, h.2.2.1, h.2.2.2.trans (hb.mono h.2.2.2.size)⟩
theorem GetT.put {w W : World} {K : Nat} {d : Dat} {vi vm : Value} (h : GetT w K d vi vm W) (x : Dat) (xi xm : Value) :
   GetT w K x xi xm (((((W.setCell ⟨K, 0, none⟩ (.int .i64 x.k)).setCell ⟨K, 1, none⟩ (.int .i64 x.n)).setCell ⟨K, 2, none⟩ (.string (S x.s))).setCell ⟨K, 3, none⟩ xi).setCell ⟨K, 4, none⟩ xm) := by
 obtain ⟨h1, h2, h3, h4⟩ := h
 have hk : w.heap.size ≤ K := by omega
 have hne : K ≠ w.heap.size + 1 := by omega
 refine ⟨((((h1.set_other 0 _ hne).set_other 1 _ hne).set_other 2 _ hne).set_other 3 _ hne).set_other 4 _ hne, ((((h2.set 0 _).set 1 _).set 2 _).set 3 _).set 4 _, h3, ?_⟩
 exact ((((h4.setCell hk _).setCell hk _).setCell hk _).setCell hk _).setCell hk _
theorem GetT.facts {w W : World} {K : Nat} {d : Dat} {vi vm : Value} (h : GetT w K d vi vm W) :
   (W.cell? ⟨K, 0, none⟩ = some (.int .i64 d.k) ∧ W.cell? ⟨K, 1, none⟩ = some (.int .i64 d.n) ∧ W.cell? ⟨K, 2, none⟩ = some (.string (S d.s)) ∧ W.cell? ⟨K, 3, none⟩ = some vi ∧ W.cell? ⟨K, 4, none⟩ = some vm) ∧
   (W.frozen? ⟨K, 0, none⟩ = false ∧ W.frozen? ⟨K, 1, none⟩ = false ∧ W.frozen? ⟨K, 2, none⟩ = false ∧ W.frozen? ⟨K, 3, none⟩ = false ∧ W.frozen? ⟨K, 4, none⟩ = false) ∧ K < W.heap.size :=
 ⟨⟨h.2.1.cell 0, h.2.1.cell 1, h.2.1.cell 2, h.2.1.cell 3, h.2.1.cell 4⟩, ⟨h.2.1.frozen 0, h.2.1.frozen 1, h.2.1.frozen 2, h.2.1.frozen 3, h.2.1.frozen 4⟩, h.2.1.lt⟩
end
section
open Go.RowKit
section
variable {P : Program} (w : World)
theorem run_app_nil (base : Nat) (t ty e : TypeId) (i : TypeInfo) (size : Nat) (ht : P.underlying t = some (.slice e)) (hi : P.info? e = some i) (v : Value) (n : Nat) (xs : List Value) (hown : w.ownsRow base e size v n xs) (c : Nat) :
   (Builtin.append_ #[t, t] ty #[v, .slice none 0 c]).run P w = .ok v w := by
 rcases hown.2 with ⟨rfl, rfl⟩ | ⟨g, cap, cur, rfl, _, _, hnc, _⟩
 · simp [Builtin.append_, run_underlying ht, sizeOf, typeInfo, hi, Builtin.lenOf, Builtin.firstCells]
 · simp [Builtin.append_, run_underlying ht, sizeOf, typeInfo, hi, Builtin.lenOf, Builtin.firstCells, hnc, storeCells]
def Src (w : World) (size : Nat) (p : Option Addr) (m : Nat) (news : List Value) : Prop :=
 news.length = m * size ∧ (p = none → m = 0) ∧ (∀ a, p = some a → ∀ j u, news[j]? = some u → w.cell? (a.add j) = some u) ∧ ∀ u ∈ news, u.oneCell' = true
theorem run_appd (base : Nat) (t ty e : TypeId) (i : TypeInfo) (z : Value) (size bytes : Nat) (ht : P.underlying t = some (.slice e)) (hi : P.info? e = some i) (hz : i.zero = some z)
   (hsize : i.size = size) (hby : i.bytes = bytes) (hzs : z.cells.size = size) (hsz : 0 < size) (v : Value) (n : Nat) (xs : List Value) (hown : w.ownsRow base e size v n xs)
   (p : Option Addr) (m c : Nat) (news : List Value) (hr : Src w size p m news) (h63 : n + m ≤ maxLen) (hbytes : (n + m) * bytes ≤ 140737488355328) (hbase : base ≤ w.heap.size) :
   ∃ v' w', (Builtin.append_ #[t, t] ty #[v, .slice p m c]).run P w = .ok v' w' ∧ w'.ownsRow base e size v' (n + m) (xs ++ news) ∧ w.grownBy w' v.ownBlock ∧ (v'.ownBlock = v.ownBlock ∨ v'.ownBlock = some w.heap.size) := by
 obtain ⟨hl, h0, hp, h1⟩ := hr
 cases p with
 | none =>
   obtain rfl := h0 rfl
   obtain rfl : news = [] := List.length_eq_zero_iff.1 (by omega)
   exact ⟨v, w, run_app_nil w base t ty e i size ht hi v n xs hown c, by simpa using hown, World.grownBy.refl w _, .inl rfl⟩
 | some a =>
   obtain ⟨v', w', hrun, h2, h3, -, h5⟩ := run_append_own_at (P := P) w base t ty e i z size bytes ht hi hz hsize hby hzs hsz v n xs hown a m c news hl (hp a rfl) h1 h63 hbytes hbase
   exact ⟨v', w', hrun, h2, h3, h5⟩
theorem wp_app {o : Oper} {a : Act} {K : Act → World → Prop} {Q : Exit → Act → World → Prop} (s x : Operand) (t : TypeId)
   (ho : o.op = .call { callee := .builtin .append, args := #[s, x], argTypes := #[t, t] })
   (base : Nat) (e : TypeId) (i : TypeInfo) (z : Value) (size bytes : Nat) (ht : P.underlying t = some (.slice e)) (hi : P.info? e = some i) (hz : i.zero = some z)
   (hsize : i.size = size) (hby : i.bytes = bytes) (hzs : z.cells.size = size) (hsz : 0 < size) (v : Value) (n : Nat) (xs : List Value) (hs : a.eval s = v) (hown : w.ownsRow base e size v n xs)
   (p : Option Addr) (m c : Nat) (news : List Value) (hx : a.eval x = .slice p m c) (hr : Src w size p m news) (h63 : n + m ≤ maxLen) (hbytes : (n + m) * bytes ≤ 140737488355328) (hbase : base ≤ w.heap.size)
   (h : ∀ v' w', w'.ownsRow base e size v' (n + m) (xs ++ news) → w.grownBy w' v.ownBlock → (v'.ownBlock = v.ownBlock ∨ v'.ownBlock = some w.heap.size) → K (a.put o.dst v') w') : o.wp P a w K Q := by
 obtain ⟨v', w', hrun, h2, h3, h4⟩ := run_appd (P := P) w base t o.type e i z size bytes ht hi hz hsize hby hzs hsz v n xs hown p m c news hr h63 hbytes hbase
 unfold Oper.wp execOp
 simp only [ho, resolve, invoke, builtin, Sem.run_bind, Sem.run_pure, Result.andThen_ok, List.map_toArray, List.map_cons, List.map_nil, hs, hx, hrun]
 exact h v' w' h2 h3 h4
theorem wpList_app {ops : Array Oper} {rest : List Oper} {o : Oper} {a : Act} {Q : Exit → Act → World → Prop} (hgd : o.guard = none) (s x : Operand) (t : TypeId)
   (ho : o.op = .call { callee := .builtin .append, args := #[s, x], argTypes := #[t, t] })
   (base : Nat) (e : TypeId) (i : TypeInfo) (z : Value) (size bytes : Nat) (ht : P.underlying t = some (.slice e)) (hi : P.info? e = some i) (hz : i.zero = some z)
   (hsize : i.size = size) (hby : i.bytes = bytes) (hzs : z.cells.size = size) (hsz : 0 < size) (v : Value) (n : Nat) (xs : List Value) (hs : a.eval s = v) (hown : w.ownsRow base e size v n xs)
   (p : Option Addr) (m c : Nat) (news : List Value) (hx : a.eval x = .slice p m c) (hr : Src w size p m news) (h63 : n + m ≤ maxLen) (hbytes : (n + m) * bytes ≤ 140737488355328) (hbase : base ≤ w.heap.size)
   (h : ∀ v' w', w'.ownsRow base e size v' (n + m) (xs ++ news) → w.grownBy w' v.ownBlock → (v'.ownBlock = v.ownBlock ∨ v'.ownBlock = some w.heap.size) → wpList P ops Q rest (a.put o.dst v') w') : wpList P ops Q (o :: rest) a w :=
 wpList_plain hgd fun _ hK => wp_app w s x t ho base e i z size bytes ht hi hz hsize hby hzs hsz v n xs hs hown p m c news hx hr h63 hbytes hbase fun v' w' h2 h3 h4 => hK _ _ (h v' w' h2 h3 h4)
theorem step_app {ops : Array Oper} {o : Oper} {a : Act} {K : Act → World → Prop} {Q : Exit → Act → World → Prop} {E : Prop} (hgd : o.guard = none) (s x : Operand) (t : TypeId)
   (ho : o.op = .call { callee := .builtin .append, args := #[s, x], argTypes := #[t, t] })
   (base : Nat) (e : TypeId) (i : TypeInfo) (z : Value) (size bytes : Nat) (ht : P.underlying t = some (.slice e)) (hi : P.info? e = some i) (hz : i.zero = some z)
   (hsize : i.size = size) (hby : i.bytes = bytes) (hzs : z.cells.size = size) (hsz : 0 < size) (v : Value) (n : Nat) (xs : List Value) (hs : a.eval s = v) (hown : w.ownsRow base e size v n xs)
   (p : Option Addr) (m c : Nat) (news : List Value) (hx : a.eval x = .slice p m c) (hr : Src w size p m news) (h63 : n + m ≤ maxLen) (hbytes : (n + m) * bytes ≤ 140737488355328) (hbase : base ≤ w.heap.size)
   (h : ∀ v' w', w'.ownsRow base e size v' (n + m) (xs ++ news) → w.grownBy w' v.ownBlock → (v'.ownBlock = v.ownBlock ∨ v'.ownBlock = some w.heap.size) → K (a.put o.dst v') w') :
   if Region.wanted o (yielded ops a.tmps) = true then Oper.wp P o a w K Q else E := by
 have hw : Region.wanted o (yielded ops a.tmps) = true := by simp [Region.wanted, hgd]
 rw [if_pos hw]
 exact wp_app w s x t ho base e i z size bytes ht hi hz hsize hby hzs hsz v n xs hs hown p m c news hx hr h63 hbytes hbase h
end
theorem own_empty (w : World) {t : TypeId} {size : Nat} : (w.alloc (.cells #[] t)).ownsRow w.heap.size t size (.slice (some ⟨w.heap.size, 0, none⟩) 0 0) 0 [] :=
 World.ownsRow_made w #[] 0 (Nat.le_refl _) (Nat.zero_le _) (by simp)
theorem Src.below {w w' : World} {size : Nat} {p : Option Addr} {m : Nat} {news : List Value} (h : Src w size p m news) (hb : Below w.heap.size w w') (hlt : ∀ a, p = some a → 0 < news.length → a.block < w.heap.size) : Src w' size p m news := by
 refine ⟨h.1, h.2.1, fun a ha j u hu => ?_, h.2.2.2⟩
 have hl : a.block < w.heap.size := hlt a ha (Nat.lt_of_le_of_lt (Nat.zero_le _) (List.getElem?_eq_some_iff.1 hu).1)
 have h1 := h.2.2.1 a ha j u hu
 exact (hb.cell (p := a.add j) (by rw [show (a.add j).block = a.block by unfold Addr.add; split <;> rfl]; exact hl)).trans h1
end
end Go.Proofs.YtoahmganodehkaaGreatDoor
