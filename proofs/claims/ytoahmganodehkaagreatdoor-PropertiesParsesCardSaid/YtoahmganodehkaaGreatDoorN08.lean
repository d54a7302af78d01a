import Derived.Test.YtoahmganodehkaaGreatDoorN07
import Derived.Laws.EntriesVeiled
import Derived.Test.YtoahmganodehkaaGreatDoorN02
import Derived.Laws.Cover1
import Derived.Deep.RegionHeld3
import Derived.Deep.DeepCutAuto
import Derived.Deep.CutBlock
import Derived.Test.YtoahmganodehkaaGreatDoorN04
import Derived.Deep.LoopGhost
import Derived.Sort.Grow
import Derived.Test.YtoahmganodehkaaGreatDoorN01
namespace Go.Proofs.YtoahmganodehkaaGreatDoor
set_option linter.unusedSimpArgs false
set_option linter.unusedVariables false
section
open Go.RowKit
theorem news_kept {W w1 : World} {arr : Array Value} {vs : List Value} {t : TypeId} {N : Nat} (hN : W.heap.size = N) (ha : arr.toList = vs) (hb : Below (W.alloc (.cells arr t)).heap.size (W.alloc (.cells arr t)) w1) : ∀ j u, vs[j]? = some u → w1.cell? ((⟨N, 0, none⟩ : Addr).add j) = some u := by
 intro j u hj
 have h := cells_new_at (t := t) hN ha j u hj
 rw [Addr.add_lit] at h ⊢
 refine (hb.cell (p := ⟨N, 0 + j, none⟩) ?_).trans h
 show N < _
 simp; omega
theorem flatC_snoc' (P : List Stp) (s : Stp) : flatC (P ++ [s]) = flatC P ++ [.string (S s.lab), .int .i64 s.idx] := by unfold flatC; simp
theorem path_map (P : List Stp) (s : Stp) (l : List (List Stp)) : l.map (fun x => (P ++ [s]) ++ x) = (l.map (fun p => s :: p)).map (fun x => P ++ x) := by
 rw [List.map_map]
 apply List.map_congr_left
 intro x _
 simp
set_option maxRecDepth 100000 in
set_option maxHeartbeats 8000000 in
theorem visit_any (m : Nat) : ∀ (d : Dat), SizeOf.sizeOf d < m → ∀ (N : Nat) (w W : World) (Bo Bv : Nat) (v pv vi vm : Value) (T : List (List Stp × Value)) (P : List Stp) (ok : Nat → Prop), LvS N w Bo Bv v T W → SlK W (fun B => N ≤ B ∧ some B ≠ v.ownBlock) pv P → Rep w ok d vi vm → limD d = true → T.length + (lvD d).length ≤ 1000000 → chk d (P.length + 1) = 0 →
   Calls Tryz.prog 63 #[.agg #[.int .i64 d.k, .int .i64 d.n, .string (S d.s), vi, vm], pv, .pointer (some ⟨Bo, 0, none⟩), .pointer (some ⟨Bv, 0, none⟩)] W (VisP N w Bo Bv v T ((lvD d).map (P ++ ·)) W) := by
 induction m with
 | zero => intro d h; exact absurd h (Nat.not_lt_zero _)
 | succ m ih =>
   intro d hd N w W Bo Bv v pv vi vm T P ok h hp hr hlim hT hck
   by_cases hnone : d.its = [] ∧ d.mem = []
   · obtain ⟨p, cap, rfl, -, -⟩ := hr.items
     obtain ⟨q, caq, rfl, -, -⟩ := hr.members
     rw [hnone.1, hnone.2]
     rw [lvD_eq, hnone.1, hnone.2] at hT
     have := visit_leaf d p q cap caq h hp (by simp at hT; omega)
     rw [lvD_eq, hnone.1, hnone.2]
     simpa using this
   obtain ⟨hl1, hl2, -⟩ := lim_len hlim
   obtain ⟨hlv, -, hc1, hc2⟩ := chk_zero.1 hck
   have hPl : P.length ≤ 16 := by omega
   obtain ⟨p, cap, rfl, -, hit⟩ := hr.items
   obtain ⟨q, caq, rfl, -, hme⟩ := hr.members
   have hlvE : lvD d = lvI d.its 0 ++ lvM d.mem := by
     rw [lvD_eq, if_neg]
     intro e
     simp at e
     exact hnone e
   have htest : ((d.its.length : Int) + (d.mem.length : Int) == 0) = false := by
     rw [beq_eq_false_iff_ne]
     intro e
     exact hnone ⟨List.length_eq_zero_iff.1 (by omega), List.length_eq_zero_iff.1 (by omega)⟩
   rw [hlvE, List.length_append] at hT
   have HLV := Lib.hid hlvE
   have HTL := Lib.hid hT
   have HIT := Lib.hid hit
   have HME := Lib.hid hme
   have HC1 := Lib.hid hc1
   have HC2 := Lib.hid hc2
   have HLIM := Lib.hid hlim
   have IH := Lib.hid ih
   have HD := Lib.hid hd
   obtain ⟨pp, pc, rfl⟩ := slk_form hp
   obtain ⟨i0, hi, hz0, hz1, hz2⟩ := info_parts infoStp
   -- the box
   have hb0 : Below W.heap.size W (W.alloc (.cells #[.int .i64 d.k, .int .i64 d.n, .string (S d.s), .slice p d.its.length cap, .slice q d.mem.length caq] 26)) := (Below.refl _ _).alloc (Nat.le_refl _) _
   have hbx : Blk (W.alloc (.cells #[.int .i64 d.k, .int .i64 d.n, .string (S d.s), .slice p d.its.length cap, .slice q d.mem.length caq] 26)) W.heap.size #[.int .i64 d.k, .int .i64 d.n, .string (S d.s), .slice p d.its.length cap, .slice q d.mem.length caq] 26 := Blk.new W _ _
   have HNB := Lib.hid (And.intro h.new_ne (show W.heap.size ≠ Bo by have := h.nw; have := h.lo; omega))
   have hS := h.below hb0
   have hP := hp.under hb0
   have HK0 := Lib.hid (Kps.below Bo v hb0)
   clear h hp hr hlim hnone hc1 hc2 hck hlv hit hme hlvE hT ih hd hb0
   go_enter Tryz.func63, Tryz.ntmps63
   go_upto_region 1 with fail
   generalize hWb : W.alloc (.cells #[.int .i64 d.k, .int .i64 d.n, .string (S d.s), .slice p d.its.length cap, .slice q d.mem.length caq] 26) = Wb at hbx hS hP HK0 ⊢
   clear hWb
   have b3 := hbx.cell 3
   have b4 := hbx.cell 4
   simp at b3 b4
   have hlt := hbx.lt
   have HBX := Lib.hid hbx
   have HS := Lib.hid hS
   have HP := Lib.hid hP
   clear hbx hS hP
   go_wp2_with fail
   go_loopw [25] (fun x wr => ∃ (i : Nat) (u : Value) (U : List (List Stp × Value)), x = .int .i64 (i : Int) ∧ i ≤ d.its.length ∧ Hid (LvS N w Bo Bv u U wr) ∧ Hid (Kps Wb wr Bo v u) ∧ Hid (U.map (fun t => t.1) = T.map (fun t => t.1) ++ (lvI (d.its.take i) 0).map (P ++ ·))) (fun x _ => d.its.length - (intOf x).toNat)
   case atStart => exact ⟨0, v, T, rfl, Nat.zero_le _, HS, Lib.hid (Kps.refl _ _ _), Lib.hid (by simp [lvI])⟩
   case round =>
     clear HS b3 b4 hlt htest
     obtain ⟨i, u, U, rfl, hi', HS, HK, HU⟩ := hrel
     have HPU := Lib.hid (HK.out.slk HS.out.lo HP.out)
     by_cases hlt : i < d.its.length
     · obtain ⟨B, o, xi, xm, rfl, hcap, hB, hc, hx⟩ := HIT.out i hlt
       obtain ⟨p1, cap1, rfl, -, -⟩ := hx.items
       obtain ⟨q1, caq1, rfl, -, -⟩ := hx.members
       obtain ⟨k0, k1, k2, k3, k4⟩ := hc.below HS.out.bel hB
       have HX := Lib.hid hx
       have HL := Lib.hid (lvI_at d.its 0 i hlt)
       have HSZ := Lib.hid (Nat.lt_of_lt_of_le (dat_it (List.getElem_mem hlt)) (Nat.le_of_lt_succ HD.out))
       have HCX := Lib.hid (HC1.out _ (List.getElem_mem hlt))
       have HLX := Lib.hid (kid_lim HLIM.out (List.mem_append_left _ (List.getElem_mem hlt)))
       have hUl : U.length + (lvD d.its[i]).length ≤ 1000000 := by
         have h1 : U.length = T.length + (lvI (d.its.take i) 0).length := by
           have := congrArg List.length HU.out
           simpa using this
         have h2 := lvI_take d.its (i + 1)
         rw [HL.out, List.length_append, List.length_map] at h2
         have := HTL.out
         omega
       have HUL := Lib.hid hUl
       clear hUl hc hx
       generalize d.its[i] = x at k0 k1 k2 k3 k4 HX HL HSZ HCX HLX HUL
       have hN : Blk (wr.alloc (.cells #[.int .i64 x.k, .int .i64 x.n, .string (S x.s), .slice p1 x.its.length cap1, .slice q1 x.mem.length caq1] 26)) wr.heap.size #[.int .i64 x.k, .int .i64 x.n, .string (S x.s), .slice p1 x.its.length cap1, .slice q1 x.mem.length caq1] 26 := Blk.new wr _ _
       have hb1 : Below wr.heap.size wr (wr.alloc (.cells #[.int .i64 x.k, .int .i64 x.n, .string (S x.s), .slice p1 x.its.length cap1, .slice q1 x.mem.length caq1] 26)) := (Below.refl _ _).alloc (Nat.le_refl _) _
       have HK1 := Lib.hid (HK.out.trans (Kps.below Bo u hb1))
       have hS1 := HS.out.below hb1
       have hP1 := HPU.out.under hb1
       have HNE := Lib.hid (And.intro (show wr.heap.size ≠ Bo by have := HS.out.bo.lt; omega) HS.out.new_ne)
       clear HS HK HPU
       go_upto_region 6 with fail
       generalize hW1 : wr.alloc (.cells #[.int .i64 x.k, .int .i64 x.n, .string (S x.s), .slice p1 x.its.length cap1, .slice q1 x.mem.length caq1] 26) = W1 at hN hS1 hP1 HK1 ⊢
       clear hW1 hb1 k0 k1 k2 k3 k4
       have n0 := hN.cell 0
       have n1 := hN.cell 1
       have n2 := hN.cell 2
       have n3 := hN.cell 3
       have n4 := hN.cell 4
       have g0 := hS1.bv.cell 0
       simp at n0 n1 n2 n3 n4 g0
       have HKE := Lib.hid (fun w' (hb : Below W1.heap.size W1 w') => (And.intro ((hb.cell (p := ⟨Bv, 0, none⟩) hS1.bv.lt).trans g0) (And.intro ((hb.cell (p := ⟨wr.heap.size, 0, none⟩) hN.lt).trans n0) (And.intro ((hb.cell (p := ⟨wr.heap.size, 1, none⟩) hN.lt).trans n1) (And.intro ((hb.cell (p := ⟨wr.heap.size, 2, none⟩) hN.lt).trans n2) (And.intro ((hb.cell (p := ⟨wr.heap.size, 3, none⟩) hN.lt).trans n3) ((hb.cell (p := ⟨wr.heap.size, 4, none⟩) hN.lt).trans n4)))))))
       have HB0 := Lib.hid (below_drew (Below.refl W1.heap.size W1))
       have HS1 := Lib.hid hS1
       have HP1 := Lib.hid hP1
       have HN := Lib.hid hN
       have HCL := Lib.hid (fun w' (hb : Below W1.heap.size W1 w') => (cloneStp_any pp P.length pc (flatC P) w' (flatC_len P) (by omega) ((hP1.under hb).src.2.2) ((hP1.under hb).src.2.1) (flatC_oneC P)).mono (R' := fun e w1 => ∃ qv, e = .returned qv ∧ w1.ownsRow W1.heap.size 44 2 qv P.length (flatC P) ∧ Below W1.heap.size W1 w1 ∧ Below w'.heap.size w' w1) fun e w1 ⟨qv, he, hq, hbq⟩ => ⟨qv, he, own_less hq hb.size, hb.trans (hbq.mono hb.size), hbq⟩)
       have HUN := Lib.hid (fun B (h1 : W1.heap.size ≤ B) => (show N ≤ B ∧ some B ≠ u.ownBlock from ⟨Nat.le_trans hS1.nw h1, fun e => by have := (own_ge hS1.own e.symm).2; omega⟩))
       clear hN hS1 hP1 n0 n1 n2 n3 n4 g0
       go_region_held3 (fun w' => w'.cell? ⟨Bv, 0, none⟩ = some (.func (.func 63) #[] #[.pointer (some ⟨Bo, 0, none⟩), .pointer (some ⟨Bv, 0, none⟩)]) ∧ w'.cell? ⟨wr.heap.size, 0, none⟩ = some (.int .i64 x.k) ∧ w'.cell? ⟨wr.heap.size, 1, none⟩ = some (.int .i64 x.n) ∧ w'.cell? ⟨wr.heap.size, 2, none⟩ = some (.string (S x.s)) ∧ w'.cell? ⟨wr.heap.size, 3, none⟩ = some (.slice p1 x.its.length cap1) ∧ w'.cell? ⟨wr.heap.size, 4, none⟩ = some (.slice q1 x.mem.length caq1))
         (first
           | with_reducible exact HKE.out _ HB0.out
           | with_reducible exact HKE.out _ (below_drew (below_al1 (Below.refl _ _) (Nat.le_refl _) _))
           | with_reducible exact HKE.out _ HB1.out
           | with_reducible exact HKE.out _ (below_al1 HB1.out (Nat.le_refl _) _)
           | with_reducible exact HKE.out _ HB2.out
           | with_reducible exact HK9.out
           | go_keep)
         (first
           | (go_at_call 64; refine (HCL.out _ (by first | with_reducible exact HB0.out | with_reducible exact below_drew (below_al1 (Below.refl _ _) (Nat.le_refl _) _))).mono ?_; rintro e w1 ⟨qv, rfl, hq, hbq, hbz⟩; obtain ⟨qp, qc, rfl⟩ := own_form5 hq; have HQ := Lib.hid hq; have HB1 := Lib.hid hbq; have HBZ := Lib.hid hbz; clear hq hbq hbz)
           | (refine step_append_lies _ (by rfl) _ _ _ (by rfl) W1.heap.size 44 i0 (.agg #[.string ⟨#[]⟩, .int .i64 0]) 2 24 Tryz.underlying40 hi hz0 hz1 hz2 rfl (by omega) (.slice qp P.length qc) P.length (flatC P) (by rfl) (HQ.out.alloc _) ⟨w1.heap.size, 0, none⟩ 1 1 [.string ⟨#[]⟩, .int .i64 (i : Int)] (by rfl) (by rfl) (cells_new_at rfl rfl) (by simp [Value.oneCell']) (by omega) (by unfold maxLen; omega) (by omega) ((below_al1 HB1.out (Nat.le_refl _) _).size) _ rfl ?_; intro gg cap9 w2 hown2 hgrow hat hlt2; have HB2 := Lib.hid (below_own (below_al1 HB1.out (Nat.le_refl _) _) (HQ.out.alloc _) hgrow (Nat.le_refl _) ((below_al1 HB1.out (Nat.le_refl _) _).size)); have HP2 : Hid (SlK w2 (fun B => N ≤ B ∧ some B ≠ u.ownBlock) (.slice (some ⟨gg, 0, none⟩) (P.length + 1) cap9) (P ++ [⟨[], (i : Int)⟩])) := Lib.hid (by have h := own_SlK (L := P ++ [⟨[], (i : Int)⟩]) (W := w2) (base := W1.heap.size) (v := .slice (some ⟨gg, 0, none⟩) (P.length + 1) cap9) (by rw [flatC_snoc', List.length_append]; exact hown2) (fun B h1 _ _ => HUN.out B h1); exact h); clear hown2 hgrow hat hlt2)
           | (refine step_append_lies _ (by rfl) _ _ _ (by rfl) W1.heap.size 44 i0 (.agg #[.string ⟨#[]⟩, .int .i64 0]) 2 24 Tryz.underlying40 hi hz0 hz1 hz2 rfl (by omega) (.slice qp P.length qc) P.length (flatC P) (by rfl) HQ.out ⟨W1.heap.size, 0, none⟩ 1 1 [.string ⟨#[]⟩, .int .i64 (i : Int)] (by rfl) (by rfl) (news_kept rfl rfl ((below_drew (Below.refl _ _)).trans HBZ.out)) (by simp [Value.oneCell']) (by omega) (by unfold maxLen; omega) (by omega) HB1.out.size _ rfl ?_; intro gg cap9 w2 hown2 hgrow hat hlt2; have HB2 := Lib.hid (below_own HB1.out HQ.out hgrow (Nat.le_refl _) HB1.out.size); have HP2 : Hid (SlK w2 (fun B => N ≤ B ∧ some B ≠ u.ownBlock) (.slice (some ⟨gg, 0, none⟩) (P.length + 1) cap9) (P ++ [⟨[], (i : Int)⟩])) := Lib.hid (by have h := own_SlK (L := P ++ [⟨[], (i : Int)⟩]) (W := w2) (base := W1.heap.size) (v := .slice (some ⟨gg, 0, none⟩) (P.length + 1) cap9) (by rw [flatC_snoc', List.length_append]; exact hown2) (fun B h1 _ _ => HUN.out B h1); exact h); clear hown2 hgrow hat hlt2)
           | (go_at_call 63; refine (IH.out x HSZ.out N w w2 Bo Bv u _ _ _ U (P ++ [⟨[], (i : Int)⟩]) ok (HS1.out.below HB2.out) HP2.out HX.out HLX.out HUL.out (by rw [List.length_append]; exact HCX.out)).mono ?_; rintro e w9 ⟨rfl, u9, U9, hL9, hU9, hK9⟩; have d9 := hK9.blk' (HN.out.below HB2.out) HNE.out.1 HNE.out.2; have HK9 := Lib.hid (And.intro (hL9.bv.cell 0) (And.intro (d9.cell 0) (And.intro (d9.cell 1) (And.intro (d9.cell 2) (And.intro (d9.cell 3) (d9.cell 4)))))); simp at HK9; have HL9 := Lib.hid hL9; have HU9 := Lib.hid hU9; have HKK := Lib.hid ((HK1.out.trans (Kps.below Bo u HB2.out)).trans hK9); clear hL9 hU9 hK9 d9))
       all_goals
         have HU10 : Hid (U9.map (fun t => t.1) = T.map (fun t => t.1) ++ (lvI (d.its.take (i + 1)) 0).map (P ++ ·)) := Lib.hid (by
           rw [HU9.out, HU.out, HL.out, List.map_append, List.append_assoc, Nat.zero_add, ← path_map])
         clear HU9 HK9 HP2 HB2 HB1 HQ HBZ
         go_wp2_with fail
         go_roundw
         case rel => exact ⟨i + 1, u9, U9, by go_num, hlt, HL9, HKK, HU10⟩
         case measure => simp [intOf]; omega
     · have hil : i = d.its.length := by omega
       have HU2 := Lib.hid (show U.map (fun t => t.1) = T.map (fun t => t.1) ++ (lvI d.its 0).map (P ++ ·) ++ (lvM (d.mem.take 0)).map (P ++ ·) by rw [HU.out, hil, List.take_length]; simp [lvM])
       have b4 := (HK.out.blk' HBX.out HNB.out.2 HNB.out.1).cell 4
       simp at b4
       have hlw := HS.out.bo.lt
       clear hil HU HPU hi'
       go_wp2_with fail
       clear hlt b4 hlw
       go_loopw [43] (fun x wr => ∃ (i : Nat) (u : Value) (U : List (List Stp × Value)), x = .int .i64 (i : Int) ∧ i ≤ d.mem.length ∧ Hid (LvS N w Bo Bv u U wr) ∧ Hid (Kps Wb wr Bo v u) ∧ Hid (U.map (fun t => t.1) = T.map (fun t => t.1) ++ (lvI d.its 0).map (P ++ ·) ++ (lvM (d.mem.take i)).map (P ++ ·))) (fun x _ => d.mem.length - (intOf x).toNat)
       case atStart => exact ⟨0, u, U, rfl, Nat.zero_le _, HS, HK, HU2⟩
       case round =>
         clear HS HK HU2
         obtain ⟨i, u, U, rfl, hi', HS, HK, HU⟩ := hrel
         have HPU := Lib.hid (HK.out.slk HS.out.lo HP.out)
         by_cases hlt : i < d.mem.length
         · obtain ⟨B, o, xi, xm, rfl, hcap, hB, hlab, hc, hx⟩ := HME.out i hlt
           obtain ⟨p1, cap1, rfl, -, -⟩ := hx.items
           obtain ⟨q1, caq1, rfl, -, -⟩ := hx.members
           obtain ⟨k0, k1, k2, k3, k4⟩ := hc.below HS.out.bel hB
           have k5 := (HS.out.bel.cell (p := ⟨B, o + i * 6, none⟩) hB).trans hlab
           have HX := Lib.hid hx
           have HL := Lib.hid (lvM_at d.mem i hlt)
           have HSZ := Lib.hid (Nat.lt_of_lt_of_le (dat_mg (List.getElem_mem hlt)) (Nat.le_of_lt_succ HD.out))
           have HCX := Lib.hid (HC2.out _ (List.getElem_mem hlt))
           have HLX := Lib.hid (kid_lim HLIM.out (List.mem_append_right _ (List.mem_map_of_mem (List.getElem_mem hlt))))
           have hUl : U.length + (lvD d.mem[i].2).length ≤ 1000000 := by
             have h1 : U.length = T.length + (lvI d.its 0).length + (lvM (d.mem.take i)).length := by
               have := congrArg List.length HU.out
               simp only [List.length_append, List.length_map] at this
               exact this
             have h2 := lvM_take d.mem (i + 1)
             rw [HL.out, List.length_append, List.length_map] at h2
             have := HTL.out
             omega
           have HUL := Lib.hid hUl
           clear hUl hc hx hlab
           generalize d.mem[i] = y at k0 k1 k2 k3 k4 k5 HX HL HSZ HCX HLX HUL
           obtain ⟨l, x⟩ := y
           simp only at k0 k1 k2 k3 k4 k5 HX HL HSZ HCX HLX HUL
           have hN : Blk (wr.alloc (.cells #[.string (S l), .int .i64 x.k, .int .i64 x.n, .string (S x.s), .slice p1 x.its.length cap1, .slice q1 x.mem.length caq1] 64)) wr.heap.size #[.string (S l), .int .i64 x.k, .int .i64 x.n, .string (S x.s), .slice p1 x.its.length cap1, .slice q1 x.mem.length caq1] 64 := Blk.new wr _ _
           have hb1 : Below wr.heap.size wr (wr.alloc (.cells #[.string (S l), .int .i64 x.k, .int .i64 x.n, .string (S x.s), .slice p1 x.its.length cap1, .slice q1 x.mem.length caq1] 64)) := (Below.refl _ _).alloc (Nat.le_refl _) _
           have HK1 := Lib.hid (HK.out.trans (Kps.below Bo u hb1))
           have hS1 := HS.out.below hb1
           have hP1 := HPU.out.under hb1
           have HNE := Lib.hid (And.intro (show wr.heap.size ≠ Bo by have := HS.out.bo.lt; omega) HS.out.new_ne)
           clear HS HK HPU
           go_upto_region 11 with fail
           generalize hW1 : wr.alloc (.cells #[.string (S l), .int .i64 x.k, .int .i64 x.n, .string (S x.s), .slice p1 x.its.length cap1, .slice q1 x.mem.length caq1] 64) = W1 at hN hS1 hP1 HK1 ⊢
           clear hW1 hb1 k0 k1 k2 k3 k4 k5
           have n0 := hN.cell 0
           have n1 := hN.cell 1
           have n2 := hN.cell 2
           have n3 := hN.cell 3
           have n4 := hN.cell 4
           have n5 := hN.cell 5
           have g0 := hS1.bv.cell 0
           simp at n0 n1 n2 n3 n4 n5 g0
           have HKE := Lib.hid (fun w' (hb : Below W1.heap.size W1 w') => (And.intro ((hb.cell (p := ⟨Bv, 0, none⟩) hS1.bv.lt).trans g0) (And.intro ((hb.cell (p := ⟨wr.heap.size, 0, none⟩) hN.lt).trans n0) (And.intro ((hb.cell (p := ⟨wr.heap.size, 1, none⟩) hN.lt).trans n1) (And.intro ((hb.cell (p := ⟨wr.heap.size, 2, none⟩) hN.lt).trans n2) (And.intro ((hb.cell (p := ⟨wr.heap.size, 3, none⟩) hN.lt).trans n3) (And.intro ((hb.cell (p := ⟨wr.heap.size, 4, none⟩) hN.lt).trans n4) ((hb.cell (p := ⟨wr.heap.size, 5, none⟩) hN.lt).trans n5))))))))
           have HB0 := Lib.hid (below_drew (Below.refl W1.heap.size W1))
           have HS1 := Lib.hid hS1
           have HP1 := Lib.hid hP1
           have HN := Lib.hid hN
           have HCL := Lib.hid (fun w' (hb : Below W1.heap.size W1 w') => (cloneStp_any pp P.length pc (flatC P) w' (flatC_len P) (by omega) ((hP1.under hb).src.2.2) ((hP1.under hb).src.2.1) (flatC_oneC P)).mono (R' := fun e w1 => ∃ qv, e = .returned qv ∧ w1.ownsRow W1.heap.size 44 2 qv P.length (flatC P) ∧ Below W1.heap.size W1 w1 ∧ Below w'.heap.size w' w1) fun e w1 ⟨qv, he, hq, hbq⟩ => ⟨qv, he, own_less hq hb.size, hb.trans (hbq.mono hb.size), hbq⟩)
           have HUN := Lib.hid (fun B (h1 : W1.heap.size ≤ B) => (show N ≤ B ∧ some B ≠ u.ownBlock from ⟨Nat.le_trans hS1.nw h1, fun e => by have := (own_ge hS1.own e.symm).2; omega⟩))
           clear hN hS1 hP1 n0 n1 n2 n3 n4 n5 g0
           go_region_held3 (fun w' => w'.cell? ⟨Bv, 0, none⟩ = some (.func (.func 63) #[] #[.pointer (some ⟨Bo, 0, none⟩), .pointer (some ⟨Bv, 0, none⟩)]) ∧ w'.cell? ⟨wr.heap.size, 0, none⟩ = some (.string (S l)) ∧ w'.cell? ⟨wr.heap.size, 1, none⟩ = some (.int .i64 x.k) ∧ w'.cell? ⟨wr.heap.size, 2, none⟩ = some (.int .i64 x.n) ∧ w'.cell? ⟨wr.heap.size, 3, none⟩ = some (.string (S x.s)) ∧ w'.cell? ⟨wr.heap.size, 4, none⟩ = some (.slice p1 x.its.length cap1) ∧ w'.cell? ⟨wr.heap.size, 5, none⟩ = some (.slice q1 x.mem.length caq1))
             (first
               | with_reducible exact HKE.out _ HB0.out
               | with_reducible exact HKE.out _ (below_drew (below_al1 (Below.refl _ _) (Nat.le_refl _) _))
               | with_reducible exact HKE.out _ HB1.out
               | with_reducible exact HKE.out _ (below_al1 HB1.out (Nat.le_refl _) _)
               | with_reducible exact HKE.out _ HB2.out
               | with_reducible exact HK9.out
               | go_keep)
             (first
               | (go_at_call 64; refine (HCL.out _ (by first | with_reducible exact HB0.out | with_reducible exact below_drew (below_al1 (Below.refl _ _) (Nat.le_refl _) _))).mono ?_; rintro e w1 ⟨qv, rfl, hq, hbq, hbz⟩; obtain ⟨qp, qc, rfl⟩ := own_form5 hq; have HQ := Lib.hid hq; have HB1 := Lib.hid hbq; have HBZ := Lib.hid hbz; clear hq hbq hbz)
               | (refine step_append_lies _ (by rfl) _ _ _ (by rfl) W1.heap.size 44 i0 (.agg #[.string ⟨#[]⟩, .int .i64 0]) 2 24 Tryz.underlying40 hi hz0 hz1 hz2 rfl (by omega) (.slice qp P.length qc) P.length (flatC P) (by rfl) (HQ.out.alloc _) ⟨w1.heap.size, 0, none⟩ 1 1 [.string (S l), .int .i64 0] (by rfl) (by rfl) (cells_new_at rfl rfl) (by simp [Value.oneCell']) (by omega) (by unfold maxLen; omega) (by omega) ((below_al1 HB1.out (Nat.le_refl _) _).size) _ rfl ?_; intro gg cap9 w2 hown2 hgrow hat hlt2; have HB2 := Lib.hid (below_own (below_al1 HB1.out (Nat.le_refl _) _) (HQ.out.alloc _) hgrow (Nat.le_refl _) ((below_al1 HB1.out (Nat.le_refl _) _).size)); have HP2 : Hid (SlK w2 (fun B => N ≤ B ∧ some B ≠ u.ownBlock) (.slice (some ⟨gg, 0, none⟩) (P.length + 1) cap9) (P ++ [⟨l, 0⟩])) := Lib.hid (by have h := own_SlK (L := P ++ [⟨l, 0⟩]) (W := w2) (base := W1.heap.size) (v := .slice (some ⟨gg, 0, none⟩) (P.length + 1) cap9) (by rw [flatC_snoc', List.length_append]; exact hown2) (fun B h1 _ _ => HUN.out B h1); exact h); clear hown2 hgrow hat hlt2)
               | (refine step_append_lies _ (by rfl) _ _ _ (by rfl) W1.heap.size 44 i0 (.agg #[.string ⟨#[]⟩, .int .i64 0]) 2 24 Tryz.underlying40 hi hz0 hz1 hz2 rfl (by omega) (.slice qp P.length qc) P.length (flatC P) (by rfl) HQ.out ⟨W1.heap.size, 0, none⟩ 1 1 [.string (S l), .int .i64 0] (by rfl) (by rfl) (news_kept rfl rfl ((below_drew (Below.refl _ _)).trans HBZ.out)) (by simp [Value.oneCell']) (by omega) (by unfold maxLen; omega) (by omega) HB1.out.size _ rfl ?_; intro gg cap9 w2 hown2 hgrow hat hlt2; have HB2 := Lib.hid (below_own HB1.out HQ.out hgrow (Nat.le_refl _) HB1.out.size); have HP2 : Hid (SlK w2 (fun B => N ≤ B ∧ some B ≠ u.ownBlock) (.slice (some ⟨gg, 0, none⟩) (P.length + 1) cap9) (P ++ [⟨l, 0⟩])) := Lib.hid (by have h := own_SlK (L := P ++ [⟨l, 0⟩]) (W := w2) (base := W1.heap.size) (v := .slice (some ⟨gg, 0, none⟩) (P.length + 1) cap9) (by rw [flatC_snoc', List.length_append]; exact hown2) (fun B h1 _ _ => HUN.out B h1); exact h); clear hown2 hgrow hat hlt2)
               | (go_at_call 63; refine (IH.out x HSZ.out N w w2 Bo Bv u _ _ _ U (P ++ [⟨l, 0⟩]) ok (HS1.out.below HB2.out) HP2.out HX.out HLX.out HUL.out (by rw [List.length_append]; exact HCX.out)).mono ?_; rintro e w9 ⟨rfl, u9, U9, hL9, hU9, hK9⟩; have d9 := hK9.blk' (HN.out.below HB2.out) HNE.out.1 HNE.out.2; have HK9 := Lib.hid (And.intro (hL9.bv.cell 0) (And.intro (d9.cell 0) (And.intro (d9.cell 1) (And.intro (d9.cell 2) (And.intro (d9.cell 3) (And.intro (d9.cell 4) (d9.cell 5))))))); simp at HK9; have HL9 := Lib.hid hL9; have HU9 := Lib.hid hU9; have HKK := Lib.hid ((HK1.out.trans (Kps.below Bo u HB2.out)).trans hK9); clear hL9 hU9 hK9 d9))
           all_goals
             have HU10 : Hid (U9.map (fun t => t.1) = T.map (fun t => t.1) ++ (lvI d.its 0).map (P ++ ·) ++ (lvM (d.mem.take (i + 1))).map (P ++ ·)) := Lib.hid (by
               rw [HU9.out, HU.out, HL.out, List.map_append, List.append_assoc (_ ++ _), ← path_map])
             clear HU9 HK9 HP2 HB2 HB1 HQ HBZ
             go_wp2_with fail
             go_roundw
             case rel => exact ⟨i + 1, u9, U9, by go_num, hlt, HL9, HKK, HU10⟩
             case measure => simp [intOf]; omega
         · have hil : i = d.mem.length := by omega
           have HU2 := Lib.hid (show U.map (fun t => t.1) = T.map (fun t => t.1) ++ (lvD d).map (P ++ ·) by rw [HU.out, hil, List.take_length, HLV.out, List.map_append, List.append_assoc])
           have HKF := Lib.hid (HK0.out.trans HK.out)
           clear hil
           go_wp2_with fail
           go_end0
           exact ⟨rfl, u, U, HS.out, HU2.out, HKF.out⟩
end
section
open Go.RowKit
def LeavP (w : World) (LL : List (List Stp)) (e : Ending) (w' : World) : Prop :=
 ∃ (v : Value) (T : List (List Stp × Value)), e = .returned v ∧ w'.ownsRow w.heap.size 40 1 v T.length (T.map fun t => t.2) ∧ T.map (fun t => t.1) = LL ∧ (∀ t ∈ T, SlK w' (fun B => w.heap.size ≤ B) t.2 t.1) ∧ Below w.heap.size w w'
set_option maxRecDepth 100000 in
set_option maxHeartbeats 4000000 in
theorem Leaves_any {d : Dat} {vi vm : Value} {ok : Nat → Prop} {w : World} (hr : Rep w ok d vi vm) (hlim : limD d = true) (hc : chk d 1 = 0) (hn : (lvD d).length ≤ 1000000) :
   Calls Tryz.prog 35 #[.agg #[.int .i64 d.k, .int .i64 d.n, .string (S d.s), vi, vm]] w (LeavP w (lvD d)) := by
 have HREP := Lib.hid hr
 have HLIM := Lib.hid hlim
 have HC := Lib.hid hc
 have HNL := Lib.hid hn
 have HCK := Lib.hid (fun w' (hb : Below w.heap.size w w') => (Check_any (hr.under hb) hlim))
 simp only [hc] at HCK
 have hmf : ∀ (fn : Fn) (first cap : Array Value) (w : World), (Instr.makeFunc fn first cap).run Tryz.prog w = .ok (.func fn first cap) w := fun _ _ _ _ => rfl
 clear hr hlim hc hn
 go_enter Tryz.func35, Tryz.ntmps35
 go_upto_region 1 with fail
 have hS : CkS w.heap.size w d vi vm (w.alloc (.cells #[.int .i64 d.k, .int .i64 d.n, .string (S d.s), vi, vm] 26)) := CkS.new w d _ _
 generalize w.alloc (.cells #[.int .i64 d.k, .int .i64 d.n, .string (S d.s), vi, vm] 26) = W at hS ⊢
 obtain ⟨c0, c1, c2, c3, c4, hlw⟩ := hS.cells
 have HS := Lib.hid hS
 clear hS
 go_wp2_with fail
 refine (HCK.out _ HS.out.2).mono ?_
 rintro e w1 ⟨rfl, hb⟩
 have hS1 := HS.out.below hb
 clear hb HS c0 c1 c2 c3 c4 hlw HCK
 have hn2 := two_new w1 #[.slice none 0 0] #[.func (.func 63) #[] #[.pointer (some ⟨w1.heap.size, 0, none⟩), .pointer (some ⟨w1.heap.size + 1, 0, none⟩)]] 68 91
 have hsz : w1.heap.size + 2 ≤ ((w1.alloc (.cells #[.slice none 0 0] 68)).alloc (.cells #[.func (.func 63) #[] #[.pointer (some ⟨w1.heap.size, 0, none⟩), .pointer (some ⟨w1.heap.size + 1, 0, none⟩)]] 91)).heap.size := by simp
 have hcl : w.heap.size ≤ w1.heap.size := hS1.2.size
 have hS2 := hS1.below hn2.2.2
 go_upto_region 6 with fail
 generalize (w1.alloc (.cells #[.slice none 0 0] 68)).alloc (.cells #[.func (.func 63) #[] #[.pointer (some ⟨w1.heap.size, 0, none⟩), .pointer (some ⟨w1.heap.size + 1, 0, none⟩)]] 91) = W2 at hn2 hsz hS2 ⊢
 have hL : LvS (w1.heap.size + 2) w w1.heap.size (w1.heap.size + 1) (.slice none 0 0) [] W2 :=
   ⟨hn2.1, hn2.2.1, World.ownsRow_nil _ _ _ _, by simp, hsz, by omega, by omega, by omega, by omega, by omega, hS2.2⟩
 obtain ⟨c0, c1, c2, c3, c4, hlw⟩ := hS2.cells
 have g0 := hn2.2.1.cell 0
 simp at g0
 have HL := Lib.hid hL
 clear hL hS2 hn2 hsz hS1
 go_wp2_with fail
 refine (visit_any (SizeOf.sizeOf d + 1) d (Nat.lt_succ_self _) _ w _ _ _ _ _ _ _ [] [] ok HL.out ⟨none, 0, 0, 0, rfl, by simp, by simp⟩ HREP.out HLIM.out (by simpa using HNL.out) HC.out).mono ?_
 rintro e w9 ⟨rfl, v, T, hL9, hT9, -⟩
 have HL9 := Lib.hid hL9
 have HT9 := Lib.hid (show T.map (fun t => t.1) = lvD d by rw [hT9]; simp)
 clear hT9 c0 c1 c2 c3 c4 hlw g0 HL
 have o0 := hL9.bo.cell 0
 simp at o0
 have hlw := hL9.bo.lt
 clear hL9
 obtain ⟨vp, vc, rfl⟩ := own_form5 HL9.out.own
 go_wp2_with fail
 go_ret
 exact ⟨_, T, rfl, own_less HL9.out.own (by omega), HT9.out, fun t ht => (HL9.out.paths t ht).mono fun B _ hB => by omega, HL9.out.bel⟩
end
section
open Go.RowKit
theorem lbI_any : ∀ its : List Dat, lbI its = !its.any (fun x => !lbD x)
 | [] => by simp [lbI]
 | x :: r => by rw [lbI, lbI_any r, List.any_cons]; cases lbD x <;> simp
theorem lbM_any : ∀ mem : List (List UInt8 × Dat), lbM mem = !mem.any (fun p => p.1.isEmpty || !lbD p.2)
 | [] => by simp [lbM]
 | (l, x) :: r => by rw [lbM, lbM_any r, List.any_cons]; cases lbD x <;> cases l <;> simp
theorem any_step {α : Type} {q : α → Bool} {L : List α} {i : Nat} (h : i < L.length) : (L.drop i).any q = (q L[i] || (L.drop (i + 1)).any q) := by
 rw [List.drop_eq_getElem_cons h, List.any_cons]
theorem any_over {α : Type} {q : α → Bool} {L : List α} {i : Nat} (h : L.length ≤ i) : (L.drop i).any q = false := by
 rw [List.drop_of_length_le h]; rfl
set_option maxRecDepth 100000 in
set_option maxHeartbeats 4000000 in
theorem idxData_any {its : List (Dat)} {p : Option Addr} {cap : Nat} {ok : Nat → Prop} {w : World} (q : Dat → Bool) (hl : its.length ≤ 1000000) (hit : ∀ (j : Nat) (h : j < its.length), ∃ B o xi xm, p = some ⟨B, o, none⟩ ∧ its.length ≤ cap ∧ B < w.heap.size ∧ DCell w B (o + j * 5) its[j] xi xm ∧ Rep w ok its[j] xi xm)
   (hf : ∀ x ∈ its, ∀ (xi xm : Value) (W : World), Rep W ok x xi xm → Calls Tryz.prog 34 #[.agg #[.int .i64 x.k, .int .i64 x.n, .string (S x.s), xi, xm]] W fun e w' => e = .returned (.bool (q x)) ∧ Below W.heap.size W w') :
   Calls Tryz.prog 106 #[.slice p its.length cap, .func (.func 34) #[] #[]] w fun e w' => ∃ r : Int, e = .returned (.int .i64 r) ∧ decide (0 ≤ r) = its.any q ∧ Below w.heap.size w w' := by
 have HT := Lib.hid hit
 have HF := Lib.hid hf
 obtain ⟨r, hr⟩ : ∃ r, its.any q = r := ⟨_, rfl⟩
 have HR := Lib.hid (show (its.drop 0).any q = r from hr)
 rw [hr]
 clear hit hf hr
 go_enter Tryz.func106, Tryz.ntmps106
 go_wp2_with fail
 go_loopw [8] (fun y wr => ∃ i : Nat, y = .int .i64 (i : Int) ∧ i ≤ its.length ∧ Hid (Below w.heap.size w wr) ∧ Hid ((its.drop i).any q = r)) (fun y _ => its.length - (intOf y).toNat)
 case atStart => exact ⟨0, rfl, Nat.zero_le _, Lib.hid (Below.refl _ _), HR⟩
 case round =>
   obtain ⟨i, rfl, hi, HB, HV⟩ := hrel
   by_cases hlt : i < its.length
   · obtain ⟨B, o, xi, xm, rfl, hcap, hB, hc, hx⟩ := HT.out i hlt
     obtain ⟨p1, cap1, rfl, -, -⟩ := hx.items
     obtain ⟨q1, caq1, rfl, -, -⟩ := hx.members
     obtain ⟨k0, k1, k2, k3, k4⟩ := hc.below HB.out hB
     have HX := Lib.hid (HF.out _ (List.getElem_mem hlt) _ _ wr (hx.under HB.out))
     have HV1 := Lib.hid ((any_step (q := q) hlt).symm.trans HV.out)
     clear hc hx HV
     generalize its[i] = x at k0 k1 k2 k3 k4 HX HV1
     go_wp2_with fail
     refine HX.out.mono ?_
     rintro e w1 ⟨rfl, hb⟩
     have HB1 := Lib.hid (HB.out.trans (hb.mono HB.out.size))
     clear hb
     rcases Bool.eq_false_or_eq_true (q x) with hq | hq
     · rw [hq]
       have HV2 := Lib.hid (show true = r by rw [← HV1.out, hq]; rfl)
       go_wp2_with fail
       go_ret
       exact ⟨(i : Int), rfl, by rw [← HV2.out]; simp, HB1.out⟩
     · rw [hq]
       have HV2 := Lib.hid (show (its.drop (i + 1)).any q = r by rw [← HV1.out, hq]; simp)
       clear hq
       go_wp2_with fail
       go_roundw
       case rel => exact ⟨i + 1, by go_num, hlt, HB1, HV2⟩
       case measure => simp [intOf]; omega
   · have HV1 := Lib.hid (show false = r by rw [← HV.out, any_over (by omega)])
     go_wp2_with fail
     go_ret
     exact ⟨-1, rfl, by rw [← HV1.out]; rfl, HB.out⟩
theorem hasData_any {its : List (Dat)} {p : Option Addr} {cap : Nat} {ok : Nat → Prop} {w : World} (q : Dat → Bool) (hl : its.length ≤ 1000000) (hit : ∀ (j : Nat) (h : j < its.length), ∃ B o xi xm, p = some ⟨B, o, none⟩ ∧ its.length ≤ cap ∧ B < w.heap.size ∧ DCell w B (o + j * 5) its[j] xi xm ∧ Rep w ok its[j] xi xm)
   (hf : ∀ x ∈ its, ∀ (xi xm : Value) (W : World), Rep W ok x xi xm → Calls Tryz.prog 34 #[.agg #[.int .i64 x.k, .int .i64 x.n, .string (S x.s), xi, xm]] W fun e w' => e = .returned (.bool (q x)) ∧ Below W.heap.size W w') :
   Calls Tryz.prog 60 #[.slice p its.length cap, .func (.func 34) #[] #[]] w fun e w' => e = .returned (.bool (its.any q)) ∧ Below w.heap.size w w' := by
 have HI := Lib.hid (idxData_any q hl hit hf)
 generalize its.any q = b at HI ⊢
 clear hit hf
 go_enter Tryz.func60, Tryz.ntmps60
 go_wp2_with fail
 refine HI.out.mono ?_
 rintro e w1 ⟨r, rfl, hr, hb⟩
 have HB := Lib.hid hb
 have HRR := Lib.hid hr
 clear hb hr
 go_wp2_with fail
 go_ret
 exact ⟨by rw [← HRR.out]; rfl, HB.out⟩
set_option maxRecDepth 100000 in
set_option maxHeartbeats 4000000 in
theorem idxMember_any {its : List (List UInt8 × Dat)} {p : Option Addr} {cap : Nat} {ok : Nat → Prop} {w : World} (q : List UInt8 × Dat → Bool) (hl : its.length ≤ 1000000) (hit : ∀ (j : Nat) (h : j < its.length), ∃ B o xi xm, p = some ⟨B, o, none⟩ ∧ its.length ≤ cap ∧ B < w.heap.size ∧ w.cell? ⟨B, o + j * 6, none⟩ = some (.string (S its[j].1)) ∧ DCell w B (o + j * 6 + 1) its[j].2 xi xm ∧ Rep w ok its[j].2 xi xm)
   (hf : ∀ x ∈ its, ∀ (xi xm : Value) (W : World), Rep W ok x.2 xi xm → Calls Tryz.prog 62 #[.agg #[.string (S x.1), .int .i64 x.2.k, .int .i64 x.2.n, .string (S x.2.s), xi, xm]] W fun e w' => e = .returned (.bool (q x)) ∧ Below W.heap.size W w') :
   Calls Tryz.prog 107 #[.slice p its.length cap, .func (.func 62) #[] #[]] w fun e w' => ∃ r : Int, e = .returned (.int .i64 r) ∧ decide (0 ≤ r) = its.any q ∧ Below w.heap.size w w' := by
 have HT := Lib.hid hit
 have HF := Lib.hid hf
 obtain ⟨r, hr⟩ : ∃ r, its.any q = r := ⟨_, rfl⟩
 have HR := Lib.hid (show (its.drop 0).any q = r from hr)
 rw [hr]
 clear hit hf hr
 go_enter Tryz.func107, Tryz.ntmps107
 go_wp2_with fail
 go_loopw [8] (fun y wr => ∃ i : Nat, y = .int .i64 (i : Int) ∧ i ≤ its.length ∧ Hid (Below w.heap.size w wr) ∧ Hid ((its.drop i).any q = r)) (fun y _ => its.length - (intOf y).toNat)
 case atStart => exact ⟨0, rfl, Nat.zero_le _, Lib.hid (Below.refl _ _), HR⟩
 case round =>
   obtain ⟨i, rfl, hi, HB, HV⟩ := hrel
   by_cases hlt : i < its.length
   · obtain ⟨B, o, xi, xm, rfl, hcap, hB, hlab, hc, hx⟩ := HT.out i hlt
     obtain ⟨p1, cap1, rfl, -, -⟩ := hx.items
     obtain ⟨q1, caq1, rfl, -, -⟩ := hx.members
     obtain ⟨k0, k1, k2, k3, k4⟩ := hc.below HB.out hB
     have k5 := (HB.out.cell (p := ⟨B, o + i * 6, none⟩) hB).trans hlab
     have HX := Lib.hid (HF.out _ (List.getElem_mem hlt) _ _ wr (hx.under HB.out))
     have HV1 := Lib.hid ((any_step (q := q) hlt).symm.trans HV.out)
     clear hc hx HV hlab
     generalize its[i] = x at k0 k1 k2 k3 k4 k5 HX HV1
     obtain ⟨l, x⟩ := x
     simp only at k0 k1 k2 k3 k4 k5 HX HV1
     go_wp2_with fail
     refine HX.out.mono ?_
     rintro e w1 ⟨rfl, hb⟩
     have HB1 := Lib.hid (HB.out.trans (hb.mono HB.out.size))
     clear hb
     rcases Bool.eq_false_or_eq_true (q (l, x)) with hq | hq
     · rw [hq]
       have HV2 := Lib.hid (show true = r by rw [← HV1.out, hq]; rfl)
       go_wp2_with fail
       go_ret
       exact ⟨(i : Int), rfl, by rw [← HV2.out]; simp, HB1.out⟩
     · rw [hq]
       have HV2 := Lib.hid (show (its.drop (i + 1)).any q = r by rw [← HV1.out, hq]; simp)
       clear hq
       go_wp2_with fail
       go_roundw
       case rel => exact ⟨i + 1, by go_num, hlt, HB1, HV2⟩
       case measure => simp [intOf]; omega
   · have HV1 := Lib.hid (show false = r by rw [← HV.out, any_over (by omega)])
     go_wp2_with fail
     go_ret
     exact ⟨-1, rfl, by rw [← HV1.out]; rfl, HB.out⟩
theorem hasMember_any {its : List (List UInt8 × Dat)} {p : Option Addr} {cap : Nat} {ok : Nat → Prop} {w : World} (q : List UInt8 × Dat → Bool) (hl : its.length ≤ 1000000) (hit : ∀ (j : Nat) (h : j < its.length), ∃ B o xi xm, p = some ⟨B, o, none⟩ ∧ its.length ≤ cap ∧ B < w.heap.size ∧ w.cell? ⟨B, o + j * 6, none⟩ = some (.string (S its[j].1)) ∧ DCell w B (o + j * 6 + 1) its[j].2 xi xm ∧ Rep w ok its[j].2 xi xm)
   (hf : ∀ x ∈ its, ∀ (xi xm : Value) (W : World), Rep W ok x.2 xi xm → Calls Tryz.prog 62 #[.agg #[.string (S x.1), .int .i64 x.2.k, .int .i64 x.2.n, .string (S x.2.s), xi, xm]] W fun e w' => e = .returned (.bool (q x)) ∧ Below W.heap.size W w') :
   Calls Tryz.prog 61 #[.slice p its.length cap, .func (.func 62) #[] #[]] w fun e w' => e = .returned (.bool (its.any q)) ∧ Below w.heap.size w w' := by
 have HI := Lib.hid (idxMember_any q hl hit hf)
 generalize its.any q = b at HI ⊢
 clear hit hf
 go_enter Tryz.func61, Tryz.ntmps61
 go_wp2_with fail
 refine HI.out.mono ?_
 rintro e w1 ⟨r, rfl, hr, hb⟩
 have HB := Lib.hid hb
 have HRR := Lib.hid hr
 clear hb hr
 go_wp2_with fail
 go_ret
 exact ⟨by rw [← HRR.out]; rfl, HB.out⟩
set_option maxRecDepth 100000 in
set_option maxHeartbeats 4000000 in
theorem memUn_any (x : List UInt8 × Dat) {xi xm : Value} {ok : Nat → Prop} {W : World} (hx : Rep W ok x.2 xi xm) (hf : ∀ (xi xm : Value) (W : World), Rep W ok x.2 xi xm → Calls Tryz.prog 34 #[.agg #[.int .i64 x.2.k, .int .i64 x.2.n, .string (S x.2.s), xi, xm]] W fun e w' => e = .returned (.bool (!lbD x.2)) ∧ Below W.heap.size W w') :
   Calls Tryz.prog 62 #[.agg #[.string (S x.1), .int .i64 x.2.k, .int .i64 x.2.n, .string (S x.2.s), xi, xm]] W fun e w' => e = .returned (.bool (x.1.isEmpty || !lbD x.2)) ∧ Below W.heap.size W w' := by
 obtain ⟨l, x⟩ := x
 simp only at hx hf ⊢
 have HR := Lib.hid hx
 have HF := Lib.hid hf
 clear hx hf
 have hN : Blk (W.alloc (.cells #[.string (S l), .int .i64 x.k, .int .i64 x.n, .string (S x.s), xi, xm] 64)) W.heap.size #[.string (S l), .int .i64 x.k, .int .i64 x.n, .string (S x.s), xi, xm] 64 := Blk.new W _ _
 have hB : Below W.heap.size W (W.alloc (.cells #[.string (S l), .int .i64 x.k, .int .i64 x.n, .string (S x.s), xi, xm] 64)) := (Below.refl _ _).alloc (Nat.le_refl _) _
 go_enter Tryz.func62, Tryz.ntmps62
 go_upto_region 1 with fail
 generalize W.alloc (.cells #[.string (S l), .int .i64 x.k, .int .i64 x.n, .string (S x.s), xi, xm] 64) = W1 at hN hB ⊢
 have n0 := hN.cell 0
 have n1 := hN.cell 1
 have n2 := hN.cell 2
 have n3 := hN.cell 3
 have n4 := hN.cell 4
 have n5 := hN.cell 5
 simp at n0 n1 n2 n3 n4 n5
 have hlw := hN.lt
 have HB := Lib.hid hB
 clear hN hB
 rcases Bool.eq_false_or_eq_true l.isEmpty with hl | hl
 · have hl0 : l = [] := by simpa using hl
   subst hl0
   go_wp2_with fail
   go_ret
   exact ⟨rfl, HB.out⟩
 · go_wp2_with fail
   refine (HF.out _ _ _ (HR.out.under HB.out)).mono ?_
   rintro e w1 ⟨rfl, hb⟩
   have HB1 := Lib.hid (HB.out.trans (hb.mono HB.out.size))
   clear hb
   go_wp2_with fail
   go_ret
   exact ⟨by first | rfl | (rw [hl]; rfl) | simp, HB1.out⟩
set_option maxRecDepth 100000 in
set_option maxHeartbeats 4000000 in
theorem unnamed_any (m : Nat) : ∀ (d : Dat), SizeOf.sizeOf d < m → ∀ (vi vm : Value) (ok : Nat → Prop) (w : World), limD d = true → Rep w ok d vi vm →
   Calls Tryz.prog 34 #[.agg #[.int .i64 d.k, .int .i64 d.n, .string (S d.s), vi, vm]] w fun e w' => e = .returned (.bool (!lbD d)) ∧ Below w.heap.size w w' := by
 induction m with
 | zero => intro d h; exact absurd h (Nat.not_lt_zero _)
 | succ m ih =>
   intro d hd vi vm ok w hlim hr
   obtain ⟨hl1, hl2, -⟩ := lim_len hlim
   have e1 : (!lbD d) = (d.its.any (fun x => !lbD x) || d.mem.any (fun p => p.1.isEmpty || !lbD p.2)) := by
     rw [lbD_eq, lbI_any, lbM_any]; cases d.its.any (fun x => !lbD x) <;> simp
   rw [e1]
   clear e1
   have HI := Lib.hid (fun w' (hb : Below w.heap.size w w') => by
     obtain ⟨p, cap, h1, -, hit⟩ := (hr.under hb).items
     have := hasData_any (w := w') (fun x => !lbD x) hl1 hit (fun x hx xi xm W hrx => ih x (Nat.lt_of_lt_of_le (dat_it hx) (Nat.le_of_lt_succ hd)) xi xm ok W (kid_lim hlim (List.mem_append_left _ hx)) hrx)
     rw [← h1] at this
     exact this)
   have HM := Lib.hid (fun w' (hb : Below w.heap.size w w') => by
     obtain ⟨p, cap, h1, -, hit⟩ := (hr.under hb).members
     have := hasMember_any (w := w') (fun p => p.1.isEmpty || !lbD p.2) hl2 hit (fun x hx xi xm W hrx => memUn_any x hrx (fun yi ym W' hry => ih x.2 (Nat.lt_of_lt_of_le (dat_mg hx) (Nat.le_of_lt_succ hd)) yi ym ok W' (kid_lim hlim (List.mem_append_right _ (List.mem_map_of_mem hx))) hry))
     rw [← h1] at this
     exact this)
   clear hr hlim ih hd hl1 hl2
   generalize d.its.any (fun x => !lbD x) = b at HI ⊢
   generalize d.mem.any (fun p => p.1.isEmpty || !lbD p.2) = c at HM ⊢
   have hS : CkS w.heap.size w d vi vm (w.alloc (.cells #[.int .i64 d.k, .int .i64 d.n, .string (S d.s), vi, vm] 26)) := CkS.new w d _ _
   go_enter Tryz.func34, Tryz.ntmps34
   go_upto_region 1 with fail
   generalize w.alloc (.cells #[.int .i64 d.k, .int .i64 d.n, .string (S d.s), vi, vm] 26) = W at hS ⊢
   obtain ⟨-, -, -, c3, c4, hlw⟩ := hS.cells
   have HS := Lib.hid hS
   clear hS
   go_wp2_with fail
   refine (HI.out _ HS.out.2).mono ?_
   rintro e w1 ⟨rfl, hb⟩
   have HS1 := Lib.hid (HS.out.below hb)
   clear hb HS c3 c4 hlw HI
   obtain ⟨-, -, -, c3, c4, hlw⟩ := HS1.out.cells
   rcases Bool.eq_false_or_eq_true b with rfl | rfl
   · go_wp2_with fail
     go_ret
     exact ⟨rfl, HS1.out.2⟩
   · go_wp2_with fail
     refine (HM.out _ HS1.out.2).mono ?_
     rintro e w2 ⟨rfl, hb⟩
     have HB := Lib.hid (HS1.out.below hb).2
     clear hb
     go_wp2_with fail
     go_ret
     exact ⟨by simp, HB.out⟩
end
section
open Go.RowKit
theorem leafB_eq (d : Dat) : leafB d = (decide (chk d 1 = 0) && ((d.its.length : Int) + (d.mem.length : Int) == 0)) := by
 unfold leafB
 cases d.its with
 | nil => cases d.mem with
   | nil => simp
   | cons y t => simp; intro _; omega
 | cons x r => simp; intro _; omega
theorem leafP_any {d : Dat} {vi vm : Value} {ok : Nat → Prop} {w : World} (hr : Rep w ok d vi vm) (hlim : limD d = true) : Calls Tryz.prog 67 #[.agg #[.int .i64 d.k, .int .i64 d.n, .string (S d.s), vi, vm]] w fun e w' => e = .returned (.bool (leafB d)) ∧ Below w.heap.size w w' := by
 have HW := Lib.hid (fun w' (hb : Below w.heap.size w w') => Check_any (hr.under hb) hlim)
 obtain ⟨hl1, hl2, -⟩ := lim_len hlim
 obtain ⟨p, cap, rfl, -, -⟩ := hr.items
 obtain ⟨q, caq, rfl, -, -⟩ := hr.members
 clear hr hlim
 have HC := Lib.hid (leafB_eq d)
 generalize leafB d = r at HC ⊢
 have ec : decide (chk d 1 = 0) = (((chk d 1 : Nat) : Int) == 0) := by rw [Bool.eq_iff_iff]; simp
 rw [ec] at HC
 clear ec
 generalize ((chk d 1 : Nat) : Int) = c at HC HW
 have hS : CkS w.heap.size w d (.slice p d.its.length cap) (.slice q d.mem.length caq) (w.alloc (.cells #[.int .i64 d.k, .int .i64 d.n, .string (S d.s), .slice p d.its.length cap, .slice q d.mem.length caq] 26)) := CkS.new w d _ _
 go_enter Tryz.func67, Tryz.ntmps67
 go_upto_region 1 with fail
 generalize w.alloc (.cells #[.int .i64 d.k, .int .i64 d.n, .string (S d.s), .slice p d.its.length cap, .slice q d.mem.length caq] 26) = W at hS ⊢
 obtain ⟨c0, c1, c2, c3, c4, hlw⟩ := hS.cells
 have HS0 := Lib.hid hS
 clear hS
 go_wp2_with fail
 refine (HW.out _ HS0.out.2).mono ?_
 rintro e w1 ⟨rfl, hb⟩
 have hS := HS0.out.below hb
 clear hb HS0 c0 c1 c2 c3 c4 hlw
 obtain ⟨-, -, -, c3, c4, hlw⟩ := hS.cells
 have HB := Lib.hid hS.2
 clear hS
 rcases Bool.eq_false_or_eq_true (c == 0) with hc | hc
 · have HC1 := Lib.hid (show r = ((d.its.length : Int) + (d.mem.length : Int) == 0) by rw [HC.out, hc]; rfl)
   go_wp2_with fail
   go_ret
   exact ⟨by rw [HC1.out]; rfl, HB.out⟩
 · have HC1 := Lib.hid (show r = false by rw [HC.out, hc]; rfl)
   go_wp2_with fail
   go_ret
   exact ⟨by rw [HC1.out]; rfl, HB.out⟩
theorem own1 {α : Type} {W : World} {base : Nat} {e : TypeId} {v : Value} {T : List α} {f : α → Value} (h : W.ownsRow base e 1 v T.length (T.map f)) :
   ∃ p cap B, v = .slice p T.length cap ∧ ∀ (j : Nat) (h : j < T.length), p = some ⟨B, 0, none⟩ ∧ T.length ≤ cap ∧ base ≤ B ∧ B < W.heap.size ∧ W.cell? ⟨B, j, none⟩ = some (f T[j]) := by
 rcases own_head h with ⟨rfl, h0⟩ | ⟨g, cap, rfl, hb, hc, hg, -⟩
 · exact ⟨none, 0, 0, by rw [h0], fun j h => by omega⟩
 · refine ⟨_, cap, g, rfl, fun j h' => ⟨rfl, hc, hb, hg, ?_⟩⟩
   have c0 := h.cells (g := g) rfl j (f T[j]) (by simp [h'])
   rw [Lib.add_plain, Nat.zero_add] at c0
   exact c0
theorem leaf_at {d : Dat} (hc : chk d 1 = 0) (hb : lbD d = true) (hl : limD d = true) {p : List Stp} (hp : p ∈ lvD d) : ∃ x, getD d p = some x ∧ leafB x = true ∧ okL p = true := by
 have h := ents_kind (SizeOf.sizeOf d + 1) d 0 (Nat.lt_succ_self _) hc hb hl (p, (getD d p).getD dat0) (List.mem_map.2 ⟨p, hp, rfl⟩)
 cases hg : getD d p with
 | none =>
   rw [hg] at h
   exact absurd h.2 (show ¬ leafB dat0 = true by decide)
 | some x => rw [hg] at h; exact ⟨x, rfl, h.2, h.1⟩
def FlatP (w : World) (r : List Ent × Nat) (e : Ending) (w' : World) : Prop :=
 ∃ (v : Value) (T : List Env), e = .returned (.tuple #[v, .int .i64 (r.2 : Int)]) ∧ w'.ownsRow w.heap.size 42 6 v T.length (flatE T) ∧ T.map Env.e = r.1 ∧ (∀ t ∈ T, t.good w' (fun B => w.heap.size ≤ B)) ∧ Below w.heap.size w w'
theorem FlatP.nil {w w' : World} {n : Nat} (hb : Below w.heap.size w w') : FlatP w ([], n) (.returned (.tuple #[.slice none 0 0, .int .i64 (n : Int)])) w' :=
 ⟨_, [], rfl, World.ownsRow_nil _ _ _ _, rfl, by simp, hb⟩
def mkE (d : Dat) (t : List Stp × Value) : Env := ⟨t.1, (getD d t.1).getD dat0, t.2, .slice none 0 0, .slice none 0 0⟩
set_option maxRecDepth 100000 in
set_option maxHeartbeats 4000000 in
theorem Flatten_any {d : Dat} {vi vm : Value} {ok : Nat → Prop} {w : World} (hr : Rep w ok d vi vm) (hlim : limD d = true) (hn : (lvD d).length ≤ 1000000) :
   Calls Tryz.prog 15 #[.agg #[.int .i64 d.k, .int .i64 d.n, .string (S d.s), vi, vm]] w (FlatP w (flatD d)) := by
 obtain ⟨i0, hi, hz0, hz1, hz2⟩ := info_parts infoEnt
 obtain ⟨r, hrr⟩ : ∃ r, flatD d = r := ⟨_, rfl⟩
 rw [hrr]
 have HR := Lib.hid hrr
 have HREP := Lib.hid hr
 have HLIM := Lib.hid hlim
 have HNL := Lib.hid hn
 have HCK := Lib.hid (fun w' (hb : Below w.heap.size w w') => (Check_any (hr.under hb) hlim))
 clear hrr hr hlim hn
 go_enter Tryz.func15, Tryz.ntmps15
 go_upto_region 1 with fail
 have hS : CkS w.heap.size w d vi vm (w.alloc (.cells #[.int .i64 d.k, .int .i64 d.n, .string (S d.s), vi, vm] 26)) := CkS.new w d _ _
 generalize w.alloc (.cells #[.int .i64 d.k, .int .i64 d.n, .string (S d.s), vi, vm] 26) = W at hS ⊢
 obtain ⟨c0, c1, c2, c3, c4, hlw⟩ := hS.cells
 have HS := Lib.hid hS
 clear hS
 go_wp2_with fail
 refine (HCK.out _ HS.out.2).mono ?_
 rintro e w1 ⟨rfl, hb⟩
 have hS1 := HS.out.below hb
 clear hb HS c0 c1 c2 c3 c4 hlw HCK
 obtain ⟨c0, c1, c2, c3, c4, hlw⟩ := hS1.cells
 have HS1 := Lib.hid hS1
 clear hS1
 rcases Nat.eq_zero_or_pos (chk d 1) with hc | hc
 case inr =>
   have HV := Lib.hid (show r = ([], chk d 1) by rw [← HR.out]; unfold flatD; rw [if_pos (by omega)])
   generalize chk d 1 = z at hc HV ⊢
   have ez : ((z : Int) == 0) = false := beq_eq_false_iff_ne.2 (by omega)
   have ez' : ((z : Int) != 0) = true := by simpa using (by omega : ¬ z = 0)
   go_wp2_with fail
   go_ret2
   rw [HV.out]
   exact FlatP.nil HS1.out.2
 rw [hc]
 have HC := Lib.hid hc
 clear hc
 go_wp2_with fail
 refine (unnamed_any (SizeOf.sizeOf d + 1) d (Nat.lt_succ_self _) vi vm ok _ HLIM.out (HREP.out.under HS1.out.2)).mono ?_
 rintro e w2 ⟨rfl, hb⟩
 have hS2 := HS1.out.below hb
 clear hb HS1 c0 c1 c2 c3 c4 hlw
 obtain ⟨c0, c1, c2, c3, c4, hlw⟩ := hS2.cells
 have HS2 := Lib.hid hS2
 clear hS2
 rcases Bool.eq_false_or_eq_true (lbD d) with hlb | hlb
 case inr =>
   rw [hlb]
   have HV := Lib.hid (show r = ([], 5) by rw [← HR.out]; unfold flatD; rw [if_neg (by rw [HC.out]; decide), if_pos hlb])
   clear hlb
   go_wp2_with fail
   go_ret2
   rw [HV.out]
   exact FlatP.nil HS2.out.2
 rw [hlb]
 have HV := Lib.hid (show r = (entsD d, 0) by rw [← HR.out]; unfold flatD; rw [if_neg (by rw [HC.out]; decide), if_neg (by rw [hlb]; decide)])
 have HLA := Lib.hid (fun (p : List Stp) (hp : p ∈ lvD d) => leaf_at HC.out hlb HLIM.out hp)
 clear hlb HR
 go_wp2_with fail
 refine (Leaves_any (HREP.out.under HS2.out.2) HLIM.out HC.out HNL.out).mono ?_
 rintro e w3 ⟨v, T, rfl, hown, hT, hsl, hb⟩
 have hS3 := HS2.out.below hb
 obtain ⟨p, cap, B, rfl, hcell⟩ := own1 hown
 have hTl : T.length ≤ 1000000 := by have := HNL.out; rw [← hT] at this; simpa using this
 have HT := Lib.hid hT
 have HSL := Lib.hid hsl
 have HCE := Lib.hid hcell
 have HSZ := Lib.hid (Nat.le_trans HS2.out.2.size hb.size)
 have HSZ2 := Lib.hid HS2.out.2.size
 clear c0 c1 c2 c3 c4 hlw hown hT hsl hb hcell HS2
 have HS3 := Lib.hid hS3
 clear hS3
 go_wp2_with fail
 go_loopw [5, 20] (fun u x wr => ∃ (i : Nat), x = .int .i64 (i : Int) ∧ i ≤ T.length ∧ Hid (Below w3.heap.size w3 wr) ∧ Hid (wr.ownsRow w3.heap.size 42 6 u ((T.take i).map (mkE d)).length (flatE ((T.take i).map (mkE d))))) (fun _ x _ => T.length - (intOf x).toNat)
 case atStart => exact ⟨0, rfl, Nat.zero_le _, Lib.hid (Below.refl _ _), Lib.hid (World.ownsRow_nil _ _ _ _)⟩
 case round =>
   obtain ⟨i, rfl, hi', HB, HO⟩ := hrel
   obtain ⟨up, uc, rfl⟩ := own_form5 HO.out
   by_cases hlt : i < T.length
   · obtain ⟨rfl, hcap, hB0, hB, hc⟩ := HCE.out i hlt
     have k0 := (HB.out.cell (p := ⟨B, i, none⟩) hB).trans hc
     have hmem : T[i].1 ∈ lvD d := by rw [← HT.out]; exact List.mem_map_of_mem (List.getElem_mem hlt)
     obtain ⟨x, hx1, hx2, -⟩ := HLA.out _ hmem
     have HX1 := Lib.hid hx1
     have HX2 := Lib.hid hx2
     have HSi := Lib.hid (HSL.out _ (List.getElem_mem hlt))
     have HTI := Lib.hid (show (T.take (i + 1)).map (mkE d) = (T.take i).map (mkE d) ++ [mkE d T[i]] by rw [List.take_succ_eq_append_getElem hlt, List.map_append]; rfl)
     have hlen : ((T.take i).map (mkE d)).length = i := by simp; omega
     have HLEN := Lib.hid hlen
     have HPL : Hid (T[i].1.length ≤ 1000000) := Lib.hid (by
       have := path_len (SizeOf.sizeOf d + 1) d 1 (Nat.lt_succ_self _) HC.out _ hmem
       omega)
     clear hc hmem hx1 hx2
     generalize T[i] = t at k0 HX1 HX2 HSi HTI HPL
     obtain ⟨P, pv⟩ := t
     simp only at k0 HX1 HX2 HSi HTI HPL
     obtain ⟨pp, pc, rfl⟩ := slk_form HSi.out
     obtain ⟨c0, c1, c2, c3, c4, hlw⟩ := (show CkS w.heap.size w d vi vm wr from ⟨HS3.out.1.underB HB.out HS3.out.1.lt, HS3.out.2.trans (HB.out.mono HS3.out.2.size)⟩).cells
     have HBW := Lib.hid (HS3.out.2.trans (HB.out.mono HS3.out.2.size))
     have hlf := leaf_iff.1 HX2.out
     have HPX := Lib.hid (own_zero (chk_zero.1 hlf.1).2.1).1
     have HLX := Lib.hid hlf.2
     clear hlf
     generalize ((T.take i).map (mkE d)).length = n at hlen HO
     subst hlen
     go_wp2_with fail
     refine (Get_any (HREP.out.under HBW.out) (HSi.out.under (HB.out)) HPL.out HC.out HLIM.out HX1.out ⟨HPX.out, HLX.out.1, HLX.out.2⟩).mono ?_
     rintro e w4 ⟨rfl, hb⟩
     have HB4 := Lib.hid (HB.out.trans (hb.mono HB.out.size))
     have HO4 := Lib.hid (own_under HO.out hb)
     clear hb c0 c1 c2 c3 c4 hlw k0 HO HB
     simp only [dv]
     go_wp2_with (at_builtin; refine wpList_append_own _ rfl _ _ 37 rfl w3.heap.size 42 i0 (.agg #[.slice none 0 0, .int .i64 0, .int .i64 0, .string ⟨#[]⟩, .slice none 0 0, .slice none 0 0]) 6 104 Tryz.underlying37 hi hz0 hz1 hz2 rfl (by decide) (.slice up n uc) n (flatE ((T.take n).map (mkE d))) rfl ((HO4.out.alloc _).alloc _) ⟨w4.heap.size + 1, 0, none⟩ 1 1 [.slice pp P.length pc, .int .i64 x.k, .int .i64 x.n, .string (S x.s), .slice none 0 0, .slice none 0 0] rfl rfl (cells_new_at (by simp) rfl) (by simp [Value.oneCell']) (by unfold maxLen; omega) (by omega) (by have := HB4.out.size; simp; omega) ?_; intro v' w5 hown5 hgrow _)
     have HB5 := Lib.hid (below_own (below_al1 (below_al1 HB4.out (Nat.le_refl _) _) (Nat.le_refl _) _) ((HO4.out.alloc _).alloc _) hgrow (Nat.le_refl _) ((below_al1 (below_al1 HB4.out (Nat.le_refl _) _) (Nat.le_refl _) _).size))
     have HO5 : Hid (w5.ownsRow w3.heap.size 42 6 v' ((T.take (n + 1)).map (mkE d)).length (flatE ((T.take (n + 1)).map (mkE d)))) := Lib.hid (by
       rw [HTI.out, flatE_snoc, List.length_append, HLEN.out]
       have : cellsE (mkE d (P, .slice pp P.length pc)) = [.slice pp P.length pc, .int .i64 x.k, .int .i64 x.n, .string (S x.s), .slice none 0 0, .slice none 0 0] := by
         unfold cellsE mkE
         simp only [HX1.out, Option.getD_some]
       rw [this]
       exact hown5)
     clear hown5 hgrow HO4 HB4
     go_wp2_with fail
     go_roundw
     case rel => exact ⟨n + 1, by go_num, hlt, HB5, HO5⟩
     case measure => simp [intOf]; omega
   · have hil : T.take i = T := by rw [List.take_of_length_le (by omega)]
     have HO2 : wr.ownsRow w3.heap.size 42 6 (.slice up ((T.take i).map (mkE d)).length uc) ((T.take i).map (mkE d)).length (flatE (T.map (mkE d))) := by
       have h := HO.out
       rw [hil] at h ⊢
       exact h
     have HBW := HS3.out.2.trans (HB.out.mono HS3.out.2.size)
     have HFIN : Hid (∀ v, wr.ownsRow w3.heap.size 42 6 v ((T.take i).map (mkE d)).length (flatE (T.map (mkE d))) → FlatP w r (.returned (.tuple #[v, .int .i64 0])) wr) := Lib.hid (fun v hv => by
       rw [HV.out]
       rw [hil] at hv
       refine ⟨v, T.map (mkE d), rfl, own_less hv HSZ.out, ?_, ?_, HBW⟩
       · unfold entsD
         rw [← HT.out, List.map_map, List.map_map]; rfl
       · intro t ht
         obtain ⟨q, hq, rfl⟩ := List.mem_map.1 ht
         have hmem : q.1 ∈ lvD d := by rw [← HT.out]; exact List.mem_map_of_mem hq
         obtain ⟨x, hx1, hx2, -⟩ := HLA.out _ hmem
         obtain ⟨-, l1, l2⟩ := leaf_iff.1 hx2
         refine ⟨((HSL.out q hq).under HB.out).mono fun B _ hB => Nat.le_trans HSZ2.out hB, ?_⟩
         show Rep wr _ ((getD d q.1).getD dat0) (.slice none 0 0) (.slice none 0 0)
         rw [hx1]
         exact rep_leaf wr _ l1 l2 _ _ _ _)
     have HOF := Lib.hid HO2
     clear HO2 HBW hil HO
     generalize ((T.take i).map (mkE d)).length = n at *
     go_wp2_with fail
     go_ret2
     exact HFIN.out _ HOF.out
end
section
open Go.RowKit
def cmpB (a b : List UInt8) : Int := if Op.bytesLess a b then -1 else if a = b then 0 else 1
def cmpI (x y : Int) : Int := if x < y then -1 else if y < x then 1 else 0
theorem isNaNs_any (s : ByteArray) (w : World) : Calls Tryz.prog 150 #[.string s] w fun e w' => e = .returned (.bool false) ∧ w' = w := by
 go_enter Tryz.func150, Tryz.ntmps150
 go_wp2_with fail
 go_ret
 exact ⟨by simp, rfl⟩
theorem isNaNi_any (x : Int) (w : World) : Calls Tryz.prog 161 #[.int .i64 x] w fun e w' => e = .returned (.bool false) ∧ w' = w := by
 go_enter Tryz.func161, Tryz.ntmps161
 go_wp2_with fail
 go_ret
 exact ⟨by simp, rfl⟩
theorem cmpStr_any (a b : List UInt8) (w : World) : Calls Tryz.prog 110 #[.string (S a), .string (S b)] w fun e w' => e = .returned (.int .i64 (cmpB a b)) ∧ w' = w := by
 have HC : Hid (cmpB a b = if Op.bytesLess a b then -1 else if a = b then 0 else 1) := Lib.hid rfl
 generalize cmpB a b = r at HC ⊢
 rcases bool_two (Op.bytesLess a b) with h1 | h1
 · have H1 := Lib.hid h1
   by_cases h2 : a = b
   · have H2 := Lib.hid h2
     have h3 : (a == b) = true := by simpa using h2
     clear h2
     go_enter Tryz.func110, Tryz.ntmps110
     go_wp2_with (go_at_call 150; refine (isNaNs_any _ _).mono ?_; rintro e w' ⟨rfl, rfl⟩)
     go_ret
     exact ⟨ret_i64 (by rw [HC.out, H1.out, if_neg (by decide), if_pos H2.out]), rfl⟩
   · have H2 := Lib.hid h2
     have h3 : (a == b) = false := by simpa using h2
     clear h2
     go_enter Tryz.func110, Tryz.ntmps110
     go_wp2_with (go_at_call 150; refine (isNaNs_any _ _).mono ?_; rintro e w' ⟨rfl, rfl⟩)
     go_ret
     exact ⟨ret_i64 (by rw [HC.out, H1.out, if_neg (by decide), if_neg H2.out]), rfl⟩
 · have H1 := Lib.hid h1
   go_enter Tryz.func110, Tryz.ntmps110
   go_wp2_with (go_at_call 150; refine (isNaNs_any _ _).mono ?_; rintro e w' ⟨rfl, rfl⟩)
   go_ret
   exact ⟨ret_i64 (by rw [HC.out, H1.out, if_pos rfl]), rfl⟩
theorem cmpInt_any (x y : Int) (w : World) : Calls Tryz.prog 114 #[.int .i64 x, .int .i64 y] w fun e w' => e = .returned (.int .i64 (cmpI x y)) ∧ w' = w := by
 have HC : Hid (cmpI x y = if x < y then -1 else if y < x then 1 else 0) := Lib.hid rfl
 generalize cmpI x y = r at HC ⊢
 by_cases h1 : x < y
 · go_enter Tryz.func114, Tryz.ntmps114
   go_wp2_with (go_at_call 161; refine (isNaNi_any _ _).mono ?_; rintro e w' ⟨rfl, rfl⟩)
   go_ret
   exact ⟨ret_i64 (by rw [HC.out, if_pos (by omega)]), rfl⟩
 · by_cases h2 : y < x
   · go_enter Tryz.func114, Tryz.ntmps114
     go_wp2_with (go_at_call 161; refine (isNaNi_any _ _).mono ?_; rintro e w' ⟨rfl, rfl⟩)
     go_ret
     exact ⟨ret_i64 (by rw [HC.out, if_neg (by omega), if_pos (by omega)]), rfl⟩
   · go_enter Tryz.func114, Tryz.ntmps114
     go_wp2_with (go_at_call 161; refine (isNaNi_any _ _).mono ?_; rintro e w' ⟨rfl, rfl⟩)
     go_ret
     exact ⟨ret_i64 (by rw [HC.out, if_neg (by omega), if_neg (by omega)]), rfl⟩
theorem Or_any (B : Nat) (x y : Int) (w : World) (h0 : w.cell? ⟨B, 0, none⟩ = some (.int .i64 x)) (h1 : w.cell? ⟨B, 1, none⟩ = some (.int .i64 y)) : Calls Tryz.prog 113 #[.slice (some ⟨B, 0, none⟩) 2 2] w fun e w' => e = .returned (.int .i64 (if x ≠ 0 then x else y)) ∧ w' = w := by
 obtain ⟨r, hr⟩ : ∃ r, (if x ≠ 0 then x else y) = r := ⟨_, rfl⟩
 rw [hr]
 have HC := Lib.hid hr
 clear hr
 go_enter Tryz.func113, Tryz.ntmps113
 go_wp2_with fail
 go_loop [8] (fun v => v = .int .i64 0 ∨ (v = .int .i64 1 ∧ Hid (x = 0)) ∨ (v = .int .i64 2 ∧ Hid (x = 0 ∧ y = 0))) (fun v => 3 - (intOf v).toNat)
 case atStart => exact .inl rfl
 case round =>
   rcases hrel with rfl | ⟨rfl, HX⟩ | ⟨rfl, HX⟩
   · by_cases hx : x = 0
     · have h2 : (x == 0) = true := by simpa using hx
       have h2' : (x != 0) = false := by simpa using hx
       have HX := Lib.hid hx
       clear hx
       go_wp2_with fail
       go_round
       case rel => exact .inr (.inl ⟨rfl, HX⟩)
       case measure => simp [intOf]
     · have h2 : (x == 0) = false := by simpa using hx
       have h2' : (x != 0) = true := by simpa using hx
       go_wp2_with fail
       go_ret
       exact ⟨ret_i64 (by rw [← HC.out, if_pos hx]), rfl⟩
   · by_cases hy : y = 0
     · have h2 : (y == 0) = true := by simpa using hy
       have h2' : (y != 0) = false := by simpa using hy
       have HY := Lib.hid hy
       clear hy
       go_wp2_with fail
       go_round
       case rel => exact .inr (.inr ⟨rfl, Lib.hid ⟨HX.out, HY.out⟩⟩)
       case measure => simp [intOf]
     · have h2 : (y == 0) = false := by simpa using hy
       have h2' : (y != 0) = true := by simpa using hy
       go_wp2_with fail
       go_ret
       exact ⟨ret_i64 (by rw [← HC.out, if_neg (fun h => h HX.out)]), rfl⟩
   · go_wp2_with fail
     go_ret
     exact ⟨ret_i64 (by rw [← HC.out, if_neg (fun h => h HX.out.1), HX.out.2]), rfl⟩
theorem sign_any (b : Bool) (w : World) : Calls Tryz.prog 211 #[.bool b] w fun e w' => e = .returned (.int .i64 (if b then -1 else 1)) ∧ w' = w := by
 rcases bool_two b with rfl | rfl
 all_goals
   go_enter Tryz.func211, Tryz.ntmps211
   go_wp2_with fail
   go_ret
   exact ⟨rfl, rfl⟩
theorem one_ways (x y : Stp) : (x.lab.isEmpty = true ∧ y.lab.isEmpty = false ∧ oneS x y = 1) ∨ (x.lab.isEmpty = false ∧ y.lab.isEmpty = true ∧ oneS x y = -1) ∨
   (x.lab.isEmpty = y.lab.isEmpty ∧ (x.lab == y.lab) = false ∧ oneS x y = if Op.bytesLess x.lab y.lab then -1 else 1) ∨
   (x.lab.isEmpty = y.lab.isEmpty ∧ (x.lab == y.lab) = true ∧ (x.idx == y.idx) = false ∧ oneS x y = if decide (x.idx < y.idx) then -1 else 1) ∨
   (x.lab.isEmpty = y.lab.isEmpty ∧ (x.lab == y.lab) = true ∧ (x.idx == y.idx) = true ∧ x = y) := by
 obtain ⟨l, i⟩ := x
 obtain ⟨m, k⟩ := y
 unfold oneS
 cases l with
 | nil => cases m with
   | nil => by_cases h : i = k <;> simp [h]
   | cons c t => simp
 | cons c t => cases m with
   | nil => simp
   | cons d u =>
     by_cases h1 : c :: t = d :: u
     · by_cases h : i = k <;> simp [h1, h]
     · have h2 : (c :: t == d :: u) = false := by rw [beq_eq_false_iff_ne]; exact h1
       have h3 : ¬ ((⟨c :: t, i⟩ : Stp) = ⟨d :: u, k⟩) := fun e => h1 (by injection e)
       simp only [h2, h3, if_false, List.isEmpty_cons, true_and, ne_eq, reduceCtorEq, not_false_eq_true, and_false, false_and, h1, if_true, or_false, false_or]
set_option maxHeartbeats 1000000 in
theorem one_any (l m : List UInt8) (i k : Int) (w : World) : Calls Tryz.prog 210 #[stv ⟨l, i⟩, stv ⟨m, k⟩] w fun e w' => e = .returned (.int .i64 (oneS ⟨l, i⟩ ⟨m, k⟩)) ∧ Below w.heap.size w w' := by
 obtain ⟨r, hr⟩ : ∃ r, oneS ⟨l, i⟩ ⟨m, k⟩ = r := ⟨_, rfl⟩
 have hz := oneS_zero ⟨l, i⟩ ⟨m, k⟩
 have hw := one_ways ⟨l, i⟩ ⟨m, k⟩
 rw [hr] at hw hz ⊢
 clear hr
 obtain ⟨p, hp⟩ : ∃ p, l.isEmpty = p := ⟨_, rfl⟩
 obtain ⟨q, hq⟩ : ∃ q, m.isEmpty = q := ⟨_, rfl⟩
 simp only [hp, hq] at hw
 rcases hw with ⟨rfl, rfl, rfl⟩ | ⟨rfl, rfl, rfl⟩ | ⟨rfl, h1, rfl⟩ | ⟨rfl, h1, h2, rfl⟩ | ⟨rfl, h1, h2, h3⟩
 · clear hz
   go_enter Tryz.func210, Tryz.ntmps210
   go_wp2_with (go_at_call 211; refine (sign_any _ _).mono ?_; rintro e w' ⟨rfl, rfl⟩)
   go_ret
   exact ⟨ret_i64 (by simp), by go_grown⟩
 · clear hz
   go_enter Tryz.func210, Tryz.ntmps210
   go_wp2_with (go_at_call 211; refine (sign_any _ _).mono ?_; rintro e w' ⟨rfl, rfl⟩)
   go_ret
   exact ⟨ret_i64 (by simp), by go_grown⟩
 · clear hz
   have h1' : (l != m) = true := by rw [bne, h1]; rfl
   rcases bool_two p with rfl | rfl <;> rcases bool_two (Op.bytesLess l m) with hb | hb
   all_goals
     simp only [hb, if_true, if_false, Bool.false_eq_true]
     go_enter Tryz.func210, Tryz.ntmps210
     go_wp2_with (go_at_call 211; refine (sign_any _ _).mono ?_; rintro e w' ⟨rfl, rfl⟩)
     go_ret
     exact ⟨ret_i64 (by simp), by go_grown⟩
 · clear hz
   have h1' : (l != m) = false := by rw [bne, h1]; rfl
   have h2' : (i != k) = true := by rw [bne, h2]; rfl
   rcases bool_two p with rfl | rfl <;> by_cases hb : i < k
   all_goals
     simp only [hb, decide_true, decide_false, if_true, if_false, Bool.false_eq_true]
     go_enter Tryz.func210, Tryz.ntmps210
     go_wp2_with (go_at_call 211; refine (sign_any _ _).mono ?_; rintro e w' ⟨rfl, rfl⟩)
     go_ret
     exact ⟨ret_i64 (by simp), by go_grown⟩
 · have hr : r = 0 := hz.2 h3
   subst hr
   clear h3 hz
   have h1' : (l != m) = false := by rw [bne, h1]; rfl
   have h2' : (i != k) = false := by rw [bne, h2]; rfl
   rcases bool_two p with rfl | rfl
   all_goals
     go_enter Tryz.func210, Tryz.ntmps210
     go_wp2_with (go_at_call 211; refine (sign_any _ _).mono ?_; rintro e w' ⟨rfl, rfl⟩)
     go_ret
     exact ⟨rfl, by go_grown⟩
theorem SlS.open {W : World} {v : Value} {L : List Stp} (h : SlS W v L) : ∃ p cap, v = .slice p L.length cap ∧ ∀ j (hj : j < L.length), ∃ B o, p = some ⟨B, o, none⟩ ∧ L.length ≤ cap ∧ B < W.heap.size ∧ W.cell? ⟨B, o + j * 2, none⟩ = some (.string (S L[j].lab)) ∧ W.cell? ⟨B, o + j * 2 + 1, none⟩ = some (.int .i64 L[j].idx) := by
 rcases h with ⟨⟨p0, cap0, rfl⟩, rfl⟩ | ⟨B, o, cap, rfl, hc, hB, hx⟩
 · exact ⟨p0, cap0, rfl, fun j hj => by simp at hj⟩
 · exact ⟨_, cap, rfl, fun j hj => ⟨B, o, rfl, hc, hB, (hx j _ (List.getElem?_eq_getElem hj)).1, (hx j _ (List.getElem?_eq_getElem hj)).2⟩⟩
theorem cmpS_drop (L M : List Stp) (j : Nat) (h1 : j < L.length) (h2 : j < M.length) : cmpS (L.drop j) (M.drop j) = if L[j] = M[j] then cmpS (L.drop (j + 1)) (M.drop (j + 1)) else oneS L[j] M[j] := by
 rw [List.drop_eq_getElem_cons h1, List.drop_eq_getElem_cons h2, cmpS]
theorem cmpS_end (L M : List Stp) (j : Nat) (h1 : j ≤ L.length) (h2 : j ≤ M.length) (h : ¬ (j < L.length ∧ j < M.length)) : cmpS (L.drop j) (M.drop j) = cmpI L.length M.length := by
 unfold cmpI
 by_cases hl : j < L.length
 · have hm : M.length ≤ j := by omega
   rw [List.drop_eq_getElem_cons hl, List.drop_eq_nil_of_le hm, cmpS, if_neg (by omega), if_pos (by omega)]
 · rw [List.drop_eq_nil_of_le (by omega)]
   by_cases hm : j < M.length
   · rw [List.drop_eq_getElem_cons hm, cmpS, if_pos (by omega)]
   · rw [List.drop_eq_nil_of_le (by omega), cmpS, if_neg (by omega), if_neg (by omega)]
theorem keepQ {w W w1 : World} {B1 B2 o1 o2 o3 o4 : Nat} {v0 v1 v2 v3 : Value} (h1 : B1 < w.heap.size) (h2 : B2 < w.heap.size) (hb : Below W.heap.size W w1)
   (h : W.cell? ⟨B1, o1, none⟩ = some v0 ∧ W.cell? ⟨B1, o2, none⟩ = some v1 ∧ W.cell? ⟨B2, o3, none⟩ = some v2 ∧ W.cell? ⟨B2, o4, none⟩ = some v3 ∧ Below w.heap.size w W) :
   w1.cell? ⟨B1, o1, none⟩ = some v0 ∧ w1.cell? ⟨B1, o2, none⟩ = some v1 ∧ w1.cell? ⟨B2, o3, none⟩ = some v2 ∧ w1.cell? ⟨B2, o4, none⟩ = some v3 ∧ Below w.heap.size w w1 := by
 obtain ⟨c0, c1, c2, c3, hB⟩ := h
 have hs := hB.size
 have hc : ∀ b o, b < W.heap.size → w1.cell? ⟨b, o, none⟩ = W.cell? ⟨b, o, none⟩ := fun b o h => hb.cell (p := ⟨b, o, none⟩) h
 exact ⟨(hc _ _ (by omega)).trans c0, (hc _ _ (by omega)).trans c1, (hc _ _ (by omega)).trans c2, (hc _ _ (by omega)).trans c3, hB.trans (hb.mono hs)⟩
set_option maxHeartbeats 2000000 in
theorem refCompare_any (v u : Value) (L M : List Stp) (w : World) (hv : SlS w v L) (hu : SlS w u M) (hL : L.length ≤ 1000000) (hM : M.length ≤ 1000000) : Calls Tryz.prog 163 #[v, u] w fun e w' => e = .returned (.int .i64 (cmpS L M)) ∧ Below w.heap.size w w' := by
 obtain ⟨r, hr⟩ : ∃ r, cmpS L M = r := ⟨_, rfl⟩
 rw [hr]
 have HR := Lib.hid (show cmpS (L.drop 0) (M.drop 0) = r from hr)
 clear hr
 obtain ⟨p, cap, rfl, hp⟩ := hv.open
 obtain ⟨q, caq, rfl, hq⟩ := hu.open
 have HP := Lib.hid hp
 have HQ := Lib.hid hq
 clear hp hq hv hu
 go_enter Tryz.func163, Tryz.ntmps163
 go_wp2_with fail
 go_loopw [5] (fun i wr => ∃ j : Nat, i = .int .i64 (j : Int) ∧ j ≤ L.length ∧ j ≤ M.length ∧ Hid (cmpS (L.drop j) (M.drop j) = r ∧ Below w.heap.size w wr)) (fun i _ => L.length - (intOf i).toNat)
 case atStart => exact ⟨0, rfl, Nat.zero_le _, Nat.zero_le _, Lib.hid ⟨HR.out, Below.refl _ _⟩⟩
 case round =>
   obtain ⟨j, rfl, hj, hk, HW⟩ := hrel
   by_cases hlt : j < L.length ∧ j < M.length
   · obtain ⟨hl, hm⟩ := hlt
     obtain ⟨B1, o1, rfl, hc1, hB1, c0, c1⟩ := HP.out j hl
     obtain ⟨B2, o2, rfl, hc2, hB2, d0, d1⟩ := HQ.out j hm
     have HN := Lib.hid (cmpS_drop L M j hl hm)
     obtain ⟨⟨lx, ix⟩, hx⟩ : ∃ x, L[j] = x := ⟨_, rfl⟩
     obtain ⟨⟨ly, iy⟩, hy⟩ : ∃ y, M[j] = y := ⟨_, rfl⟩
     rw [hx, hy] at HN
     rw [hx] at c0 c1
     rw [hy] at d0 d1
     clear hx hy
     simp only at c0 c1 d0 d1
     have hF := keepQ hB1 hB2 HW.out.2 ⟨c0, c1, d0, d1, Below.refl _ _⟩
     have HF := Lib.hid hF
     obtain ⟨c0, c1, d0, d1, -⟩ := hF
     obtain ⟨n, hn⟩ : ∃ n, oneS ⟨lx, ix⟩ ⟨ly, iy⟩ = n := ⟨_, rfl⟩
     have HO := Lib.hid hn
     clear hn
     have j0 : (0 : Int) ≤ (j : Int) := by omega
     have j1 : (j : Int) < (L.length : Int) := by omega
     have j2 : (j : Int) < (M.length : Int) := by omega
     go_wp2_with fail
     go_region_held3 (fun w' => w'.cell? ⟨B1, o1 + j * 2, none⟩ = some (.string (S lx)) ∧ w'.cell? ⟨B1, o1 + j * 2 + 1, none⟩ = some (.int .i64 ix) ∧ w'.cell? ⟨B2, o2 + j * 2, none⟩ = some (.string (S ly)) ∧ w'.cell? ⟨B2, o2 + j * 2 + 1, none⟩ = some (.int .i64 iy) ∧ Below w.heap.size w w')
       (first
         | with_reducible exact keepQ hB1 hB2 (below_drew (Below.refl _ _)) HF.out
         | with_reducible exact keepQ hB1 hB2 hb9 (by assumption)
         | go_keep)
       (first | (go_at_call 210; refine (one_any _ _ _ _ _).mono ?_; rintro e w9 ⟨rfl, hb9⟩; rw [HO.out]))
     have hB9 := (keepQ hB1 hB2 (Below.refl _ _) (by assumption)).2.2.2.2
     have HB9 := Lib.hid hB9
     clear hB9 HF c0 c1 d0 d1
     by_cases hn0 : n = 0
     · have hxy := (oneS_zero _ _).1 (HO.out.trans hn0)
       have hn1 : (n != 0) = false := by simp [hn0]
       have HN2 := HN.out
       rw [if_pos hxy, HW.out.1] at HN2
       have HN3 := Lib.hid HN2
       clear hn0 HN2 hxy
       go_wp2_with fail
       go_roundw
       case rel => exact ⟨j + 1, rfl, hl, hm, Lib.hid ⟨HN3.out.symm, HB9.out⟩⟩
       case measure => simp [intOf]; omega
     · have hxy : ¬ ((⟨lx, ix⟩ : Stp) = ⟨ly, iy⟩) := fun h => hn0 (HO.out.symm.trans ((oneS_zero _ _).2 h))
       have hn1 : (n != 0) = true := by simp [hn0]
       have HN2 := HN.out
       rw [if_neg hxy, HW.out.1, HO.out] at HN2
       have HN3 := Lib.hid HN2
       clear hn0 HN2 hxy
       go_wp2_with fail
       go_ret
       exact ⟨ret_i64 HN3.out.symm, HB9.out⟩
   · have HE := Lib.hid ((cmpS_end L M j hj hk hlt).symm.trans HW.out.1)
     clear HP HQ
     rcases Nat.lt_trichotomy L.length M.length with h | h | h
     · have g1 : ((L.length : Int) != (M.length : Int)) = true := by first | (simp; done) | (simp; omega)
       have g2 : (L.length : Int) < (M.length : Int) := by omega
       have g3 : decide ((j : Int) < (L.length : Int)) = false := by first | (simp; done) | (simp; omega)
       go_wp2_with (go_at_call 211; refine (sign_any _ _).mono ?_; rintro e w' ⟨rfl, rfl⟩)
       go_ret
       exact ⟨ret_i64 (by rw [← HE.out]; unfold cmpI; rw [if_pos (by omega)]), HW.out.2⟩
     · have g1 : ((L.length : Int) != (M.length : Int)) = false := by first | (simp; done) | (simp; omega)
       have g3 : decide ((j : Int) < (L.length : Int)) = false := by first | (simp; done) | (simp; omega)
       go_wp2_with (go_at_call 211; refine (sign_any _ _).mono ?_; rintro e w' ⟨rfl, rfl⟩)
       go_ret
       exact ⟨ret_i64 (by rw [← HE.out]; unfold cmpI; rw [if_neg (by omega), if_neg (by omega)]), HW.out.2⟩
     · have g1 : ((L.length : Int) != (M.length : Int)) = true := by first | (simp; done) | (simp; omega)
       have g2 : decide ((L.length : Int) < (M.length : Int)) = false := by first | (simp; done) | (simp; omega)
       have g4 : decide ((j : Int) < (M.length : Int)) = false := by first | (simp; done) | (simp; omega)
       by_cases hl : j < L.length
       · go_wp2_with (go_at_call 211; refine (sign_any _ _).mono ?_; rintro e w' ⟨rfl, rfl⟩)
         go_ret
         exact ⟨ret_i64 (by rw [← HE.out]; unfold cmpI; rw [if_neg (by omega), if_pos (by omega)]), HW.out.2⟩
       · exfalso; omega
end
section
open Go.RowKit
theorem one_or (x y : Stp) (h : x ≠ y) (he : x.lab.isEmpty = y.lab.isEmpty) : oneS x y = if cmpB x.lab y.lab ≠ 0 then cmpB x.lab y.lab else cmpI x.idx y.idx := by
 rcases one_ways x y with ⟨h1, h2, _⟩ | ⟨h1, h2, _⟩ | ⟨_, h1, h2⟩ | ⟨_, h1, h2, h3⟩ | ⟨_, _, _, h1⟩
 · rw [h1, h2] at he; cases he
 · rw [h1, h2] at he; cases he
 · have hne : x.lab ≠ y.lab := by simpa using h1
   rw [h2]; unfold cmpB
   cases hb : Op.bytesLess x.lab y.lab <;> simp [hne]
 · have hee : x.lab = y.lab := by simpa using h1
   have hni : x.idx ≠ y.idx := by simpa using h2
   rw [h3]; unfold cmpB cmpI
   rw [hee, less_irr]
   by_cases hb : x.idx < y.idx
   · simp [hb]
   · simp [hb]; omega
 · exact absurd h1 h
theorem Or_at (B : Nat) (x y r : Int) (hr : Hid (r = if x ≠ 0 then x else y)) (w : World) (h0 : w.cell? ⟨B, 0, none⟩ = some (.int .i64 x)) (h1 : w.cell? ⟨B, 1, none⟩ = some (.int .i64 y)) : Calls Tryz.prog 113 #[.slice (some ⟨B, 0, none⟩) 2 2] w fun e w' => e = .returned (.int .i64 r) ∧ w' = w := by
 rw [hr.out]; exact Or_any B x y w h0 h1
theorem below_al (W : World) {N : Nat} (o : Obj) (h : N ≤ W.heap.size) : Below N W (W.alloc o) := (Below.refl _ _).alloc h _
theorem below_al2 (W : World) {N : Nat} (o1 o2 : Obj) (h : N ≤ W.heap.size) : Below N W ((W.alloc o1).alloc o2) := ((Below.refl _ _).alloc h _).alloc (by simp; omega) _
set_option maxHeartbeats 4000000 in
set_option maxRecDepth 100000 in
theorem Compare_any (v u : Value) (L M : List Stp) (w : World) (hv : SlS w v L) (hu : SlS w u M) (hL : L.length ≤ 1000000) (hM : M.length ≤ 1000000) : Calls Tryz.prog 71 #[v, u] w fun e w' => e = .returned (.int .i64 (cmpS L M)) ∧ Below w.heap.size w w' := by
 obtain ⟨r, hr⟩ : ∃ r, cmpS L M = r := ⟨_, rfl⟩
 rw [hr]
 have HR := Lib.hid (show cmpS (L.drop 0) (M.drop 0) = r from hr)
 clear hr
 obtain ⟨p, cap, rfl, hp⟩ := hv.open
 obtain ⟨q, caq, rfl, hq⟩ := hu.open
 have HP := Lib.hid hp
 have HQ := Lib.hid hq
 clear hp hq hv hu
 go_enter Tryz.func71, Tryz.ntmps71
 go_wp2_with fail
 obtain ⟨mn, hmn⟩ : ∃ mn : Nat, min (L.length : Int) (M.length : Int) = (mn : Int) := ⟨min L.length M.length, by omega⟩
 rw [hmn]
 have hml : mn ≤ L.length := by omega
 have hmm : mn ≤ M.length := by omega
 have hme : mn = L.length ∨ mn = M.length := by omega
 clear hmn
 go_loopg [13] L.length (fun g i wr => ∃ j : Nat, i = .int .i64 (j : Int) ∧ j ≤ mn ∧ g = L.length - j ∧ Hid (cmpS (L.drop j) (M.drop j) = r ∧ Below w.heap.size w wr))
 case atStart => exact ⟨0, rfl, Nat.zero_le _, rfl, Lib.hid ⟨HR.out, Below.refl _ _⟩⟩
 case round =>
   obtain ⟨j, rfl, hj, hg, HW⟩ := hrel
   by_cases hlt : j < mn
   · have hl : j < L.length := by omega
     have hm : j < M.length := by omega
     obtain ⟨B1, o1, rfl, hc1, hB1, c0, c1⟩ := HP.out j hl
     obtain ⟨B2, o2, rfl, hc2, hB2, d0, d1⟩ := HQ.out j hm
     have HN := Lib.hid (cmpS_drop L M j hl hm)
     obtain ⟨⟨lx, ix⟩, hx⟩ : ∃ x, L[j] = x := ⟨_, rfl⟩
     obtain ⟨⟨ly, iy⟩, hy⟩ : ∃ y, M[j] = y := ⟨_, rfl⟩
     rw [hx, hy] at HN
     rw [hx] at c0 c1
     rw [hy] at d0 d1
     clear hx hy
     simp only at c0 c1 d0 d1
     have hF := keepQ hB1 hB2 HW.out.2 ⟨c0, c1, d0, d1, Below.refl _ _⟩
     have HF := Lib.hid (keepQ hB1 hB2 (below_drew (Below.refl _ _)) hF)
     obtain ⟨c0, c1, d0, d1, -⟩ := hF
     have j0 : (0 : Int) ≤ (j : Int) := by omega
     have j1 : (j : Int) < (L.length : Int) := by omega
     have j2 : (j : Int) < (M.length : Int) := by omega
     go_wp2_with fail
     go_cut [6, 7] (fun a b wx => ∃ C1 C2, a = .pointer (some ⟨C1, 0, none⟩) ∧ b = .pointer (some ⟨C2, 0, none⟩) ∧ Blk wx C1 #[.string (S lx), .int .i64 ix] 44 ∧ Blk wx C2 #[.string (S ly), .int .i64 iy] 44 ∧ Below w.heap.size w wx)
     case first =>
       go_region_held3 (fun w' => w'.cell? ⟨B1, o1 + j * 2, none⟩ = some (.string (S lx)) ∧ w'.cell? ⟨B1, o1 + j * 2 + 1, none⟩ = some (.int .i64 ix) ∧ w'.cell? ⟨B2, o2 + j * 2, none⟩ = some (.string (S ly)) ∧ w'.cell? ⟨B2, o2 + j * 2 + 1, none⟩ = some (.int .i64 iy) ∧ Below w.heap.size w w')
         (first
           | with_reducible exact HF.out
           | with_reducible exact keepQ hB1 hB2 (below_al _ _ (Nat.le_refl _)) HF.out
           | with_reducible exact keepQ hB1 hB2 (below_al2 _ _ _ (Nat.le_refl _)) HF.out
           | go_keep)
         (fail)
       all_goals
         have hBx := (keepQ hB1 hB2 (Below.refl _ _) (by assumption)).2.2.2.2
         go_wp2_with fail
         go_meet
         refine ⟨_, _, rfl, rfl, ?_, ?_, hBx⟩
         · first
             | exact (Blk.new _ _ _).alloc _
             | (have h := Blk.new (wr.alloc (.cells #[.string (S ly), .int .i64 iy] 44)) #[.string (S lx), .int .i64 ix] 44; exact Blk.drew (by simpa using h))
         · first
             | exact (Blk.new _ _ _).alloc _
             | (have h := Blk.new (wr.alloc (.cells #[.string (S lx), .int .i64 ix] 44)) #[.string (S ly), .int .i64 iy] 44; exact Blk.drew (by simpa using h))
     case rest =>
       obtain ⟨C1, C2, rfl, rfl, b1, b2, hBw⟩ := hcut
       have hC1 := b1.lt
       have hC2 := b2.lt
       have x0 := b1.cell 0
       have x1 := b1.cell 1
       have y0 := b2.cell 0
       have y1 := b2.cell 1
       simp at x0 x1 y0 y1
       have HG := Lib.hid (keepQ (w := wc) hC1 hC2 (below_drew (Below.refl _ _)) ⟨x0, x1, y0, y1, Below.refl _ _⟩)
       clear b1 b2 c0 c1 d0 d1 HF
       have HBw := Lib.hid hBw
       clear hBw
       by_cases hxy : (⟨lx, ix⟩ : Stp) = ⟨ly, iy⟩
       · have e1 : (lx == ly) = true := by injection hxy with h1 h2; simpa using h1
         have e2 : (ix == iy) = true := by injection hxy with h1 h2; simpa using h2
         have HN2 := HN.out
         rw [if_pos hxy, HW.out.1] at HN2
         have HN3 := Lib.hid HN2
         clear HN2 hxy HG hC1 hC2
         go_wp2_with fail
         go_roundg (L.length - (j + 1))
         case measure => omega
         case rel => exact ⟨j + 1, rfl, hlt, rfl, Lib.hid ⟨HN3.out.symm, HBw.out⟩⟩
       · have HN2 := HN.out
         rw [if_neg hxy, HW.out.1] at HN2
         have hor := one_or ⟨lx, ix⟩ ⟨ly, iy⟩ hxy
         rcases one_ways ⟨lx, ix⟩ ⟨ly, iy⟩ with ⟨h1, h2, h3⟩ | ⟨h1, h2, h3⟩ | ⟨h1, h2, _⟩ | ⟨h1, h2, h3, _⟩ | ⟨_, _, _, h1⟩
         · simp only at h1 h2
           have e1 : (lx == ly) = false := by rw [beq_eq_false_iff_ne]; rintro rfl; rw [h1] at h2; cases h2
           rw [h3] at HN2
           subst HN2
           clear hxy hor HG hC1 hC2 h3
           go_wp2_with fail
           go_ret
           exact ⟨rfl, HBw.out⟩
         · simp only at h1 h2
           have e1 : (lx == ly) = false := by rw [beq_eq_false_iff_ne]; rintro rfl; rw [h1] at h2; cases h2
           rw [h3] at HN2
           subst HN2
           clear hxy hor HG hC1 hC2 h3
           go_wp2_with fail
           go_ret
           exact ⟨rfl, HBw.out⟩
         · simp only at h1 h2
           rw [hor h1] at HN2
           have HN3 := Lib.hid HN2
           clear hxy hor HN2
           obtain ⟨bs, hbs⟩ : ∃ n, cmpB lx ly = n := ⟨_, rfl⟩
           obtain ⟨bi, hbi⟩ : ∃ n, cmpI ix iy = n := ⟨_, rfl⟩
           have HBS := Lib.hid hbs
           have HBI := Lib.hid hbi
           simp only [hbs, hbi] at HN3
           clear hbs hbi
           obtain ⟨pe, hpe⟩ : ∃ b, lx.isEmpty = b := ⟨_, rfl⟩
           have hqe : ly.isEmpty = pe := h1.symm.trans hpe
           clear h1
           rcases bool_two pe with rfl | rfl
           all_goals
             go_wp2_with fail
             go_region_held3 (fun w' => w'.cell? ⟨C1, 0, none⟩ = some (.string (S lx)) ∧ w'.cell? ⟨C1, 1, none⟩ = some (.int .i64 ix) ∧ w'.cell? ⟨C2, 0, none⟩ = some (.string (S ly)) ∧ w'.cell? ⟨C2, 1, none⟩ = some (.int .i64 iy) ∧ Below wc.heap.size wc w')
               (first
                 | with_reducible exact HG.out
                 | with_reducible assumption
                 | with_reducible exact keepQ (w := wc) hC1 hC2 (below_al _ _ (Nat.le_refl _)) (by assumption)
                 | go_keep)
               (first
                 | (go_at_call 110; refine (cmpStr_any _ _ _).mono ?_; rintro e w9 ⟨rfl, rfl⟩; rw [HBS.out])
                 | (go_at_call 114; refine (cmpInt_any _ _ _).mono ?_; rintro e w9 ⟨rfl, rfl⟩; rw [HBI.out])
                 | (go_at_call 113; refine (Or_at _ bs bi r HN3 _ (by simp) (by simp)).mono ?_; rintro e w9 ⟨rfl, rfl⟩))
             all_goals
               have hBx := (keepQ (w := wc) hC1 hC2 (Below.refl _ _) (by assumption)).2.2.2.2
               go_wp2_with fail
               go_ret
               exact ⟨rfl, HBw.out.trans (hBx.mono HBw.out.size)⟩
         · simp only at h1 h2 h3
           rw [hor h1] at HN2
           have HN3 := Lib.hid HN2
           clear hxy hor HN2
           obtain ⟨bs, hbs⟩ : ∃ n, cmpB lx ly = n := ⟨_, rfl⟩
           obtain ⟨bi, hbi⟩ : ∃ n, cmpI ix iy = n := ⟨_, rfl⟩
           have HBS := Lib.hid hbs
           have HBI := Lib.hid hbi
           simp only [hbs, hbi] at HN3
           clear hbs hbi
           obtain ⟨pe, hpe⟩ : ∃ b, lx.isEmpty = b := ⟨_, rfl⟩
           have hqe : ly.isEmpty = pe := h1.symm.trans hpe
           clear h1
           rcases bool_two pe with rfl | rfl
           all_goals
             go_wp2_with fail
             go_region_held3 (fun w' => w'.cell? ⟨C1, 0, none⟩ = some (.string (S lx)) ∧ w'.cell? ⟨C1, 1, none⟩ = some (.int .i64 ix) ∧ w'.cell? ⟨C2, 0, none⟩ = some (.string (S ly)) ∧ w'.cell? ⟨C2, 1, none⟩ = some (.int .i64 iy) ∧ Below wc.heap.size wc w')
               (first
                 | with_reducible exact HG.out
                 | with_reducible assumption
                 | with_reducible exact keepQ (w := wc) hC1 hC2 (below_al _ _ (Nat.le_refl _)) (by assumption)
                 | go_keep)
               (first
                 | (go_at_call 110; refine (cmpStr_any _ _ _).mono ?_; rintro e w9 ⟨rfl, rfl⟩; rw [HBS.out])
                 | (go_at_call 114; refine (cmpInt_any _ _ _).mono ?_; rintro e w9 ⟨rfl, rfl⟩; rw [HBI.out])
                 | (go_at_call 113; refine (Or_at _ bs bi r HN3 _ (by simp) (by simp)).mono ?_; rintro e w9 ⟨rfl, rfl⟩))
             all_goals
               have hBx := (keepQ (w := wc) hC1 hC2 (Below.refl _ _) (by assumption)).2.2.2.2
               go_wp2_with fail
               go_ret
               exact ⟨rfl, HBw.out.trans (hBx.mono HBw.out.size)⟩
         · exact absurd h1 hxy
   · have h' : j = mn := by omega
     subst h'
     have HE := Lib.hid ((cmpS_end L M j hml hmm (by omega)).symm.trans HW.out.1)
     clear HP HQ
     go_wp2_with fail
     refine (cmpInt_any _ _ _).mono ?_
     rintro e w9 ⟨rfl, rfl⟩
     go_wp2_with fail
     go_ret
     exact ⟨ret_i64 HE.out, HW.out.2⟩
end
section
open Go.RowKit
theorem Same_any (v u : Value) (L M : List Stp) (w : World) (hv : SlS w v L) (hu : SlS w u M) (hL : L.length ≤ 1000000) (hM : M.length ≤ 1000000) : Calls Tryz.prog 120 #[v, u] w fun e w' => e = .returned (.bool (decide (L = M))) ∧ Below w.heap.size w w' := by
 have HC := Lib.hid (refCompare_any v u L M w hv hu hL hM)
 have hz := cmpS_zero L M
 obtain ⟨n, hn⟩ : ∃ n, cmpS L M = n := ⟨_, rfl⟩
 rw [hn] at HC hz
 have hb : (n == 0) = decide (L = M) := by rw [Bool.eq_iff_iff]; simp [hz]
 obtain ⟨b, hbb⟩ : ∃ b, decide (L = M) = b := ⟨_, rfl⟩
 rw [hbb] at hb ⊢
 clear hz hn hv hu hbb
 go_enter Tryz.func120, Tryz.ntmps120
 go_wp2_with fail
 refine HC.out.mono ?_
 rintro e w1 ⟨rfl, hb1⟩
 go_wp2_with fail
 go_ret
 exact ⟨ret_bool (by first | rfl | exact hb | simpa using hb), hb1⟩
def preS (L M : List Stp) : Bool := decide (L.length ≤ M.length) && decide (L = M.take L.length)
theorem SlS.take {W : World} {q : Option Addr} {n caq : Nat} {M : List Stp} (h : SlS W (.slice q n caq) M) (k : Nat) (hk : k ≤ M.length) : SlS W (.slice q k caq) (M.take k) ∧ (k : Int) ≤ (caq : Int) ∧ n = M.length := by
 rcases h with ⟨⟨p0, cap0, hv⟩, rfl⟩ | ⟨B, o, cap, hv, hc, hB, hx⟩
 · injection hv with h1 h2 h3
   subst h1 h2 h3
   have : k = 0 := by simpa using hk
   subst this
   exact ⟨.inl ⟨⟨_, _, rfl⟩, by simp⟩, by simp, rfl⟩
 · injection hv with h1 h2 h3
   subst h1 h2 h3
   refine ⟨.inr ⟨B, o, caq, by rw [List.length_take, Nat.min_eq_left hk], by rw [List.length_take]; omega, hB, fun j x hj => ?_⟩, by omega, rfl⟩
   rw [List.getElem?_take] at hj
   split at hj
   · exact hx j x hj
   · cases hj
theorem SlS.form {W : World} {v : Value} {L : List Stp} (h : SlS W v L) : ∃ p cap, v = .slice p L.length cap := by
 obtain ⟨p, cap, hv, -⟩ := h.open
 exact ⟨p, cap, hv⟩
set_option maxHeartbeats 1000000 in
theorem Prefix_any (v u : Value) (L M : List Stp) (w : World) (hv : SlS w v L) (hu : SlS w u M) (hL : L.length ≤ 1000000) (hM : M.length ≤ 1000000) : Calls Tryz.prog 72 #[v, u] w fun e w' => e = .returned (.bool (preS L M)) ∧ Below w.heap.size w w' := by
 obtain ⟨p, cap, rfl⟩ := hv.form
 obtain ⟨q, caq, rfl⟩ := hu.form
 by_cases hle : L.length ≤ M.length
 · obtain ⟨ht, hk, -⟩ := hu.take L.length hle
   have HC := Lib.hid (Compare_any _ _ L (M.take L.length) w hv ht hL (by rw [List.length_take]; omega))
   have hz := cmpS_zero L (M.take L.length)
   obtain ⟨n, hn⟩ : ∃ n, cmpS L (M.take L.length) = n := ⟨_, rfl⟩
   rw [hn] at HC hz
   have hb : (n == 0) = preS L M := by
     unfold preS; rw [decide_eq_true hle, Bool.true_and, Bool.eq_iff_iff]; simp [hz]
   obtain ⟨b, hbb⟩ : ∃ b, preS L M = b := ⟨_, rfl⟩
   rw [hbb] at hb ⊢
   have h1 : decide ((L.length : Int) ≤ (M.length : Int)) = true := by simp; omega
   clear hz hn hv hu hbb ht
   go_enter Tryz.func72, Tryz.ntmps72
   go_wp2_with fail
   refine HC.out.mono ?_
   rintro e w1 ⟨rfl, hb1⟩
   go_wp2_with fail
   go_ret
   exact ⟨ret_bool (by first | rfl | exact hb | simpa using hb), hb1⟩
 · have hb : preS L M = false := by unfold preS; rw [decide_eq_false hle]; rfl
   rw [hb]
   have h1 : decide ((L.length : Int) ≤ (M.length : Int)) = false := by simp; omega
   clear hv hu hb
   go_enter Tryz.func72, Tryz.ntmps72
   go_wp2_with fail
   go_ret
   exact ⟨rfl, Below.refl _ _⟩
set_option maxHeartbeats 1000000 in
theorem refPrefix_any (v u : Value) (L M : List Stp) (w : World) (hv : SlS w v L) (hu : SlS w u M) (hL : L.length ≤ 1000000) (hM : M.length ≤ 1000000) : Calls Tryz.prog 82 #[v, u] w fun e w' => e = .returned (.bool (preS L M)) ∧ Below w.heap.size w w' := by
 obtain ⟨p, cap, rfl⟩ := hv.form
 obtain ⟨q, caq, rfl⟩ := hu.form
 by_cases hle : L.length ≤ M.length
 · obtain ⟨ht, hk, -⟩ := hu.take L.length hle
   have HC := Lib.hid (Same_any _ _ L (M.take L.length) w hv ht hL (by rw [List.length_take]; omega))
   have hb : decide (L = M.take L.length) = preS L M := by
     unfold preS; rw [decide_eq_true hle, Bool.true_and]
   obtain ⟨b, hbb⟩ : ∃ b, preS L M = b := ⟨_, rfl⟩
   rw [hb, hbb] at HC
   rw [hbb]
   have h1 : decide ((L.length : Int) ≤ (M.length : Int)) = true := by simp; omega
   clear hv hu hbb ht hb
   go_enter Tryz.func82, Tryz.ntmps82
   go_wp2_with fail
   refine HC.out.mono ?_
   rintro e w1 ⟨rfl, hb1⟩
   go_wp2_with fail
   go_ret
   exact ⟨rfl, hb1⟩
 · have hb : preS L M = false := by unfold preS; rw [decide_eq_false hle]; rfl
   rw [hb]
   have h1 : decide ((L.length : Int) ≤ (M.length : Int)) = false := by simp; omega
   clear hv hu hb
   go_enter Tryz.func82, Tryz.ntmps82
   go_wp2_with fail
   go_ret
   exact ⟨rfl, Below.refl _ _⟩
end
section
open Go.RowKit Go.Sort
def Bel (N : Nat) (w w' : World) : Prop := Below N w w' ∧ w.drawn ≤ w'.drawn
theorem Bel.refl (N : Nat) (w : World) : Bel N w w := ⟨Below.refl _ _, Nat.le_refl _⟩
theorem Bel.trans {N : Nat} {a b c : World} (h : Bel N a b) (k : Bel N b c) : Bel N a c := ⟨h.1.trans k.1, Nat.le_trans h.2 k.2⟩
theorem Bel.mono {N M : Nat} {a b : World} (h : Bel N a b) (hm : M ≤ N) : Bel M a b := ⟨h.1.mono hm, h.2⟩
theorem Bel.alloc {N : Nat} {a b : World} (h : Bel N a b) (hN : N ≤ b.heap.size) (o : Obj) : Bel N a (b.alloc o) := ⟨h.1.alloc hN o, h.2⟩
theorem Bel.drew {N : Nat} {a b : World} (h : Bel N a b) : Bel N a b.drew := ⟨below_drew h.1, Nat.le_succ_of_le h.2⟩
theorem Bel.drewN {N : Nat} {a b : World} (h : Bel N a b) (n : Nat) : Bel N a (b.drewN n) := ⟨below_drewN h.1 n, Nat.le_trans h.2 (Nat.le_add_right _ _)⟩
theorem Bel.grows {w w' : World} (h : Bel w.heap.size w w') : ∃ q os', w' = grow (w.drewN q) os' := by
 obtain ⟨⟨h1, h2, h3, h4, h5⟩, h6⟩ := h
 refine ⟨w'.drawn - w.drawn, w'.heap.extract w.heap.size w'.heap.size, ?_⟩
 obtain ⟨hp, tp, dr, os, out⟩ := w
 obtain ⟨hp', tp', dr', os', out'⟩ := w'
 simp only at h1 h2 h3 h4 h5 h6
 subst h1; subst h2; subst h3
 have e : dr' = dr + (dr' - dr) := by omega
 have eh : hp' = hp ++ hp'.extract hp.size hp'.size := ?_
 · simp only [grow, World.drewN]
   rw [← e, ← eh]
 apply Array.ext
 · simp; omega
 · intro i g1 g2
   by_cases hi : i < hp.size
   · rw [Array.getElem_append_left hi]
     have := h5 i hi
     rw [Array.getElem?_eq_getElem g1, Array.getElem?_eq_getElem hi] at this
     exact Option.some.inj this
   · rw [Array.getElem_append_right (by omega)]
     simp only [Array.getElem_extract]
     congr 1
     omega
end
end Go.Proofs.YtoahmganodehkaaGreatDoor
