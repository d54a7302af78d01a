/- The law of a clash: its walk. -/
import Derived.Test.YtoahmganodehkaaGreatDoorM14
namespace Go.Proofs.YtoahmganodehkaaGreatDoor
set_option linter.unusedSimpArgs false
set_option linter.unusedVariables false
open Go.RowKit

set_option maxRecDepth 100000 in
set_option maxHeartbeats 8000000 in
theorem lawPropertiesClash (d : Dat) (vi vm : Value) (ok : Nat → Prop) (n : Int) (deep : Bool) (w : World) (hr : Rep w ok d vi vm) (hO : StOk w ∧ MaxOk w) :
    Calls Tryz.prog 4 #[.agg #[.int .i64 d.k, .int .i64 d.n, .string (S d.s), vi, vm], .int .i64 n, .bool deep] w fun e w' => e = .returned (.bool true) ∧ Below w.heap.size w w' := by
  have HE := Lib.hid hO.1
  have HM := Lib.hid hO.2
  have HREP := Lib.hid hr
  obtain ⟨p, cap, rfl, -, -⟩ := hr.items
  obtain ⟨q, caq, rfl, -, -⟩ := hr.members
  clear hO hr
  obtain ⟨sm, hsm⟩ : ∃ sm, smallD d = sm := ⟨_, rfl⟩
  have HSM := Lib.hid hsm
  have HSW := Lib.hid (fun w' (hb : Below w.heap.size w w') => refSmall_any (HREP.out.under hb))
  rw [hsm] at HSW
  clear hsm
  have hS : CkS w.heap.size w d (.slice p d.its.length cap) (.slice q d.mem.length caq) (w.alloc (.cells #[.int .i64 d.k, .int .i64 d.n, .string (S d.s), .slice p d.its.length cap, .slice q d.mem.length caq] 26)) := CkS.new w d _ _
  by_cases hgo : sm = true ∧ 0 ≤ n
  case neg =>
    go_enter Tryz.func4, Tryz.ntmps4
    go_upto_region 1 with fail
    generalize w.alloc (.cells #[.int .i64 d.k, .int .i64 d.n, .string (S d.s), .slice p d.its.length cap, .slice q d.mem.length caq] 26) = W at hS ⊢
    obtain ⟨c0, c1, c2, c3, c4, hlw⟩ := hS.cells
    have HS := Lib.hid hS
    clear hS
    go_wp2_with fail
    refine (HSW.out _ HS.out.2).mono ?_
    rintro e w1 ⟨rfl, hb⟩
    have HB1 := Lib.hid (HS.out.2.trans (hb.mono HS.out.2.size))
    clear hb c0 c1 c2 c3 c4 hlw HS
    rcases Bool.eq_false_or_eq_true sm with rfl | rfl
    · have t1 : n < 0 := by
        have h : ¬ (0 ≤ n) := fun h => hgo ⟨rfl, h⟩
        omega
      have t2 : decide (n < 0) = true := decide_eq_true t1
      clear hgo
      go_wp2_with fail
      refine (awake_any _ (HE.out.below HB1.out) (HM.out.below HB1.out)).mono ?_
      rintro e w2 ⟨rfl, hb⟩
      have HB2 := Lib.hid (HB1.out.trans (hb.mono HB1.out.size))
      clear hb
      go_wp2_with fail
      go_ret
      exact ⟨rfl, HB2.out⟩
    · clear hgo
      go_wp2_with fail
      refine (awake_any _ (HE.out.below HB1.out) (HM.out.below HB1.out)).mono ?_
      rintro e w2 ⟨rfl, hb⟩
      have HB2 := Lib.hid (HB1.out.trans (hb.mono HB1.out.size))
      clear hb
      go_wp2_with fail
      go_ret
      exact ⟨rfl, HB2.out⟩
  obtain ⟨rfl, hn0⟩ := hgo
  obtain ⟨m, rfl⟩ := Int.eq_ofNat_of_zero_le hn0
  clear hn0
  have t1 : ¬ ((m : Int) < 0) := by omega
  have t2 : decide ((m : Int) < 0) = false := decide_eq_false t1
  obtain ⟨hlim, htr⟩ := small_iff HSM.out
  have hlv : (lvD d).length ≤ 40 := by have := lv_len _ d (Nat.lt_succ_self _); omega
  have HFL := Lib.hid (fun w' (hb : Below w.heap.size w w') => Flatten_any (HREP.out.under hb) hlim (by omega))
  have HLIM := Lib.hid hlim
  clear htr hlim
  go_enter Tryz.func4, Tryz.ntmps4
  go_upto_region 1 with fail
  generalize w.alloc (.cells #[.int .i64 d.k, .int .i64 d.n, .string (S d.s), .slice p d.its.length cap, .slice q d.mem.length caq] 26) = W at hS ⊢
  obtain ⟨c0, c1, c2, c3, c4, hlw⟩ := hS.cells
  have HS := Lib.hid hS
  clear hS
  go_wp2_with fail
  refine (HSW.out _ HS.out.2).mono ?_
  rintro e w1 ⟨rfl, hb⟩
  have HS1 := Lib.hid (HS.out.below hb)
  clear hb c0 c1 c2 c3 c4 hlw HS
  obtain ⟨c0, c1, c2, c3, c4, hlw⟩ := HS1.out.cells
  go_wp2_with fail
  refine (HFL.out _ HS1.out.2).mono ?_
  rintro e w2 hF
  rcases flat_two d with ⟨h1, h2, h3⟩ | ⟨h1, h2⟩
  case inr =>
    obtain ⟨pv, cv, T, rfl, -, -, -, hb⟩ := hF.open
    have HB2 := Lib.hid (HS1.out.2.trans (hb.mono HS1.out.2.size))
    rw [h1]
    generalize (flatD d).2 = en at h2 ⊢
    have e1 : ((en : Int) != 0) = true := by simp; omega
    have e2 : ((en : Int) == 0) = false := by simp; omega
    have e3 : ¬ ((en : Int) = 0) := by omega
    clear hb hF h1 h2 c0 c1 c2 c3 c4 hlw
    go_wp2_with fail
    refine (awake_any _ (HE.out.below HB2.out) (HM.out.below HB2.out)).mono ?_
    rintro e w3 ⟨rfl, hb⟩
    have HB3 := Lib.hid (HB2.out.trans (hb.mono HB2.out.size))
    clear hb
    go_wp2_with fail
    go_ret
    exact ⟨rfl, HB3.out⟩
  rw [h1] at hF
  have hpos := ents_pos d
  have hlen : (entsD d).length ≤ 40 := by unfold entsD; rw [List.length_map]; exact hlv
  have HCL := Lib.hid (fun k (hk : k < (entsD d).length) => clash_law h2 h3 HLIM.out k hk deep)
  have hLd := ents_lims h2 HLIM.out
  obtain ⟨pv, cv, T, rfl, ho, hT, hg, hb⟩ := hF.open
  simp only at ho hT
  generalize entsD d = L at *
  have hTl : T.length = L.length := by rw [← hT, List.length_map]
  obtain ⟨k, hk, hmod⟩ : ∃ k, k < L.length ∧ ((m : Int) % (L.length : Int)) = (k : Int) := ⟨m % L.length, Nat.mod_lt _ hpos, by omega⟩
  obtain ⟨g, cg, hv, -⟩ := ho.form hpos
  injection hv with hv1 _ hv3
  subst hv1; subst hv3
  have hgl : g < w2.heap.size := (ho.lt g (by simp [Value.ownBlock])).2
  have hln : ((L.length : Int) == 0) = false := by rw [beq_eq_false_iff_ne]; omega
  have hln2 : ¬ ((L.length : Int) = 0) := by omega
  have hkT : k < T.length := by omega
  have x0 := ho.cells (g := g) rfl (k * 6 + 0) _ (flatE_get T k hkT 0 (by omega))
  rw [Lib.add_plain, Nat.zero_add] at x0
  have hgk := hg _ (List.getElem_mem hkT)
  have hLk : T[k].e = L[k] := by
    have h : (T.map Env.e)[k]'(by rw [List.length_map]; exact hkT) = T[k].e := List.getElem_map _
    rw [← h]; simp only [hT]
  have HLK := Lib.hid (show L[k].1 = T[k].path by rw [← hLk]; rfl)
  have hpk : T[k].path.length ≤ 16 := by
    have h := (hLd _ (List.getElem_mem hk)).1
    rw [← hLk] at h
    exact h
  obtain ⟨pp, pc, hpv⟩ := slk_form hgk.1
  replace x0 : w2.cell? ⟨g, k * 6, none⟩ = some (.slice pp T[k].path.length pc) := by rw [← hpv]; exact x0
  have hsk := hgk.1
  rw [hpv] at hsk
  have HSK := Lib.hid hsk
  have HB2 := Lib.hid (HS1.out.2.trans (hb.mono HS1.out.2.size))
  have HO := Lib.hid ho
  have HT := Lib.hid hT
  have HG := Lib.hid hg
  have HTL := Lib.hid hTl
  have HLD := Lib.hid hLd
  have HW1 := Lib.hid hb.size
  clear hb ho hF hT hg hgk hpv hsk hLk h1 h2 h3 hLd
  generalize T[k].path = P at x0 HSK hpk HLK
  clear hkT hTl c0 c1 c2 c3 c4 hlw
  obtain ⟨i0, hi, hz0, hz1, hz2⟩ := info_parts infoStp
  have hsrc := (HSK.out.under ((Below.refl _ _).alloc (Nat.le_refl _) (.cells #[] 44))).sourc
  have hb1 : 0 + P.length ≤ maxLen := by unfold maxLen; omega
  have hb2 : (0 + P.length) * 24 ≤ 140737488355328 := by omega
  have hb3 : w2.heap.size ≤ (w2.alloc (.cells #[] 44)).heap.size := by simp
  have HSRC := Lib.hid (And.intro hsrc (And.intro hb1 (And.intro hb2 hb3)))
  clear hsrc hb1 hb2 hb3
  go_upto_region 7 with (at_builtin; refine wpList_app _ rfl _ _ _ rfl w2.heap.size 44 i0 (.agg #[.string ⟨#[]⟩, .int .i64 0]) 2 24 Tryz.underlying40 hi hz0 hz1 hz2 rfl (by decide) (.slice (some ⟨w2.heap.size, 0, none⟩) 0 0) 0 [] rfl (own_empty w2) pp P.length pc (flatC P) rfl HSRC.out.1 HSRC.out.2.1 HSRC.out.2.2.1 HSRC.out.2.2.2 ?_; intro v4 w4 hown4 hgrow4 hat4; simp only [Nat.zero_add, List.nil_append] at hown4; obtain ⟨v4p, v4c, rfl⟩ := own_form5 hown4; have HO4 := Lib.hid hown4; have HG4 := Lib.hid hgrow4; clear hown4 hgrow4 hat4)
  have hc5 := ClS.new HO4.out HG4.out
  generalize w4.alloc (.cells #[.slice v4p P.length v4c, .int .i64 1, .int .i64 0, .string ⟨#[]⟩, .slice none 0 0, .slice none 0 0] 42) = w5 at hc5 ⊢
  generalize w4.heap.size = B at hc5 ⊢
  have HC5 := Lib.hid hc5
  clear hc5 HO4 HG4 x0 hgl
  go_upto_if 49 with fail
  go_cut [] (fun wx => Hid (ClS w2 B (P ++ (if deep then [stepA] else [])) wx))
  case first =>
    cases deep with
    | false =>
      go_wp2_with fail
      go_meet
      exact Lib.hid (by simpa using HC5.out)
    | true =>
      obtain ⟨vp, vc, k0, k1, k2, k3⟩ := HC5.out
      have HK := Lib.hid (And.intro k0 (And.intro k1 (And.intro k2 k3)))
      have c0 := k0.cell 0
      have f0 := k0.frozen 0
      simp at c0
      have hlt := k0.lt
      have hb5 := k2.size
      clear k0 k1 k2 k3 HC5
      have HSRC : Hid (Src (w5.alloc (.cells #[.string ⟨#[97]⟩, .int .i64 0] 44)) 2 (some ⟨w5.heap.size, 0, none⟩) 1 [.string ⟨#[97]⟩, .int .i64 0]) := Lib.hid ⟨rfl, (by simp), (fun a ha j u hu => by injection ha with ha; subst ha; exact cells_new_at rfl rfl j u hu), (by simp [Value.oneCell'])⟩
      have HBD := Lib.hid (And.intro (show P.length + 1 ≤ maxLen by unfold maxLen; omega) (And.intro (show (P.length + 1) * 24 ≤ 140737488355328 by omega) (show w2.heap.size ≤ (w5.alloc (.cells #[.string ⟨#[97]⟩, .int .i64 0] 44)).heap.size by simp; omega)))
      go_wp2_with (at_builtin; refine wpList_app _ rfl _ _ _ rfl w2.heap.size 44 i0 (.agg #[.string ⟨#[]⟩, .int .i64 0]) 2 24 Tryz.underlying40 hi hz0 hz1 hz2 rfl (by decide) (.slice vp P.length vc) P.length (flatC P) rfl (HK.out.2.1.alloc _) (some ⟨w5.heap.size, 0, none⟩) 1 1 [.string ⟨#[97]⟩, .int .i64 0] rfl HSRC.out HBD.out.1 HBD.out.2.1 HBD.out.2.2 ?_; intro v6 w6 hown6 hgrow6 hat6; obtain ⟨v6p, v6c, rfl⟩ := own_form5 hown6; obtain ⟨c6, f6, hl6⟩ := ClS.mid HK.out.1 HK.out.2.1 _ hgrow6; simp at c6; have HO6 := Lib.hid hown6; have HG6 := Lib.hid hgrow6; clear hown6 hgrow6 hat6)
      go_meet
      exact Lib.hid (ClS.push (s := stepA) HK.out.1 HK.out.2.1 HK.out.2.2.1 HK.out.2.2.2 _ HO6.out HG6.out)
  case rest =>
    clear HC5 HSRC
    have HQL := Lib.hid (show (P ++ (if deep then [stepA] else [])).length ≤ 17 by cases deep <;> simp <;> omega)
    have HQK := Lib.hid (show (P ++ (if deep then [stepA] else [])) = L[k].1 ++ (if deep then [stepA] else []) by rw [HLK.out])
    generalize P ++ (if deep then [stepA] else []) = Q at hcut HQL HQK
    obtain ⟨qp, qc, k0, k1, k2, k3⟩ := hcut.out
    have HQ := Lib.hid k1
    have HB3 := Lib.hid k2
    have HB2' := Lib.hid HB2.out
    clear HB2
    have HSRC := Lib.hid (fun w' (hb : Below wc.heap.size wc w') => ents_src HO.out HTL.out HG.out (k2.trans (hb.mono k2.size)))
    have HKE := Lib.hid (fun w' (hb : Below wc.heap.size wc w') => (And.intro ((k0.below hb).cell 0) (And.intro ((k0.below hb).cell 1) (And.intro ((k0.below hb).cell 2) (And.intro ((k0.below hb).cell 3) (And.intro ((k0.below hb).cell 4) ((k0.below hb).cell 5)))))))
    simp at HKE
    have HBD := Lib.hid (And.intro (show 0 + L.length ≤ maxLen by unfold maxLen; omega) (And.intro (show (0 + L.length) * 104 ≤ 140737488355328 by omega) (And.intro (show L.length + 1 ≤ maxLen by unfold maxLen; omega) (show (L.length + 1) * 104 ≤ 140737488355328 by omega))))
    have HB0 := Lib.hid (below_drew (Below.refl wc.heap.size wc))
    have HBX := Lib.hid (show buildD (T.map Env.e ++ [(Q, nullD)]) = (dat0, 6) by rw [HT.out, HQK.out]; exact HCL.out k hk)
    have HLIMS := Lib.hid (show entLims (T.map Env.e ++ [(Q, nullD)]) from clash_lims (L := L) HT.out HLD.out hlen HQL.out (by rw [HQK.out]; exact labs_add deep (HLD.out _ (List.getElem_mem hk)).2.2))
    clear k0 k1 k2 k3 hcut hi hz0 hz1 hz2
    obtain ⟨i1, hj, hy0, hy1, hy2⟩ := info_parts infoEnt
    go_wp2_with fail
    go_region_held3 (fun w' => w'.cell? ⟨B, 0, none⟩ = some (.slice qp Q.length qc) ∧ w'.cell? ⟨B, 1, none⟩ = some (.int .i64 1) ∧ w'.cell? ⟨B, 2, none⟩ = some (.int .i64 0) ∧ w'.cell? ⟨B, 3, none⟩ = some (.string ⟨#[]⟩) ∧ w'.cell? ⟨B, 4, none⟩ = some (.slice none 0 0) ∧ w'.cell? ⟨B, 5, none⟩ = some (.slice none 0 0))
      (first
        | with_reducible exact HKE.out _ HB0.out
        | with_reducible exact HKE.out _ (below_drew ((Below.refl wc.heap.size wc).alloc (by first | exact Nat.le_refl _ | (simp; done) | (simp; omega)) _))
        | with_reducible exact HKE.out _ (below_drew (((Below.refl wc.heap.size wc).alloc (by first | exact Nat.le_refl _ | (simp; done) | (simp; omega)) _).alloc (by first | exact Nat.le_refl _ | (simp; done) | (simp; omega)) _))
        | with_reducible exact HKE.out _ (below_drew ((((Below.refl wc.heap.size wc).alloc (by first | exact Nat.le_refl _ | (simp; done) | (simp; omega)) _).alloc (by first | exact Nat.le_refl _ | (simp; done) | (simp; omega)) _).alloc (by first | exact Nat.le_refl _ | (simp; done) | (simp; omega)) _))
        | with_reducible exact HKE.out _ HB1.out
        | with_reducible exact HKE.out _ (HB1.out.alloc (by first | exact HB1.out.size | (have := HB1.out.size; simp; omega)) _)
        | with_reducible exact HKE.out _ ((HB1.out.alloc (by first | exact HB1.out.size | (have := HB1.out.size; simp; omega)) _).alloc (by first | exact HB1.out.size | (have := HB1.out.size; simp; omega)) _)
        | with_reducible exact HKE.out _ HB2.out
        | with_reducible exact HKE.out _ (HB2.out.alloc (by first | exact HB2.out.size | (have := HB2.out.size; simp; omega)) _)
        | with_reducible exact HKE.out _ ((HB2.out.alloc (by first | exact HB2.out.size | (have := HB2.out.size; simp; omega)) _).alloc (by first | exact HB2.out.size | (have := HB2.out.size; simp; omega)) _)
        | with_reducible exact HKE.out _ HB4.out
        | with_reducible exact HKE.out _ (HB4.out.alloc (by first | exact HB4.out.size | (have := HB4.out.size; simp; omega)) _)
        | with_reducible exact HKE.out _ ((HB4.out.alloc (by first | exact HB4.out.size | (have := HB4.out.size; simp; omega)) _).alloc (by first | exact HB4.out.size | (have := HB4.out.size; simp; omega)) _)
        | with_reducible exact HKE.out _ (((((HB4.out.setCell HX3 _).setCell HX3 _).setCell HX3 _).setCell HX3 _).setCell HX3 _)
        | go_keep)
      (first
        | (refine step_app _ (by rfl) _ _ _ (by rfl) wc.heap.size 42 i1 (.agg #[.slice none 0 0, .int .i64 0, .int .i64 0, .string ⟨#[]⟩, .slice none 0 0, .slice none 0 0]) 6 104 Tryz.underlying37 hj hy0 hy1 hy2 rfl (by decide) (.slice (some ⟨wc.heap.size, 0, none⟩) 0 0) 0 [] (by rfl) (own_empty wc (size := 6)) (some ⟨g, 0, none⟩) L.length cv (flatE T) (by rfl) (HSRC.out _ (below_drew ((Below.refl wc.heap.size wc).alloc (by first | exact Nat.le_refl _ | (simp; done) | (simp; omega)) _))) HBD.out.1 HBD.out.2.1 (below_drew ((Below.refl wc.heap.size wc).alloc (by first | exact Nat.le_refl _ | (simp; done) | (simp; omega)) _)).size ?_; intro v1 x1 hown1 hgrow1 hat1; simp only [Nat.zero_add, List.nil_append] at hown1; obtain ⟨v1p, v1c, rfl⟩ := own_form5 hown1; have HB1 := Lib.hid (below_own (below_drew ((Below.refl wc.heap.size wc).alloc (by first | exact Nat.le_refl _ | (simp; done) | (simp; omega)) _)) (own_empty wc (size := 6)) hgrow1 (Nat.le_refl _) (below_drew ((Below.refl wc.heap.size wc).alloc (by first | exact Nat.le_refl _ | (simp; done) | (simp; omega)) _)).size); have HO1 := Lib.hid hown1; clear hown1 hgrow1 hat1)
        | (refine step_app _ (by rfl) _ _ _ (by rfl) wc.heap.size 42 i1 (.agg #[.slice none 0 0, .int .i64 0, .int .i64 0, .string ⟨#[]⟩, .slice none 0 0, .slice none 0 0]) 6 104 Tryz.underlying37 hj hy0 hy1 hy2 rfl (by decide) (.slice (some ⟨wc.heap.size, 0, none⟩) 0 0) 0 [] (by rfl) ((own_empty wc (size := 6)).alloc _) (some ⟨g, 0, none⟩) L.length cv (flatE T) (by rfl) (HSRC.out _ (below_drew (((Below.refl wc.heap.size wc).alloc (by first | exact Nat.le_refl _ | (simp; done) | (simp; omega)) _).alloc (by first | exact Nat.le_refl _ | (simp; done) | (simp; omega)) _))) HBD.out.1 HBD.out.2.1 (below_drew (((Below.refl wc.heap.size wc).alloc (by first | exact Nat.le_refl _ | (simp; done) | (simp; omega)) _).alloc (by first | exact Nat.le_refl _ | (simp; done) | (simp; omega)) _)).size ?_; intro v1 x1 hown1 hgrow1 hat1; simp only [Nat.zero_add, List.nil_append] at hown1; obtain ⟨v1p, v1c, rfl⟩ := own_form5 hown1; have HB1 := Lib.hid (below_own (below_drew (((Below.refl wc.heap.size wc).alloc (by first | exact Nat.le_refl _ | (simp; done) | (simp; omega)) _).alloc (by first | exact Nat.le_refl _ | (simp; done) | (simp; omega)) _)) ((own_empty wc (size := 6)).alloc _) hgrow1 (Nat.le_refl _) (below_drew (((Below.refl wc.heap.size wc).alloc (by first | exact Nat.le_refl _ | (simp; done) | (simp; omega)) _).alloc (by first | exact Nat.le_refl _ | (simp; done) | (simp; omega)) _)).size); have HO1 := Lib.hid hown1; have HNS : Hid (Src x1 6 (some ⟨wc.heap.size + 1, 0, none⟩) 1 [.slice qp Q.length qc, .int .i64 1, .int .i64 0, .string ⟨#[]⟩, .slice none 0 0, .slice none 0 0]) := Lib.hid (kept_srcD (blk_two wc _ _) hgrow1 (by first | (simp [Value.ownBlock]; done) | (simp [Value.ownBlock]; omega))); clear hown1 hgrow1 hat1)
        | (refine step_app _ (by rfl) _ _ _ (by rfl) wc.heap.size 42 i1 (.agg #[.slice none 0 0, .int .i64 0, .int .i64 0, .string ⟨#[]⟩, .slice none 0 0, .slice none 0 0]) 6 104 Tryz.underlying37 hj hy0 hy1 hy2 rfl (by decide) (.slice (some ⟨wc.heap.size, 0, none⟩) 0 0) 0 [] (by rfl) ((own_empty wc (size := 6)).alloc _) (some ⟨g, 0, none⟩) L.length cv (flatE T) (by rfl) (HSRC.out _ (below_drew (((Below.refl wc.heap.size wc).alloc (by first | exact Nat.le_refl _ | (simp; done) | (simp; omega)) _).alloc (by first | exact Nat.le_refl _ | (simp; done) | (simp; omega)) _))) HBD.out.1 HBD.out.2.1 (below_drew (((Below.refl wc.heap.size wc).alloc (by first | exact Nat.le_refl _ | (simp; done) | (simp; omega)) _).alloc (by first | exact Nat.le_refl _ | (simp; done) | (simp; omega)) _)).size ?_; intro v1 x1 hown1 hgrow1 hat1; simp only [Nat.zero_add, List.nil_append] at hown1; obtain ⟨v1p, v1c, rfl⟩ := own_form5 hown1; have HB1 := Lib.hid (below_own (below_drew (((Below.refl wc.heap.size wc).alloc (by first | exact Nat.le_refl _ | (simp; done) | (simp; omega)) _).alloc (by first | exact Nat.le_refl _ | (simp; done) | (simp; omega)) _)) ((own_empty wc (size := 6)).alloc _) hgrow1 (Nat.le_refl _) (below_drew (((Below.refl wc.heap.size wc).alloc (by first | exact Nat.le_refl _ | (simp; done) | (simp; omega)) _).alloc (by first | exact Nat.le_refl _ | (simp; done) | (simp; omega)) _)).size); have HO1 := Lib.hid hown1; have HX1 := Lib.hid (And.intro (box_keptD (blk_two wc _ _) ((own_empty wc (size := 6)).alloc _) hgrow1) (show wc.heap.size ≤ wc.heap.size + 1 by omega)); clear hown1 hgrow1 hat1)
        | (refine step_app _ (by rfl) _ _ _ (by rfl) wc.heap.size 42 i1 (.agg #[.slice none 0 0, .int .i64 0, .int .i64 0, .string ⟨#[]⟩, .slice none 0 0, .slice none 0 0]) 6 104 Tryz.underlying37 hj hy0 hy1 hy2 rfl (by decide) (.slice (some ⟨wc.heap.size + 1, 0, none⟩) 0 0) 0 [] (by rfl) (own_second wc _) (some ⟨g, 0, none⟩) L.length cv (flatE T) (by rfl) (HSRC.out _ (below_drew (((Below.refl wc.heap.size wc).alloc (by first | exact Nat.le_refl _ | (simp; done) | (simp; omega)) _).alloc (by first | exact Nat.le_refl _ | (simp; done) | (simp; omega)) _))) HBD.out.1 HBD.out.2.1 (below_drew (((Below.refl wc.heap.size wc).alloc (by first | exact Nat.le_refl _ | (simp; done) | (simp; omega)) _).alloc (by first | exact Nat.le_refl _ | (simp; done) | (simp; omega)) _)).size ?_; intro v1 x1 hown1 hgrow1 hat1; simp only [Nat.zero_add, List.nil_append] at hown1; obtain ⟨v1p, v1c, rfl⟩ := own_form5 hown1; have HB1 := Lib.hid (below_own (below_drew (((Below.refl wc.heap.size wc).alloc (by first | exact Nat.le_refl _ | (simp; done) | (simp; omega)) _).alloc (by first | exact Nat.le_refl _ | (simp; done) | (simp; omega)) _)) (own_second wc _) hgrow1 (Nat.le_refl _) (below_drew (((Below.refl wc.heap.size wc).alloc (by first | exact Nat.le_refl _ | (simp; done) | (simp; omega)) _).alloc (by first | exact Nat.le_refl _ | (simp; done) | (simp; omega)) _)).size); have HO1 := Lib.hid hown1; have HNS : Hid (Src x1 6 (some ⟨wc.heap.size, 0, none⟩) 1 [.slice qp Q.length qc, .int .i64 1, .int .i64 0, .string ⟨#[]⟩, .slice none 0 0, .slice none 0 0]) := Lib.hid (kept_srcD ((Blk.new wc _ _).alloc _) hgrow1 (by first | (simp [Value.ownBlock]; done) | (simp [Value.ownBlock]; omega))); clear hown1 hgrow1 hat1)
        | (refine step_app _ (by rfl) _ _ _ (by rfl) wc.heap.size 42 i1 (.agg #[.slice none 0 0, .int .i64 0, .int .i64 0, .string ⟨#[]⟩, .slice none 0 0, .slice none 0 0]) 6 104 Tryz.underlying37 hj hy0 hy1 hy2 rfl (by decide) (.slice (some ⟨wc.heap.size + 1, 0, none⟩) 0 0) 0 [] (by rfl) (own_second wc _) (some ⟨g, 0, none⟩) L.length cv (flatE T) (by rfl) (HSRC.out _ (below_drew (((Below.refl wc.heap.size wc).alloc (by first | exact Nat.le_refl _ | (simp; done) | (simp; omega)) _).alloc (by first | exact Nat.le_refl _ | (simp; done) | (simp; omega)) _))) HBD.out.1 HBD.out.2.1 (below_drew (((Below.refl wc.heap.size wc).alloc (by first | exact Nat.le_refl _ | (simp; done) | (simp; omega)) _).alloc (by first | exact Nat.le_refl _ | (simp; done) | (simp; omega)) _)).size ?_; intro v1 x1 hown1 hgrow1 hat1; simp only [Nat.zero_add, List.nil_append] at hown1; obtain ⟨v1p, v1c, rfl⟩ := own_form5 hown1; have HB1 := Lib.hid (below_own (below_drew (((Below.refl wc.heap.size wc).alloc (by first | exact Nat.le_refl _ | (simp; done) | (simp; omega)) _).alloc (by first | exact Nat.le_refl _ | (simp; done) | (simp; omega)) _)) (own_second wc _) hgrow1 (Nat.le_refl _) (below_drew (((Below.refl wc.heap.size wc).alloc (by first | exact Nat.le_refl _ | (simp; done) | (simp; omega)) _).alloc (by first | exact Nat.le_refl _ | (simp; done) | (simp; omega)) _)).size); have HO1 := Lib.hid hown1; have HX1 := Lib.hid (And.intro (box_keptD ((Blk.new wc _ _).alloc _) (own_second wc _) hgrow1) (show wc.heap.size ≤ wc.heap.size by omega)); clear hown1 hgrow1 hat1)
        | (refine step_app _ (by rfl) _ _ _ (by rfl) wc.heap.size 42 i1 (.agg #[.slice none 0 0, .int .i64 0, .int .i64 0, .string ⟨#[]⟩, .slice none 0 0, .slice none 0 0]) 6 104 Tryz.underlying37 hj hy0 hy1 hy2 rfl (by decide) (.slice (some ⟨wc.heap.size, 0, none⟩) 0 0) 0 [] (by rfl) (((own_empty wc (size := 6)).alloc _).alloc _) (some ⟨g, 0, none⟩) L.length cv (flatE T) (by rfl) (HSRC.out _ (below_drew ((((Below.refl wc.heap.size wc).alloc (by first | exact Nat.le_refl _ | (simp; done) | (simp; omega)) _).alloc (by first | exact Nat.le_refl _ | (simp; done) | (simp; omega)) _).alloc (by first | exact Nat.le_refl _ | (simp; done) | (simp; omega)) _))) HBD.out.1 HBD.out.2.1 (below_drew ((((Below.refl wc.heap.size wc).alloc (by first | exact Nat.le_refl _ | (simp; done) | (simp; omega)) _).alloc (by first | exact Nat.le_refl _ | (simp; done) | (simp; omega)) _).alloc (by first | exact Nat.le_refl _ | (simp; done) | (simp; omega)) _)).size ?_; intro v1 x1 hown1 hgrow1 hat1; simp only [Nat.zero_add, List.nil_append] at hown1; obtain ⟨v1p, v1c, rfl⟩ := own_form5 hown1; have HB1 := Lib.hid (below_own (below_drew ((((Below.refl wc.heap.size wc).alloc (by first | exact Nat.le_refl _ | (simp; done) | (simp; omega)) _).alloc (by first | exact Nat.le_refl _ | (simp; done) | (simp; omega)) _).alloc (by first | exact Nat.le_refl _ | (simp; done) | (simp; omega)) _)) (((own_empty wc (size := 6)).alloc _).alloc _) hgrow1 (Nat.le_refl _) (below_drew ((((Below.refl wc.heap.size wc).alloc (by first | exact Nat.le_refl _ | (simp; done) | (simp; omega)) _).alloc (by first | exact Nat.le_refl _ | (simp; done) | (simp; omega)) _).alloc (by first | exact Nat.le_refl _ | (simp; done) | (simp; omega)) _)).size); have HO1 := Lib.hid hown1; have HNS : Hid (Src x1 6 (some ⟨wc.heap.size + 1, 0, none⟩) 1 [.slice qp Q.length qc, .int .i64 1, .int .i64 0, .string ⟨#[]⟩, .slice none 0 0, .slice none 0 0]) := Lib.hid (kept_srcD ((blk_two wc _ _).alloc _) hgrow1 (by first | (simp [Value.ownBlock]; done) | (simp [Value.ownBlock]; omega))); have HX1 := Lib.hid (And.intro (box_keptD (blk_three wc _ _ _) (((own_empty wc (size := 6)).alloc _).alloc _) hgrow1) (show wc.heap.size ≤ wc.heap.size + 1 + 1 by omega)); clear hown1 hgrow1 hat1)
        | (refine step_app _ (by rfl) _ _ _ (by rfl) wc.heap.size 42 i1 (.agg #[.slice none 0 0, .int .i64 0, .int .i64 0, .string ⟨#[]⟩, .slice none 0 0, .slice none 0 0]) 6 104 Tryz.underlying37 hj hy0 hy1 hy2 rfl (by decide) (.slice (some ⟨wc.heap.size, 0, none⟩) 0 0) 0 [] (by rfl) (((own_empty wc (size := 6)).alloc _).alloc _) (some ⟨g, 0, none⟩) L.length cv (flatE T) (by rfl) (HSRC.out _ (below_drew ((((Below.refl wc.heap.size wc).alloc (by first | exact Nat.le_refl _ | (simp; done) | (simp; omega)) _).alloc (by first | exact Nat.le_refl _ | (simp; done) | (simp; omega)) _).alloc (by first | exact Nat.le_refl _ | (simp; done) | (simp; omega)) _))) HBD.out.1 HBD.out.2.1 (below_drew ((((Below.refl wc.heap.size wc).alloc (by first | exact Nat.le_refl _ | (simp; done) | (simp; omega)) _).alloc (by first | exact Nat.le_refl _ | (simp; done) | (simp; omega)) _).alloc (by first | exact Nat.le_refl _ | (simp; done) | (simp; omega)) _)).size ?_; intro v1 x1 hown1 hgrow1 hat1; simp only [Nat.zero_add, List.nil_append] at hown1; obtain ⟨v1p, v1c, rfl⟩ := own_form5 hown1; have HB1 := Lib.hid (below_own (below_drew ((((Below.refl wc.heap.size wc).alloc (by first | exact Nat.le_refl _ | (simp; done) | (simp; omega)) _).alloc (by first | exact Nat.le_refl _ | (simp; done) | (simp; omega)) _).alloc (by first | exact Nat.le_refl _ | (simp; done) | (simp; omega)) _)) (((own_empty wc (size := 6)).alloc _).alloc _) hgrow1 (Nat.le_refl _) (below_drew ((((Below.refl wc.heap.size wc).alloc (by first | exact Nat.le_refl _ | (simp; done) | (simp; omega)) _).alloc (by first | exact Nat.le_refl _ | (simp; done) | (simp; omega)) _).alloc (by first | exact Nat.le_refl _ | (simp; done) | (simp; omega)) _)).size); have HO1 := Lib.hid hown1; have HNS : Hid (Src x1 6 (some ⟨wc.heap.size + 1 + 1, 0, none⟩) 1 [.slice qp Q.length qc, .int .i64 1, .int .i64 0, .string ⟨#[]⟩, .slice none 0 0, .slice none 0 0]) := Lib.hid (kept_srcD (blk_three wc _ _ _) hgrow1 (by first | (simp [Value.ownBlock]; done) | (simp [Value.ownBlock]; omega))); have HX1 := Lib.hid (And.intro (box_keptD ((blk_two wc _ _).alloc _) (((own_empty wc (size := 6)).alloc _).alloc _) hgrow1) (show wc.heap.size ≤ wc.heap.size + 1 by omega)); clear hown1 hgrow1 hat1)
        | (refine step_app _ (by rfl) _ _ _ (by rfl) wc.heap.size 42 i1 (.agg #[.slice none 0 0, .int .i64 0, .int .i64 0, .string ⟨#[]⟩, .slice none 0 0, .slice none 0 0]) 6 104 Tryz.underlying37 hj hy0 hy1 hy2 rfl (by decide) (.slice (some ⟨wc.heap.size + 1, 0, none⟩) 0 0) 0 [] (by rfl) ((own_second wc _).alloc _) (some ⟨g, 0, none⟩) L.length cv (flatE T) (by rfl) (HSRC.out _ (below_drew ((((Below.refl wc.heap.size wc).alloc (by first | exact Nat.le_refl _ | (simp; done) | (simp; omega)) _).alloc (by first | exact Nat.le_refl _ | (simp; done) | (simp; omega)) _).alloc (by first | exact Nat.le_refl _ | (simp; done) | (simp; omega)) _))) HBD.out.1 HBD.out.2.1 (below_drew ((((Below.refl wc.heap.size wc).alloc (by first | exact Nat.le_refl _ | (simp; done) | (simp; omega)) _).alloc (by first | exact Nat.le_refl _ | (simp; done) | (simp; omega)) _).alloc (by first | exact Nat.le_refl _ | (simp; done) | (simp; omega)) _)).size ?_; intro v1 x1 hown1 hgrow1 hat1; simp only [Nat.zero_add, List.nil_append] at hown1; obtain ⟨v1p, v1c, rfl⟩ := own_form5 hown1; have HB1 := Lib.hid (below_own (below_drew ((((Below.refl wc.heap.size wc).alloc (by first | exact Nat.le_refl _ | (simp; done) | (simp; omega)) _).alloc (by first | exact Nat.le_refl _ | (simp; done) | (simp; omega)) _).alloc (by first | exact Nat.le_refl _ | (simp; done) | (simp; omega)) _)) ((own_second wc _).alloc _) hgrow1 (Nat.le_refl _) (below_drew ((((Below.refl wc.heap.size wc).alloc (by first | exact Nat.le_refl _ | (simp; done) | (simp; omega)) _).alloc (by first | exact Nat.le_refl _ | (simp; done) | (simp; omega)) _).alloc (by first | exact Nat.le_refl _ | (simp; done) | (simp; omega)) _)).size); have HO1 := Lib.hid hown1; have HNS : Hid (Src x1 6 (some ⟨wc.heap.size, 0, none⟩) 1 [.slice qp Q.length qc, .int .i64 1, .int .i64 0, .string ⟨#[]⟩, .slice none 0 0, .slice none 0 0]) := Lib.hid (kept_srcD (((Blk.new wc _ _).alloc _).alloc _) hgrow1 (by first | (simp [Value.ownBlock]; done) | (simp [Value.ownBlock]; omega))); have HX1 := Lib.hid (And.intro (box_keptD (blk_three wc _ _ _) ((own_second wc _).alloc _) hgrow1) (show wc.heap.size ≤ wc.heap.size + 1 + 1 by omega)); clear hown1 hgrow1 hat1)
        | (refine step_app _ (by rfl) _ _ _ (by rfl) wc.heap.size 42 i1 (.agg #[.slice none 0 0, .int .i64 0, .int .i64 0, .string ⟨#[]⟩, .slice none 0 0, .slice none 0 0]) 6 104 Tryz.underlying37 hj hy0 hy1 hy2 rfl (by decide) (.slice (some ⟨wc.heap.size + 1 + 1, 0, none⟩) 0 0) 0 [] (by rfl) (own_third wc _ _) (some ⟨g, 0, none⟩) L.length cv (flatE T) (by rfl) (HSRC.out _ (below_drew ((((Below.refl wc.heap.size wc).alloc (by first | exact Nat.le_refl _ | (simp; done) | (simp; omega)) _).alloc (by first | exact Nat.le_refl _ | (simp; done) | (simp; omega)) _).alloc (by first | exact Nat.le_refl _ | (simp; done) | (simp; omega)) _))) HBD.out.1 HBD.out.2.1 (below_drew ((((Below.refl wc.heap.size wc).alloc (by first | exact Nat.le_refl _ | (simp; done) | (simp; omega)) _).alloc (by first | exact Nat.le_refl _ | (simp; done) | (simp; omega)) _).alloc (by first | exact Nat.le_refl _ | (simp; done) | (simp; omega)) _)).size ?_; intro v1 x1 hown1 hgrow1 hat1; simp only [Nat.zero_add, List.nil_append] at hown1; obtain ⟨v1p, v1c, rfl⟩ := own_form5 hown1; have HB1 := Lib.hid (below_own (below_drew ((((Below.refl wc.heap.size wc).alloc (by first | exact Nat.le_refl _ | (simp; done) | (simp; omega)) _).alloc (by first | exact Nat.le_refl _ | (simp; done) | (simp; omega)) _).alloc (by first | exact Nat.le_refl _ | (simp; done) | (simp; omega)) _)) (own_third wc _ _) hgrow1 (Nat.le_refl _) (below_drew ((((Below.refl wc.heap.size wc).alloc (by first | exact Nat.le_refl _ | (simp; done) | (simp; omega)) _).alloc (by first | exact Nat.le_refl _ | (simp; done) | (simp; omega)) _).alloc (by first | exact Nat.le_refl _ | (simp; done) | (simp; omega)) _)).size); have HO1 := Lib.hid hown1; have HNS : Hid (Src x1 6 (some ⟨wc.heap.size, 0, none⟩) 1 [.slice qp Q.length qc, .int .i64 1, .int .i64 0, .string ⟨#[]⟩, .slice none 0 0, .slice none 0 0]) := Lib.hid (kept_srcD (((Blk.new wc _ _).alloc _).alloc _) hgrow1 (by first | (simp [Value.ownBlock]; done) | (simp [Value.ownBlock]; omega))); have HX1 := Lib.hid (And.intro (box_keptD ((blk_two wc _ _).alloc _) (own_third wc _ _) hgrow1) (show wc.heap.size ≤ wc.heap.size + 1 by omega)); clear hown1 hgrow1 hat1)
        | (refine step_app _ (by rfl) _ _ _ (by rfl) wc.heap.size 42 i1 (.agg #[.slice none 0 0, .int .i64 0, .int .i64 0, .string ⟨#[]⟩, .slice none 0 0, .slice none 0 0]) 6 104 Tryz.underlying37 hj hy0 hy1 hy2 rfl (by decide) (.slice (some ⟨wc.heap.size + 1, 0, none⟩) 0 0) 0 [] (by rfl) ((own_second wc _).alloc _) (some ⟨g, 0, none⟩) L.length cv (flatE T) (by rfl) (HSRC.out _ (below_drew ((((Below.refl wc.heap.size wc).alloc (by first | exact Nat.le_refl _ | (simp; done) | (simp; omega)) _).alloc (by first | exact Nat.le_refl _ | (simp; done) | (simp; omega)) _).alloc (by first | exact Nat.le_refl _ | (simp; done) | (simp; omega)) _))) HBD.out.1 HBD.out.2.1 (below_drew ((((Below.refl wc.heap.size wc).alloc (by first | exact Nat.le_refl _ | (simp; done) | (simp; omega)) _).alloc (by first | exact Nat.le_refl _ | (simp; done) | (simp; omega)) _).alloc (by first | exact Nat.le_refl _ | (simp; done) | (simp; omega)) _)).size ?_; intro v1 x1 hown1 hgrow1 hat1; simp only [Nat.zero_add, List.nil_append] at hown1; obtain ⟨v1p, v1c, rfl⟩ := own_form5 hown1; have HB1 := Lib.hid (below_own (below_drew ((((Below.refl wc.heap.size wc).alloc (by first | exact Nat.le_refl _ | (simp; done) | (simp; omega)) _).alloc (by first | exact Nat.le_refl _ | (simp; done) | (simp; omega)) _).alloc (by first | exact Nat.le_refl _ | (simp; done) | (simp; omega)) _)) ((own_second wc _).alloc _) hgrow1 (Nat.le_refl _) (below_drew ((((Below.refl wc.heap.size wc).alloc (by first | exact Nat.le_refl _ | (simp; done) | (simp; omega)) _).alloc (by first | exact Nat.le_refl _ | (simp; done) | (simp; omega)) _).alloc (by first | exact Nat.le_refl _ | (simp; done) | (simp; omega)) _)).size); have HO1 := Lib.hid hown1; have HNS : Hid (Src x1 6 (some ⟨wc.heap.size + 1 + 1, 0, none⟩) 1 [.slice qp Q.length qc, .int .i64 1, .int .i64 0, .string ⟨#[]⟩, .slice none 0 0, .slice none 0 0]) := Lib.hid (kept_srcD (blk_three wc _ _ _) hgrow1 (by first | (simp [Value.ownBlock]; done) | (simp [Value.ownBlock]; omega))); have HX1 := Lib.hid (And.intro (box_keptD (((Blk.new wc _ _).alloc _).alloc _) ((own_second wc _).alloc _) hgrow1) (show wc.heap.size ≤ wc.heap.size by omega)); clear hown1 hgrow1 hat1)
        | (refine step_app _ (by rfl) _ _ _ (by rfl) wc.heap.size 42 i1 (.agg #[.slice none 0 0, .int .i64 0, .int .i64 0, .string ⟨#[]⟩, .slice none 0 0, .slice none 0 0]) 6 104 Tryz.underlying37 hj hy0 hy1 hy2 rfl (by decide) (.slice (some ⟨wc.heap.size + 1 + 1, 0, none⟩) 0 0) 0 [] (by rfl) (own_third wc _ _) (some ⟨g, 0, none⟩) L.length cv (flatE T) (by rfl) (HSRC.out _ (below_drew ((((Below.refl wc.heap.size wc).alloc (by first | exact Nat.le_refl _ | (simp; done) | (simp; omega)) _).alloc (by first | exact Nat.le_refl _ | (simp; done) | (simp; omega)) _).alloc (by first | exact Nat.le_refl _ | (simp; done) | (simp; omega)) _))) HBD.out.1 HBD.out.2.1 (below_drew ((((Below.refl wc.heap.size wc).alloc (by first | exact Nat.le_refl _ | (simp; done) | (simp; omega)) _).alloc (by first | exact Nat.le_refl _ | (simp; done) | (simp; omega)) _).alloc (by first | exact Nat.le_refl _ | (simp; done) | (simp; omega)) _)).size ?_; intro v1 x1 hown1 hgrow1 hat1; simp only [Nat.zero_add, List.nil_append] at hown1; obtain ⟨v1p, v1c, rfl⟩ := own_form5 hown1; have HB1 := Lib.hid (below_own (below_drew ((((Below.refl wc.heap.size wc).alloc (by first | exact Nat.le_refl _ | (simp; done) | (simp; omega)) _).alloc (by first | exact Nat.le_refl _ | (simp; done) | (simp; omega)) _).alloc (by first | exact Nat.le_refl _ | (simp; done) | (simp; omega)) _)) (own_third wc _ _) hgrow1 (Nat.le_refl _) (below_drew ((((Below.refl wc.heap.size wc).alloc (by first | exact Nat.le_refl _ | (simp; done) | (simp; omega)) _).alloc (by first | exact Nat.le_refl _ | (simp; done) | (simp; omega)) _).alloc (by first | exact Nat.le_refl _ | (simp; done) | (simp; omega)) _)).size); have HO1 := Lib.hid hown1; have HNS : Hid (Src x1 6 (some ⟨wc.heap.size + 1, 0, none⟩) 1 [.slice qp Q.length qc, .int .i64 1, .int .i64 0, .string ⟨#[]⟩, .slice none 0 0, .slice none 0 0]) := Lib.hid (kept_srcD ((blk_two wc _ _).alloc _) hgrow1 (by first | (simp [Value.ownBlock]; done) | (simp [Value.ownBlock]; omega))); have HX1 := Lib.hid (And.intro (box_keptD (((Blk.new wc _ _).alloc _).alloc _) (own_third wc _ _) hgrow1) (show wc.heap.size ≤ wc.heap.size by omega)); clear hown1 hgrow1 hat1)
        | (refine step_app _ (by rfl) _ _ _ (by rfl) wc.heap.size 42 i1 (.agg #[.slice none 0 0, .int .i64 0, .int .i64 0, .string ⟨#[]⟩, .slice none 0 0, .slice none 0 0]) 6 104 Tryz.underlying37 hj hy0 hy1 hy2 rfl (by decide) (.slice v1p L.length v1c) L.length (flatE T) (by rfl) HO1.out _ 1 1 [.slice qp Q.length qc, .int .i64 1, .int .i64 0, .string ⟨#[]⟩, .slice none 0 0, .slice none 0 0] (by rfl) HNS.out HBD.out.2.2.1 HBD.out.2.2.2 HB1.out.size ?_; intro v2 x2 hown2 hgrow2 hat2; obtain ⟨v2p, v2c, rfl⟩ := own_form5 hown2; have HB2 := Lib.hid (below_own HB1.out HO1.out hgrow2 (Nat.le_refl _) HB1.out.size); have HO2 := Lib.hid hown2; have HX2 := Lib.hid (And.intro (box_kept HX1.out.1 HO1.out hgrow2) HX1.out.2); clear hown2 hgrow2 hat2)
        | (refine step_app _ (by rfl) _ _ _ (by rfl) wc.heap.size 42 i1 (.agg #[.slice none 0 0, .int .i64 0, .int .i64 0, .string ⟨#[]⟩, .slice none 0 0, .slice none 0 0]) 6 104 Tryz.underlying37 hj hy0 hy1 hy2 rfl (by decide) (.slice v1p L.length v1c) L.length (flatE T) (by rfl) HO1.out _ 1 1 [.slice qp Q.length qc, .int .i64 1, .int .i64 0, .string ⟨#[]⟩, .slice none 0 0, .slice none 0 0] (by rfl) HNS.out HBD.out.2.2.1 HBD.out.2.2.2 HB1.out.size ?_; intro v2 x2 hown2 hgrow2 hat2; obtain ⟨v2p, v2c, rfl⟩ := own_form5 hown2; have HB2 := Lib.hid (below_own HB1.out HO1.out hgrow2 (Nat.le_refl _) HB1.out.size); have HO2 := Lib.hid hown2; clear hown2 hgrow2 hat2)
        | (refine step_app _ (by rfl) _ _ _ (by rfl) wc.heap.size 42 i1 (.agg #[.slice none 0 0, .int .i64 0, .int .i64 0, .string ⟨#[]⟩, .slice none 0 0, .slice none 0 0]) 6 104 Tryz.underlying37 hj hy0 hy1 hy2 rfl (by decide) (.slice v1p L.length v1c) L.length (flatE T) (by rfl) (HO1.out.alloc _) _ 1 1 [.slice qp Q.length qc, .int .i64 1, .int .i64 0, .string ⟨#[]⟩, .slice none 0 0, .slice none 0 0] (by rfl) (HNS.out.up) HBD.out.2.2.1 HBD.out.2.2.2 (HB1.out.alloc (by first | exact HB1.out.size | (have := HB1.out.size; simp; omega)) _).size ?_; intro v2 x2 hown2 hgrow2 hat2; obtain ⟨v2p, v2c, rfl⟩ := own_form5 hown2; have HB2 := Lib.hid (below_own (HB1.out.alloc (by first | exact HB1.out.size | (have := HB1.out.size; simp; omega)) _) (HO1.out.alloc _) hgrow2 (Nat.le_refl _) (HB1.out.alloc (by first | exact HB1.out.size | (have := HB1.out.size; simp; omega)) _).size); have HO2 := Lib.hid hown2; have HX2 := Lib.hid (And.intro (box_kept (Blk.new x1 _ _) (HO1.out.alloc _) hgrow2) (show wc.heap.size ≤ x1.heap.size by have := HB1.out.size; omega)); clear hown2 hgrow2 hat2)
        | (refine step_app _ (by rfl) _ _ _ (by rfl) wc.heap.size 42 i1 (.agg #[.slice none 0 0, .int .i64 0, .int .i64 0, .string ⟨#[]⟩, .slice none 0 0, .slice none 0 0]) 6 104 Tryz.underlying37 hj hy0 hy1 hy2 rfl (by decide) (.slice v1p L.length v1c) L.length (flatE T) (by rfl) (HO1.out.alloc _) (some ⟨x1.heap.size, 0, none⟩) 1 1 [.slice qp Q.length qc, .int .i64 1, .int .i64 0, .string ⟨#[]⟩, .slice none 0 0, .slice none 0 0] (by rfl) (new_src x1 _ _) HBD.out.2.2.1 HBD.out.2.2.2 (HB1.out.alloc (by first | exact HB1.out.size | (have := HB1.out.size; simp; omega)) _).size ?_; intro v2 x2 hown2 hgrow2 hat2; obtain ⟨v2p, v2c, rfl⟩ := own_form5 hown2; have HB2 := Lib.hid (below_own (HB1.out.alloc (by first | exact HB1.out.size | (have := HB1.out.size; simp; omega)) _) (HO1.out.alloc _) hgrow2 (Nat.le_refl _) (HB1.out.alloc (by first | exact HB1.out.size | (have := HB1.out.size; simp; omega)) _).size); have HO2 := Lib.hid hown2; have HX2 := Lib.hid (And.intro (box_kept (HX1.out.1.alloc _) (HO1.out.alloc _) hgrow2) HX1.out.2); clear hown2 hgrow2 hat2)
        | (refine step_app _ (by rfl) _ _ _ (by rfl) wc.heap.size 42 i1 (.agg #[.slice none 0 0, .int .i64 0, .int .i64 0, .string ⟨#[]⟩, .slice none 0 0, .slice none 0 0]) 6 104 Tryz.underlying37 hj hy0 hy1 hy2 rfl (by decide) (.slice v1p L.length v1c) L.length (flatE T) (by rfl) (HO1.out.alloc _) (some ⟨x1.heap.size, 0, none⟩) 1 1 [.slice qp Q.length qc, .int .i64 1, .int .i64 0, .string ⟨#[]⟩, .slice none 0 0, .slice none 0 0] (by rfl) (new_src x1 _ _) HBD.out.2.2.1 HBD.out.2.2.2 (HB1.out.alloc (by first | exact HB1.out.size | (have := HB1.out.size; simp; omega)) _).size ?_; intro v2 x2 hown2 hgrow2 hat2; obtain ⟨v2p, v2c, rfl⟩ := own_form5 hown2; have HB2 := Lib.hid (below_own (HB1.out.alloc (by first | exact HB1.out.size | (have := HB1.out.size; simp; omega)) _) (HO1.out.alloc _) hgrow2 (Nat.le_refl _) (HB1.out.alloc (by first | exact HB1.out.size | (have := HB1.out.size; simp; omega)) _).size); have HO2 := Lib.hid hown2; clear hown2 hgrow2 hat2)
        | (refine step_app _ (by rfl) _ _ _ (by rfl) wc.heap.size 42 i1 (.agg #[.slice none 0 0, .int .i64 0, .int .i64 0, .string ⟨#[]⟩, .slice none 0 0, .slice none 0 0]) 6 104 Tryz.underlying37 hj hy0 hy1 hy2 rfl (by decide) (.slice v1p L.length v1c) L.length (flatE T) (by rfl) ((HO1.out.alloc _).alloc _) (some ⟨x1.heap.size, 0, none⟩) 1 1 [.slice qp Q.length qc, .int .i64 1, .int .i64 0, .string ⟨#[]⟩, .slice none 0 0, .slice none 0 0] (by rfl) ((new_src x1 _ _).up) HBD.out.2.2.1 HBD.out.2.2.2 ((HB1.out.alloc (by first | exact HB1.out.size | (have := HB1.out.size; simp; omega)) _).alloc (by first | exact HB1.out.size | (have := HB1.out.size; simp; omega)) _).size ?_; intro v2 x2 hown2 hgrow2 hat2; obtain ⟨v2p, v2c, rfl⟩ := own_form5 hown2; have HB2 := Lib.hid (below_own ((HB1.out.alloc (by first | exact HB1.out.size | (have := HB1.out.size; simp; omega)) _).alloc (by first | exact HB1.out.size | (have := HB1.out.size; simp; omega)) _) ((HO1.out.alloc _).alloc _) hgrow2 (Nat.le_refl _) ((HB1.out.alloc (by first | exact HB1.out.size | (have := HB1.out.size; simp; omega)) _).alloc (by first | exact HB1.out.size | (have := HB1.out.size; simp; omega)) _).size); have HO2 := Lib.hid hown2; have HX2 := Lib.hid (And.intro (box_kept (blk_two x1 _ _) ((HO1.out.alloc _).alloc _) hgrow2) (show wc.heap.size ≤ x1.heap.size + 1 by have := HB1.out.size; omega)); clear hown2 hgrow2 hat2)
        | (refine step_app _ (by rfl) _ _ _ (by rfl) wc.heap.size 42 i1 (.agg #[.slice none 0 0, .int .i64 0, .int .i64 0, .string ⟨#[]⟩, .slice none 0 0, .slice none 0 0]) 6 104 Tryz.underlying37 hj hy0 hy1 hy2 rfl (by decide) (.slice v1p L.length v1c) L.length (flatE T) (by rfl) ((HO1.out.alloc _).alloc _) (some ⟨x1.heap.size + 1, 0, none⟩) 1 1 [.slice qp Q.length qc, .int .i64 1, .int .i64 0, .string ⟨#[]⟩, .slice none 0 0, .slice none 0 0] (by rfl) (new_src2 x1 _ _ _) HBD.out.2.2.1 HBD.out.2.2.2 ((HB1.out.alloc (by first | exact HB1.out.size | (have := HB1.out.size; simp; omega)) _).alloc (by first | exact HB1.out.size | (have := HB1.out.size; simp; omega)) _).size ?_; intro v2 x2 hown2 hgrow2 hat2; obtain ⟨v2p, v2c, rfl⟩ := own_form5 hown2; have HB2 := Lib.hid (below_own ((HB1.out.alloc (by first | exact HB1.out.size | (have := HB1.out.size; simp; omega)) _).alloc (by first | exact HB1.out.size | (have := HB1.out.size; simp; omega)) _) ((HO1.out.alloc _).alloc _) hgrow2 (Nat.le_refl _) ((HB1.out.alloc (by first | exact HB1.out.size | (have := HB1.out.size; simp; omega)) _).alloc (by first | exact HB1.out.size | (have := HB1.out.size; simp; omega)) _).size); have HO2 := Lib.hid hown2; have HX2 := Lib.hid (And.intro (box_kept ((Blk.new x1 _ _).alloc _) ((HO1.out.alloc _).alloc _) hgrow2) (show wc.heap.size ≤ x1.heap.size by have := HB1.out.size; omega)); clear hown2 hgrow2 hat2)
        | (go_at_call 16; refine (Build_any (clash_ents (T := T) (Q := Q) HG.out HB3.out HQ.out HB2.out (by rw [HTL.out]; exact HO2.out)) HLIMS.out).mono ?_; rintro e x3 hp; rw [HBX.out] at hp; obtain ⟨p3, cap3, q3, caq3, rfl, -, hb⟩ := hp.open; have HB4 := Lib.hid (HB2.out.trans (hb.mono HB2.out.size)); have HX3 := HX2.out.2; have hx := HX2.out.1.below hb; have z0 := hx.cell 0; have y0 := hx.frozen 0; have z1 := hx.cell 1; have y1 := hx.frozen 1; have z2 := hx.cell 2; have y2 := hx.frozen 2; have z3 := hx.cell 3; have y3 := hx.frozen 3; have z4 := hx.cell 4; have y4 := hx.frozen 4; simp at z0 z1 z2 z3 z4; have hlx := hx.lt; clear hx; clear hb hp)
        | (go_at_call 16; refine (Build_any (clash_ents (T := T) (Q := Q) HG.out HB3.out HQ.out (HB2.out.alloc HB2.out.size _) (by rw [HTL.out]; exact (HO2.out.alloc _))) HLIMS.out).mono ?_; rintro e x3 hp; rw [HBX.out] at hp; obtain ⟨p3, cap3, q3, caq3, rfl, -, hb⟩ := hp.open; have HB4 := Lib.hid ((HB2.out.alloc HB2.out.size _).trans (hb.mono (HB2.out.alloc HB2.out.size _).size)); have HX3 := HB2.out.size; have hx := (Blk.new x2 _ _).below hb; have z0 := hx.cell 0; have y0 := hx.frozen 0; have z1 := hx.cell 1; have y1 := hx.frozen 1; have z2 := hx.cell 2; have y2 := hx.frozen 2; have z3 := hx.cell 3; have y3 := hx.frozen 3; have z4 := hx.cell 4; have y4 := hx.frozen 4; simp at z0 z1 z2 z3 z4; have hlx := hx.lt; clear hx; clear hb hp)
        | (go_at_call 16; refine (Build_any (clash_ents (T := T) (Q := Q) HG.out HB3.out HQ.out HB2.out (by rw [HTL.out]; exact HO2.out)) HLIMS.out).mono ?_; rintro e x3 hp; rw [HBX.out] at hp; obtain ⟨p3, cap3, q3, caq3, rfl, -, hb⟩ := hp.open; have HB4 := Lib.hid (HB2.out.trans (hb.mono HB2.out.size)); clear hb hp))
    all_goals
      have HWS := Lib.hid (HB2'.out.trans (HB3.out.mono HB2'.out.size)).size
      have HB5 := Lib.hid ((HB2'.out.trans (HB3.out.mono HB2'.out.size)).trans (HB4.out.mono HWS.out))
      clear HKE HSRC HB0
      go_wp2_with fail
      refine (awake_from HE.out HM.out _ (by first | with_reducible exact HB5.out.alloc HB5.out.size _ | with_reducible exact ((((HB5.out.setCell (Nat.le_trans HWS.out HX3) _).setCell (Nat.le_trans HWS.out HX3) _).setCell (Nat.le_trans HWS.out HX3) _).setCell (Nat.le_trans HWS.out HX3) _).setCell (Nat.le_trans HWS.out HX3) _)).mono ?_
      rintro e x9 ⟨rfl, hb⟩
      have HB9 := Lib.hid hb
      clear hb
      go_wp2_with fail
      go_ret
      exact ⟨rfl, HB9.out⟩
end Go.Proofs.YtoahmganodehkaaGreatDoor
