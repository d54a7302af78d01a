/- Walks of law39's entries: of any list that can be read. -/
import Derived.Test.YtoahmganodehkaaGreatDoorM17
import Derived.Test.YtoahmganodehkaaGreatDoorM16
import Derived.Test.YtoahmganodehkaaGreatDoorM05
import Derived.Test.YtoahmganodehkaaGreatDoorM08
import Derived.Test.YtoahmganodehkaaGreatDoorM12
import Derived.Test.YtoahmganodehkaaGreatDoorM01
import Derived.Test.YtoahmganodehkaaGreatDoorM09
namespace Go.Proofs.YtoahmganodehkaaGreatDoor
set_option linter.unusedSimpArgs false
set_option linter.unusedVariables false
section
open Go.RowKit

set_option maxRecDepth 100000 in
set_option maxHeartbeats 4000000 in
theorem entries_wide {w : World} {ok : Nat → Prop} {p : Option Addr} {cap B o : Nat} {T : List Env} (hT : T.length * 104 ≤ 140737488355328) (hp : 0 < T.length → p = some ⟨B, o, none⟩ ∧ T.length ≤ cap ∧ B < w.heap.size ∧ ok B) (hg : ∀ t ∈ T, t.good w ok)
    (hc : ∀ (i : Nat) (u : Value), (flatE T)[i]? = some u → w.cell? ⟨B, o + i, none⟩ = some u) : Calls Tryz.prog 19 #[.slice p T.length cap] w (EntsP w T) := by
  obtain ⟨i0, hi, hz0, hz1, hz2⟩ := info_parts infoREnt
  have HP := Lib.hid hp
  have HCL := Lib.hid (fun j (hj : j < T.length) => env_cells hj hg hc)
  clear hp hg hc
  go_enter Tryz.func19, Tryz.ntmps19
  go_wp2_with fail
  go_loopw [3, 4] (fun u x wr => ∃ (i : Nat) (up : Option Addr) (uc : Nat), u = .slice up i uc ∧ x = .int .i64 (i : Int) ∧ i ≤ T.length ∧ Hid (wr.ownsRow w.heap.size 74 6 (.slice up i uc) i (flatE (T.take i))) ∧ Hid (Below w.heap.size w wr)) (fun _ x _ => T.length - (intOf x).toNat)
  case atStart => exact ⟨0, none, 0, rfl, rfl, Nat.zero_le _, Lib.hid (World.ownsRow_nil _ _ _ _), Lib.hid (Below.refl _ _)⟩
  case round =>
    obtain ⟨i, up, uc, rfl, rfl, hi', HO, HB⟩ := hrel
    by_cases hlt : i < T.length
    · obtain ⟨rfl, hcap, hB, -⟩ := HP.out (by omega)
      obtain ⟨p1, n1, c1, k1, z1, s1, p2, n2, c2, p3, n3, c3, ec, x0, x1, x2, x3, x4, x5⟩ := HCL.out i hlt
      have HEC := Lib.hid ec
      have hBl : B < wr.heap.size := Nat.lt_of_lt_of_le hB HB.out.size
      replace x0 := (HB.out.cell (p := ⟨B, o + i * 6, none⟩) hB).trans x0
      replace x1 := (HB.out.cell (p := ⟨B, o + i * 6 + 1, none⟩) hB).trans x1
      replace x2 := (HB.out.cell (p := ⟨B, o + i * 6 + 2, none⟩) hB).trans x2
      replace x3 := (HB.out.cell (p := ⟨B, o + i * 6 + 3, none⟩) hB).trans x3
      replace x4 := (HB.out.cell (p := ⟨B, o + i * 6 + 4, none⟩) hB).trans x4
      replace x5 := (HB.out.cell (p := ⟨B, o + i * 6 + 5, none⟩) hB).trans x5
      have HKE := Lib.hid (fun w' (hb : Below wr.heap.size wr w') => And.intro ((hb.cell (p := ⟨B, o + i * 6, none⟩) hBl).trans x0) (And.intro ((hb.cell (p := ⟨B, o + i * 6 + 1, none⟩) hBl).trans x1) (And.intro ((hb.cell (p := ⟨B, o + i * 6 + 2, none⟩) hBl).trans x2) (And.intro ((hb.cell (p := ⟨B, o + i * 6 + 3, none⟩) hBl).trans x3) (And.intro ((hb.cell (p := ⟨B, o + i * 6 + 4, none⟩) hBl).trans x4) ((hb.cell (p := ⟨B, o + i * 6 + 5, none⟩) hBl).trans x5))))))
      have HB0 := Lib.hid (below_drew (Below.refl wr.heap.size wr))
      have HBD := Lib.hid (And.intro (show i + 1 ≤ maxLen by unfold maxLen; omega) (show (i + 1) * 104 ≤ 140737488355328 by omega))
      clear ec
      go_wp2_with fail
      go_region_held3 (fun w' => w'.cell? ⟨B, o + i * 6, none⟩ = some (.slice p1 n1 c1) ∧ w'.cell? ⟨B, o + i * 6 + 1, none⟩ = some (.int .i64 k1) ∧ w'.cell? ⟨B, o + i * 6 + 2, none⟩ = some (.int .i64 z1) ∧ w'.cell? ⟨B, o + i * 6 + 3, none⟩ = some (.string (S s1)) ∧ w'.cell? ⟨B, o + i * 6 + 4, none⟩ = some (.slice p2 n2 c2) ∧ w'.cell? ⟨B, o + i * 6 + 5, none⟩ = some (.slice p3 n3 c3))
        (first
          | with_reducible exact HKE.out _ HB0.out
          | with_reducible exact HKE.out _ (below_drew ((Below.refl wr.heap.size wr).alloc (Nat.le_refl _) _))
          | with_reducible exact HK9.out
          | go_keep)
        (first
          | (refine step_app _ (by rfl) _ _ _ (by rfl) w.heap.size 74 i0 (.agg #[.slice none 0 0, .int .i64 0, .int .i64 0, .string ⟨#[]⟩, .slice none 0 0, .slice none 0 0]) 6 104 Tryz.underlying48 hi hz0 hz1 hz2 rfl (by decide) (.slice up i uc) i (flatE (T.take i)) (by rfl) (HO.out.alloc _) (some ⟨wr.heap.size, 0, none⟩) 1 1 [.slice p1 n1 c1, .int .i64 k1, .int .i64 z1, .string (S s1), .slice p2 n2 c2, .slice p3 n3 c3] (by rfl) (new_srcN wr _ _) HBD.out.1 HBD.out.2 (HB.out.alloc HB.out.size _).size ?_; intro v9 x9 hown9 hgrow9 hat9; obtain ⟨u9p, u9c, rfl⟩ := own_form5 hown9; have HO9 := Lib.hid (show x9.ownsRow w.heap.size 74 6 (.slice u9p (i + 1) u9c) (i + 1) (flatE (T.take (i + 1))) by rw [flatE_taken hlt, HEC.out]; exact hown9); have HB9 := Lib.hid (below_own (below_drew (HB.out.alloc HB.out.size _)) (HO.out.alloc _) hgrow9 (Nat.le_refl _) (HB.out.alloc HB.out.size _).size); have HK9 := Lib.hid (And.intro ((far_cell HO.out hgrow9 hB hBl).trans x0) (And.intro ((far_cell HO.out hgrow9 hB hBl).trans x1) (And.intro ((far_cell HO.out hgrow9 hB hBl).trans x2) (And.intro ((far_cell HO.out hgrow9 hB hBl).trans x3) (And.intro ((far_cell HO.out hgrow9 hB hBl).trans x4) ((far_cell HO.out hgrow9 hB hBl).trans x5)))))); clear hown9 hgrow9 hat9))
      all_goals
        go_wp2_with fail
        go_roundw
        case rel => exact ⟨i + 1, u9p, u9c, by simp, by go_num, hlt, HO9, HB9⟩
        case measure => simp [intOf]; omega
    · obtain rfl : i = T.length := by omega
      have HF := Lib.hid (show EntsP w T (.returned (.slice up T.length uc)) wr from ⟨_, rfl, by have h := HO.out; rwa [List.take_length] at h, HB.out⟩)
      clear HO HB
      go_wp2_with fail
      go_ret
      exact HF.out
theorem entries_big {w : World} {ok : Nat → Prop} {v : Value} {L : List Ent} (h : EntR w ok v L) (hl : L.length * 104 ≤ 140737488355328) : Calls Tryz.prog 19 #[v] w fun e w' => (∃ p c, e = .returned (.slice p L.length c) ∧ EntR w' (fun _ => True) (.slice p L.length c) L) ∧ Below w.heap.size w w' := by
  obtain ⟨T, p, cap, B, o, hT, rfl, hp, hg, hc⟩ := h.envs
  have hTl : T.length = L.length := by rw [← hT, List.length_map]
  refine (entries_wide (by rw [hTl]; exact hl) hp hg hc).mono ?_
  rintro e w' ⟨v', rfl, ho, hb⟩
  have he : EntR w' (fun _ => True) v' (T.map Env.e) := own_ents ho (fun _ _ => trivial) fun t ht => ⟨((hg t ht).1.under hb).mono fun _ _ _ => trivial, ((hg t ht).2.under hb).mono fun _ _ _ => trivial⟩
  rw [hT] at he
  obtain ⟨p', c', e'⟩ := own_form5 ho
  rw [hTl] at e'
  subst e'
  exact ⟨⟨p', c', rfl, he⟩, hb⟩
end
section
open Go.RowKit

theorem leafC_eq (d : Dat) : leafC d = leafB d := by
  rw [Bool.eq_iff_iff, leaf_iff]
  unfold leafC
  simp only [Bool.and_eq_true, decide_eq_true_eq, beq_iff_eq]
  constructor
  · rintro ⟨⟨h1, h2⟩, h3⟩
    exact ⟨h1, List.length_eq_zero_iff.1 (by omega), List.length_eq_zero_iff.1 (by omega)⟩
  · rintro ⟨h1, h2, h3⟩
    rw [h2, h3]; exact ⟨⟨h1, rfl⟩, rfl⟩
theorem kinds_drop {L : List Ent} {i : Nat} (h : i < L.length) : kindsB (L.drop i) = (okL L[i].1 && leafB L[i].2 && kindsB (L.drop (i + 1))) := by
  rw [List.drop_eq_getElem_cons h]; rfl
set_option maxRecDepth 100000 in
set_option maxHeartbeats 4000000 in
theorem refKinds_any {w : World} {ok : Nat → Prop} {v : Value} {L : List Ent} (h : EntR w ok v L) (hl : L.length ≤ 1000000) (hm : ∀ e ∈ L, e.1.length ≤ 1000000) :
    Calls Tryz.prog 44 #[v] w fun e w' => e = .returned (.bool (kindsB L)) ∧ Below w.heap.size w w' := by
  obtain ⟨pa, ca, Ba, oa, rfl, hA⟩ := h.open
  have HA := Lib.hid hA
  have HM := Lib.hid hm
  obtain ⟨r, hr⟩ : ∃ r, kindsB L = r := ⟨_, rfl⟩
  rw [hr]
  have HR := Lib.hid (show kindsB (L.drop 0) = r from hr)
  clear h hA hm hr
  go_enter Tryz.func44, Tryz.ntmps44
  go_wp2_with fail
  go_loopw [3] (fun x wr => ∃ i : Nat, x = .int .i64 (i : Int) ∧ i ≤ L.length ∧ Hid (Below w.heap.size w wr) ∧ Hid (kindsB (L.drop i) = r)) (fun x _ => L.length - (intOf x).toNat)
  case atStart => exact ⟨0, rfl, Nat.zero_le _, Lib.hid (Below.refl _ _), HR⟩
  case round =>
    clear HR
    obtain ⟨i, rfl, hi, HW, HV⟩ := hrel
    by_cases hlt : i < L.length
    · obtain ⟨pva, via, vma, rfl, hca, hla, -, a0, da, sa, ra⟩ := HA.out i hlt
      have HPL := Lib.hid (HM.out _ (List.getElem_mem hlt))
      have HSA := Lib.hid (sa.under HW.out)
      have HRA := Lib.hid (ra.under HW.out)
      have HV1 := Lib.hid ((kinds_drop hlt).symm.trans HV.out)
      obtain ⟨a1, a2, a3, a4, a5⟩ := da.below HW.out hla
      replace a0 := (HW.out.cell (p := ⟨Ba, oa + i * 6, none⟩) hla).trans a0
      have hBl : Ba < wr.heap.size := Nat.lt_of_lt_of_le hla HW.out.size
      clear da sa ra HV
      generalize L[i] = q at a0 a1 a2 a3 a4 a5 HSA HRA HPL HV1
      obtain ⟨P, x⟩ := q
      simp only at a0 a1 a2 a3 a4 a5 HSA HRA HPL HV1
      go_wp2_with fail
      refine (refValid_any _ P _ HSA.out.sls HPL.out).mono ?_
      rintro e x1 ⟨rfl, hb⟩
      replace a1 := (hb.cell (p := ⟨Ba, oa + i * 6 + 1, none⟩) hBl).trans a1
      replace a2 := (hb.cell (p := ⟨Ba, oa + i * 6 + 1 + 1, none⟩) hBl).trans a2
      replace a3 := (hb.cell (p := ⟨Ba, oa + i * 6 + 1 + 2, none⟩) hBl).trans a3
      replace a4 := (hb.cell (p := ⟨Ba, oa + i * 6 + 1 + 3, none⟩) hBl).trans a4
      replace a5 := (hb.cell (p := ⟨Ba, oa + i * 6 + 1 + 4, none⟩) hBl).trans a5
      have HB1 := Lib.hid hb
      have HW1 := Lib.hid (HW.out.trans (hb.mono HW.out.size))
      clear hb a0
      generalize okL P = b1 at HV1 ⊢
      rcases Bool.eq_false_or_eq_true b1 with rfl | rfl
      · go_wp2_with fail
        refine (refLeaf_any (HRA.out.under HB1.out)).mono ?_
        rintro e x2 ⟨rfl, hb⟩
        rw [leafC_eq]
        have HW2 := Lib.hid (HW1.out.trans (hb.mono HW1.out.size))
        clear hb
        generalize leafB x = b2 at HV1 ⊢
        rcases Bool.eq_false_or_eq_true b2 with rfl | rfl
        · have HV2 := Lib.hid (show kindsB (L.drop (i + 1)) = r from HV1.out)
          go_wp2_with fail
          go_roundw
          case rel => exact ⟨i + 1, by go_num, hlt, HW2, HV2⟩
          case measure => simp [intOf]; omega
        · have HV2 := Lib.hid (show false = r from HV1.out)
          go_wp2_with fail
          go_ret
          exact ⟨by rw [← HV2.out]; rfl, HW2.out⟩
      · have HV2 := Lib.hid (show false = r from HV1.out)
        go_wp2_with fail
        go_ret
        exact ⟨by rw [← HV2.out]; rfl, HW1.out⟩
    · have HV2 := Lib.hid (show true = r by have h := HV.out; rw [List.drop_of_length_le (by omega)] at h; exact h)
      go_wp2_with fail
      go_ret
      exact ⟨by rw [← HV2.out]; rfl, HW.out⟩
end
section
open Go.RowKit

def smallLab (l : List Stp) : Bool := l.all fun s => decide (s.lab.length ≤ 60)
def smallOne (e : Ent) : Bool := decide (e.1.length ≤ 20) && smallD e.2 && smallLab e.1
def smallE (L : List Ent) : Bool := decide (L.length ≤ 30) && L.all smallOne
theorem lab_drop {l : List Stp} {i : Nat} (h : i < l.length) : smallLab (l.drop i) = (decide (l[i].lab.length ≤ 60) && smallLab (l.drop (i + 1))) := by
  rw [List.drop_eq_getElem_cons h]; rfl
theorem one_drop {L : List Ent} {i : Nat} (h : i < L.length) : (L.drop i).all smallOne = (smallOne L[i] && (L.drop (i + 1)).all smallOne) := by
  rw [List.drop_eq_getElem_cons h]; rfl
set_option maxRecDepth 100000 in
set_option maxHeartbeats 8000000 in
theorem refESmall_any {w : World} {ok : Nat → Prop} {v : Value} {L : List Ent} (h : EntR w ok v L) (hm : ∀ e ∈ L, e.1.length ≤ maxLen) :
    Calls Tryz.prog 20 #[v] w fun e w' => e = .returned (.bool (smallE L)) ∧ Below w.heap.size w w' := by
  obtain ⟨pa, ca, Ba, oa, rfl, hA⟩ := h.open
  have HA := Lib.hid hA
  have HM := Lib.hid hm
  obtain ⟨r, hr⟩ : ∃ r, smallE L = r := ⟨_, rfl⟩
  rw [hr]
  have HR := Lib.hid (show (decide (L.length ≤ 30) && L.all smallOne) = r from hr)
  clear h hA hm hr
  rcases Nat.lt_or_ge 30 L.length with hbig | hbig
  · have HV := Lib.hid (show false = r by rw [← HR.out, decide_eq_false (by omega)]; rfl)
    have t1 : decide ((30 : Int) < (L.length : Int)) = true := decide_eq_true (by omega)
    have t2 : (30 : Int) < (L.length : Int) := by omega
    go_enter Tryz.func20, Tryz.ntmps20
    go_wp2_with fail
    go_ret
    exact ⟨by rw [← HV.out]; rfl, Below.refl _ _⟩
  have HR0 := Lib.hid (show (L.drop 0).all smallOne = r by rw [List.drop_zero, ← HR.out, decide_eq_true hbig]; rfl)
  have t1 : decide ((30 : Int) < (L.length : Int)) = false := decide_eq_false (by omega)
  have t2 : ¬ (30 : Int) < (L.length : Int) := by omega
  clear HR
  go_enter Tryz.func20, Tryz.ntmps20
  go_wp2_with fail
  go_loopw [3] (fun x wr => ∃ i : Nat, x = .int .i64 (i : Int) ∧ i ≤ L.length ∧ Hid (Below w.heap.size w wr) ∧ Hid ((L.drop i).all smallOne = r)) (fun x _ => L.length - (intOf x).toNat)
  case atStart => exact ⟨0, rfl, Nat.zero_le _, Lib.hid (Below.refl _ _), HR0⟩
  case round =>
    clear HR0 t1 t2
    obtain ⟨i, rfl, hi, HW, HV⟩ := hrel
    by_cases hlt : i < L.length
    · obtain ⟨pva, via, vma, rfl, hca, hla, -, a0, da, sa, ra⟩ := HA.out i hlt
      have HPL := Lib.hid (HM.out _ (List.getElem_mem hlt))
      have HRA := Lib.hid (ra.under HW.out)
      have HV1 := Lib.hid ((one_drop hlt).symm.trans HV.out)
      obtain ⟨a1, a2, a3, a4, a5⟩ := da.below HW.out hla
      replace a0 := (HW.out.cell (p := ⟨Ba, oa + i * 6, none⟩) hla).trans a0
      have hBl : Ba < wr.heap.size := Nat.lt_of_lt_of_le hla HW.out.size
      have HSA := Lib.hid (sa.under HW.out)
      obtain ⟨p1, c1, rfl, -, -⟩ := ra.items
      obtain ⟨q1, cq1, rfl, -, -⟩ := ra.members
      clear da sa ra HV
      generalize L[i] = q at a0 a1 a2 a3 a4 a5 HSA HRA HPL HV1
      obtain ⟨P, x⟩ := q
      simp only at a0 a1 a2 a3 a4 a5 HSA HRA HPL HV1
      obtain ⟨pp, pc, rfl⟩ := slk_form HSA.out
      have HV2 := Lib.hid (show (decide (P.length ≤ 20) && smallD x && smallLab P && (L.drop (i + 1)).all smallOne) = r from HV1.out)
      clear HV1
      rcases Nat.lt_or_ge 20 P.length with hp | hp
      · have HF := Lib.hid (show false = r by rw [← HV2.out, decide_eq_false (by omega)]; rfl)
        have t1 : decide ((20 : Int) < (P.length : Int)) = true := decide_eq_true (by omega)
        have t2 : (20 : Int) < (P.length : Int) := by omega
        clear HV2
        go_wp2_with fail
        go_ret
        exact ⟨by rw [← HF.out]; rfl, HW.out⟩
      · have HV3 := Lib.hid (show (smallD x && smallLab P && (L.drop (i + 1)).all smallOne) = r by rw [← HV2.out, decide_eq_true hp]; rfl)
        have t1 : decide ((20 : Int) < (P.length : Int)) = false := decide_eq_false (by omega)
        have t2 : ¬ (20 : Int) < (P.length : Int) := by omega
        clear HV2
        go_wp2_with fail
        refine (refSmall_any HRA.out).mono ?_
        rintro e x1 ⟨rfl, hb⟩
        replace a0 := (hb.cell (p := ⟨Ba, oa + i * 6, none⟩) hBl).trans a0
        have HW1 := Lib.hid (HW.out.trans (hb.mono HW.out.size))
        have HSA1 := Lib.hid (HSA.out.under hb)
        have hBl1 : Ba < x1.heap.size := Nat.lt_of_lt_of_le hBl hb.size
        obtain ⟨pp2, pc2, hv2, hst⟩ := HSA1.out.open
        injection hv2 with e1 _ e3
        subst e1
        subst e3
        have HST := Lib.hid hst
        clear hb a1 a2 a3 a4 a5 hBl HSA HW HRA hst HSA1
        generalize smallD x = b1 at HV3 ⊢
        rcases Bool.eq_false_or_eq_true b1 with rfl | rfl
        case inr =>
          have HF := Lib.hid (show false = r from HV3.out)
          go_wp2_with fail
          go_ret
          exact ⟨by rw [← HF.out]; rfl, HW1.out⟩
        have HV4 := Lib.hid (show (smallLab (P.drop 0) && (L.drop (i + 1)).all smallOne) = r by rw [List.drop_zero]; exact HV3.out)
        clear HV3 t1 t2
        go_wp2_with fail
        go_loopw [4] (fun x wz => ∃ k : Nat, x = .int .i64 (k : Int) ∧ k ≤ P.length ∧ Hid ((smallLab (P.drop k) && (L.drop (i + 1)).all smallOne) = r) ∧ x1 = wz) (fun x _ => P.length - (intOf x).toNat)
        case atStart => exact ⟨0, rfl, Nat.zero_le _, HV4, rfl⟩
        case round =>
          clear HV4
          obtain ⟨k, rfl, hk, HK, rfl⟩ := hrel
          by_cases hkl : k < P.length
          · obtain ⟨Bp, op, rfl, hpc, hBp, -, m0, -⟩ := HST.out k hkl
            have HK1 := Lib.hid (show (decide (P[k].lab.length ≤ 60) && smallLab (P.drop (k + 1)) && (L.drop (i + 1)).all smallOne) = r by rw [← lab_drop hkl]; exact HK.out)
            generalize P[k] = s at m0 HK1
            obtain ⟨l, z⟩ := s
            simp only at m0 HK1
            rcases Nat.lt_or_ge 60 l.length with h60 | h60
            · have HF := Lib.hid (show false = r by rw [← HK1.out, decide_eq_false (by omega)]; rfl)
              have t1 : decide ((60 : Int) < (l.length : Int)) = true := decide_eq_true (by omega)
              have t2 : (60 : Int) < (l.length : Int) := by omega
              go_wp2_with fail
              go_ret
              exact ⟨by rw [← HF.out]; rfl, HW1.out⟩
            · have HK2 := Lib.hid (show (smallLab (P.drop (k + 1)) && (L.drop (i + 1)).all smallOne) = r by rw [← HK1.out, decide_eq_true h60]; rfl)
              have t1 : decide ((60 : Int) < (l.length : Int)) = false := decide_eq_false (by omega)
              have t2 : ¬ (60 : Int) < (l.length : Int) := by omega
              go_wp2_with fail
              go_roundw
              case rel => exact ⟨k + 1, by go_num, hkl, HK2, by first | rfl | trivial⟩
              case measure => simp [intOf]; omega
          · have HK2 := Lib.hid (show (L.drop (i + 1)).all smallOne = r by rw [← HK.out, show P.drop k = [] from List.drop_of_length_le (by omega)]; rfl)
            go_wp2_with fail
            go_roundw
            case rel => exact ⟨i + 1, by go_num, hlt, HW1, HK2⟩
            case measure => simp [intOf]; omega
    · have HV2 := Lib.hid (show true = r by have h := HV.out; rw [List.drop_of_length_le (by omega)] at h; exact h)
      go_wp2_with fail
      go_ret
      exact ⟨by rw [← HV2.out]; rfl, HW.out⟩
end
section
open Go.RowKit

theorem preS_iff {P Q : List Stp} : preS P Q = true ↔ P <+: Q := by
  unfold preS
  simp only [Bool.and_eq_true, decide_eq_true_eq]
  constructor
  · rintro ⟨h1, h2⟩
    rw [h2]; exact List.take_prefix ..
  · rintro ⟨t, rfl⟩
    refine ⟨by simp, by simp⟩
theorem twice_of {L : List Ent} {i k : Nat} (hi : i < L.length) (hk : k < L.length) (hne : i ≠ k) (hp : preS L[i].1 L[k].1 = true) : twiceB L = true := by
  rw [← Bool.not_eq_false]
  intro h
  have hn := List.pairwise_iff_getElem.1 (twice_iff.1 h)
  rw [preS_iff] at hp
  rcases Nat.lt_or_gt_of_ne hne with h1 | h1
  · exact hn i k hi hk h1 (.inl hp)
  · exact hn k i hk hi h1 (.inr hp)
theorem twice_none {L : List Ent} (h : ∀ i k (hi : i < L.length) (hk : k < L.length), i ≠ k → preS L[i].1 L[k].1 = false) : twiceB L = false := by
  rw [twice_iff]
  refine List.pairwise_iff_getElem.2 fun i k hi hk hlt hc => ?_
  rcases hc with hc | hc
  · have := h i k hi hk (by omega)
    rw [preS_iff.2 hc] at this; cases this
  · have := h k i hk hi (by omega)
    rw [preS_iff.2 hc] at this; cases this
set_option maxRecDepth 100000 in
set_option maxHeartbeats 4000000 in
theorem refTwice_any {w : World} {ok : Nat → Prop} {v : Value} {L : List Ent} (h : EntR w ok v L) (hl : L.length ≤ 1000000) (hm : ∀ e ∈ L, e.1.length ≤ 1000000) :
    Calls Tryz.prog 45 #[v] w fun e w' => e = .returned (.bool (twiceB L)) ∧ Below w.heap.size w w' := by
  obtain ⟨pa, ca, Ba, oa, rfl, hA⟩ := h.open
  have HA := Lib.hid hA
  have HM := Lib.hid hm
  clear h hA hm
  go_enter Tryz.func45, Tryz.ntmps45
  go_wp2_with fail
  go_loopw [3] (fun x wr => ∃ i : Nat, x = .int .i64 (i : Int) ∧ i ≤ L.length ∧ Hid (Below w.heap.size w wr) ∧ Hid (∀ i' k (hi : i' < L.length) (hk : k < L.length), i' < i → i' ≠ k → preS L[i'].1 L[k].1 = false)) (fun x _ => L.length - (intOf x).toNat)
  case atStart => exact ⟨0, rfl, Nat.zero_le _, Lib.hid (Below.refl _ _), Lib.hid (fun _ _ _ _ h => absurd h (Nat.not_lt_zero _))⟩
  case round =>
    obtain ⟨i, rfl, hi, HW, HV⟩ := hrel
    by_cases hlt : i < L.length
    · go_wp2_with fail
      go_loopw [4] (fun x wr => ∃ k : Nat, x = .int .i64 (k : Int) ∧ k ≤ L.length ∧ Hid (Below w.heap.size w wr) ∧ Hid (∀ k' (hk : k' < L.length), k' < k → i ≠ k' → preS L[i].1 L[k'].1 = false)) (fun x _ => L.length - (intOf x).toNat)
      case atStart => exact ⟨0, rfl, Nat.zero_le _, HW, Lib.hid (fun _ _ h => absurd h (Nat.not_lt_zero _))⟩
      case round =>
        clear HW
        obtain ⟨k, rfl, hk, HW, HU⟩ := hrel
        by_cases hkt : k < L.length
        · obtain ⟨pva, via, vma, rfl, hca, hla, -, a0, -, sa, -⟩ := HA.out i hlt
          obtain ⟨pvb, vib, vmb, hpe, -, -, -, b0, -, sb, -⟩ := HA.out k hkt
          clear hpe
          replace a0 := (HW.out.cell (p := ⟨Ba, oa + i * 6, none⟩) hla).trans a0
          replace b0 := (HW.out.cell (p := ⟨Ba, oa + k * 6, none⟩) hla).trans b0
          have HSA := Lib.hid (sa.under HW.out)
          have HSB := Lib.hid (sb.under HW.out)
          have HPA := Lib.hid (HM.out _ (List.getElem_mem hlt))
          have HPB := Lib.hid (HM.out _ (List.getElem_mem hkt))
          have HTW := Lib.hid (fun (h1 : i ≠ k) (h2 : preS L[i].1 L[k].1 = true) => twice_of hlt hkt h1 h2)
          have HUK := Lib.hid (fun (h : i = k ∨ preS L[i].1 L[k].1 = false) => (show ∀ k' (hk : k' < L.length), k' < k + 1 → i ≠ k' → preS L[i].1 L[k'].1 = false from fun k' hk' h1 h2 => by
            rcases Nat.lt_succ_iff_lt_or_eq.1 h1 with h3 | h3
            · exact HU.out k' hk' h3 h2
            · subst h3
              rcases h with h | h
              · exact absurd h h2
              · exact h))
          have hBl : Ba < wr.heap.size := Nat.lt_of_lt_of_le hla HW.out.size
          clear sa sb HU
          by_cases hik : i = k
          · have t1 : ((i : Int) != (k : Int)) = false := by simp; omega
            have t2 : (i != k) = false := by simpa using hik
            have HU9 := Lib.hid (HUK.out (.inl hik))
            have hun : undef = Value.tuple #[] := rfl
            clear hik a0 b0 HUK HTW
            go_wp2_with fail
            go_quiet (fail)
            go_wp2_with fail
            go_roundw
            case rel =>
              repeat apply Exists.intro
              refine And.intro ?relA ?relB
              case relB => rfl
              case relA => exact ⟨k + 1, by go_num, hkt, Lib.hid (below_drewN HW.out nq), HU9⟩
            case measure => simp [intOf]; omega
          · have t1 : ((i : Int) != (k : Int)) = true := by simp; omega
            have t2 : (i != k) = true := by simpa using hik
            have HIK := Lib.hid hik
            have HKE := Lib.hid (fun w' (hb : Below wr.heap.size wr w') => And.intro ((hb.cell (p := ⟨Ba, oa + i * 6, none⟩) hBl).trans a0) ((hb.cell (p := ⟨Ba, oa + k * 6, none⟩) hBl).trans b0))
            have HB0 := Lib.hid (below_drew (Below.refl wr.heap.size wr))
            clear hik
            go_wp2_with fail
            go_region_held3 (fun w' => w'.cell? ⟨Ba, oa + i * 6, none⟩ = some pva ∧ w'.cell? ⟨Ba, oa + k * 6, none⟩ = some pvb)
              (first
                | with_reducible exact HKE.out _ HB0.out
                | with_reducible exact HKE.out _ HB1.out
                | go_keep)
              (first
                | (go_at_call 82; refine (refPrefix_any _ _ L[i].1 L[k].1 _ (HSA.out.under HB0.out).sls (HSB.out.under HB0.out).sls HPA.out HPB.out).mono ?_; rintro e x1 ⟨rfl, hb⟩; have HB1 := Lib.hid (HB0.out.trans (hb.mono HB0.out.size)); clear hb))
            all_goals
              have HW9 := Lib.hid (HW.out.trans (HB1.out.mono HW.out.size))
              generalize preS L[i].1 L[k].1 = b at HTW HUK ⊢
              rcases Bool.eq_false_or_eq_true b with rfl | rfl
              · have HT9 := Lib.hid (HTW.out HIK.out rfl)
                go_wp2_with fail
                go_ret
                exact ⟨by rw [HT9.out]; rfl, HW9.out⟩
              · have HU9 := Lib.hid (HUK.out (.inr rfl))
                go_wp2_with fail
                go_roundw
                case rel => exact ⟨k + 1, by go_num, hkt, HW9, HU9⟩
                case measure => simp [intOf]; omega
        · have HV9 := Lib.hid (show ∀ i' k (hi : i' < L.length) (hk : k < L.length), i' < i + 1 → i' ≠ k → preS L[i'].1 L[k].1 = false from fun i' k' h1 h2 h3 h4 => by
            rcases Nat.lt_succ_iff_lt_or_eq.1 h3 with h5 | h5
            · exact HV.out i' k' h1 h2 h5 h4
            · subst h5; exact HU.out k' h2 (by omega) h4)
          go_wp2_with fail
          go_roundw
          case rel => exact ⟨i + 1, by go_num, hlt, HW, HV9⟩
          case measure => simp [intOf]; omega
    · have HT9 := Lib.hid (show twiceB L = false from twice_none fun i' k h1 h2 h3 => HV.out i' k h1 h2 (by omega) h3)
      go_wp2_with fail
      go_ret
      exact ⟨by rw [HT9.out]; rfl, HW.out⟩
end
section
open Go.RowKit

theorem blw_take {L : List Ent} {i : Nat} (h : i < L.length) (s : Stp) : blw (L.take (i + 1)) s = blw (L.take i) s ++ (cutS s L[i]).toList := by
  unfold blw
  rw [List.take_succ_eq_append_getElem h, List.filterMap_append]
  cases hc : cutS s L[i] <;> simp [hc]
/-- the state: the step in its box, the entries so far in a row of the call's own -/
structure BwS (w : World) (ok : Nat → Prop) (s : Stp) (u : Value) (U : List Env) (W : World) : Prop where
  box : Blk W w.heap.size #[.string (S s.lab), .int .i64 s.idx] 44
  own : W.ownsRow w.heap.size 74 6 u U.length (flatE U)
  good : ∀ t ∈ U, t.good w ok
  bel : Below w.heap.size w W
theorem BwS.under {w : World} {ok : Nat → Prop} {s : Stp} {u : Value} {U : List Env} {W W' : World} (h : BwS w ok s u U W) (hb : Below W.heap.size W W') : BwS w ok s u U W' :=
  ⟨h.box.below hb, own_under h.own hb, h.good, h.bel.trans (hb.mono h.bel.size)⟩
theorem BwS.push {w : World} {ok : Nat → Prop} {s : Stp} {u u' : Value} {U : List Env} {W x : World} {o : Obj} {t : Env} (h : BwS w ok s u U W) (hg : t.good w ok) (ho : x.ownsRow w.heap.size 74 6 u' (U.length + 1) (flatE U ++ cellsE t)) (hgr : (W.alloc o).drew.grownBy x u.ownBlock) : BwS w ok s u' (U ++ [t]) x := by
  refine ⟨Blk.kept (W := (W.alloc o).drew) (h.box.alloc o) hgr (blk_own2 h.box h.own (by decide)), by rw [flatE_snoc, List.length_append]; exact ho, fun e he => ?_, below_own (below_drew (h.bel.alloc h.bel.size o)) (h.own.alloc o) hgr (Nat.le_refl _) (h.bel.alloc h.bel.size o).size⟩
  rcases List.mem_append.1 he with he | he
  · exact h.good e he
  · obtain rfl := List.mem_singleton.1 he; exact hg
set_option maxRecDepth 100000 in
set_option maxHeartbeats 8000000 in
theorem refBelow_any {w : World} {ok : Nat → Prop} {v : Value} {L : List Ent} (h : EntR w ok v L) (hl : L.length ≤ 1000000) (hne : ∀ e ∈ L, e.1 ≠ []) (s : Stp) :
    Calls Tryz.prog 84 #[v, .agg #[.string (S s.lab), .int .i64 s.idx]] w fun e w' => (∃ v', e = .returned v' ∧ EntR w' (fun _ => True) v' (blw L s)) ∧ Below w.heap.size w w' := by
  obtain ⟨i0, hi, hz0, hz1, hz2⟩ := info_parts infoREnt
  obtain ⟨pa, ca, B, o, rfl, hA⟩ := h.open
  have HA := Lib.hid hA
  have HNE := Lib.hid hne
  clear h hA hne
  have hN := Blk.new w #[.string (S s.lab), .int .i64 s.idx] 44
  have hb0 := (Below.refl w.heap.size w).alloc (Nat.le_refl _) (.cells #[.string (S s.lab), .int .i64 s.idx] 44)
  go_enter Tryz.func84, Tryz.ntmps84
  go_upto_region 3 with fail
  generalize w.alloc (.cells #[.string (S s.lab), .int .i64 s.idx] 44) = W at hN hb0 ⊢
  have HS0 := Lib.hid (show BwS w ok s (.slice none 0 0) [] W from ⟨hN, World.ownsRow_nil _ _ _ _, by simp, hb0⟩)
  clear hN hb0
  go_loopw [5, 6] (fun u y wr => ∃ (i : Nat) (up : Option Addr) (uc : Nat) (U : List Env), u = .slice up U.length uc ∧ y = .int .i64 (i : Int) ∧ i ≤ L.length ∧ Hid (BwS w ok s (.slice up U.length uc) U wr) ∧ Hid (U.map Env.e = blw (L.take i) s)) (fun _ y _ => L.length - (intOf y).toNat)
  case atStart => exact ⟨0, none, 0, [], rfl, rfl, Nat.zero_le _, HS0, Lib.hid rfl⟩
  case round =>
    clear HS0
    obtain ⟨i, up, uc, U, rfl, rfl, hi', HS, HU⟩ := hrel
    by_cases hlt : i < L.length
    · obtain ⟨pva, via, vma, rfl, hca, hB, hokB, x0, dx, sx, rx⟩ := HA.out i hlt
      have HT := Lib.hid (blw_take hlt s)
      have hne := HNE.out _ (List.getElem_mem hlt)
      generalize L[i] = q at x0 dx sx rx HT hne
      obtain ⟨P, x⟩ := q
      simp only at x0 dx sx rx HT hne
      obtain ⟨t, P, rfl⟩ : ∃ t Q, P = t :: Q := by cases P with | nil => exact absurd rfl hne | cons t Q => exact ⟨t, Q, rfl⟩
      obtain ⟨pp, pc, rfl⟩ := slk_form sx
      simp only [List.length_cons] at x0 sx
      have HSX := Lib.hid sx
      obtain ⟨Bp, op, rfl, hpc, hBp, hokp, m0, m1, htl⟩ := sx.tail
      obtain ⟨i1, j1, rfl, -, -⟩ := rx.items
      obtain ⟨m1', n1, rfl, -, -⟩ := rx.members
      have HRX := Lib.hid rx
      have HTL := Lib.hid htl
      obtain ⟨x1, x2, x3, x4, x5⟩ := dx.below HS.out.bel hB
      replace x0 := (HS.out.bel.cell (p := ⟨B, o + i * 6, none⟩) hB).trans x0
      replace m0 := (HS.out.bel.cell (p := ⟨Bp, op, none⟩) hBp).trans m0
      replace m1 := (HS.out.bel.cell (p := ⟨Bp, op + 1, none⟩) hBp).trans m1
      have b0 := HS.out.box.cell 0
      have b1 := HS.out.box.cell 1
      simp at b0 b1
      have hbl := HS.out.box.lt
      have hBl : B < wr.heap.size := Nat.lt_of_lt_of_le hB HS.out.bel.size
      have HTC := Lib.hid (show cutS s (t :: P, x) = if t = s then some (P, x) else none from rfl)
      obtain ⟨l1, z1⟩ := t
      obtain ⟨l2, z2⟩ := s
      simp only at m0 m1 b0 b1
      clear dx sx rx hne htl
      by_cases hlab : l1 = l2
      · subst hlab
        by_cases hix : z1 = z2
        · subst hix
          have HT1 := Lib.hid (show blw (L.take (i + 1)) ⟨l1, z1⟩ = blw (L.take i) ⟨l1, z1⟩ ++ [(P, x)] by rw [HT.out, HTC.out, if_pos rfl]; rfl)
          go_wp2_with fail
          go_quiet (fail)
          have hbq : Below wr.heap.size wr (wr.drewN nq) := below_drewN (Below.refl _ _) nq
          have hw1 : (1 : Int) ≤ (P.length : Int) + 1 := by omega
          clear m0 m1 b0 b1 hbl
          go_wp2_with fail
          generalize wr.drewN nq = wc at hbq ⊢
          have HS5 := Lib.hid (HS.out.under hbq)
          have HOW := Lib.hid HS5.out.own
          have HBW := Lib.hid HS5.out.bel
          have hBl2 : B < wc.heap.size := Nat.lt_of_lt_of_le hBl hbq.size
          replace x0 := (hbq.cell (p := ⟨B, o + i * 6, none⟩) hBl).trans x0
          replace x1 := (hbq.cell (p := ⟨B, o + i * 6 + 1, none⟩) hBl).trans x1
          replace x2 := (hbq.cell (p := ⟨B, o + i * 6 + 1 + 1, none⟩) hBl).trans x2
          replace x3 := (hbq.cell (p := ⟨B, o + i * 6 + 1 + 2, none⟩) hBl).trans x3
          replace x4 := (hbq.cell (p := ⟨B, o + i * 6 + 1 + 3, none⟩) hBl).trans x4
          replace x5 := (hbq.cell (p := ⟨B, o + i * 6 + 1 + 4, none⟩) hBl).trans x5
          have hBl := hBl2
          have hUL : U.length ≤ 1000000 := by
            have h1 := congrArg List.length HU.out
            rw [List.length_map] at h1
            rw [h1]
            refine Nat.le_trans (blw_len _ _) ?_
            rw [List.length_take]; omega
          have HBD := Lib.hid (And.intro (show U.length + 1 ≤ maxLen by unfold maxLen; omega) (show (U.length + 1) * 104 ≤ 140737488355328 by omega))
          have HKE := Lib.hid (fun w' (hb : Below wc.heap.size wc w') => And.intro ((hb.cell (p := ⟨B, o + i * 6, none⟩) hBl).trans x0) (And.intro ((hb.cell (p := ⟨B, o + i * 6 + 1, none⟩) hBl).trans x1) (And.intro ((hb.cell (p := ⟨B, o + i * 6 + 2, none⟩) hBl).trans x2) (And.intro ((hb.cell (p := ⟨B, o + i * 6 + 3, none⟩) hBl).trans x3) (And.intro ((hb.cell (p := ⟨B, o + i * 6 + 4, none⟩) hBl).trans x4) ((hb.cell (p := ⟨B, o + i * 6 + 5, none⟩) hBl).trans x5))))))
          have HB0 := Lib.hid (below_drew (Below.refl wc.heap.size wc))
          clear hUL hBl2
          rcases Nat.lt_or_ge 1 pc with hpc1 | hpc1
          · have hw2 : ¬ pc = 1 := by omega
            go_region_held3 (fun w' => w'.cell? ⟨B, o + i * 6, none⟩ = some (.slice (some ⟨Bp, op, none⟩) (P.length + 1) pc) ∧ w'.cell? ⟨B, o + i * 6 + 1, none⟩ = some (.int .i64 x.k) ∧ w'.cell? ⟨B, o + i * 6 + 2, none⟩ = some (.int .i64 x.n) ∧ w'.cell? ⟨B, o + i * 6 + 3, none⟩ = some (.string (S x.s)) ∧ w'.cell? ⟨B, o + i * 6 + 4, none⟩ = some (.slice i1 x.its.length j1) ∧ w'.cell? ⟨B, o + i * 6 + 5, none⟩ = some (.slice m1' x.mem.length n1))
              (first
                | with_reducible exact HKE.out _ HB0.out
                | with_reducible exact HKE.out _ (below_drew ((Below.refl _ _).alloc (Nat.le_refl _) _))
                | with_reducible exact HK9.out
                | go_keep)
              (first
                | (refine step_app _ (by rfl) _ _ _ (by rfl) w.heap.size 74 i0 (.agg #[.slice none 0 0, .int .i64 0, .int .i64 0, .string ⟨#[]⟩, .slice none 0 0, .slice none 0 0]) 6 104 Tryz.underlying48 hi hz0 hz1 hz2 rfl (by decide) (.slice up U.length uc) U.length (flatE U) (by rfl) (HOW.out.alloc _) (some ⟨wc.heap.size, 0, none⟩) 1 1 [.slice (some ⟨Bp, op + 2, none⟩) P.length (pc - 1), .int .i64 x.k, .int .i64 x.n, .string (S x.s), .slice i1 x.its.length j1, .slice m1' x.mem.length n1] (by rfl) (new_srcN wc _ _) HBD.out.1 HBD.out.2 (HBW.out.alloc HBW.out.size _).size ?_; intro v9 x9 hown9 hgrow9 hat9; obtain ⟨u9p, u9c, rfl⟩ := own_form5 hown9; have HS9 := Lib.hid (BwS.push HS5.out (t := ⟨P, x, .slice (some ⟨Bp, op + 2, none⟩) P.length (pc - 1), .slice i1 x.its.length j1, .slice m1' x.mem.length n1⟩) ⟨HTL.out (pc - 1) (by omega), HRX.out⟩ hown9 hgrow9); have HK9 := Lib.hid (And.intro ((far_cell HOW.out hgrow9 hB hBl).trans x0) (And.intro ((far_cell HOW.out hgrow9 hB hBl).trans x1) (And.intro ((far_cell HOW.out hgrow9 hB hBl).trans x2) (And.intro ((far_cell HOW.out hgrow9 hB hBl).trans x3) (And.intro ((far_cell HOW.out hgrow9 hB hBl).trans x4) ((far_cell HOW.out hgrow9 hB hBl).trans x5)))))); clear hown9 hgrow9 hat9))
            all_goals
              go_wp2_with fail
              go_roundw
              case rel => exact ⟨i + 1, u9p, u9c, U ++ [⟨P, x, .slice (some ⟨Bp, op + 2, none⟩) P.length (pc - 1), .slice i1 x.its.length j1, .slice m1' x.mem.length n1⟩], by simp, by go_num, hlt, Lib.hid (by rw [List.length_append]; exact HS9.out), Lib.hid (by rw [List.map_append, HU.out, HT1.out]; rfl)⟩
              case measure => simp [intOf]; omega
          · obtain rfl : pc = 1 := by omega
            obtain rfl : P = [] := List.length_eq_zero_iff.1 (by omega)
            go_region_held3 (fun w' => w'.cell? ⟨B, o + i * 6, none⟩ = some (.slice (some ⟨Bp, op, none⟩) (([] : List Stp).length + 1) 1) ∧ w'.cell? ⟨B, o + i * 6 + 1, none⟩ = some (.int .i64 x.k) ∧ w'.cell? ⟨B, o + i * 6 + 2, none⟩ = some (.int .i64 x.n) ∧ w'.cell? ⟨B, o + i * 6 + 3, none⟩ = some (.string (S x.s)) ∧ w'.cell? ⟨B, o + i * 6 + 4, none⟩ = some (.slice i1 x.its.length j1) ∧ w'.cell? ⟨B, o + i * 6 + 5, none⟩ = some (.slice m1' x.mem.length n1))
              (first
                | with_reducible exact HKE.out _ HB0.out
                | with_reducible exact HKE.out _ (below_drew ((Below.refl _ _).alloc (Nat.le_refl _) _))
                | with_reducible exact HK9.out
                | go_keep)
              (first
                | (refine step_app _ (by rfl) _ _ _ (by rfl) w.heap.size 74 i0 (.agg #[.slice none 0 0, .int .i64 0, .int .i64 0, .string ⟨#[]⟩, .slice none 0 0, .slice none 0 0]) 6 104 Tryz.underlying48 hi hz0 hz1 hz2 rfl (by decide) (.slice up U.length uc) U.length (flatE U) (by rfl) (HOW.out.alloc _) (some ⟨wc.heap.size, 0, none⟩) 1 1 [.slice (some ⟨Bp, op, none⟩) 0 0, .int .i64 x.k, .int .i64 x.n, .string (S x.s), .slice i1 x.its.length j1, .slice m1' x.mem.length n1] (by rfl) (new_srcN wc _ _) HBD.out.1 HBD.out.2 (HBW.out.alloc HBW.out.size _).size ?_; intro v9 x9 hown9 hgrow9 hat9; obtain ⟨u9p, u9c, rfl⟩ := own_form5 hown9; have HS9 := Lib.hid (BwS.push HS5.out (t := ⟨[], x, .slice (some ⟨Bp, op, none⟩) 0 0, .slice i1 x.its.length j1, .slice m1' x.mem.length n1⟩) ⟨⟨_, _, 0, 0, rfl, by simp, by simp⟩, HRX.out⟩ hown9 hgrow9); have HK9 := Lib.hid (And.intro ((far_cell HOW.out hgrow9 hB hBl).trans x0) (And.intro ((far_cell HOW.out hgrow9 hB hBl).trans x1) (And.intro ((far_cell HOW.out hgrow9 hB hBl).trans x2) (And.intro ((far_cell HOW.out hgrow9 hB hBl).trans x3) (And.intro ((far_cell HOW.out hgrow9 hB hBl).trans x4) ((far_cell HOW.out hgrow9 hB hBl).trans x5)))))); clear hown9 hgrow9 hat9))
            all_goals
              go_wp2_with fail
              go_roundw
              case rel => exact ⟨i + 1, u9p, u9c, U ++ [⟨[], x, .slice (some ⟨Bp, op, none⟩) 0 0, .slice i1 x.its.length j1, .slice m1' x.mem.length n1⟩], by simp, by go_num, hlt, Lib.hid (by rw [List.length_append]; exact HS9.out), Lib.hid (by rw [List.map_append, HU.out, HT1.out]; rfl)⟩
              case measure => simp [intOf]; omega
        · have HT1 := Lib.hid (show blw (L.take (i + 1)) ⟨l1, z2⟩ = blw (L.take i) ⟨l1, z2⟩ by rw [HT.out, HTC.out, if_neg (by simp; exact hix)]; simp)
          go_wp2_with fail
          go_quiet (fail)
          go_wp2_with fail
          go_roundw
          case rel => exact ⟨i + 1, up, uc, U, rfl, by go_num, hlt, Lib.hid (HS.out.under (below_drewN (Below.refl _ _) nq)), Lib.hid (by rw [HU.out, HT1.out])⟩
          case measure => simp [intOf]; omega
      · have HT1 := Lib.hid (show blw (L.take (i + 1)) ⟨l2, z2⟩ = blw (L.take i) ⟨l2, z2⟩ by rw [HT.out, HTC.out, if_neg (by simp; intro h; exact absurd h hlab)]; simp)
        go_wp2_with fail
        go_quiet (fail)
        go_wp2_with fail
        go_roundw
        case rel => exact ⟨i + 1, up, uc, U, rfl, by go_num, hlt, Lib.hid (HS.out.under (below_drewN (Below.refl _ _) nq)), Lib.hid (by rw [HU.out, HT1.out])⟩
        case measure => simp [intOf]; omega
    · have hTk : L.take i = L := List.take_of_length_le (by omega)
      rw [hTk] at HU
      have HF := Lib.hid (show EntR wr (fun _ => True) (.slice up U.length uc) (blw L s) by
        rw [← HU.out]
        exact own_ents HS.out.own (fun _ _ => trivial) fun t ht => ⟨((HS.out.good t ht).1.under HS.out.bel).mono fun _ _ _ => trivial, ((HS.out.good t ht).2.under HS.out.bel).mono fun _ _ _ => trivial⟩)
      have HB := Lib.hid HS.out.bel
      clear HS hTk
      go_wp2_with fail
      go_ret
      exact ⟨⟨_, rfl, HF.out⟩, HB.out⟩
end
section

/-- the place of a label among ascending ones -/
def posL (s : List UInt8) : List (List UInt8) → Nat
  | [] => 0
  | x :: r => if Op.bytesLess x s = true then posL s r + 1 else 0
def putL (s : List UInt8) (out : List (List UInt8)) : List (List UInt8) :=
  if out[posL s out]? = some s then out else out.take (posL s out) ++ s :: out.drop (posL s out)
def ltL (a b : List UInt8) : Prop := Op.bytesLess a b = true
theorem ltL_trans {a b c : List UInt8} (h1 : ltL a b) (h2 : ltL b c) : ltL a c := less_trans h1 h2
theorem ltL_irr (a : List UInt8) : ¬ ltL a a := by unfold ltL; rw [less_irr]; decide
theorem putL_cons (s x : List UInt8) (r : List (List UInt8)) : putL s (x :: r) = if Op.bytesLess x s = true then x :: putL s r else if x = s then x :: r else s :: x :: r := by
  have hp : posL s (x :: r) = if Op.bytesLess x s = true then posL s r + 1 else 0 := rfl
  unfold putL
  rw [hp]
  by_cases h : Op.bytesLess x s = true
  · rw [if_pos h, if_pos h, List.getElem?_cons_succ, List.take_succ_cons, List.drop_succ_cons]
    by_cases h2 : r[posL s r]? = some s
    · rw [if_pos h2, if_pos h2]
    · rw [if_neg h2, if_neg h2]; rfl
  · rw [if_neg h, if_neg h]
    by_cases h2 : x = s
    · rw [if_pos h2, if_pos (by rw [h2]; rfl)]
    · rw [if_neg h2, if_neg (by simpa using h2)]; rfl
theorem putL_nil (s : List UInt8) : putL s [] = [s] := rfl
theorem putL_mem {s y : List UInt8} : ∀ {out : List (List UInt8)}, y ∈ putL s out ↔ y = s ∨ y ∈ out
  | [] => by rw [putL_nil]; simp
  | x :: r => by
    rw [putL_cons]
    by_cases h : Op.bytesLess x s = true
    · rw [if_pos h, List.mem_cons, putL_mem, List.mem_cons]
      constructor
      · rintro (h | h | h)
        · exact .inr (.inl h)
        · exact .inl h
        · exact .inr (.inr h)
      · rintro (h | h | h)
        · exact .inr (.inl h)
        · exact .inl h
        · exact .inr (.inr h)
    · rw [if_neg h]
      by_cases h2 : x = s
      · rw [if_pos h2, h2]; simp
      · rw [if_neg h2]; simp
theorem putL_sort {s : List UInt8} : ∀ {out : List (List UInt8)}, out.Pairwise ltL → (putL s out).Pairwise ltL
  | [], _ => by rw [putL_nil]; exact List.pairwise_singleton ..
  | x :: r, h => by
    obtain ⟨h1, h2⟩ := List.pairwise_cons.1 h
    rw [putL_cons]
    by_cases hl : Op.bytesLess x s = true
    · rw [if_pos hl]
      refine List.pairwise_cons.2 ⟨fun y hy => ?_, putL_sort h2⟩
      rcases putL_mem.1 hy with rfl | hy
      · exact hl
      · exact h1 y hy
    · rw [if_neg hl]
      by_cases he : x = s
      · rw [if_pos he]; exact h
      · rw [if_neg he]
        have hs : ltL s x := less_total he (by simpa using hl)
        refine List.pairwise_cons.2 ⟨fun y hy => ?_, h⟩
        rcases List.mem_cons.1 hy with rfl | hy
        · exact hs
        · exact ltL_trans hs (h1 y hy)
/-- the first labels, each once, ascending -/
def namesL (l : List Ent) : List (List UInt8) := l.foldl (fun out e => putL (hdS e).lab out) []
theorem names_snoc (l : List Ent) (e : Ent) : namesL (l ++ [e]) = putL (hdS e).lab (namesL l) := by unfold namesL; rw [List.foldl_append]; rfl
theorem fold_mem {y : List UInt8} : ∀ {l : List Ent} {out : List (List UInt8)}, y ∈ l.foldl (fun out e => putL (hdS e).lab out) out ↔ y ∈ out ∨ ∃ e ∈ l, (hdS e).lab = y
  | [], out => by simp
  | a :: r, out => by
    rw [List.foldl_cons, fold_mem, putL_mem]
    constructor
    · rintro ((h | h) | ⟨e, h1, h2⟩)
      · exact .inr ⟨a, List.mem_cons_self .., h.symm⟩
      · exact .inl h
      · exact .inr ⟨e, List.mem_cons_of_mem _ h1, h2⟩
    · rintro (h | ⟨e, h1, h2⟩)
      · exact .inl (.inr h)
      · rcases List.mem_cons.1 h1 with rfl | h1
        · exact .inl (.inl h2.symm)
        · exact .inr ⟨e, h1, h2⟩
theorem fold_sort : ∀ {l : List Ent} {out : List (List UInt8)}, out.Pairwise ltL → (l.foldl (fun out e => putL (hdS e).lab out) out).Pairwise ltL
  | [], _, h => h
  | a :: r, out, h => by rw [List.foldl_cons]; exact fold_sort (putL_sort h)
theorem sortL_one : ∀ {a b : List (List UInt8)}, a.Pairwise ltL → b.Pairwise ltL → (∀ x, x ∈ a ↔ x ∈ b) → a = b
  | [], [], _, _, _ => rfl
  | [], y :: b, _, _, h => absurd ((h y).2 (List.mem_cons_self ..)) (by simp)
  | x :: a, [], _, _, h => absurd ((h x).1 (List.mem_cons_self ..)) (by simp)
  | x :: a, y :: b, ha, hb, h => by
    obtain ⟨ha1, ha2⟩ := List.pairwise_cons.1 ha
    obtain ⟨hb1, hb2⟩ := List.pairwise_cons.1 hb
    have e : x = y := by
      rcases List.mem_cons.1 ((h x).1 (List.mem_cons_self ..)) with e | e
      · exact e
      · rcases List.mem_cons.1 ((h y).2 (List.mem_cons_self ..)) with e2 | e2
        · exact e2.symm
        · exact absurd (ltL_trans (hb1 x e) (ha1 y e2)) (ltL_irr y)
    subst e
    rw [sortL_one ha2 hb2 fun z => ?_]
    constructor
    · intro hz
      rcases List.mem_cons.1 ((h z).1 (List.mem_cons_of_mem _ hz)) with e | e
      · subst e; exact absurd (ha1 z hz) (ltL_irr z)
      · exact e
    · intro hz
      rcases List.mem_cons.1 ((h z).2 (List.mem_cons_of_mem _ hz)) with e | e
      · subst e; exact absurd (hb1 z hz) (ltL_irr z)
      · exact e
theorem names_grp {l : List Ent} (h : ∀ e ∈ l, (hdS e).lab ≠ [] ∧ (hdS e).idx = 0) : namesL l = (grp l).map fun s => s.lab := by
  have hg : ∀ s ∈ grp l, s.lab ≠ [] ∧ s.idx = 0 := by
    intro s hs
    obtain ⟨e, he, rfl⟩ := grp_mem.1 hs
    exact h e he
  apply sortL_one (fold_sort List.Pairwise.nil)
  · rw [List.pairwise_map]
    have := grp_sort l
    refine List.Pairwise.imp_of_mem ?_ this
    intro a b ha hb hab
    rcases hab with ⟨-, b0⟩ | ⟨-, -, c⟩ | ⟨a0, b0⟩
    · exact absurd b0 (hg b hb).1
    · exact c
    · have := (hg a ha).2; have := (hg b hb).2; omega
  · intro y
    rw [fold_mem, List.mem_map]
    constructor
    · rintro (h | ⟨e, h1, h2⟩)
      · simp at h
      · exact ⟨hdS e, grp_mem.2 ⟨e, h1, rfl⟩, h2⟩
    · rintro ⟨s, h1, h2⟩
      obtain ⟨e, he, rfl⟩ := grp_mem.1 h1
      exact .inr ⟨e, he, h2⟩
theorem grp_names {l : List Ent} (h : ∀ e ∈ l, (hdS e).lab ≠ [] ∧ (hdS e).idx = 0) : grp l = (namesL l).map fun n => ⟨n, 0⟩ := by
  rw [names_grp h, List.map_map]
  conv => lhs; rw [← List.map_id (grp l)]
  apply List.map_congr_left
  intro s hs
  obtain ⟨e, he, rfl⟩ := grp_mem.1 hs
  exact stp_ext rfl (h e he).2
theorem lab_iff {l : List Ent} : allLab (grp l) = true ↔ ∀ e ∈ l, (hdS e).lab ≠ [] := by
  unfold allLab
  rw [List.all_eq_true]
  constructor
  · intro h e he
    exact of_decide_eq_true (h _ (grp_mem.2 ⟨e, he, rfl⟩))
  · intro h s hs
    obtain ⟨e, he, rfl⟩ := grp_mem.1 hs
    exact decide_eq_true (h e he)
/-! the indices -/
def topI (l : List Ent) : Int := l.foldl (fun n e => max n ((hdS e).idx + 1)) 0
theorem top_snoc (l : List Ent) (e : Ent) : topI (l ++ [e]) = max (topI l) ((hdS e).idx + 1) := by unfold topI; rw [List.foldl_append]; rfl
theorem fold_top : ∀ (l : List Ent) (n : Int), n ≤ l.foldl (fun n e => max n ((hdS e).idx + 1)) n ∧ (∀ e ∈ l, (hdS e).idx + 1 ≤ l.foldl (fun n e => max n ((hdS e).idx + 1)) n) ∧ (l.foldl (fun n e => max n ((hdS e).idx + 1)) n = n ∨ ∃ e ∈ l, l.foldl (fun n e => max n ((hdS e).idx + 1)) n = (hdS e).idx + 1)
  | [], n => ⟨Int.le_refl _, by simp, .inl rfl⟩
  | a :: r, n => by
    obtain ⟨h1, h2, h3⟩ := fold_top r (max n ((hdS a).idx + 1))
    rw [List.foldl_cons]
    refine ⟨by omega, fun e he => ?_, ?_⟩
    · rcases List.mem_cons.1 he with rfl | he
      · omega
      · exact h2 e he
    · rcases h3 with h3 | ⟨e, he, h3⟩
      · rw [h3]
        rcases Int.le_total n ((hdS a).idx + 1) with h | h
        · exact .inr ⟨a, List.mem_cons_self .., by omega⟩
        · exact .inl (by omega)
      · exact .inr ⟨e, List.mem_cons_of_mem _ he, h3⟩
theorem top_le {l : List Ent} {e : Ent} (h : e ∈ l) : (hdS e).idx + 1 ≤ topI l := (fold_top l 0).2.1 e h
theorem top_zero (l : List Ent) : 0 ≤ topI l := (fold_top l 0).1
theorem blw_some {l : List Ent} (hne : ∀ e ∈ l, e.1 ≠ []) {s : Stp} : blw l s ≠ [] ↔ s ∈ grp l := by
  rw [grp_mem]
  constructor
  · intro h
    obtain ⟨e, he⟩ := List.exists_mem_of_ne_nil _ h
    exact ⟨preE s e, blw_mem.1 he, rfl⟩
  · rintro ⟨e, he, rfl⟩ h0
    have : (e.1.tail, e.2) ∈ blw l (hdS e) := blw_mem.2 (by rw [(cut_head (hne e he)).2]; exact he)
    rw [h0] at this; simp at this
theorem from_idx : ∀ {g : List Stp} {i : Nat}, idxFrom g i = true → g = idxL i g.length
  | [], _, _ => rfl
  | s :: r, i, h => by
    rw [idxFrom, Bool.and_eq_true, Bool.and_eq_true, decide_eq_true_eq, decide_eq_true_eq] at h
    rw [List.length_cons, idxL, ← from_idx h.2, ← show s = ⟨[], (i : Int)⟩ from stp_ext h.1.1 h.1.2]
/-- none is missing -/
theorem idx_iff {l : List Ent} (hne : ∀ e ∈ l, e.1 ≠ []) (h : ∀ e ∈ l, (hdS e).lab = [] ∧ 0 ≤ (hdS e).idx) :
    idxFrom (grp l) 0 = true ↔ ∀ k : Nat, (k : Int) < topI l → blw l ⟨[], (k : Int)⟩ ≠ [] := by
  constructor
  · intro hf k hk
    rw [blw_some hne]
    have hg := from_idx hf
    rcases (fold_top l 0).2.2 with h0 | ⟨e, he, h0⟩
    · have : topI l = 0 := h0
      omega
    · have ht : topI l = (hdS e).idx + 1 := h0
      have hm : hdS e ∈ grp l := grp_mem.2 ⟨e, he, rfl⟩
      rw [hg, idxL_mem] at hm
      obtain ⟨j, hj, hje⟩ := hm
      have : (hdS e).idx = (j : Int) := by rw [hje]; simp
      rw [hg, idxL_mem]
      exact ⟨k, by omega, by simp⟩
  · intro hk
    have : grp l = idxL 0 (topI l).toNat := by
      apply sort_one (grp_sort l) (idxL_sort _ _)
      intro s
      rw [idxL_mem]
      constructor
      · intro hs
        obtain ⟨e, he, rfl⟩ := grp_mem.1 hs
        have h1 := top_le he
        obtain ⟨h2, h3⟩ := h e he
        exact ⟨(hdS e).idx.toNat, by omega, stp_ext h2 (by show (hdS e).idx = ((0 + (hdS e).idx.toNat : Nat) : Int); omega)⟩
      · rintro ⟨j, hj, rfl⟩
        have := hk j (by omega)
        rw [blw_some hne] at this
        simpa using this
    rw [this]; exact idxL_from _ _
theorem grp_idx {l : List Ent} (hf : idxFrom (grp l) 0 = true) (hne : l ≠ []) (h : ∀ e ∈ l, (hdS e).lab = [] ∧ 0 ≤ (hdS e).idx) : grp l = idxL 0 (topI l).toNat ∧ topI l ≤ l.length := by
  have hg := from_idx hf
  have hl := grp_len l
  have e : ((grp l).length : Int) = topI l := by
    rcases (fold_top l 0).2.2 with h0 | ⟨e, he, h0⟩
    · have ht : topI l = 0 := h0
      obtain ⟨e, he⟩ := List.exists_mem_of_ne_nil _ hne
      have := top_le he
      have := (h e he).2
      omega
    · have ht : topI l = (hdS e).idx + 1 := h0
      have hm : hdS e ∈ grp l := grp_mem.2 ⟨e, he, rfl⟩
      rw [hg, idxL_mem] at hm
      obtain ⟨j, hj, hje⟩ := hm
      have h1 : (hdS e).idx = (j : Int) := by rw [hje]; simp
      have h2 : (⟨[], (((grp l).length - 1 : Nat) : Int)⟩ : Stp) ∈ grp l := by
        have hq : ∀ s, s ∈ grp l ↔ s ∈ idxL 0 (grp l).length := fun s => by rw [← hg]
        exact (hq _).2 ((idxL_mem _ _ _).2 ⟨(grp l).length - 1, by omega, by simp⟩)
      obtain ⟨e2, he2, h3⟩ := grp_mem.1 h2
      have h4 := top_le he2
      rw [h3] at h4
      simp only at h4
      omega
  refine ⟨?_, by omega⟩
  rw [← e, Int.toNat_natCast]; exact hg
end
section
open Go.RowKit

/-- what indices answers -/
def idxR (L : List Ent) : Int × Bool :=
  if L.all (fun e => decide ((hdS e).lab = [])) = true then (if (L.length : Int) < topI L then (0, false) else if (List.range (topI L).toNat).all (fun k => !(blw L ⟨[], (k : Int)⟩).isEmpty) = true then (topI L, true) else (0, false)) else (0, false)
theorem idx_lab {L : List Ent} {e : Ent} (he : e ∈ L) (h : (hdS e).lab ≠ []) : idxR L = (0, false) := by
  unfold idxR
  rw [if_neg]
  intro h1
  exact h (of_decide_eq_true (List.all_eq_true.1 h1 e he))
theorem idx_all {L : List Ent} (h : ∀ e ∈ L, (hdS e).lab = []) : idxR L = if (L.length : Int) < topI L then (0, false) else if (List.range (topI L).toNat).all (fun k => !(blw L ⟨[], (k : Int)⟩).isEmpty) = true then (topI L, true) else (0, false) := by
  unfold idxR
  rw [if_pos (List.all_eq_true.2 fun e he => decide_eq_true (h e he))]
theorem top_take {L : List Ent} {i : Nat} (h : i < L.length) : topI (L.take (i + 1)) = max (topI (L.take i)) ((hdS L[i]).idx + 1) := by
  rw [List.take_succ_eq_append_getElem h, top_snoc]
set_option maxRecDepth 100000 in
set_option maxHeartbeats 8000000 in
theorem refIndices_any {w : World} {ok : Nat → Prop} {v : Value} {L : List Ent} (h : EntR w ok v L) (hl : L.length ≤ 1000000) (hne : ∀ e ∈ L, e.1 ≠ []) (hz : ∀ e ∈ L, (hdS e).lab = [] → 0 ≤ (hdS e).idx ∧ (hdS e).idx ≤ 1000000) :
    Calls Tryz.prog 85 #[v] w fun e w' => e = .returned (.tuple #[.int .i64 (idxR L).1, .bool (idxR L).2]) ∧ Below w.heap.size w w' := by
  have HBW := Lib.hid (fun w' (hb : Below w.heap.size w w') k => refBelow_any (h.under hb) hl hne ⟨[], k⟩)
  obtain ⟨pa, ca, B, o, rfl, hA⟩ := h.open
  have HA := Lib.hid hA
  have HNE := Lib.hid hne
  have HZ := Lib.hid hz
  clear h hA hne hz
  go_enter Tryz.func85, Tryz.ntmps85
  go_wp2_with fail
  go_loopw [4, 5] (fun x y wr => ∃ (i : Nat) (n : Int), x = .int .i64 n ∧ y = .int .i64 (i : Int) ∧ i ≤ L.length ∧ 0 ≤ n ∧ n ≤ 1000001 ∧ Hid (n = topI (L.take i)) ∧ Hid (∀ e ∈ L.take i, (hdS e).lab = []) ∧ Hid (Below w.heap.size w wr)) (fun _ y _ => L.length - (intOf y).toNat)
  case atStart => exact ⟨0, 0, rfl, rfl, Nat.zero_le _, by omega, by omega, Lib.hid rfl, Lib.hid (by simp), Lib.hid (Below.refl _ _)⟩
  case round =>
    obtain ⟨i, n, rfl, rfl, hi', hn0, hn1, HN, HLB, HW⟩ := hrel
    by_cases hlt : i < L.length
    · obtain ⟨pva, via, vma, rfl, hca, hB, -, x0, -, sx, -⟩ := HA.out i hlt
      have hne := HNE.out _ (List.getElem_mem hlt)
      have hz := HZ.out _ (List.getElem_mem hlt)
      have HT := Lib.hid (top_take hlt)
      have HLI := Lib.hid (fun (h : (hdS L[i]).lab = []) => (show ∀ e ∈ L.take (i + 1), (hdS e).lab = [] from fun e he => by
        rw [List.take_succ_eq_append_getElem hlt] at he
        rcases List.mem_append.1 he with he | he
        · exact HLB.out e he
        · obtain rfl := List.mem_singleton.1 he; exact h))
      have HBAD := Lib.hid (fun (h : (hdS L[i]).lab ≠ []) => idx_lab (List.getElem_mem hlt) h)
      generalize L[i] = q at x0 sx hne hz HT HLI HBAD
      obtain ⟨P, x⟩ := q
      simp only at x0 sx hne
      obtain ⟨t, P, rfl⟩ : ∃ t Q, P = t :: Q := by cases P with | nil => exact absurd rfl hne | cons t Q => exact ⟨t, Q, rfl⟩
      have eh : hdS (t :: P, x) = t := rfl
      rw [eh] at hz HT HLI HBAD
      obtain ⟨pp, pc, rfl⟩ := slk_form sx
      simp only [List.length_cons] at x0 sx
      obtain ⟨Bp, op, rfl, hpc, hBp, -, m0, m1, -⟩ := sx.tail
      replace x0 := (HW.out.cell (p := ⟨B, o + i * 6, none⟩) hB).trans x0
      replace m0 := (HW.out.cell (p := ⟨Bp, op, none⟩) hBp).trans m0
      replace m1 := (HW.out.cell (p := ⟨Bp, op + 1, none⟩) hBp).trans m1
      obtain ⟨l1, z1⟩ := t
      simp only at m0 m1 hz HT HLI HBAD
      clear sx hne eh
      by_cases hlab : l1 = []
      · have t1 : (l1 == []) = true := by rw [hlab]; rfl
        have t2 : (l1 != []) = false := by rw [hlab]; rfl
        obtain ⟨hz0, hz1⟩ := hz hlab
        have HLI9 := Lib.hid (HLI.out hlab)
        have HT9 := Lib.hid (show max n (z1 + 1) = topI (L.take (i + 1)) by rw [HT.out, HN.out])
        have hm0 : 0 ≤ max n (z1 + 1) := by omega
        have hm1 : max n (z1 + 1) ≤ 1000001 := by omega
        clear hlab hz
        go_wp2_with fail
        go_roundw
        case rel => exact ⟨i + 1, _, rfl, by go_num, hlt, hm0, hm1, HT9, HLI9, HW⟩
        case measure => simp [intOf]; omega
      · have t1 : (l1 == []) = false := by simpa using hlab
        have t2 : (l1 != []) = true := by simpa using hlab
        have HR := Lib.hid (HBAD.out hlab)
        clear hlab hz
        go_wp2_with fail
        go_ret2
        exact ⟨by rw [HR.out]; rfl, HW.out⟩
    · have hTk : L.take i = L := List.take_of_length_le (by omega)
      rw [hTk] at HN HLB
      have HI := Lib.hid (idx_all HLB.out)
      rw [← HN.out] at HI
      clear hTk HLB
      by_cases hbig : (L.length : Int) < n
      · have HR := Lib.hid (show idxR L = (0, false) by rw [HI.out, if_pos hbig])
        have t1 : decide ((L.length : Int) < n) = true := decide_eq_true hbig
        go_wp2_with fail
        go_ret2
        exact ⟨by rw [HR.out]; rfl, HW.out⟩
      have HI2 := Lib.hid (show idxR L = if (List.range n.toNat).all (fun k => !(blw L ⟨[], (k : Int)⟩).isEmpty) = true then (n, true) else (0, false) by rw [HI.out, if_neg hbig])
      have t1 : decide ((L.length : Int) < n) = false := decide_eq_false hbig
      obtain ⟨m, rfl⟩ := Int.eq_ofNat_of_zero_le hn0
      clear HI HN
      go_wp2_with fail
      go_loopw [6] (fun x wr => ∃ k : Nat, x = .int .i64 (k : Int) ∧ k ≤ m ∧ Hid (∀ j, j < k → (blw L ⟨[], (j : Int)⟩).isEmpty = false) ∧ Hid (Below w.heap.size w wr)) (fun x _ => m - (intOf x).toNat)
      case atStart => exact ⟨0, rfl, Nat.zero_le _, Lib.hid (fun _ h => absurd h (Nat.not_lt_zero _)), HW⟩
      case round =>
        clear HW
        obtain ⟨k, rfl, hk, HK, HW⟩ := hrel
        by_cases hkm : k < m
        · have t2 : (k : Int) < (m : Int) := by omega
          have HCL := Lib.hid (HBW.out _ HW.out (k : Int))
          go_wp2_with fail
          refine HCL.out.mono ?_
          rintro e x1 ⟨⟨v', rfl, he⟩, hb⟩
          obtain ⟨p', c', B', o', rfl, -⟩ := he.open
          have HW1 := Lib.hid (HW.out.trans (hb.mono HW.out.size))
          clear he hb HCL
          generalize hbl : blw L ⟨[], (k : Int)⟩ = bl
          by_cases hem : bl = []
          · have HR := Lib.hid (show idxR L = (0, false) by
              rw [HI2.out, if_neg]
              intro h
              have h1 := List.all_eq_true.1 h k (List.mem_range.2 (by omega))
              rw [hbl, hem] at h1; cases h1)
            have t3 : ((bl.length : Int) == 0) = true := by rw [hem]; rfl
            have t4 : (bl.length == 0) = true := by rw [hem]; rfl
            clear hem hbl
            go_wp2_with fail
            go_ret2
            exact ⟨by rw [HR.out]; rfl, HW1.out⟩
          · have h3 := List.length_pos_iff.2 hem
            have t3 : ((bl.length : Int) == 0) = false := by rw [beq_eq_false_iff_ne]; omega
            have t4 : (bl.length == 0) = false := by rw [beq_eq_false_iff_ne]; omega
            have HK9 := Lib.hid (show ∀ j, j < k + 1 → (blw L ⟨[], (j : Int)⟩).isEmpty = false from fun j hj => by
              rcases Nat.lt_succ_iff_lt_or_eq.1 hj with h | h
              · exact HK.out j h
              · subst h; rw [hbl]; cases bl with | nil => exact absurd rfl hem | cons => rfl)
            clear hem hbl h3
            go_wp2_with fail
            go_roundw
            case rel => exact ⟨k + 1, by go_num, hkm, HK9, HW1⟩
            case measure => simp [intOf]; omega
        · have HR := Lib.hid (show idxR L = ((m : Int), true) by
            rw [HI2.out, if_pos]
            refine List.all_eq_true.2 fun j hj => ?_
            rw [HK.out j (by have := List.mem_range.1 hj; omega)]; rfl)
          go_wp2_with fail
          go_ret2
          exact ⟨by rw [HR.out]; rfl, HW.out⟩
end
section
open Go.RowKit

theorem posL_le (s : List UInt8) : ∀ (N : List (List UInt8)), posL s N ≤ N.length
  | [] => Nat.le_refl _
  | x :: r => by
    show (if Op.bytesLess x s = true then posL s r + 1 else 0) ≤ _
    have := posL_le s r
    split
    · simp; omega
    · exact Nat.zero_le _
/-- the search goes on while labels are less -/
theorem posL_step {s : List UInt8} {N : List (List UInt8)} {k : Nat} (h : k < N.length) (hl : Op.bytesLess N[k] s = true) : k + 1 + posL s (N.drop (k + 1)) = k + posL s (N.drop k) := by
  have e : posL s (N.drop k) = posL s (N.drop (k + 1)) + 1 := by
    rw [List.drop_eq_getElem_cons h]
    show (if Op.bytesLess N[k] s = true then posL s (N.drop (k + 1)) + 1 else 0) = _
    rw [if_pos hl]
  omega
theorem posL_stop {s : List UInt8} {N : List (List UInt8)} {k : Nat} (h : k < N.length) (hl : Op.bytesLess N[k] s = false) : posL s (N.drop k) = 0 := by
  rw [List.drop_eq_getElem_cons h]
  show (if Op.bytesLess N[k] s = true then posL s (N.drop (k + 1)) + 1 else 0) = 0
  rw [if_neg (by rw [hl]; decide)]
theorem posL_over {s : List UInt8} {N : List (List UInt8)} {k : Nat} (h : N.length ≤ k) : posL s (N.drop k) = 0 := by
  rw [List.drop_of_length_le h]; rfl
theorem putL_there {s : List UInt8} {N : List (List UInt8)} (h : posL s N < N.length) (he : N[posL s N] = s) : putL s N = N := by
  unfold putL
  rw [if_pos (by rw [List.getElem?_eq_getElem h, he])]
theorem putL_new {s : List UInt8} {N : List (List UInt8)} (h : ∀ (h : posL s N < N.length), N[posL s N] ≠ s) : putL s N = N.take (posL s N) ++ s :: N.drop (posL s N) := by
  unfold putL
  rw [if_neg]
  intro e
  obtain ⟨h1, h2⟩ := List.getElem?_eq_some_iff.1 e
  exact h h1 h2
theorem names_take {L : List Ent} {i : Nat} (h : i < L.length) : namesL (L.take (i + 1)) = putL (hdS L[i]).lab (namesL (L.take i)) := by
  rw [List.take_succ_eq_append_getElem h, names_snoc]
theorem putL_len (s : List UInt8) (N : List (List UInt8)) : (putL s N).length ≤ N.length + 1 := by
  unfold putL
  split
  · omega
  · simp; omega
theorem names_len : ∀ (L : List Ent) (n : Nat), (namesL (L.take n)).length ≤ n
  | L, 0 => by simp [namesL]
  | L, n + 1 => by
    by_cases h : n < L.length
    · rw [names_take h]
      have := putL_len (hdS L[n]).lab (namesL (L.take n))
      have := names_len L n
      omega
    · have e : L.take (n + 1) = L.take n := by rw [List.take_of_length_le (by omega), List.take_of_length_le (by omega)]
      rw [e]
      have := names_len L n
      omega
/-- strings as cells -/
def strC (N : List (List UInt8)) : List Value := N.map fun l => .string (S l)
theorem strC_one (N : List (List UInt8)) : ∀ u ∈ strC N, u.oneCell' = true := by
  intro u hu
  obtain ⟨l, -, rfl⟩ := List.mem_map.1 hu
  rfl
theorem strC_len (N : List (List UInt8)) : (strC N).length = N.length := by simp [strC]
end
section
open Go.RowKit

theorem infoStrg : (Tryz.prog.info? 9).map (fun i => (i.zero, i.size, i.bytes)) = some (some (.string ⟨#[]⟩), 1, 16) := by kernel_rfl
theorem src_take {W : World} {base uc : Nat} {up : Option Addr} {N : List (List UInt8)} {e : TypeId} (h : W.ownsRow base e 1 (.slice up N.length uc) N.length (strC N)) {k : Nat} (hk : k ≤ N.length) : Src W 1 up k (strC (N.take k)) := by
  refine ⟨by rw [strC_len, List.length_take]; omega, ?_, ?_, strC_one _⟩
  · intro hu
    rcases own_head h with ⟨-, h0⟩ | ⟨g, cap, e0, -⟩
    · omega
    · injection e0 with e0 _ _; rw [hu] at e0; cases e0
  · intro a ha j u hu
    subst ha
    rcases own_head h with ⟨e0, -⟩ | ⟨g, cap, e0, -⟩
    · injection e0 with e0 _ _; cases e0
    · injection e0 with e0 _ e2
      injection e0 with e0
      subst e0
      refine h.cells (g := g) rfl j u ?_
      unfold strC at hu ⊢
      rw [List.map_take, List.getElem?_take] at hu
      split at hu
      · exact hu
      · cases hu
theorem src_drop {W : World} {base uc B : Nat} {N : List (List UInt8)} {e : TypeId} (h : W.ownsRow base e 1 (.slice (some ⟨B, 0, none⟩) N.length uc) N.length (strC N)) {k : Nat} (hk : k < N.length) : Src W 1 (some ⟨B, k, none⟩) (N.length - k) (strC (N.drop k)) := by
  refine ⟨by rw [strC_len, List.length_drop]; omega, by simp, ?_, strC_one _⟩
  intro a ha j u hu
  injection ha with ha
  subst ha
  have hc := h.cells (g := B) rfl (k + j) u (by
    unfold strC at hu ⊢
    rw [List.map_drop, List.getElem?_drop] at hu
    exact hu)
  rw [Lib.add_plain, Nat.zero_add] at hc
  rw [Lib.add_plain]
  exact hc
theorem src_none {W : World} (p : Option Addr) : Src W 1 p 0 [] := ⟨rfl, fun _ => rfl, fun a _ j u hu => by simp at hu, by simp⟩
theorem new_len {N : List (List UInt8)} {s : List UInt8} {k : Nat} (h : k ≤ N.length) : (N.take k ++ s :: N.drop k).length = k + 1 + (N.length - k) := by
  simp; omega
theorem new_end (N : List (List UInt8)) (s : List UInt8) : strC (N.take N.length) ++ [.string (S s)] = strC (N.take N.length ++ s :: N.drop N.length) := by
  simp [strC]
theorem new_cells (N : List (List UInt8)) (s : List UInt8) (k : Nat) : strC (N.take k) ++ [.string (S s)] ++ strC (N.drop k) = strC (N.take k ++ s :: N.drop k) := by
  simp [strC]
/-- what labels hands back -/
def LabP (w : World) (L : List Ent) (e : Ending) (w' : World) : Prop :=
  ((∃ x ∈ L, (hdS x).lab = []) ∧ e = .returned (.tuple #[.slice none 0 0, .bool false]) ∨ (∀ x ∈ L, (hdS x).lab ≠ []) ∧ ∃ p c, e = .returned (.tuple #[.slice p (namesL L).length c, .bool true]) ∧ w'.ownsRow w.heap.size 9 1 (.slice p (namesL L).length c) (namesL L).length (strC (namesL L))) ∧ Below w.heap.size w w'
set_option maxRecDepth 100000 in
set_option maxHeartbeats 8000000 in
theorem refLabels_any {w : World} {ok : Nat → Prop} {v : Value} {L : List Ent} (h : EntR w ok v L) (hl : L.length ≤ 1000000) (hne : ∀ e ∈ L, e.1 ≠ []) :
    Calls Tryz.prog 83 #[v] w (LabP w L) := by
  obtain ⟨i0, hi, hz0, hz1, hz2⟩ := info_parts infoStrg
  obtain ⟨pa, ca, B, o, rfl, hA⟩ := h.open
  have HA := Lib.hid hA
  have HNE := Lib.hid hne
  clear h hA hne
  have HS0 := Lib.hid (World.ownsRow_nil w w.heap.size 9 1)
  go_enter Tryz.func83, Tryz.ntmps83
  go_wp2_with fail
  go_loopw [4, 5] (fun x y wr => ∃ (i : Nat) (up : Option Addr) (uc : Nat) (N : List (List UInt8)), x = .slice up N.length uc ∧ y = .int .i64 (i : Int) ∧ i ≤ L.length ∧ N.length ≤ i ∧ Hid (N = namesL (L.take i)) ∧ Hid (∀ e ∈ L.take i, (hdS e).lab ≠ []) ∧ Hid (wr.ownsRow w.heap.size 9 1 (.slice up N.length uc) N.length (strC N)) ∧ Hid (Below w.heap.size w wr)) (fun _ y _ => L.length - (intOf y).toNat)
  case atStart => exact ⟨0, none, 0, [], rfl, rfl, Nat.zero_le _, Nat.le_refl _, Lib.hid rfl, Lib.hid (by simp), HS0, Lib.hid (Below.refl _ _)⟩
  case round =>
    clear HS0
    obtain ⟨i, up, uc, N, rfl, rfl, hi', hNi, HN, HLB, HO, HW⟩ := hrel
    by_cases hlt : i < L.length
    · obtain ⟨pva, via, vma, rfl, hca, hB, -, x0, -, sx, -⟩ := HA.out i hlt
      have hne := HNE.out _ (List.getElem_mem hlt)
      have HT := Lib.hid (names_take hlt)
      have HLI := Lib.hid (fun (h : (hdS L[i]).lab ≠ []) => (show ∀ e ∈ L.take (i + 1), (hdS e).lab ≠ [] from fun e he => by
        rw [List.take_succ_eq_append_getElem hlt] at he
        rcases List.mem_append.1 he with he | he
        · exact HLB.out e he
        · obtain rfl := List.mem_singleton.1 he; exact h))
      have HBAD := Lib.hid (fun (h : (hdS L[i]).lab = []) => (show ∃ x ∈ L, (hdS x).lab = [] from ⟨_, List.getElem_mem hlt, h⟩))
      generalize L[i] = q at x0 sx hne HT HLI HBAD
      obtain ⟨P, x⟩ := q
      simp only at x0 sx hne
      obtain ⟨t, P, rfl⟩ : ∃ t Q, P = t :: Q := by cases P with | nil => exact absurd rfl hne | cons t Q => exact ⟨t, Q, rfl⟩
      have eh : hdS (t :: P, x) = t := rfl
      rw [eh] at HT HLI HBAD
      obtain ⟨pp, pc, rfl⟩ := slk_form sx
      simp only [List.length_cons] at x0 sx
      obtain ⟨Bp, op, rfl, hpc, hBp, -, m0, m1, -⟩ := sx.tail
      replace x0 := (HW.out.cell (p := ⟨B, o + i * 6, none⟩) hB).trans x0
      replace m0 := (HW.out.cell (p := ⟨Bp, op, none⟩) hBp).trans m0
      obtain ⟨s, z1⟩ := t
      simp only at m0 HT HLI HBAD
      clear sx hne eh m1
      by_cases hlab : s = []
      · have t1 : (s == []) = true := by rw [hlab]; rfl
        have HR := Lib.hid (HBAD.out hlab)
        clear hlab
        go_wp2_with fail
        go_ret2
        exact ⟨.inl ⟨HR.out, rfl⟩, HW.out⟩
      · have t1 : (s == []) = false := by simpa using hlab
        have HLI9 := Lib.hid (HLI.out hlab)
        rw [← HN.out] at HT
        clear hlab HLI HBAD
        obtain ⟨up', uc', B1, hv, hcell⟩ := own1 (f := fun l => Value.string (S l)) HO.out
        injection hv with e1 _ e3
        subst e1; subst e3
        have HCE := Lib.hid hcell
        clear hcell
        go_upto_block 2 with fail
        go_cut [7] (fun v wx => v = .int .i64 (posL s N : Int) ∧ wr = wx)
        case first =>
          clear x0 m0
          go_wp2_with fail
          go_loopw [7] (fun x wz => ∃ k : Nat, x = .int .i64 (k : Int) ∧ k ≤ N.length ∧ Hid (k + posL s (N.drop k) = posL s N) ∧ wr = wz) (fun x _ => N.length - (intOf x).toNat)
          case atStart => exact ⟨0, rfl, Nat.zero_le _, Lib.hid (by simp), rfl⟩
          case round =>
            obtain ⟨k, rfl, hk, HP, rfl⟩ := hrel
            by_cases hkl : k < N.length
            · obtain ⟨rfl, hcap, -, hg, hc⟩ := HCE.out k hkl
              have HST := Lib.hid (fun h => (posL_step hkl h).trans HP.out)
              have HSP := Lib.hid (fun h => (show k = posL s N by have h1 := HP.out; rw [posL_stop hkl h] at h1; simpa using h1))
              generalize N[k] = y at hc HST HSP
              rcases Bool.eq_false_or_eq_true (Op.bytesLess y s) with hxy | hxy
              · have HP9 := Lib.hid (HST.out hxy)
                go_wp2_with fail
                go_roundw
                case rel => exact ⟨k + 1, by go_num, hkl, HP9, by first | rfl | trivial⟩
                case measure => simp [intOf]; omega
              · have HE9 := Lib.hid (HSP.out hxy)
                go_wp2_with fail
                go_meet
                exact ⟨by rw [← HE9.out], rfl⟩
            · have HE9 := Lib.hid (show k = posL s N by have h1 := HP.out; rw [posL_over (by omega)] at h1; simpa using h1)
              go_wp2_with fail
              go_meet
              exact ⟨by rw [← HE9.out], rfl⟩
        case rest =>
          obtain ⟨rfl, rfl⟩ := hcut
          have hkN := posL_le s N
          by_cases hth : ∃ h : posL s N < N.length, N[posL s N] = s
          · obtain ⟨h1, h2⟩ := hth
            have HT9 := Lib.hid (show N = namesL (L.take (i + 1)) by rw [HT.out, putL_there h1 h2])
            obtain ⟨rfl, hcap, -, hg, hc⟩ := HCE.out _ h1
            rw [h2] at hc
            generalize posL s N = k at h1 hc hkN ⊢
            clear h2
            go_wp2_with fail
            go_roundw
            case rel => exact ⟨i + 1, _, _, N, rfl, by go_num, hlt, by omega, HT9, HLI9, HO, HW⟩
            case measure => simp [intOf]; omega
          · have HTN := Lib.hid (show namesL (L.take (i + 1)) = N.take (posL s N) ++ s :: N.drop (posL s N) by rw [HT.out, putL_new (fun h1 h2 => hth ⟨h1, h2⟩)])
            have HS1 := Lib.hid (src_take HO.out hkN)
            have hNL : N.length ≤ 1000000 := by omega
            have HBD1 := Lib.hid (And.intro (show 0 + posL s N ≤ maxLen by unfold maxLen; omega) (show (0 + posL s N) * 16 ≤ 140737488355328 by omega))
            have HBD2 := Lib.hid (And.intro (show posL s N + 1 ≤ maxLen by unfold maxLen; omega) (show (posL s N + 1) * 16 ≤ 140737488355328 by omega))
            have HBD3 := Lib.hid (And.intro (show posL s N + 1 + (N.length - posL s N) ≤ maxLen by unfold maxLen; omega) (show (posL s N + 1 + (N.length - posL s N)) * 16 ≤ 140737488355328 by omega))
            by_cases hkl : posL s N < N.length
            · obtain ⟨rfl, hcap, hb1, hg, hc⟩ := HCE.out _ hkl
              have hne : (N[posL s N] == s) = false := beq_eq_false_iff_ne.2 (fun e => hth ⟨hkl, e⟩)
              have HS3 := Lib.hid (src_drop HO.out hkl)
              generalize posL s N = k at hkl hc hkN hne HTN HS1 HS3 HBD1 HBD2 HBD3 ⊢
              generalize N[k] = y at hc hne
              clear hth HT
              go_upto_region 13 with fail
              go_upto_region 14 with (at_builtin; refine wpList_app _ (by rfl) _ _ 61 (by rfl) wr.heap.size 9 i0 (.string ⟨#[]⟩) 1 16 Tryz.underlying61 hi hz0 hz1 hz2 rfl (by decide) (.slice none 0 0) 0 [] (by rfl) (World.ownsRow_nil _ _ _ _) _ _ _ _ (by rfl) HS1.out HBD1.out.1 HBD1.out.2 (Nat.le_refl _) ?_; intro v1 x1 hown1 hgrow1 hat1; rw [Nat.zero_add, List.nil_append] at hown1; obtain ⟨u1p, u1c, rfl⟩ := own_form5 hown1; have HO1 := Lib.hid hown1; have HB1 := Lib.hid (below_own (Below.refl _ _) (World.ownsRow_nil wr wr.heap.size 9 1) hgrow1 (Nat.le_refl _) (Nat.le_refl _)); clear hown1 hgrow1 hat1)
              go_upto_region 15 with (at_builtin; refine wpList_app _ (by rfl) _ _ 61 (by rfl) wr.heap.size 9 i0 (.string ⟨#[]⟩) 1 16 Tryz.underlying61 hi hz0 hz1 hz2 rfl (by decide) (.slice u1p k u1c) k (strC (N.take k)) (by rfl) (HO1.out.alloc _) (some ⟨x1.heap.size, 0, none⟩) 1 1 [.string (S s)] (by rfl) (new_srcN x1 _ _) HBD2.out.1 HBD2.out.2 (HB1.out.alloc HB1.out.size _).size ?_; intro v2 x2 hown2 hgrow2 hat2; obtain ⟨u2p, u2c, rfl⟩ := own_form5 hown2; have HO2 := Lib.hid hown2; have HB2 := Lib.hid (below_own (HB1.out.alloc HB1.out.size _) (HO1.out.alloc _) hgrow2 (Nat.le_refl _) (HB1.out.alloc HB1.out.size _).size); clear hown2 hgrow2 hat2)
              have HS4 := Lib.hid (HS3.out.below HB2.out (fun a ha _ => by injection ha with ha; subst ha; exact hg))
              go_wp2_with (at_builtin; refine wpList_app _ (by rfl) _ _ 61 (by rfl) wr.heap.size 9 i0 (.string ⟨#[]⟩) 1 16 Tryz.underlying61 hi hz0 hz1 hz2 rfl (by decide) (.slice u2p (k + 1) u2c) (k + 1) (strC (N.take k) ++ [.string (S s)]) (by rfl) HO2.out _ _ _ _ (by rfl) HS4.out HBD3.out.1 HBD3.out.2 HB2.out.size ?_; intro v3 x3 hown3 hgrow3 hat3; obtain ⟨u3p, u3c, rfl⟩ := own_form5 hown3; have HO3 := Lib.hid hown3; have HB3 := Lib.hid (below_own HB2.out HO2.out hgrow3 (Nat.le_refl _) HB2.out.size); clear hown3 hgrow3 hat3)
              go_roundw
              case rel => exact ⟨i + 1, u3p, u3c, N.take k ++ s :: N.drop k, by rw [new_len hkN], by go_num, hlt, by simp; omega, Lib.hid HTN.out.symm, HLI9, Lib.hid (by rw [new_len hkN]; exact own_less (by have h := HO3.out; rw [new_cells] at h; exact h) HW.out.size), Lib.hid (HW.out.trans (HB3.out.mono HW.out.size))⟩
              case measure => simp [intOf]; omega
            · have hkn : posL s N = N.length := by omega
              have c1 : ¬ ((posL s N : Int) < (N.length : Int)) := by omega
              rw [hkn] at HTN HS1 HBD1 HBD2 HBD3 c1 ⊢
              have huc : N.length ≤ uc := by
                rcases own_head HO.out with ⟨e0, h0⟩ | ⟨g, cap, e0, -, hc, -⟩
                · omega
                · injection e0 with _ _ e0; omega
              clear hth HT hkn hkl hkN HCE
              go_upto_region 13 with fail
              go_upto_region 14 with (at_builtin; refine wpList_app _ (by rfl) _ _ 61 (by rfl) wr.heap.size 9 i0 (.string ⟨#[]⟩) 1 16 Tryz.underlying61 hi hz0 hz1 hz2 rfl (by decide) (.slice none 0 0) 0 [] (by rfl) (World.ownsRow_nil _ _ _ _) _ _ _ _ (by rfl) HS1.out HBD1.out.1 HBD1.out.2 (Nat.le_refl _) ?_; intro v1 x1 hown1 hgrow1 hat1; rw [Nat.zero_add, List.nil_append] at hown1; obtain ⟨u1p, u1c, rfl⟩ := own_form5 hown1; have HO1 := Lib.hid hown1; have HB1 := Lib.hid (below_own (Below.refl _ _) (World.ownsRow_nil wr wr.heap.size 9 1) hgrow1 (Nat.le_refl _) (Nat.le_refl _)); clear hown1 hgrow1 hat1)
              go_upto_region 15 with (at_builtin; refine wpList_app _ (by rfl) _ _ 61 (by rfl) wr.heap.size 9 i0 (.string ⟨#[]⟩) 1 16 Tryz.underlying61 hi hz0 hz1 hz2 rfl (by decide) (.slice u1p N.length u1c) N.length (strC (N.take N.length)) (by rfl) (HO1.out.alloc _) (some ⟨x1.heap.size, 0, none⟩) 1 1 [.string (S s)] (by rfl) (new_srcN x1 _ _) HBD2.out.1 HBD2.out.2 (HB1.out.alloc HB1.out.size _).size ?_; intro v2 x2 hown2 hgrow2 hat2; obtain ⟨u2p, u2c, rfl⟩ := own_form5 hown2; have HO2 := Lib.hid hown2; have HB2 := Lib.hid (below_own (HB1.out.alloc HB1.out.size _) (HO1.out.alloc _) hgrow2 (Nat.le_refl _) (HB1.out.alloc HB1.out.size _).size); clear hown2 hgrow2 hat2)
              have HBD4 := Lib.hid (And.intro (show N.length + 1 + 0 ≤ maxLen by unfold maxLen; omega) (show (N.length + 1 + 0) * 16 ≤ 140737488355328 by omega))
              rcases Nat.lt_or_ge N.length uc with hu | hu
              · have hu1 : ¬ (N.length = uc) := by omega
                have hu2 : ¬ (uc = N.length) := by omega
                clear huc
                go_wp2_with (at_builtin; refine wpList_app _ (by rfl) _ _ 61 (by rfl) wr.heap.size 9 i0 (.string ⟨#[]⟩) 1 16 Tryz.underlying61 hi hz0 hz1 hz2 rfl (by decide) (.slice u2p (N.length + 1) u2c) (N.length + 1) (strC (N.take N.length) ++ [.string (S s)]) (by rfl) HO2.out _ 0 _ [] (by rfl) (src_none _) HBD4.out.1 HBD4.out.2 HB2.out.size ?_; intro v3 x3 hown3 hgrow3 hat3; rw [Nat.add_zero, List.append_nil] at hown3; obtain ⟨u3p, u3c, rfl⟩ := own_form5 hown3; have HO3 := Lib.hid hown3; have HB3 := Lib.hid (below_own HB2.out HO2.out hgrow3 (Nat.le_refl _) HB2.out.size); clear hown3 hgrow3 hat3)
                go_roundw
                case rel => exact ⟨i + 1, u3p, u3c, N.take N.length ++ s :: N.drop N.length, by rw [new_len (Nat.le_refl _), Nat.sub_self], by go_num, hlt, by simp; omega, Lib.hid HTN.out.symm, HLI9, Lib.hid (by rw [new_len (Nat.le_refl _), Nat.sub_self]; exact own_less (by have h := HO3.out; rw [new_end] at h; exact h) HW.out.size), Lib.hid (HW.out.trans (HB3.out.mono HW.out.size))⟩
                case measure => simp [intOf]; omega
              · obtain rfl : uc = N.length := by omega
                clear huc hu
                go_wp2_with (at_builtin; refine wpList_app _ (by rfl) _ _ 61 (by rfl) wr.heap.size 9 i0 (.string ⟨#[]⟩) 1 16 Tryz.underlying61 hi hz0 hz1 hz2 rfl (by decide) (.slice u2p (N.length + 1) u2c) (N.length + 1) (strC (N.take N.length) ++ [.string (S s)]) (by rfl) HO2.out _ 0 _ [] (by rfl) (src_none _) HBD4.out.1 HBD4.out.2 HB2.out.size ?_; intro v3 x3 hown3 hgrow3 hat3; rw [Nat.add_zero, List.append_nil] at hown3; obtain ⟨u3p, u3c, rfl⟩ := own_form5 hown3; have HO3 := Lib.hid hown3; have HB3 := Lib.hid (below_own HB2.out HO2.out hgrow3 (Nat.le_refl _) HB2.out.size); clear hown3 hgrow3 hat3)
                go_roundw
                case rel => exact ⟨i + 1, u3p, u3c, N.take N.length ++ s :: N.drop N.length, by rw [new_len (Nat.le_refl _), Nat.sub_self], by go_num, hlt, by simp; omega, Lib.hid HTN.out.symm, HLI9, Lib.hid (by rw [new_len (Nat.le_refl _), Nat.sub_self]; exact own_less (by have h := HO3.out; rw [new_end] at h; exact h) HW.out.size), Lib.hid (HW.out.trans (HB3.out.mono HW.out.size))⟩
                case measure => simp [intOf]; omega
    · have hTk : L.take i = L := List.take_of_length_le (by omega)
      rw [hTk] at HN HLB
      have HF := Lib.hid (show LabP w L (.returned (.tuple #[.slice up N.length uc, .bool true])) wr from ⟨.inr ⟨HLB.out, up, uc, by rw [← HN.out], by rw [← HN.out]; exact HO.out⟩, HW.out⟩)
      clear hTk HN HLB HO
      go_wp2_with fail
      go_ret2
      exact HF.out
end
section
open Go.RowKit

theorem grp_cons {L : List Ent} (h : L ≠ []) : ∃ s r e, grp L = s :: r ∧ e ∈ L ∧ hdS e = s := by
  have h1 := grp_ne h
  cases hg : grp L with
  | nil => rw [hg] at h1; simp at h1
  | cons s r =>
    obtain ⟨e, he, hs⟩ := grp_mem.1 (show s ∈ grp L by rw [hg]; exact List.mem_cons_self ..)
    exact ⟨s, r, e, rfl, he, hs⟩
theorem bld_lab {f : Nat} {L : List Ent} (hne : ∀ e ∈ L, e.1 ≠ []) (h0 : L ≠ []) (hl : ∀ e ∈ L, (hdS e).lab ≠ []) : bld (f + 1) L = (bldL (bld f) L true (grp L) 0).map (madeD true) := by
  obtain ⟨s, r, e, hg, he, hs⟩ := grp_cons h0
  have hn : nmd s = true := nmd_iff.2 (hs ▸ hl e he)
  rw [bld_loop hne hg, hn]
theorem bld_ix {f : Nat} {L : List Ent} (hne : ∀ e ∈ L, e.1 ≠ []) (h0 : L ≠ []) (hz : ∀ e ∈ L, (hdS e).lab = [] → 0 ≤ (hdS e).idx) (hx : ∃ e ∈ L, (hdS e).lab = []) :
    (∃ n, idxR L = (n, false) ∧ bld (f + 1) L = none) ∨ ∃ n : Nat, idxR L = ((n : Int), true) ∧ n ≤ L.length ∧ grp L = idxL 0 n ∧ bld (f + 1) L = (bldL (bld f) L false (grp L) 0).map (madeD false) := by
  by_cases hall : ∀ e ∈ L, (hdS e).lab = []
  · have hI := idx_all hall
    have hz' : ∀ e ∈ L, (hdS e).lab = [] ∧ 0 ≤ (hdS e).idx := fun e he => ⟨hall e he, hz e he (hall e he)⟩
    have h1 := idx_iff hne hz'
    have bl : bld (f + 1) L = (bldL (bld f) L false (grp L) 0).map (madeD false) := by
      obtain ⟨s, r, e, hg, he, hs⟩ := grp_cons h0
      have hn : nmd s = false := nmd_not.2 (hs ▸ hall e he)
      rw [bld_loop hne hg, hn]
    by_cases hf : idxFrom (grp L) 0 = true
    · obtain ⟨g1, g2⟩ := grp_idx hf h0 hz'
      refine .inr ⟨(topI L).toNat, ?_, by omega, g1, bl⟩
      have ht := top_zero L
      rw [hI, if_neg (by omega), if_pos, Int.toNat_of_nonneg ht]
      refine List.all_eq_true.2 fun k hk => ?_
      have := h1.1 hf k (by have := List.mem_range.1 hk; omega)
      cases hb : blw L ⟨[], (k : Int)⟩ with
      | nil => exact absurd hb this
      | cons => rfl
    · refine .inl ?_
      have hb : bld (f + 1) L = none := by rw [bl, bldL_idx, if_neg hf]; rfl
      by_cases c1 : (L.length : Int) < topI L
      · exact ⟨0, by rw [hI, if_pos c1], hb⟩
      · refine ⟨0, ?_, hb⟩
        rw [hI, if_neg c1, if_neg]
        intro hq
        refine hf (h1.2 fun k hk e0 => ?_)
        have := List.all_eq_true.1 hq k (List.mem_range.2 (by omega))
        rw [e0] at this; cases this
  · obtain ⟨e, he, hn⟩ : ∃ e ∈ L, (hdS e).lab ≠ [] := Classical.byContradiction fun hc => hall fun e he => Classical.byContradiction fun hn => hc ⟨e, he, hn⟩
    refine .inl ⟨0, idx_lab he hn, ?_⟩
    rw [bld_step hne, if_neg, if_neg]
    · intro hf
      have hm : hdS e ∈ grp L := grp_mem.2 ⟨e, he, rfl⟩
      rw [from_idx hf, idxL_mem] at hm
      obtain ⟨j, -, hj⟩ := hm
      exact hn (by rw [hj])
    · intro hl
      obtain ⟨e2, he2, h2⟩ := hx
      exact (lab_iff.1 hl) e2 he2 h2
theorem names_at {L : List Ent} (h : ∀ e ∈ L, (hdS e).lab ≠ [] ∧ (hdS e).idx = 0) : (grp L).length = (namesL L).length ∧ ∀ i (h1 : i < (namesL L).length) (h2 : i < (grp L).length), (grp L)[i] = ⟨(namesL L)[i], 0⟩ := by
  have e := grp_names h
  refine ⟨by rw [e, List.length_map], fun i h1 h2 => ?_⟩
  have : (grp L)[i]? = some ⟨(namesL L)[i], 0⟩ := by rw [e, List.getElem?_map, List.getElem?_eq_getElem h1]; rfl
  rw [List.getElem?_eq_getElem h2] at this
  injection this
theorem idxL_len : ∀ (n i : Nat), (idxL i n).length = n
  | 0, _ => rfl
  | n + 1, i => by rw [idxL, List.length_cons, idxL_len n]
theorem idxL_get : ∀ (n i k : Nat), k < n → (idxL i n)[k]? = some ⟨[], ((i + k : Nat) : Int)⟩
  | 0, _, _, h => absurd h (Nat.not_lt_zero _)
  | n + 1, i, 0, _ => by rw [idxL]; rfl
  | n + 1, i, k + 1, h => by
    rw [idxL, List.getElem?_cons_succ, idxL_get n (i + 1) k (by omega)]
    congr 3; omega
theorem idx_at {L : List Ent} {n : Nat} (h : grp L = idxL 0 n) : (grp L).length = n ∧ ∀ i (h2 : i < (grp L).length), (grp L)[i] = ⟨[], (i : Int)⟩ := by
  have hl : (grp L).length = n := by rw [h, idxL_len]
  refine ⟨hl, fun i h2 => ?_⟩
  have : (grp L)[i]? = some ⟨[], ((0 + i : Nat) : Int)⟩ := by rw [h]; exact idxL_get n 0 i (by omega)
  rw [List.getElem?_eq_getElem h2] at this
  injection this with this
  rw [this, Nat.zero_add]
theorem fit_lab {l : List UInt8} {x : Int} {i : Nat} (h : l ≠ []) : fitB true ⟨l, x⟩ i = true := by unfold fitB; rw [nmd_iff.2 h]; rfl
theorem fit_idx {i : Nat} : fitB false ⟨[], (i : Int)⟩ i = true := by unfold fitB; rw [nmd_not.2 rfl, decide_eq_true rfl]; rfl
theorem bldL_end {F : List Ent → Option Dat} {L : List Ent} {n0 : Bool} {G : List Stp} {T : List (Stp × Dat)} (h : bldL F L n0 G 0 = (bldL F L n0 (G.drop G.length) G.length).map (fun t => T ++ t)) : bldL F L n0 G 0 = some T := by
  rw [h, List.drop_length, bldL]; simp
theorem hd_ok {e : Ent} (h : entOK e) (hne : e.1 ≠ []) : okS (hdS e) = true := by
  obtain ⟨p, x⟩ := e
  cases p with
  | nil => exact absurd rfl hne
  | cons s r => exact (ok_cons.1 h.1).1
theorem hd_zero {e : Ent} (h : entOK e) (hne : e.1 ≠ []) (hl : (hdS e).lab ≠ []) : (hdS e).idx = 0 := by
  have h1 := hd_ok h hne
  unfold okS at h1
  rw [if_neg hl] at h1
  exact of_decide_eq_true h1
/-- what the reference's build hands back -/
def RBdP (w : World) (r : Option Dat) (e : Ending) (w' : World) : Prop := ∃ vi vm, e = .returned (.tuple #[dv (r.getD dat0) vi vm, .int .i64 (if r.isSome then 0 else 19)]) ∧ Rep w' (fun B => w.heap.size ≤ B) (r.getD dat0) vi vm ∧ Below w.heap.size w w'
theorem RBdP.no (w : World) {w' : World} (hb : Below w.heap.size w w') : RBdP w none (.returned (.tuple #[.agg #[.int .i64 0, .int .i64 0, .string ⟨#[]⟩, .slice none 0 0, .slice none 0 0], .int .i64 19])) w' :=
  ⟨.slice none 0 0, .slice none 0 0, rfl, rep_leaf w' _ rfl rfl none none 0 0, hb⟩
end
end Go.Proofs.YtoahmganodehkaaGreatDoor
