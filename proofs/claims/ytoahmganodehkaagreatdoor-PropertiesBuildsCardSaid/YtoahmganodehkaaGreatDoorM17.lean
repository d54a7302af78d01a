/- Walks of the reference's data: Paths, of one path each. -/
import Derived.Test.YtoahmganodehkaaGreatDoorM03
import Derived.Test.YtoahmganodehkaaGreatDoorM16
import Derived.Test.YtoahmganodehkaaGreatDoorM11
import Derived.Test.YtoahmganodehkaaGreatDoorM14
namespace Go.Proofs.YtoahmganodehkaaGreatDoor
set_option linter.unusedSimpArgs false
set_option linter.unusedVariables false
section
open Go.RowKit

/-- what Paths hands back -/
def PthP (w : World) (P Q : List Stp) (e : Ending) (w' : World) : Prop := ∃ r : Bool, e = .returned (.bool r) ∧ (r = true ↔ P = Q) ∧ Below w.heap.size w w'
theorem take_stepS {P Q : List Stp} {i : Nat} (h : P.take i = Q.take i) (hp : i < P.length) (hq : i < Q.length) (he : P[i] = Q[i]) : P.take (i + 1) = Q.take (i + 1) := by
  rw [List.take_succ_eq_append_getElem hp, List.take_succ_eq_append_getElem hq, h, he]
set_option maxRecDepth 100000 in
set_option maxHeartbeats 4000000 in
theorem refPaths_any {P Q : List Stp} {pv qv : Value} {ok ok' : Nat → Prop} {A B : Nat} {c c' : Nat} {w : World} (hp : SlK w ok pv P) (hq : SlK w ok' qv Q) (hP : P.length ≤ 1000000) (hQ : Q.length ≤ 1000000)
    (ha : w.cell? ⟨A, 0, none⟩ = some pv) (hb : w.cell? ⟨B, 0, none⟩ = some qv) (hc : 1 ≤ c) (hc' : 1 ≤ c') :
    Calls Tryz.prog 43 #[.slice (some ⟨A, 0, none⟩) 1 c, .slice (some ⟨B, 0, none⟩) 1 c'] w (PthP w P Q) := by
  obtain ⟨p, cap, rfl, hpo⟩ := hp.open
  obtain ⟨q, caq, rfl, hqo⟩ := hq.open
  have HPO := Lib.hid hpo
  have HQO := Lib.hid hqo
  clear hp hq hpo hqo
  by_cases hlen : P.length = Q.length
  case neg =>
    have HN := Lib.hid (show P ≠ Q from fun h => hlen (by rw [h]))
    have t5 : ((P.length : Int) != (Q.length : Int)) = true := by simp; omega
    have t6 : (P.length != Q.length) = true := by simpa using hlen
    clear hlen
    go_enter Tryz.func43, Tryz.ntmps43
    go_wp2_with fail
    go_loopw [5] (fun x wr => x = .int .i64 0 ∧ wr = w) (fun x _ => 1)
    case atStart => exact ⟨rfl, rfl⟩
    case round =>
      obtain ⟨rfl, rfl⟩ := hrel
      go_wp2_with fail
      go_quiet (fail)
      go_wp2_with fail
      go_ret
      exact ⟨false, rfl, by simp [HN.out], below_drewN (Below.refl _ _) nq⟩
  have HLEN := Lib.hid hlen
  have t5 : ((P.length : Int) != (P.length : Int)) = false := by simp
  rw [← hlen] at hb
  clear hlen
  go_enter Tryz.func43, Tryz.ntmps43
  go_wp2_with fail
  go_loopw [5] (fun x wr => ∃ i : Nat, x = .int .i64 (i : Int) ∧ i ≤ 1 ∧ Hid (0 < i → P = Q) ∧ Hid (∃ n, wr = w.drewN n)) (fun x _ => 1 - (intOf x).toNat)
  case atStart => exact ⟨0, rfl, Nat.zero_le _, Lib.hid (fun h => absurd h (Nat.lt_irrefl 0)), Lib.hid ⟨0, rfl⟩⟩
  case round =>
    obtain ⟨i, rfl, hi, HI, HW⟩ := hrel
    obtain ⟨n0, rfl⟩ := HW.out
    by_cases hlt : i < 1
    · obtain rfl : i = 0 := by omega
      clear HI
      go_wp2_with fail
      go_quiet (fail)
      go_wp2_with fail
      go_loopw [6] (fun x wr => ∃ k : Nat, x = .int .i64 (k : Int) ∧ k ≤ P.length ∧ Hid (P.take k = Q.take k) ∧ Hid (∃ n, wr = w.drewN n)) (fun x _ => P.length - (intOf x).toNat)
      case atStart => exact ⟨0, rfl, Nat.zero_le _, Lib.hid rfl, Lib.hid ⟨n0 + nq, by simp [World.drewN, Nat.add_assoc]⟩⟩
      case round =>
        clear HW
        obtain ⟨k, rfl, hk, HT, HW⟩ := hrel
        obtain ⟨n1, rfl⟩ := HW.out
        by_cases hlt : k < P.length
        · have hlt' : k < Q.length := by have := HLEN.out; omega
          obtain ⟨B1, o1, rfl, hcap1, hB1, -, x0, x1⟩ := HPO.out k hlt
          obtain ⟨B2, o2, rfl, hcap2, hB2, -, y0, y1⟩ := HQO.out k hlt'
          have HNX := Lib.hid (take_stepS HT.out hlt hlt')
          have HDF := Lib.hid (fun (h : P = Q) => (show P[k] = Q[k] by subst h; rfl))
          generalize P[k] = s at x0 x1 HNX HDF
          generalize Q[k] = t at y0 y1 HNX HDF
          obtain ⟨l1, i1⟩ := s
          obtain ⟨l2, i2⟩ := t
          simp only at x0 x1 y0 y1
          have z1 : (k : Int) < (P.length : Int) := by omega
          have z2 : k < cap := by omega
          have z3 : k < caq := by omega
          have z4 : decide (k < P.length) = true := decide_eq_true hlt
          by_cases hl : l1 = l2
          · subst hl
            by_cases hi2 : i1 = i2
            · subst hi2
              have HT9 := Lib.hid (HNX.out rfl)
              go_wp2_with fail
              go_quiet (fail)
              go_wp2_with fail
              go_roundw
              case rel =>
                repeat apply Exists.intro
                refine And.intro ?relA ?relB
                case relB => rfl
                case relA => exact ⟨k + 1, by go_num, hlt, HT9, Lib.hid ⟨n1 + nq, by simp [World.drewN, Nat.add_assoc]⟩⟩
              case measure => simp [intOf]; omega
            · have HN9 := Lib.hid (show P ≠ Q from fun h => hi2 (by have h1 := HDF.out h; injection h1))
              go_wp2_with fail
              go_quiet (fail)
              go_wp2_with fail
              go_ret
              exact ⟨false, rfl, by simp [HN9.out], below_drewN (below_drewN (Below.refl _ _) n1) nq⟩
          · have HN9 := Lib.hid (show P ≠ Q from fun h => hl (by have h1 := HDF.out h; injection h1))
            go_wp2_with fail
            go_quiet (fail)
            go_wp2_with fail
            go_ret
            exact ⟨false, rfl, by simp [HN9.out], below_drewN (below_drewN (Below.refl _ _) n1) nq⟩
        · have HE := Lib.hid (show P = Q by
            have h := HT.out
            rwa [List.take_of_length_le (by omega), List.take_of_length_le (by have := HLEN.out; omega)] at h)
          go_wp2_with fail
          go_roundw
          case rel => exact ⟨1, by go_num, Nat.le_refl _, Lib.hid (fun _ => HE.out), HW⟩
          case measure => simp [intOf]
    · obtain rfl : i = 1 := by omega
      have HE := Lib.hid (HI.out (by omega))
      go_wp2_with fail
      go_ret
      exact ⟨true, rfl, ⟨fun _ => HE.out, fun _ => rfl⟩, below_drewN (Below.refl _ _) n0⟩
end
section
open Go.RowKit

/-- an entry's cells where it came in: its slices opened -/
theorem env_cells {w : World} {ok : Nat → Prop} {B o : Nat} {T : List Env} {j : Nat} (hj : j < T.length) (hgd : ∀ t ∈ T, t.good w ok) (hc : ∀ (i : Nat) (u : Value), (flatE T)[i]? = some u → w.cell? ⟨B, o + i, none⟩ = some u) :
    ∃ p1 n1 c1 k1 z1 s1 p2 n2 c2 p3 n3 c3, cellsE T[j] = [.slice p1 n1 c1, .int .i64 k1, .int .i64 z1, .string (S s1), .slice p2 n2 c2, .slice p3 n3 c3] ∧
      w.cell? ⟨B, o + j * 6, none⟩ = some (.slice p1 n1 c1) ∧ w.cell? ⟨B, o + j * 6 + 1, none⟩ = some (.int .i64 k1) ∧ w.cell? ⟨B, o + j * 6 + 2, none⟩ = some (.int .i64 z1) ∧ w.cell? ⟨B, o + j * 6 + 3, none⟩ = some (.string (S s1)) ∧
      w.cell? ⟨B, o + j * 6 + 4, none⟩ = some (.slice p2 n2 c2) ∧ w.cell? ⟨B, o + j * 6 + 5, none⟩ = some (.slice p3 n3 c3) := by
  obtain ⟨k1, k2⟩ := hgd _ (List.getElem_mem hj)
  obtain ⟨p1, c1, e1⟩ := slk_form k1
  obtain ⟨p2, c2, e2, -, -⟩ := k2.items
  obtain ⟨p3, c3, e3, -, -⟩ := k2.members
  have q : ∀ i, i < 6 → ∀ x, (cellsE T[j])[i]? = some x → w.cell? ⟨B, o + j * 6 + i, none⟩ = some x := by
    intro i hi x hx
    have c := hc (j * 6 + i) x ((flatE_get T j hj i hi).trans hx)
    rw [← Nat.add_assoc] at c
    exact c
  have ec : cellsE T[j] = [.slice p1 T[j].path.length c1, .int .i64 T[j].data.k, .int .i64 T[j].data.n, .string (S T[j].data.s), .slice p2 T[j].data.its.length c2, .slice p3 T[j].data.mem.length c3] := by
    unfold cellsE; rw [e1, e2, e3]
  rw [ec] at q
  exact ⟨p1, _, c1, _, _, _, p2, _, c2, p3, _, c3, ec, q 0 (by decide) _ rfl, q 1 (by decide) _ rfl, q 2 (by decide) _ rfl, q 3 (by decide) _ rfl, q 4 (by decide) _ rfl, q 5 (by decide) _ rfl⟩
theorem flatE_taken {R : List Env} {i : Nat} (h : i < R.length) : flatE (R.take (i + 1)) = flatE (R.take i) ++ cellsE R[i] := by
  rw [List.take_succ_eq_append_getElem h, flatE_snoc]
/-- what entries hands back -/
def EntsP (w : World) (T : List Env) (e : Ending) (w' : World) : Prop := ∃ v, e = .returned v ∧ w'.ownsRow w.heap.size 74 6 v T.length (flatE T) ∧ Below w.heap.size w w'
set_option maxRecDepth 100000 in
set_option maxHeartbeats 4000000 in
theorem entries_any {w : World} {ok : Nat → Prop} {p : Option Addr} {cap B o : Nat} {T : List Env} (hT : T.length ≤ 1000000) (hp : 0 < T.length → p = some ⟨B, o, none⟩ ∧ T.length ≤ cap ∧ B < w.heap.size ∧ ok B) (hg : ∀ t ∈ T, t.good w ok)
    (hc : ∀ (i : Nat) (u : Value), (flatE T)[i]? = some u → w.cell? ⟨B, o + i, none⟩ = some u) : Calls Tryz.prog 19 #[.slice p T.length cap] w (EntsP w T) := by
  obtain ⟨i0, hi, hz0, hz1, hz2⟩ := info_parts infoREnt
  have HP := Lib.hid hp
  have HCL := Lib.hid (fun j (hj : j < T.length) => env_cells hj hg hc)
  clear hp hg hc
  go_enter Tryz.func19, Tryz.ntmps19
  go_wp2_with fail
  go_loopw [3, 4] (fun u x wr => ∃ (i : Nat) (up : Option Addr) (uc : Nat), u = .slice up i uc ∧ x = .int .i64 (i : Int) ∧ i ≤ T.length ∧ Hid (wr.ownsRow w.heap.size 74 6 (.slice up i uc) i (flatE (T.take i))) ∧ Hid (Below w.heap.size w wr)) (fun _ x _ => T.length - (intOf x).toNat)
  case atStart => exact ⟨0, none, 0, rfl, rfl, Nat.zero_le _, Lib.hid (World.ownsRow_nil _ _ _ _), Lib.hid (Below.refl _ _)⟩
  case round =>
    obtain ⟨i, up, uc, rfl, rfl, hi', HO, HB⟩ := hrel
    by_cases hlt : i < T.length
    · obtain ⟨rfl, hcap, hB, -⟩ := HP.out (by omega)
      obtain ⟨p1, n1, c1, k1, z1, s1, p2, n2, c2, p3, n3, c3, ec, x0, x1, x2, x3, x4, x5⟩ := HCL.out i hlt
      have HEC := Lib.hid ec
      have hBl : B < wr.heap.size := Nat.lt_of_lt_of_le hB HB.out.size
      replace x0 := (HB.out.cell (p := ⟨B, o + i * 6, none⟩) hB).trans x0
      replace x1 := (HB.out.cell (p := ⟨B, o + i * 6 + 1, none⟩) hB).trans x1
      replace x2 := (HB.out.cell (p := ⟨B, o + i * 6 + 2, none⟩) hB).trans x2
      replace x3 := (HB.out.cell (p := ⟨B, o + i * 6 + 3, none⟩) hB).trans x3
      replace x4 := (HB.out.cell (p := ⟨B, o + i * 6 + 4, none⟩) hB).trans x4
      replace x5 := (HB.out.cell (p := ⟨B, o + i * 6 + 5, none⟩) hB).trans x5
      have HKE := Lib.hid (fun w' (hb : Below wr.heap.size wr w') => And.intro ((hb.cell (p := ⟨B, o + i * 6, none⟩) hBl).trans x0) (And.intro ((hb.cell (p := ⟨B, o + i * 6 + 1, none⟩) hBl).trans x1) (And.intro ((hb.cell (p := ⟨B, o + i * 6 + 2, none⟩) hBl).trans x2) (And.intro ((hb.cell (p := ⟨B, o + i * 6 + 3, none⟩) hBl).trans x3) (And.intro ((hb.cell (p := ⟨B, o + i * 6 + 4, none⟩) hBl).trans x4) ((hb.cell (p := ⟨B, o + i * 6 + 5, none⟩) hBl).trans x5))))))
      have HB0 := Lib.hid (below_drew (Below.refl wr.heap.size wr))
      have HBD := Lib.hid (And.intro (show i + 1 ≤ maxLen by unfold maxLen; omega) (show (i + 1) * 104 ≤ 140737488355328 by omega))
      clear ec
      go_wp2_with fail
      go_region_held3 (fun w' => w'.cell? ⟨B, o + i * 6, none⟩ = some (.slice p1 n1 c1) ∧ w'.cell? ⟨B, o + i * 6 + 1, none⟩ = some (.int .i64 k1) ∧ w'.cell? ⟨B, o + i * 6 + 2, none⟩ = some (.int .i64 z1) ∧ w'.cell? ⟨B, o + i * 6 + 3, none⟩ = some (.string (S s1)) ∧ w'.cell? ⟨B, o + i * 6 + 4, none⟩ = some (.slice p2 n2 c2) ∧ w'.cell? ⟨B, o + i * 6 + 5, none⟩ = some (.slice p3 n3 c3))
        (first
          | with_reducible exact HKE.out _ HB0.out
          | with_reducible exact HKE.out _ (below_drew ((Below.refl wr.heap.size wr).alloc (Nat.le_refl _) _))
          | with_reducible exact HK9.out
          | go_keep)
        (first
          | (refine step_app _ (by rfl) _ _ _ (by rfl) w.heap.size 74 i0 (.agg #[.slice none 0 0, .int .i64 0, .int .i64 0, .string ⟨#[]⟩, .slice none 0 0, .slice none 0 0]) 6 104 Tryz.underlying48 hi hz0 hz1 hz2 rfl (by decide) (.slice up i uc) i (flatE (T.take i)) (by rfl) (HO.out.alloc _) (some ⟨wr.heap.size, 0, none⟩) 1 1 [.slice p1 n1 c1, .int .i64 k1, .int .i64 z1, .string (S s1), .slice p2 n2 c2, .slice p3 n3 c3] (by rfl) (new_srcN wr _ _) HBD.out.1 HBD.out.2 (HB.out.alloc HB.out.size _).size ?_; intro v9 x9 hown9 hgrow9 hat9; obtain ⟨u9p, u9c, rfl⟩ := own_form5 hown9; have HO9 := Lib.hid (show x9.ownsRow w.heap.size 74 6 (.slice u9p (i + 1) u9c) (i + 1) (flatE (T.take (i + 1))) by rw [flatE_taken hlt, HEC.out]; exact hown9); have HB9 := Lib.hid (below_own (below_drew (HB.out.alloc HB.out.size _)) (HO.out.alloc _) hgrow9 (Nat.le_refl _) (HB.out.alloc HB.out.size _).size); have HK9 := Lib.hid (And.intro ((far_cell HO.out hgrow9 hB hBl).trans x0) (And.intro ((far_cell HO.out hgrow9 hB hBl).trans x1) (And.intro ((far_cell HO.out hgrow9 hB hBl).trans x2) (And.intro ((far_cell HO.out hgrow9 hB hBl).trans x3) (And.intro ((far_cell HO.out hgrow9 hB hBl).trans x4) ((far_cell HO.out hgrow9 hB hBl).trans x5)))))); clear hown9 hgrow9 hat9))
      all_goals
        go_wp2_with fail
        go_roundw
        case rel => exact ⟨i + 1, u9p, u9c, by simp, by go_num, hlt, HO9, HB9⟩
        case measure => simp [intOf]; omega
    · obtain rfl : i = T.length := by omega
      have HF := Lib.hid (show EntsP w T (.returned (.slice up T.length uc)) wr from ⟨_, rfl, by have h := HO.out; rwa [List.take_length] at h, HB.out⟩)
      clear HO HB
      go_wp2_with fail
      go_ret
      exact HF.out
end
section
open Go.RowKit

theorem two_fst (w : World) {v v' : Value} (t t' : TypeId) : ((w.alloc (.cells #[v] t)).alloc (.cells #[v'] t')).drew.cell? ⟨w.heap.size, 0, none⟩ = some v := ((Blk.new w #[v] t).alloc _).cell 0
theorem two_snd (w : World) {v v' : Value} (t t' : TypeId) : ((w.alloc (.cells #[v] t)).alloc (.cells #[v'] t')).drew.cell? ⟨w.heap.size + 1, 0, none⟩ = some v' := (blk_twoN w (.cells #[v] t) #[v']).cell 0
set_option maxRecDepth 100000 in
set_option maxHeartbeats 8000000 in
theorem same_any {w : World} {ok ok' : Nat → Prop} {va vb : Value} {L : List Ent} (ha : EntR w ok va L) (hb : EntR w ok' vb L) (hl : L.length ≤ 1000000) (hm : ∀ e ∈ L, e.1.length ≤ 1000000 ∧ limD e.2 = true) :
    Calls Tryz.prog 18 #[va, vb] w fun e w' => e = .returned (.bool true) ∧ Below w.heap.size w w' := by
  obtain ⟨pa, ca, Ba, oa, rfl, hA⟩ := ha.open
  obtain ⟨pb, cb, Bb, ob, rfl, hB⟩ := hb.open
  have HA := Lib.hid hA
  have HB := Lib.hid hB
  have HM := Lib.hid hm
  clear ha hb hA hB hm
  go_enter Tryz.func18, Tryz.ntmps18
  go_wp2_with fail
  go_loopw [5] (fun x wr => ∃ i : Nat, x = .int .i64 (i : Int) ∧ i ≤ L.length ∧ Hid (Below w.heap.size w wr)) (fun x _ => L.length - (intOf x).toNat)
  case atStart => exact ⟨0, rfl, Nat.zero_le _, Lib.hid (Below.refl _ _)⟩
  case round =>
    obtain ⟨i, rfl, hi, HW⟩ := hrel
    by_cases hlt : i < L.length
    · obtain ⟨pva, via, vma, rfl, hca, hla, -, a0, da, sa, ra⟩ := HA.out i hlt
      obtain ⟨pvb, vib, vmb, rfl, hcb, hlb, -, b0, db, sb, rb⟩ := HB.out i hlt
      obtain ⟨hpl, hlm⟩ := HM.out _ (List.getElem_mem hlt)
      have HSA := Lib.hid (sa.under HW.out)
      have HSB := Lib.hid (sb.under HW.out)
      have HRA := Lib.hid (ra.under HW.out)
      have HRB := Lib.hid (rb.under HW.out)
      have HPL := Lib.hid hpl
      have HLM := Lib.hid hlm
      obtain ⟨a1, a2, a3, a4, a5⟩ := da.below HW.out hla
      obtain ⟨b1, b2, b3, b4, b5⟩ := db.below HW.out hlb
      replace a0 := (HW.out.cell (p := ⟨Ba, oa + i * 6, none⟩) hla).trans a0
      replace b0 := (HW.out.cell (p := ⟨Bb, ob + i * 6, none⟩) hlb).trans b0
      have hBla : Ba < wr.heap.size := Nat.lt_of_lt_of_le hla HW.out.size
      have hBlb : Bb < wr.heap.size := Nat.lt_of_lt_of_le hlb HW.out.size
      clear da db sa sb ra rb hpl hlm
      generalize L[i] = q at a0 a1 a2 a3 a4 a5 b0 b1 b2 b3 b4 b5 HSA HSB HRA HRB HPL HLM
      obtain ⟨P, x⟩ := q
      simp only at a0 a1 a2 a3 a4 a5 b0 b1 b2 b3 b4 b5 HSA HSB HRA HRB HPL HLM
      obtain ⟨pa, ca', rfl⟩ := slk_form HSA.out
      obtain ⟨pb, cb', rfl⟩ := slk_form HSB.out
      obtain ⟨ia, ja, rfl, -, -⟩ := HRA.out.items
      obtain ⟨ma, na, rfl, -, -⟩ := HRA.out.members
      obtain ⟨ib, jb, rfl, -, -⟩ := HRB.out.items
      obtain ⟨mb, nb, rfl, -, -⟩ := HRB.out.members
      have HKE := Lib.hid (fun w' (hb : Below wr.heap.size wr w') => And.intro ((hb.cell (p := ⟨Ba, oa + i * 6, none⟩) hBla).trans a0) (And.intro ((hb.cell (p := ⟨Ba, oa + i * 6 + 1, none⟩) hBla).trans a1) (And.intro ((hb.cell (p := ⟨Ba, oa + i * 6 + 2, none⟩) hBla).trans a2) (And.intro ((hb.cell (p := ⟨Ba, oa + i * 6 + 3, none⟩) hBla).trans a3) (And.intro ((hb.cell (p := ⟨Ba, oa + i * 6 + 4, none⟩) hBla).trans a4) (And.intro ((hb.cell (p := ⟨Ba, oa + i * 6 + 5, none⟩) hBla).trans a5) (And.intro ((hb.cell (p := ⟨Bb, ob + i * 6, none⟩) hBlb).trans b0) (And.intro ((hb.cell (p := ⟨Bb, ob + i * 6 + 1, none⟩) hBlb).trans b1) (And.intro ((hb.cell (p := ⟨Bb, ob + i * 6 + 2, none⟩) hBlb).trans b2) (And.intro ((hb.cell (p := ⟨Bb, ob + i * 6 + 3, none⟩) hBlb).trans b3) (And.intro ((hb.cell (p := ⟨Bb, ob + i * 6 + 4, none⟩) hBlb).trans b4) ((hb.cell (p := ⟨Bb, ob + i * 6 + 5, none⟩) hBlb).trans b5))))))))))))
      have HB0 := Lib.hid (below_drew (Below.refl wr.heap.size wr))
      go_wp2_with fail
      clear a0 a1 a2 a3 a4 a5 b0 b1 b2 b3 b4 b5
      go_region_held3 (fun w' => w'.cell? ⟨Ba, oa + i * 6, none⟩ = some (.slice pa P.length ca') ∧ w'.cell? ⟨Ba, oa + i * 6 + 1, none⟩ = some (.int .i64 x.k) ∧ w'.cell? ⟨Ba, oa + i * 6 + 2, none⟩ = some (.int .i64 x.n) ∧ w'.cell? ⟨Ba, oa + i * 6 + 3, none⟩ = some (.string (S x.s)) ∧ w'.cell? ⟨Ba, oa + i * 6 + 4, none⟩ = some (.slice ia x.its.length ja) ∧ w'.cell? ⟨Ba, oa + i * 6 + 5, none⟩ = some (.slice ma x.mem.length na) ∧ w'.cell? ⟨Bb, ob + i * 6, none⟩ = some (.slice pb P.length cb') ∧ w'.cell? ⟨Bb, ob + i * 6 + 1, none⟩ = some (.int .i64 x.k) ∧ w'.cell? ⟨Bb, ob + i * 6 + 2, none⟩ = some (.int .i64 x.n) ∧ w'.cell? ⟨Bb, ob + i * 6 + 3, none⟩ = some (.string (S x.s)) ∧ w'.cell? ⟨Bb, ob + i * 6 + 4, none⟩ = some (.slice ib x.its.length jb) ∧ w'.cell? ⟨Bb, ob + i * 6 + 5, none⟩ = some (.slice mb x.mem.length nb))
        (first
          | with_reducible exact HKE.out _ HB0.out
          | with_reducible exact HKE.out _ (below_drew ((Below.refl wr.heap.size wr).alloc (Nat.le_refl _) _))
          | with_reducible exact HKE.out _ (below_drew (((Below.refl wr.heap.size wr).alloc (Nat.le_refl _) _).alloc (by simp) _))
          | with_reducible exact HKE.out _ HB1.out
          | with_reducible exact HKE.out _ HB2.out
          | go_keep)
        (first
          | (go_at_call 43; (with_reducible refine (refPaths_any (A := wr.heap.size) (B := wr.heap.size + 1) (P := P) (Q := P) (HSA.out.under (below_drew (((Below.refl wr.heap.size wr).alloc (Nat.le_refl _) _).alloc (by simp) _))) (HSB.out.under (below_drew (((Below.refl wr.heap.size wr).alloc (Nat.le_refl _) _).alloc (by simp) _))) HPL.out HPL.out (two_fst wr _ _) (two_snd wr _ _) (Nat.le_refl 1) (Nat.le_refl 1)).mono ?_); rintro e x1 ⟨r, rfl, hr, hb⟩; obtain rfl : r = true := hr.2 rfl; have HB1 := Lib.hid ((below_drew (((Below.refl wr.heap.size wr).alloc (Nat.le_refl _) _).alloc (by simp) _)).trans (hb.mono (below_drew (((Below.refl wr.heap.size wr).alloc (Nat.le_refl _) _).alloc (by simp) _)).size)); clear hr hb)
          | (go_at_call 43; (with_reducible refine (refPaths_any (A := wr.heap.size + 1) (B := wr.heap.size) (P := P) (Q := P) (HSA.out.under (below_drew (((Below.refl wr.heap.size wr).alloc (Nat.le_refl _) _).alloc (by simp) _))) (HSB.out.under (below_drew (((Below.refl wr.heap.size wr).alloc (Nat.le_refl _) _).alloc (by simp) _))) HPL.out HPL.out (two_snd wr _ _) (two_fst wr _ _) (Nat.le_refl 1) (Nat.le_refl 1)).mono ?_); rintro e x1 ⟨r, rfl, hr, hb⟩; obtain rfl : r = true := hr.2 rfl; have HB1 := Lib.hid ((below_drew (((Below.refl wr.heap.size wr).alloc (Nat.le_refl _) _).alloc (by simp) _)).trans (hb.mono (below_drew (((Below.refl wr.heap.size wr).alloc (Nat.le_refl _) _).alloc (by simp) _)).size)); clear hr hb)
          | (go_at_call 12; refine (dSame_any (SizeOf.sizeOf x + 1) x x (Nat.lt_succ_self _) _ _ _ _ _ _ _ (HRA.out.under HB1.out) (HRB.out.under HB1.out) HLM.out HLM.out).mono ?_; rintro e x2 ⟨r, rfl, hr, hb⟩; obtain rfl : r = true := hr.2 rfl; have HB2 := Lib.hid (HB1.out.trans (hb.mono HB1.out.size)); clear hr hb))
      all_goals
        have HW9 := Lib.hid (HW.out.trans (HB2.out.mono HW.out.size))
        go_wp2_with fail
        go_roundw
        case rel => exact ⟨i + 1, by go_num, hlt, HW9⟩
        case measure => simp [intOf]; omega
    · go_wp2_with fail
      go_ret
      exact ⟨rfl, HW.out⟩
end
section
open Go.RowKit

theorem entries_of {w : World} {ok : Nat → Prop} {v : Value} {L : List Ent} (h : EntR w ok v L) (hl : L.length ≤ 1000000) : Calls Tryz.prog 19 #[v] w fun e w' => (∃ p c, e = .returned (.slice p L.length c) ∧ EntR w' (fun _ => True) (.slice p L.length c) L) ∧ Below w.heap.size w w' := by
  obtain ⟨T, p, cap, B, o, hT, rfl, hp, hg, hc⟩ := h.envs
  have hTl : T.length = L.length := by rw [← hT, List.length_map]
  refine (entries_any (by omega) hp hg hc).mono ?_
  rintro e w' ⟨v', rfl, ho, hb⟩
  have he : EntR w' (fun _ => True) v' (T.map Env.e) := own_ents ho (fun _ _ => trivial) fun t ht => ⟨((hg t ht).1.under hb).mono fun _ _ _ => trivial, ((hg t ht).2.under hb).mono fun _ _ _ => trivial⟩
  rw [hT] at he
  obtain ⟨p', c', e'⟩ := own_form5 ho
  rw [hTl] at e'
  subst e'
  exact ⟨⟨p', c', rfl, he⟩, hb⟩
theorem flatD_lims {d : Dat} (hl : limD d = true) : ∀ e ∈ (flatD d).1, e.1.length ≤ 1000000 ∧ limD e.2 = true := by
  intro e he
  rcases flat_two d with ⟨h1, h2, -⟩ | ⟨h1, -⟩
  · rw [h1] at he
    have h := ents_lims h2 hl e he
    exact ⟨by omega, h.2.1⟩
  · rw [h1] at he; cases he
theorem flatD_len {d : Dat} (hn : (lvD d).length ≤ 1000000) : (flatD d).1.length ≤ 1000000 := by
  rcases flat_two d with ⟨h1, -, -⟩ | ⟨h1, -⟩
  · rw [h1]; unfold entsD; rw [List.length_map]; exact hn
  · rw [h1]; exact Nat.zero_le _
theorem FlatP.ents {w w' : World} {r : List Ent × Nat} {e : Ending} (h : FlatP w r e w') : ∃ p cap, e = .returned (.tuple #[.slice p r.1.length cap, .int .i64 (r.2 : Int)]) ∧ EntR w' (fun _ => True) (.slice p r.1.length cap) r.1 ∧ Below w.heap.size w w' := by
  obtain ⟨v, T, rfl, ho, hT, hg, hb⟩ := h
  have hl : T.length = r.1.length := by rw [← hT, List.length_map]
  have he : EntR w' (fun _ => True) v (T.map Env.e) := own_ents ho (fun _ _ => trivial) fun t ht => ⟨(hg t ht).1.mono fun _ _ _ => trivial, (hg t ht).2.mono fun _ _ _ => trivial⟩
  rw [hT] at he
  rw [hl] at ho
  obtain ⟨p, cap, rfl⟩ := own_form5 ho
  exact ⟨p, cap, rfl, he, hb⟩
theorem FlatQ.ents {w w' : World} {r : List Ent × Nat} {e : Ending} (h : FlatQ w r e w') : ∃ p cap, e = .returned (.tuple #[.slice p r.1.length cap, .int .i64 (r.2 : Int)]) ∧ EntR w' (fun _ => True) (.slice p r.1.length cap) r.1 ∧ Below w.heap.size w w' := by
  obtain ⟨v, T, rfl, ho, hT, hg, hb⟩ := h
  have hl : T.length = r.1.length := by rw [← hT, List.length_map]
  have he : EntR w' (fun _ => True) v (T.map Env.e) := own_ents ho (fun _ _ => trivial) fun t ht => ⟨(hg t ht).1.mono fun _ _ _ => trivial, (hg t ht).2.mono fun _ _ _ => trivial⟩
  rw [hT] at he
  rw [hl] at ho
  obtain ⟨p, cap, rfl⟩ := own_form5 ho
  exact ⟨p, cap, rfl, he, hb⟩
set_option maxRecDepth 100000 in
set_option maxHeartbeats 4000000 in
theorem lawPropertiesFlattens (d : Dat) (vi vm : Value) (ok : Nat → Prop) (w : World) (hr : Rep w ok d vi vm) (hO : StOk w ∧ MaxOk w) :
    Calls Tryz.prog 5 #[.agg #[.int .i64 d.k, .int .i64 d.n, .string (S d.s), vi, vm]] w fun e w' => e = .returned (.bool true) ∧ Below w.heap.size w w' := by
  have HE := Lib.hid hO.1
  have HM := Lib.hid hO.2
  have HREP := Lib.hid hr
  obtain ⟨p, cap, rfl, -, -⟩ := hr.items
  obtain ⟨q, caq, rfl, -, -⟩ := hr.members
  clear hO hr
  obtain ⟨sm, hsm⟩ : ∃ sm, smallD d = sm := ⟨_, rfl⟩
  have HSM := Lib.hid hsm
  have HSW := Lib.hid (fun w' (hb : Below w.heap.size w w') => refSmall_any (HREP.out.under hb))
  rw [hsm] at HSW
  clear hsm
  have hS : CkS w.heap.size w d (.slice p d.its.length cap) (.slice q d.mem.length caq) (w.alloc (.cells #[.int .i64 d.k, .int .i64 d.n, .string (S d.s), .slice p d.its.length cap, .slice q d.mem.length caq] 26)) := CkS.new w d _ _
  rcases Bool.eq_false_or_eq_true sm with rfl | rfl
  case inr =>
    go_enter Tryz.func5, Tryz.ntmps5
    go_upto_region 1 with fail
    generalize w.alloc (.cells #[.int .i64 d.k, .int .i64 d.n, .string (S d.s), .slice p d.its.length cap, .slice q d.mem.length caq] 26) = W at hS ⊢
    obtain ⟨c0, c1, c2, c3, c4, hlw⟩ := hS.cells
    have HS := Lib.hid hS
    clear hS
    go_wp2_with fail
    refine (HSW.out _ HS.out.2).mono ?_
    rintro e w1 ⟨rfl, hb⟩
    have HB1 := Lib.hid (HS.out.2.trans (hb.mono HS.out.2.size))
    clear hb c0 c1 c2 c3 c4 hlw HS
    go_wp2_with fail
    refine (awake_from HE.out HM.out _ HB1.out).mono ?_
    rintro e w2 ⟨rfl, hb⟩
    have HB2 := Lib.hid hb
    clear hb
    go_wp2_with fail
    go_ret
    exact ⟨rfl, HB2.out⟩
  obtain ⟨hlim, htr⟩ := small_iff HSM.out
  have hlv : (lvD d).length ≤ 40 := by have := lv_len _ d (Nat.lt_succ_self _); omega
  have HFL := Lib.hid (fun w' (hb : Below w.heap.size w w') => Flatten_any (HREP.out.under hb) hlim (by omega))
  have HFR := Lib.hid (fun w' (hb : Below w.heap.size w w') => refFlatten_any (HREP.out.under hb) hlim (by omega))
  have HLM := Lib.hid (And.intro (flatD_len (d := d) (by omega)) (flatD_lims hlim))
  generalize flatD d = r at HFL HFR HLM
  obtain ⟨L, en⟩ := r
  simp only at HLM
  clear htr hlim hlv
  go_enter Tryz.func5, Tryz.ntmps5
  go_upto_region 1 with fail
  generalize w.alloc (.cells #[.int .i64 d.k, .int .i64 d.n, .string (S d.s), .slice p d.its.length cap, .slice q d.mem.length caq] 26) = W at hS ⊢
  obtain ⟨c0, c1, c2, c3, c4, hlw⟩ := hS.cells
  have HS := Lib.hid hS
  clear hS
  go_wp2_with fail
  refine (HSW.out _ HS.out.2).mono ?_
  rintro e w1 ⟨rfl, hb⟩
  have HS1 := Lib.hid (HS.out.below hb)
  clear hb c0 c1 c2 c3 c4 hlw HS
  obtain ⟨c0, c1, c2, c3, c4, hlw⟩ := HS1.out.cells
  go_wp2_with fail
  refine (HFL.out _ HS1.out.2).mono ?_
  rintro e w2 hF
  obtain ⟨p2, cap2, rfl, he, hb⟩ := hF.ents
  have HS2 := Lib.hid (HS1.out.below hb)
  have HE2 := Lib.hid he
  clear hb he hF c0 c1 c2 c3 c4 hlw HS1
  obtain ⟨c0, c1, c2, c3, c4, hlw⟩ := HS2.out.cells
  go_wp2_with fail
  refine (HFR.out _ HS2.out.2).mono ?_
  rintro e w3 hF
  obtain ⟨p3, cap3, rfl, he, hb⟩ := hF.ents
  have HB3 := Lib.hid (HS2.out.2.trans (hb.mono HS2.out.2.size))
  have HE3 := Lib.hid (And.intro (HE2.out.under hb) he)
  clear hb he hF c0 c1 c2 c3 c4 hlw HS2 HE2
  go_wp2_with fail
  refine (entries_of HE3.out.1 HLM.out.1).mono ?_
  rintro e w4 ⟨⟨p4, cap4, rfl, he⟩, hb⟩
  have HB4 := Lib.hid (HB3.out.trans (hb.mono HB3.out.size))
  have HE4 := Lib.hid (And.intro he (HE3.out.2.under hb))
  clear hb he HB3 HE3
  go_wp2_with fail
  refine (same_any HE4.out.1 HE4.out.2 HLM.out.1 HLM.out.2).mono ?_
  rintro e w5 ⟨rfl, hb⟩
  have HB5 := Lib.hid (HB4.out.trans (hb.mono HB4.out.size))
  clear hb HB4 HE4
  go_wp2_with fail
  refine (awake_from HE.out HM.out _ HB5.out).mono ?_
  rintro e w6 ⟨rfl, hb⟩
  have HB6 := Lib.hid hb
  clear hb
  go_wp2_with fail
  go_ret
  exact ⟨rfl, HB6.out⟩
end
end Go.Proofs.YtoahmganodehkaaGreatDoor
