/- Walks of the reference of properties: build. -/
import Derived.Maps.AppendAt
import Derived.Test.YtoahmganodehkaaGreatDoorM09
import Derived.Test.YtoahmganodehkaaGreatDoorM19
import Derived.Test.YtoahmganodehkaaGreatDoorM11
namespace Go.Proofs.YtoahmganodehkaaGreatDoor
set_option linter.unusedSimpArgs false
set_option linter.unusedVariables false
section
open Go.RowKit

theorem infoMem2 : (Tryz.prog.info? 64).map (fun i => (i.zero, i.size, i.bytes)) = some (some (.agg #[.string ⟨#[]⟩, .int .i64 0, .int .i64 0, .string ⟨#[]⟩, .slice none 0 0, .slice none 0 0]), 6, 96) := by kernel_rfl
theorem out_kept4 {wc w5 : World} {o : Obj} {gu i : Nat} {row : Option Nat} {u : Value} (hgu : gu < wc.heap.size) (hne : some gu ≠ row) (hc : wc.cell? ⟨gu, i, none⟩ = some u) (hf : wc.frozen? ⟨gu, i, none⟩ = false) (hg : ((wc.alloc o).drew).grownBy w5 row) :
    w5.cell? ⟨gu, i, none⟩ = some u ∧ w5.frozen? ⟨gu, i, none⟩ = false ∧ gu < w5.heap.size := by
  have hb : Below wc.heap.size wc ((wc.alloc o).drew) := below_drew ((Below.refl _ _).alloc (Nat.le_refl _) _)
  have hq : w5.heap[gu]? = wc.heap[gu]? := (hg.block gu (Nat.lt_of_lt_of_le hgu hb.size) hne).trans (hb.block gu hgu)
  exact ⟨(World.cell?_of_block (a := ⟨gu, i, none⟩) hq).trans hc, (World.frozen?_of_block (a := ⟨gu, i, none⟩) hq).trans hf, Nat.lt_of_lt_of_le hgu (Nat.le_trans hb.size hg.size)⟩
theorem BdS.memb_end2 {w : World} {Bd N : Nat} {kd : Int} {A : List (Dat × Value × Value)} {M : List (List UInt8 × Dat × Value × Value)} {vi vm : Value} {W w5 : World} {o : Obj} {l : List UInt8} {x : Dat} {xi xm : Value} {g5 c5 : Nat} (h : BdS w Bd N kd A M vi vm W) (hx : Rep W (apD w.heap.size Bd vi vm) x xi xm)
    (ho : w5.ownsRow N 64 6 (.slice (some ⟨g5, 0, none⟩) (M.length + 1) c5) (M.length + 1) (flat6 M ++ [.string (S l), .int .i64 x.k, .int .i64 x.n, .string (S x.s), xi, xm]))
    (hg : ((W.alloc o).drew).grownBy w5 vm.ownBlock) (ha : vm.ownBlock = some g5 ∨ g5 = ((W.alloc o).drew).heap.size) :
    BdS w Bd N kd A (M ++ [(l, x, xi, xm)]) vi (.slice (some ⟨g5, 0, none⟩) (M.length + 1) c5) (w5.setCell ⟨Bd, 4, none⟩ (.slice (some ⟨g5, 0, none⟩) (M.length + 1) c5)) := by
  have hb : Below W.heap.size W ((W.alloc o).drew) := below_drew ((Below.refl _ _).alloc (Nat.le_refl _) _)
  refine (h.under hb).memb (hx.under hb) ho hg ?_
  rcases ha with e | e
  · exact .inl (by rw [e]; rfl)
  · exact .inr ⟨g5, rfl, by rw [e]; exact Nat.le_refl _⟩
/-- the box of what is made, at its beginning -/
theorem bds_new (w1 : World) (kd : Int) : BdS w1 w1.heap.size (w1.heap.size + 1) kd [] [] (.slice none 0 0) (.slice none 0 0) (w1.alloc (.cells #[.int .i64 kd, .int .i64 0, .string ⟨#[]⟩, .slice none 0 0, .slice none 0 0] 26)) :=
  ⟨Blk.new _ _ _, World.ownsRow_nil _ _ _ _, World.ownsRow_nil _ _ _ _, by simp, by simp, ⟨Nat.le_refl _, Nat.lt_succ_self _, by simp⟩, (Below.refl _ _).alloc (Nat.le_refl _) _⟩
theorem memT_true (T : List (Stp × Dat × Value × Value)) : itsT true T = [] := rfl
theorem itsT_false (T : List (Stp × Dat × Value × Value)) : memT false T = [] := rfl
set_option maxRecDepth 100000 in
set_option maxHeartbeats 8000000 in
theorem refbuild_any (f : Nat) : ∀ (L : List Ent) (v : Value) (w : World) (ok : Nat → Prop), EntR w ok v L → L ≠ [] → noClash L → (∀ e ∈ L, entOK e ∧ e.1.length < f ∧ e.1.length ≤ 1000000) → L.length ≤ 1000000 →
    Calls Tryz.prog 46 #[v] w (RBdP w (bld f L)) := by
  induction f with
  | zero =>
    intro L v w ok _ h0 _ h _
    obtain ⟨e, he⟩ := List.exists_mem_of_ne_nil _ h0
    exact absurd (h e he).2.1 (Nat.not_lt_zero _)
  | succ f ih =>
    intro L v w ok h h0 hc hk hl
    have hN : Blk (w.alloc (.cells #[.int .i64 0, .int .i64 0, .string ⟨#[]⟩, .slice none 0 0, .slice none 0 0] 26)) w.heap.size #[.int .i64 0, .int .i64 0, .string ⟨#[]⟩, .slice none 0 0, .slice none 0 0] 26 := Blk.new w _ _
    have hbB : Below w.heap.size w (w.alloc (.cells #[.int .i64 0, .int .i64 0, .string ⟨#[]⟩, .slice none 0 0, .slice none 0 0] 26)) := (Below.refl _ _).alloc (Nat.le_refl _) _
    by_cases hone : ∃ d, L = [([], d)]
    · obtain ⟨d, rfl⟩ := hone
      have e1 : bld (f + 1) [(([] : List Stp), d)] = some d := rfl
      rw [e1]
      obtain ⟨p, cap, B, o, rfl, hj⟩ := h.open
      obtain ⟨pv, vi, vm, rfl, hcap, hB, -, c0, hcc, hs, hr⟩ := hj 0 (by simp)
      obtain ⟨pp, pc, rfl⟩ := slk_form hs
      obtain ⟨p1, cap1, rfl, -, -⟩ := hr.items
      obtain ⟨q1, caq1, rfl, -, -⟩ := hr.members
      obtain ⟨k0, k1, k2, k3, k4⟩ := hcc
      simp only [List.length_singleton, List.getElem_cons_zero, List.length_nil, Nat.zero_mul, Nat.add_zero] at c0 k0 k1 k2 k3 k4 hr ⊢
      obtain ⟨⟨-, hlf, -⟩, -, -⟩ := hk _ (List.mem_cons_self ..)
      obtain ⟨-, l1, l2⟩ := leaf_iff.1 hlf
      have e2 : d.its.length = 0 := by rw [l1]; rfl
      have e3 : d.mem.length = 0 := by rw [l2]; rfl
      rw [e2] at k3
      rw [e3] at k4
      have HL := Lib.hid (fun w' => rep_leaf w' (fun B => w.heap.size ≤ B) l1 l2 p1 q1 cap1 caq1)
      clear h h0 hc hk hl ih hs hr hlf hj e1 e2 e3 l1 l2
      go_enter Tryz.func46, Tryz.ntmps46
      go_upto_region 1 with fail
      generalize w.alloc (.cells #[.int .i64 0, .int .i64 0, .string ⟨#[]⟩, .slice none 0 0, .slice none 0 0] 26) = W at hN hbB ⊢
      replace c0 := (hbB.cell (p := ⟨B, o, none⟩) hB).trans c0
      replace k0 := (hbB.cell (p := ⟨B, o + 1, none⟩) hB).trans k0
      replace k1 := (hbB.cell (p := ⟨B, o + 1 + 1, none⟩) hB).trans k1
      replace k2 := (hbB.cell (p := ⟨B, o + 1 + 2, none⟩) hB).trans k2
      replace k3 := (hbB.cell (p := ⟨B, o + 1 + 3, none⟩) hB).trans k3
      replace k4 := (hbB.cell (p := ⟨B, o + 1 + 4, none⟩) hB).trans k4
      have z0 := hN.cell 0
      have z1 := hN.cell 1
      have z2 := hN.cell 2
      have z3 := hN.cell 3
      have z4 := hN.cell 4
      have y0 := hN.frozen 0
      have y1 := hN.frozen 1
      have y2 := hN.frozen 2
      have y3 := hN.frozen 3
      have y4 := hN.frozen 4
      simp at z0 z1 z2 z3 z4
      have hlw := hN.lt
      have HB := Lib.hid hbB
      clear hN hbB
      go_wp2_with fail
      refine bodyPost_ret (v := .tuple #[.agg #[.int .i64 d.k, .int .i64 d.n, .string (S d.s), .slice p1 0 cap1, .slice q1 0 caq1], .int .i64 0]) (by simp [results, Tryz.results46, go_sem, z0, z1, z2, z3, z4, y0, y1, y2, y3, y4, hlw]) rfl ?_
      exact ⟨_, _, rfl, HL.out _, ((((HB.out.setCell (Nat.le_refl _) _).setCell (Nat.le_refl _) _).setCell (Nat.le_refl _) _).setCell (Nat.le_refl _) _).setCell (Nat.le_refl _) _⟩
    · -- the paths go on
      have hne : ∀ e ∈ L, e.1 ≠ [] := by
        intro e he h1
        have e2 := clash_one hc he h1
        obtain ⟨p, d⟩ := e
        have : p = [] := h1
        subst this
        exact hone ⟨d, e2⟩
      have hgl : (grp L).length ≤ 1000000 := Nat.le_trans (grp_len L) hl
      have HLB := Lib.hid (fun w' (hb : Below w.heap.size w w') => refLabels_any (h.under hb) hl hne)
      have HIX := Lib.hid (fun w' (hb : Below w.heap.size w w') => refIndices_any (h.under hb) hl hne (fun e he _ => (ok_wf (hd_ok (hk e he).1 (hne e he))).2))
      have HBW := Lib.hid (fun w' (hb : Below w.heap.size w w') s => refBelow_any (h.under hb) hl hne s)
      have IH := Lib.hid (fun s (hs : s ∈ grp L) w' v' ok' (hv : EntR w' ok' v' (blw L s)) => ih (blw L s) v' w' ok' hv (blw_in hne hk hs hc hl).1 (blw_in hne hk hs hc hl).2.1 (blw_in hne hk hs hc hl).2.2.1 (blw_in hne hk hs hc hl).2.2.2)
      have HNA := Lib.hid (fun (hall : ∀ e ∈ L, (hdS e).lab ≠ []) => names_at (L := L) (fun e he => ⟨hall e he, hd_zero (hk e he).1 (hne e he) (hall e he)⟩))
      have HVL := Lib.hid (fun hall => bld_lab (f := f) hne h0 hall)
      have HVI := Lib.hid (fun hx => bld_ix (f := f) hne h0 (fun e he _ => (ok_wf (hd_ok (hk e he).1 (hne e he))).2.1) hx)
      obtain ⟨p, cap, B, o, rfl, hj⟩ := h.open
      have hlen1 : L.length = 1 → ∃ pp pc P, w.cell? ⟨B, o, none⟩ = some (.slice pp (P + 1) pc) ∧ p = some ⟨B, o, none⟩ ∧ B < w.heap.size := by
        intro h1
        obtain ⟨pv, vi, vm, rfl, hcap, hB, -, c0, -, hs, -⟩ := hj 0 (by omega)
        obtain ⟨pp, pc, rfl⟩ := slk_form hs
        have hx := hne _ (List.getElem_mem (show 0 < L.length by omega))
        obtain ⟨P, hP⟩ : ∃ P, (L[0]'(by omega)).1.length = P + 1 := by
          cases hh : (L[0]'(by omega)).1 with
          | nil => exact absurd hh hx
          | cons a b => exact ⟨b.length, rfl⟩
        rw [hP, Nat.zero_mul, Nat.add_zero] at c0
        exact ⟨pp, pc, P, c0, rfl, hB⟩
      have HL1 := Lib.hid hlen1
      obtain ⟨i0, hi, hz0, hz1, hz2⟩ := info_parts infoDat
      obtain ⟨i1, hi', hy0, hy1, hy2⟩ := info_parts infoMem2
      have hll : L.length ≤ 1000000 := hl
      have hlp : 0 < L.length := List.length_pos_iff.2 h0
      clear h h0 hc hk hl ih hj hone hne hlen1
      go_enter Tryz.func46, Tryz.ntmps46
      go_upto_region 1 with fail
      generalize w.alloc (.cells #[.int .i64 0, .int .i64 0, .string ⟨#[]⟩, .slice none 0 0, .slice none 0 0] 26) = W at hN hbB ⊢
      have HN := Lib.hid hN
      have HB := Lib.hid hbB
      clear hN hbB
      go_cut [26] (fun b wx => b = .bool false ∧ wx = W)
      case first =>
        rcases Nat.lt_or_ge 1 L.length with h1 | h1
        · have b1 : ((L.length : Int) == 1) = false := by rw [beq_eq_false_iff_ne]; omega
          have b2 : ¬ ((L.length : Int) = 1) := by omega
          go_wp2_with fail
          go_meet
          exact ⟨rfl, rfl⟩
        · have h2 : L.length = 1 := by omega
          obtain ⟨pp, pc, P, c0, rfl, hBw⟩ := HL1.out h2
          replace c0 := (HB.out.cell (p := ⟨B, o, none⟩) hBw).trans c0
          have b1 : ((P : Int) + 1 == 0) = false := by rw [beq_eq_false_iff_ne]; omega
          have b2 : ¬ ((P : Int) + 1 = 0) := by omega
          have b3 : ((L.length : Int) == 1) = true := by rw [beq_iff_eq]; omega
          have b4 : (0 : Int) < (L.length : Int) := by omega
          have b5 : (L.length : Int) = 1 := by omega
          clear h2
          go_wp2_with fail
          go_meet
          exact ⟨rfl, rfl⟩
      case rest =>
        obtain ⟨rfl, rfl⟩ := hcut
        clear HL1
        go_wp2_with fail
        refine (HLB.out _ HB.out).mono ?_
        rintro e w1 ⟨hcase, hb⟩
        have HN1 := Lib.hid (HN.out.below hb)
        have HB1 := Lib.hid (HB.out.trans (hb.mono HB.out.size))
        clear hb
        rcases hcase with ⟨hx, rfl⟩ | ⟨hall, np, nc, rfl, hnm⟩
        · -- a list, or a fault
          have HVX := Lib.hid (HVI.out hx)
          clear hx HLB HNA HVL HVI HN HB
          go_wp2_with fail
          refine (HIX.out _ HB1.out).mono ?_
          rintro e w2 ⟨rfl, hb⟩
          have HN2 := Lib.hid (HN1.out.below hb)
          have HB2 := Lib.hid (HB1.out.trans (hb.mono HB1.out.size))
          clear hb HN1 HB1 HIX
          rcases HVX.out with ⟨n0, hix, hno⟩ | ⟨n, hix, hnl, hg, hbl⟩
          · rw [hix]
            have HNO := Lib.hid hno
            have hN2 := HN2.out
            have z0 := hN2.cell 0
            have z1 := hN2.cell 1
            have z2 := hN2.cell 2
            have z3 := hN2.cell 3
            have z4 := hN2.cell 4
            have y0 := hN2.frozen 0
            have y1 := hN2.frozen 1
            have y2 := hN2.frozen 2
            have y3 := hN2.frozen 3
            have y4 := hN2.frozen 4
            simp at z0 z1 z2 z3 z4
            have hlw := hN2.lt
            clear hN2 hno hix HVX
            go_wp2_with fail
            refine bodyPost_ret (v := .tuple #[.agg #[.int .i64 0, .int .i64 0, .string ⟨#[]⟩, .slice none 0 0, .slice none 0 0], .int .i64 19]) (by simp [results, Tryz.results46, go_sem, z0, z1, z2, z3, z4, y0, y1, y2, y3, y4, hlw]) rfl ?_
            rw [HNO.out]
            exact RBdP.no w (((((HB2.out.setCell (Nat.le_refl _) _).setCell (Nat.le_refl _) _).setCell (Nat.le_refl _) _).setCell (Nat.le_refl _) _).setCell (Nat.le_refl _) _)
          · rw [hix]
            have HV := Lib.hid hbl
            obtain ⟨hgn, hga⟩ := idx_at hg
            have HGA := Lib.hid hga
            clear hix HVX hbl hg hga
            have hS := bds_new w2 5
            go_upto_region 18 with fail
            generalize w2.alloc (.cells #[.int .i64 5, .int .i64 0, .string ⟨#[]⟩, .slice none 0 0, .slice none 0 0] 26) = W2 at hS ⊢
            have HS0 := Lib.hid (show BdS w2 w2.heap.size (w2.heap.size + 1) 5 (itsT false []) [] (.slice none 0 0) (.slice none 0 0) W2 from hS)
            have HI0 : Hid (bldL (bld f) L false (grp L) 0 = (bldL (bld f) L false ((grp L).drop 0) 0).map (fun t => ([] : List (Stp × Dat × Value × Value)).map (fun t => (t.1, t.2.1)) ++ t)) := Lib.hid (by rw [List.drop_zero]; simp)
            clear hS
            go_wp2_with fail
            go_loopw [13] (fun x wr => ∃ (i : Nat) (T : List (Stp × Dat × Value × Value)) (vx : Value), x = .int .i64 (i : Int) ∧ i ≤ n ∧ T.length = i ∧ Hid (BdS w2 w2.heap.size (w2.heap.size + 1) 5 (itsT false T) [] vx (.slice none 0 0) wr) ∧ Hid (bldL (bld f) L false (grp L) 0 = (bldL (bld f) L false ((grp L).drop i) i).map (fun t => T.map (fun t => (t.1, t.2.1)) ++ t))) (fun x _ => n - (intOf x).toNat)
            case atStart => exact ⟨0, [], _, rfl, Nat.zero_le _, rfl, HS0, HI0⟩
            case round =>
              clear HS0 HI0
              obtain ⟨i, T, vx, rfl, hi1, hTi, HS, HI⟩ := hrel
              obtain ⟨ip, ic, hvx⟩ := own_form5 HS.out.its
              subst hvx
              have HTL := Lib.hid (show (itsT false T).length = T.length by simp [memT, itsT])
              by_cases hlt : i < n
              · have hig : i < (grp L).length := by omega
                have hs := HGA.out i hig
                have HF := Lib.hid (fit_idx (i := i))
                have HST := bldL_step (bld f) L false hig
                have hmem : ⟨[], (i : Int)⟩ ∈ grp L := by rw [← hs]; exact List.getElem_mem hig
                rw [hs] at HST
                have HIS := Lib.hid (IH.out ⟨[], (i : Int)⟩ hmem)
                replace HST := Lib.hid HST
                have HCL := Lib.hid (HBW.out _ (HB2.out.trans (HS.out.bel.mono HB2.out.size)) ⟨[], (i : Int)⟩)
                clear hs hmem
                go_wp2_with fail
                refine HCL.out.mono ?_
                rintro e w3 ⟨⟨v', rfl, he⟩, hb⟩
                have HS3 := Lib.hid (HS.out.under hb)
                have HSZ := Lib.hid hb.size
                obtain ⟨pb, cb, Bb, ob, rfl, -⟩ := he.open
                have HE3 := Lib.hid he
                clear he hb HCL
                go_wp2_with fail
                refine (HIS.out _ _ _ HE3.out).mono ?_
                rintro e w5 ⟨xi, xm, rfl, hrep, hb⟩
                have HS5 := Lib.hid (HS3.out.under hb)
                generalize hr : bld f (blw L ⟨[], (i : Int)⟩) = r at hrep
                have HRR := Lib.hid hr
                clear hr hb HIS HE3
                rcases r with _ | x
                · have e1 : dv ((none : Option Dat).getD dat0) xi xm = .agg #[.int .i64 0, .int .i64 0, .string ⟨#[]⟩, xi, xm] := rfl
                  have e4 : (if (none : Option Dat).isSome = true then (0 : Int) else 19) = 19 := rfl
                  rw [e1, e4]
                  change Rep w5 _ dat0 xi xm at hrep
                  obtain ⟨p1, cap1, rfl⟩ : ∃ p c, xi = .slice p 0 c := by
                    obtain ⟨p, c, e, -⟩ := hrep.items
                    exact ⟨p, c, e⟩
                  obtain ⟨q1, caq1, rfl⟩ : ∃ p c, xm = .slice p 0 c := by
                    obtain ⟨p, c, e, -⟩ := hrep.members
                    exact ⟨p, c, e⟩
                  have hN2 := (HN2.out.below HS5.out.bel).alloc (.cells #[.int .i64 0, .int .i64 0, .string ⟨#[]⟩, .slice p1 0 cap1, .slice q1 0 caq1] 26)
                  have HBW5 := Lib.hid (below_al1 (HB2.out.trans (HS5.out.bel.mono HB2.out.size)) (Nat.le_refl _) (.cells #[.int .i64 0, .int .i64 0, .string ⟨#[]⟩, .slice p1 0 cap1, .slice q1 0 caq1] 26))
                  have HNO := Lib.hid (show bld (f + 1) L = none by rw [HV.out, bldL_none HI.out HST.out (.inr HRR.out)]; rfl)
                  clear hrep e1 e4
                  go_upto_region 22 with fail
                  generalize w5.alloc (.cells #[.int .i64 0, .int .i64 0, .string ⟨#[]⟩, .slice p1 0 cap1, .slice q1 0 caq1] 26) = W5 at hN2 HBW5 ⊢
                  have z0 := hN2.cell 0
                  have z1 := hN2.cell 1
                  have z2 := hN2.cell 2
                  have z3 := hN2.cell 3
                  have z4 := hN2.cell 4
                  have y0 := hN2.frozen 0
                  have y1 := hN2.frozen 1
                  have y2 := hN2.frozen 2
                  have y3 := hN2.frozen 3
                  have y4 := hN2.frozen 4
                  simp at z0 z1 z2 z3 z4
                  have hlw := hN2.lt
                  clear hN2
                  go_wp2_with fail
                  refine bodyPost_ret (v := .tuple #[.agg #[.int .i64 0, .int .i64 0, .string ⟨#[]⟩, .slice none 0 0, .slice none 0 0], .int .i64 19]) (by simp [results, Tryz.results46, go_sem, z0, z1, z2, z3, z4, y0, y1, y2, y3, y4, hlw]) rfl ?_
                  rw [HNO.out]
                  exact RBdP.no w (((((HBW5.out.setCell (Nat.le_refl _) _).setCell (Nat.le_refl _) _).setCell (Nat.le_refl _) _).setCell (Nat.le_refl _) _).setCell (Nat.le_refl _) _)
                · have e1 : dv ((some x : Option Dat).getD dat0) xi xm = .agg #[.int .i64 x.k, .int .i64 x.n, .string (S x.s), xi, xm] := rfl
                  have e4 : (if (some x : Option Dat).isSome = true then (0 : Int) else 19) = 0 := rfl
                  rw [e1, e4]
                  change Rep w5 _ x xi xm at hrep
                  obtain ⟨xp, xc, rfl, -, -⟩ := hrep.items
                  obtain ⟨yp, yc, rfl, -, -⟩ := hrep.members
                  have hN5 := Blk.new w5 #[.int .i64 x.k, .int .i64 x.n, .string (S x.s), .slice xp x.its.length xc, .slice yp x.mem.length yc] 26
                  have hb6 : Below w5.heap.size w5 (w5.alloc (.cells #[.int .i64 x.k, .int .i64 x.n, .string (S x.s), .slice xp x.its.length xc, .slice yp x.mem.length yc] 26)) := (Below.refl _ _).alloc (Nat.le_refl _) _
                  have HS6 := HS5.out.under hb6
                  have hx6 := hrep.under hb6
                  clear hrep hb6 e1 e4
                  go_upto_region 22 with fail
                  generalize w5.alloc (.cells #[.int .i64 x.k, .int .i64 x.n, .string (S x.s), .slice xp x.its.length xc, .slice yp x.mem.length yc] 26) = W5 at hN5 HS6 hx6 ⊢
                  have HX7 := Lib.hid (hx6.mono (ok' := apD w2.heap.size w2.heap.size (.slice ip (itsT false T).length ic) (.slice none 0 0)) fun B _ hB => HS.out.apart (Nat.le_refl _) (Nat.le_trans HSZ.out hB))
                  have n0 := hN5.cell 0
                  have n1 := hN5.cell 1
                  have n2 := hN5.cell 2
                  have n3 := hN5.cell 3
                  have n4 := hN5.cell 4
                  simp at n0 n1 n2 n3 n4
                  have k3 := HS6.blk.cell 3
                  have f3 := HS6.blk.frozen 3
                  simp at k3
                  have hBl := HS6.blk.lt
                  have HBL := Lib.hid hBl
                  have HK := Lib.hid (And.intro k3 f3)
                  have HBB := Lib.hid (show some w2.heap.size ≠ (Value.slice ip (itsT false T).length ic).ownBlock from fun e => by have := (own_ge HS6.its e.symm).1; omega)
                  have hnw := HS6.nr.2.2
                  have HS7 := Lib.hid HS6
                  have HIN := Lib.hid (fun xi xm => bldL_next (xi := xi) (xm := xm) HI.out HST.out HF.out HRR.out)
                  clear hx6 HS6
                  have hml : (itsT false T).length ≤ 1000000 := by have := HTL.out; omega
                  go_wp2_with (at_builtin; refine wpList_append_own_at _ rfl _ _ 23 rfl (w2.heap.size + 1) 26 i0 (.agg #[.int .i64 0, .int .i64 0, .string ⟨#[]⟩, .slice none 0 0, .slice none 0 0]) 5 80 Tryz.underlying23 hi hz0 hz1 hz2 rfl (by decide) (.slice ip (itsT false T).length ic) (itsT false T).length (flat5 (itsT false T)) rfl (HS7.out.its.alloc _) ⟨W5.heap.size, 0, none⟩ 1 1 [.int .i64 x.k, .int .i64 x.n, .string (S x.s), .slice xp x.its.length xc, .slice yp x.mem.length yc] rfl rfl (cells_new_at rfl rfl) (by simp [Value.oneCell']) (by unfold maxLen; omega) (by omega) (by simp; omega) ?_; intro v' w8 hown8 hgrow8 _ hat8; obtain ⟨vp8, vc8, rfl⟩ := own_form5 hown8; obtain ⟨z2, zf, zl⟩ := out_kept2 HBL.out HBB.out HK.out.1 HK.out.2 hgrow8; have HO8 := Lib.hid hown8; have HG8 := Lib.hid hgrow8; have HA8 := Lib.hid hat8; clear hown8 hgrow8 hat8)
                  go_roundw
                  case rel => exact ⟨i + 1, T ++ [(⟨[], (i : Int)⟩, x, .slice xp x.its.length xc, .slice yp x.mem.length yc)], _, by go_num, hlt, by simp; omega, Lib.hid (by rw [itsT_snoc]; exact HS7.out.item_end HX7.out HO8.out HG8.out HA8.out), Lib.hid (HIN.out _ _)⟩
                  case measure => simp [intOf]; omega
              · have hii : i = (grp L).length := by omega
                have HM := Lib.hid (show bld (f + 1) L = some (madeD false (T.map fun t => (t.1, t.2.1))) by
                  rw [HV.out, HI.out, List.drop_of_length_le (by omega)]; simp [bldL])
                have hR := HS.out.rep ⟨by first | (simp; done) | (have := HTL.out; omega), by first | (simp; done) | (have := HTL.out; omega)⟩
                have hme : Dat.mk 5 0 [] ((itsT false T).map fun t => t.1) (([] : List (List UInt8 × Dat × Value × Value)).map fun t => (t.1, t.2.1)) = madeD false (T.map fun t => (t.1, t.2.1)) := made_eq false T
                have HDV := Lib.hid (show dv (madeD false (T.map fun t => (t.1, t.2.1))) (.slice ip (itsT false T).length ic) (.slice none 0 0) = .agg #[.int .i64 5, .int .i64 0, .string ⟨#[]⟩, .slice ip (itsT false T).length ic, .slice none 0 0] by rw [← hme]; rfl)
                rw [hme] at hR
                have hN2 := HN2.out.below HS.out.bel
                have hbd := HS.out.blk
                have HBW5 := Lib.hid (HB2.out.trans (HS.out.bel.mono HB2.out.size))
                have HNW := Lib.hid HN2.out.lt
                have z0 := hN2.cell 0
                have z1 := hN2.cell 1
                have z2 := hN2.cell 2
                have z3 := hN2.cell 3
                have z4 := hN2.cell 4
                have y0 := hN2.frozen 0
                have y1 := hN2.frozen 1
                have y2 := hN2.frozen 2
                have y3 := hN2.frozen 3
                have y4 := hN2.frozen 4
                simp at z0 z1 z2 z3 z4
                have hlw := hN2.lt
                clear hN2
                have k0 := hbd.cell 0
                have k1 := hbd.cell 1
                have k2 := hbd.cell 2
                have k3 := hbd.cell 3
                have k4 := hbd.cell 4
                simp at k0 k1 k2 k3 k4
                have hR5 := (((((hR.set ⟨w.heap.size, 0, none⟩ (.int .i64 5) (fun B hB e => by have := HNW.out; simp at e; omega)).set ⟨w.heap.size, 1, none⟩ (.int .i64 0) (fun B hB e => by have := HNW.out; simp at e; omega)).set ⟨w.heap.size, 2, none⟩ (.string ⟨#[]⟩) (fun B hB e => by have := HNW.out; simp at e; omega)).set ⟨w.heap.size, 3, none⟩ (.slice ip (itsT false T).length ic) (fun B hB e => by have := HNW.out; simp at e; omega)).set ⟨w.heap.size, 4, none⟩ (.slice none 0 0) (fun B hB e => by have := HNW.out; simp at e; omega))
                have HR5 := Lib.hid (hR5.mono (ok' := fun B => w.heap.size ≤ B) fun B _ hB => Nat.le_trans HB2.out.size hB)
                clear hR hR5 hbd hii hme
                go_wp2_with fail
                refine bodyPost_ret (v := .tuple #[.agg #[.int .i64 5, .int .i64 0, .string ⟨#[]⟩, .slice ip (itsT false T).length ic, .slice none 0 0], .int .i64 0]) (by simp [results, Tryz.results46, go_sem, z0, z1, z2, z3, z4, y0, y1, y2, y3, y4, hlw]) rfl ?_
                rw [HM.out, ← HDV.out]
                exact ⟨_, _, rfl, HR5.out, ((((HBW5.out.setCell (Nat.le_refl _) _).setCell (Nat.le_refl _) _).setCell (Nat.le_refl _) _).setCell (Nat.le_refl _) _).setCell (Nat.le_refl _) _⟩
        · -- a struct
          obtain ⟨hgn, hga⟩ := HNA.out hall
          have HGA := Lib.hid hga
          have HV := Lib.hid (HVL.out hall)
          have HLN := Lib.hid (fun i (hi : i < (namesL L).length) => (show (namesL L)[i] ≠ [] from by
            have h1 := hga i hi (by omega)
            obtain ⟨e, he, hs⟩ := grp_mem.1 (List.getElem_mem (show i < (grp L).length by omega))
            have h2 := hall e he
            rw [hs, h1] at h2
            exact h2))
          generalize namesL L = N at hgn HGA HLN hnm ⊢
          obtain ⟨np', nc', Bn, hv, hcell⟩ := own1 (f := fun l => Value.string (S l)) hnm
          injection hv with e1 _ e3
          subst e1; subst e3
          have HCE := Lib.hid hcell
          have hNl : N.length ≤ 1000000 := by omega
          clear hcell hnm hall hga HLB HNA HVL HVI HN HB HIX
          have hS := bds_new w1 6
          go_upto_region 6 with fail
          generalize w1.alloc (.cells #[.int .i64 6, .int .i64 0, .string ⟨#[]⟩, .slice none 0 0, .slice none 0 0] 26) = W2 at hS ⊢
          have HS0 := Lib.hid (show BdS w1 w1.heap.size (w1.heap.size + 1) 6 [] (memT true []) (.slice none 0 0) (.slice none 0 0) W2 from hS)
          have HI0 : Hid (bldL (bld f) L true (grp L) 0 = (bldL (bld f) L true ((grp L).drop 0) 0).map (fun t => ([] : List (Stp × Dat × Value × Value)).map (fun t => (t.1, t.2.1)) ++ t)) := Lib.hid (by rw [List.drop_zero]; simp)
          clear hS
          go_wp2_with fail
          go_loopw [7] (fun x wr => ∃ (i : Nat) (T : List (Stp × Dat × Value × Value)) (vx : Value), x = .int .i64 (i : Int) ∧ i ≤ N.length ∧ T.length = i ∧ Hid (BdS w1 w1.heap.size (w1.heap.size + 1) 6 [] (memT true T) (.slice none 0 0) vx wr) ∧ Hid (bldL (bld f) L true (grp L) 0 = (bldL (bld f) L true ((grp L).drop i) i).map (fun t => T.map (fun t => (t.1, t.2.1)) ++ t))) (fun x _ => N.length - (intOf x).toNat)
          case atStart => exact ⟨0, [], _, rfl, Nat.zero_le _, rfl, HS0, HI0⟩
          case round =>
            clear HS0 HI0
            obtain ⟨i, T, vx, rfl, hi1, hTi, HS, HI⟩ := hrel
            obtain ⟨ip, ic, hvx⟩ := own_form5 HS.out.mem
            subst hvx
            have HTL := Lib.hid (show (memT true T).length = T.length by simp [memT, itsT])
            by_cases hlt : i < N.length
            · have hig : i < (grp L).length := by omega
              obtain ⟨rfl, hcap, -, hgn2, hnc⟩ := HCE.out i hlt
              have hs := HGA.out i hlt hig
              have hnn := HLN.out i hlt
              replace hnc := (HS.out.bel.cell (p := ⟨Bn, i, none⟩) hgn2).trans hnc
              generalize N[i] = nm at hs hnn hnc
              have HF := Lib.hid (fit_lab (x := 0) (i := i) hnn)
              have HST := bldL_step (bld f) L true hig
              have hmem : ⟨nm, 0⟩ ∈ grp L := by rw [← hs]; exact List.getElem_mem hig
              rw [hs] at HST
              have HIS := Lib.hid (IH.out ⟨nm, 0⟩ hmem)
              replace HST := Lib.hid HST
              have HCL := Lib.hid (HBW.out _ (HB1.out.trans (HS.out.bel.mono HB1.out.size)) ⟨nm, 0⟩)
              have HNC := Lib.hid (And.intro hnc (Nat.lt_of_lt_of_le hgn2 HS.out.bel.size))
              clear hs hmem hnn
              go_wp2_with fail
              refine HCL.out.mono ?_
              rintro e w3 ⟨⟨v', rfl, he⟩, hb⟩
              have HS3 := Lib.hid (HS.out.under hb)
              have HSZ := Lib.hid hb.size
              have HNC3 := Lib.hid (And.intro ((hb.cell (p := ⟨Bn, i, none⟩) HNC.out.2).trans HNC.out.1) (Nat.lt_of_lt_of_le HNC.out.2 hb.size))
              obtain ⟨pb, cb, Bb, ob, rfl, -⟩ := he.open
              have HE3 := Lib.hid he
              clear he hb HCL hnc HNC
              go_wp2_with fail
              refine (HIS.out _ _ _ HE3.out).mono ?_
              rintro e w5 ⟨xi, xm, rfl, hrep, hb⟩
              have HS5 := Lib.hid (HS3.out.under hb)
              have HNC5 := Lib.hid (And.intro ((hb.cell (p := ⟨Bn, i, none⟩) HNC3.out.2).trans HNC3.out.1) (Nat.lt_of_lt_of_le HNC3.out.2 hb.size))
              generalize hr : bld f (blw L ⟨nm, 0⟩) = r at hrep
              have HRR := Lib.hid hr
              clear hr hb HIS HE3
              rcases r with _ | x
              · have e1 : dv ((none : Option Dat).getD dat0) xi xm = .agg #[.int .i64 0, .int .i64 0, .string ⟨#[]⟩, xi, xm] := rfl
                have e4 : (if (none : Option Dat).isSome = true then (0 : Int) else 19) = 19 := rfl
                rw [e1, e4]
                change Rep w5 _ dat0 xi xm at hrep
                obtain ⟨p1, cap1, rfl⟩ : ∃ p c, xi = .slice p 0 c := by
                  obtain ⟨p, c, e, -⟩ := hrep.items
                  exact ⟨p, c, e⟩
                obtain ⟨q1, caq1, rfl⟩ : ∃ p c, xm = .slice p 0 c := by
                  obtain ⟨p, c, e, -⟩ := hrep.members
                  exact ⟨p, c, e⟩
                have hN2 := (HN1.out.below HS5.out.bel).alloc (.cells #[.int .i64 0, .int .i64 0, .string ⟨#[]⟩, .slice p1 0 cap1, .slice q1 0 caq1] 26)
                have HBW5 := Lib.hid (below_al1 (HB1.out.trans (HS5.out.bel.mono HB1.out.size)) (Nat.le_refl _) (.cells #[.int .i64 0, .int .i64 0, .string ⟨#[]⟩, .slice p1 0 cap1, .slice q1 0 caq1] 26))
                have HNO := Lib.hid (show bld (f + 1) L = none by rw [HV.out, bldL_none HI.out HST.out (.inr HRR.out)]; rfl)
                clear hrep e1 e4
                go_upto_region 10 with fail
                generalize w5.alloc (.cells #[.int .i64 0, .int .i64 0, .string ⟨#[]⟩, .slice p1 0 cap1, .slice q1 0 caq1] 26) = W5 at hN2 HBW5 ⊢
                have z0 := hN2.cell 0
                have z1 := hN2.cell 1
                have z2 := hN2.cell 2
                have z3 := hN2.cell 3
                have z4 := hN2.cell 4
                have y0 := hN2.frozen 0
                have y1 := hN2.frozen 1
                have y2 := hN2.frozen 2
                have y3 := hN2.frozen 3
                have y4 := hN2.frozen 4
                simp at z0 z1 z2 z3 z4
                have hlw := hN2.lt
                clear hN2
                go_wp2_with fail
                refine bodyPost_ret (v := .tuple #[.agg #[.int .i64 0, .int .i64 0, .string ⟨#[]⟩, .slice none 0 0, .slice none 0 0], .int .i64 19]) (by simp [results, Tryz.results46, go_sem, z0, z1, z2, z3, z4, y0, y1, y2, y3, y4, hlw]) rfl ?_
                rw [HNO.out]
                exact RBdP.no w (((((HBW5.out.setCell (Nat.le_refl _) _).setCell (Nat.le_refl _) _).setCell (Nat.le_refl _) _).setCell (Nat.le_refl _) _).setCell (Nat.le_refl _) _)
              · have e1 : dv ((some x : Option Dat).getD dat0) xi xm = .agg #[.int .i64 x.k, .int .i64 x.n, .string (S x.s), xi, xm] := rfl
                have e4 : (if (some x : Option Dat).isSome = true then (0 : Int) else 19) = 0 := rfl
                rw [e1, e4]
                change Rep w5 _ x xi xm at hrep
                obtain ⟨xp, xc, rfl, -, -⟩ := hrep.items
                obtain ⟨yp, yc, rfl, -, -⟩ := hrep.members
                have hN5 := Blk.new w5 #[.int .i64 x.k, .int .i64 x.n, .string (S x.s), .slice xp x.its.length xc, .slice yp x.mem.length yc] 26
                have hb6 : Below w5.heap.size w5 (w5.alloc (.cells #[.int .i64 x.k, .int .i64 x.n, .string (S x.s), .slice xp x.its.length xc, .slice yp x.mem.length yc] 26)) := (Below.refl _ _).alloc (Nat.le_refl _) _
                have HS6 := HS5.out.under hb6
                have hx6 := hrep.under hb6
                have hnc6 := (hb6.cell (p := ⟨Bn, i, none⟩) HNC5.out.2).trans HNC5.out.1
                clear hrep hb6 e1 e4
                go_upto_region 10 with fail
                generalize w5.alloc (.cells #[.int .i64 x.k, .int .i64 x.n, .string (S x.s), .slice xp x.its.length xc, .slice yp x.mem.length yc] 26) = W5 at hN5 HS6 hx6 hnc6 ⊢
                have HX7 := Lib.hid (hx6.mono (ok' := apD w1.heap.size w1.heap.size (.slice none 0 0) (.slice ip (memT true T).length ic)) fun B _ hB => HS.out.apart (Nat.le_refl _) (Nat.le_trans HSZ.out hB))
                have n0 := hN5.cell 0
                have n1 := hN5.cell 1
                have n2 := hN5.cell 2
                have n3 := hN5.cell 3
                have n4 := hN5.cell 4
                simp at n0 n1 n2 n3 n4
                have k4 := HS6.blk.cell 4
                have f4 := HS6.blk.frozen 4
                simp at k4
                have hBl := HS6.blk.lt
                have HBL := Lib.hid hBl
                have HK := Lib.hid (And.intro k4 f4)
                have HBB := Lib.hid (show some w1.heap.size ≠ (Value.slice ip (memT true T).length ic).ownBlock from fun e => by have := (own_ge HS6.mem e.symm).1; omega)
                have hnw := HS6.nr.2.2
                have HS7 := Lib.hid HS6
                have HIN := Lib.hid (fun xi xm => bldL_next (xi := xi) (xm := xm) HI.out HST.out HF.out HRR.out)
                clear hx6 HS6
                have hml : (memT true T).length ≤ 1000000 := by have := HTL.out; omega
                go_wp2_with fail
                go_region_law ((refine step_append_lies _ (by rfl) _ _ _ (by rfl) (w1.heap.size + 1) 64 i1 (.agg #[.string ⟨#[]⟩, .int .i64 0, .int .i64 0, .string ⟨#[]⟩, .slice none 0 0, .slice none 0 0]) 6 96 Tryz.underlying24 hi' hy0 hy1 hy2 rfl (by omega) (.slice ip (memT true T).length ic) (memT true T).length (flat6 (memT true T)) (by rfl) ((HS7.out.mem.alloc _).drew) ⟨W5.heap.size, 0, none⟩ 1 1 [.string (S nm), .int .i64 x.k, .int .i64 x.n, .string (S x.s), .slice xp x.its.length xc, .slice yp x.mem.length yc] (by rfl) (by rfl) (cells_new_at rfl rfl) (by simp [Value.oneCell']) (by omega) (by unfold maxLen; omega) (by omega) (by simp; omega) _ rfl ?_; intro g5 c5 w8 hown8 hgrow8 hat8 hlt8; obtain ⟨z2, zf, zl⟩ := out_kept4 HBL.out HBB.out HK.out.1 HK.out.2 hgrow8; have HO8 := Lib.hid hown8; have HG8 := Lib.hid hgrow8; have HA8 := Lib.hid hat8; clear hown8 hgrow8 hat8))
                all_goals
                  go_wp2_with fail
                  go_roundw
                  case rel => exact ⟨i + 1, T ++ [(⟨nm, 0⟩, x, .slice xp x.its.length xc, .slice yp x.mem.length yc)], _, by go_num, hlt, by simp; omega, Lib.hid (by rw [memT_snoc]; exact HS7.out.memb_end2 HX7.out HO8.out HG8.out HA8.out), Lib.hid (HIN.out _ _)⟩
                  case measure => simp [intOf]; omega
            · have hii : i = (grp L).length := by omega
              have HM := Lib.hid (show bld (f + 1) L = some (madeD true (T.map fun t => (t.1, t.2.1))) by
                rw [HV.out, HI.out, List.drop_of_length_le (by omega)]; simp [bldL])
              have hR := HS.out.rep ⟨by first | (simp; done) | (have := HTL.out; omega), by first | (simp; done) | (have := HTL.out; omega)⟩
              have hme : Dat.mk 6 0 [] (([] : List (Dat × Value × Value)).map fun t => t.1) ((memT true T).map fun t => (t.1, t.2.1)) = madeD true (T.map fun t => (t.1, t.2.1)) := made_eq true T
              have HDV := Lib.hid (show dv (madeD true (T.map fun t => (t.1, t.2.1))) (.slice none 0 0) (.slice ip (memT true T).length ic) = .agg #[.int .i64 6, .int .i64 0, .string ⟨#[]⟩, .slice none 0 0, .slice ip (memT true T).length ic] by rw [← hme]; rfl)
              rw [hme] at hR
              have hN2 := HN1.out.below HS.out.bel
              have hbd := HS.out.blk
              have HBW5 := Lib.hid (HB1.out.trans (HS.out.bel.mono HB1.out.size))
              have HNW := Lib.hid HN1.out.lt
              have z0 := hN2.cell 0
              have z1 := hN2.cell 1
              have z2 := hN2.cell 2
              have z3 := hN2.cell 3
              have z4 := hN2.cell 4
              have y0 := hN2.frozen 0
              have y1 := hN2.frozen 1
              have y2 := hN2.frozen 2
              have y3 := hN2.frozen 3
              have y4 := hN2.frozen 4
              simp at z0 z1 z2 z3 z4
              have hlw := hN2.lt
              clear hN2
              have k0 := hbd.cell 0
              have k1 := hbd.cell 1
              have k2 := hbd.cell 2
              have k3 := hbd.cell 3
              have k4 := hbd.cell 4
              simp at k0 k1 k2 k3 k4
              have hR5 := (((((hR.set ⟨w.heap.size, 0, none⟩ (.int .i64 6) (fun B hB e => by have := HNW.out; simp at e; omega)).set ⟨w.heap.size, 1, none⟩ (.int .i64 0) (fun B hB e => by have := HNW.out; simp at e; omega)).set ⟨w.heap.size, 2, none⟩ (.string ⟨#[]⟩) (fun B hB e => by have := HNW.out; simp at e; omega)).set ⟨w.heap.size, 3, none⟩ (.slice none 0 0) (fun B hB e => by have := HNW.out; simp at e; omega)).set ⟨w.heap.size, 4, none⟩ (.slice ip (memT true T).length ic) (fun B hB e => by have := HNW.out; simp at e; omega))
              have HR5 := Lib.hid (hR5.mono (ok' := fun B => w.heap.size ≤ B) fun B _ hB => Nat.le_trans HB1.out.size hB)
              clear hR hR5 hbd hii hme
              go_wp2_with fail
              refine bodyPost_ret (v := .tuple #[.agg #[.int .i64 6, .int .i64 0, .string ⟨#[]⟩, .slice none 0 0, .slice ip (memT true T).length ic], .int .i64 0]) (by simp [results, Tryz.results46, go_sem, z0, z1, z2, z3, z4, y0, y1, y2, y3, y4, hlw]) rfl ?_
              rw [HM.out, ← HDV.out]
              exact ⟨_, _, rfl, HR5.out, ((((HBW5.out.setCell (Nat.le_refl _) _).setCell (Nat.le_refl _) _).setCell (Nat.le_refl _) _).setCell (Nat.le_refl _) _).setCell (Nat.le_refl _) _⟩
end
section
open Go.RowKit

theorem build_lim {L : List Ent} (h : entLims L) : limD (buildD L).1 = true := by
  by_cases he : (buildD L).2 = 0
  · exact (flat_build (L := L) (d := (buildD L).1) (Prod.ext rfl he) (fun e he => ⟨(h.2 e he).2.1, (h.2 e he).2.2⟩) h.1).2.2.2.1
  · have h1 : (buildD L).1 = dat0 := by
      unfold buildD at he ⊢
      split
      · rfl
      · split
        · rfl
        · split
          · rfl
          · rename_i a b c
            rw [if_neg a, if_neg b, if_neg c] at he
            cases hb : bld (maxP L + 1) L with
            | none => rfl
            | some d =>
              rw [hb] at he
              by_cases hc : chk d 1 = 0
              · simp only [if_pos hc] at he; exact absurd trivial he
              · simp only [if_neg hc]
    rw [h1]; exact (by decide : limD dat0 = true)
set_option maxRecDepth 100000 in
set_option maxHeartbeats 8000000 in
theorem refBuild_any {L : List Ent} {v : Value} {ok : Nat → Prop} {w : World} (h : EntR w ok v L) (hl : entLims L) :
    Calls Tryz.prog 21 #[v] w (BuildP w (buildD L)) := by
  have HKI := Lib.hid (fun w' (hb : Below w.heap.size w w') => refKinds_any (h.under hb) hl.1 (fun e he => (hl.2 e he).1))
  have HTW := Lib.hid (fun w' (hb : Below w.heap.size w w') => refTwice_any (h.under hb) hl.1 (fun e he => (hl.2 e he).1))
  obtain ⟨p, cap, B, o, rfl, -⟩ := h.open
  have HE := Lib.hid h
  have hll := hl.1
  have HL := Lib.hid hl
  generalize hr : buildD L = r
  have HBD := Lib.hid hr
  clear h hl hr
  have hN : Blk (w.alloc (.cells #[.int .i64 0, .int .i64 0, .string ⟨#[]⟩, .slice none 0 0, .slice none 0 0] 26)) w.heap.size #[.int .i64 0, .int .i64 0, .string ⟨#[]⟩, .slice none 0 0, .slice none 0 0] 26 := Blk.new w _ _
  have hbB : Below w.heap.size w (w.alloc (.cells #[.int .i64 0, .int .i64 0, .string ⟨#[]⟩, .slice none 0 0, .slice none 0 0] 26)) := (Below.refl _ _).alloc (Nat.le_refl _) _
  have hW : w.heap.size + 1 ≤ (w.alloc (.cells #[.int .i64 0, .int .i64 0, .string ⟨#[]⟩, .slice none 0 0, .slice none 0 0] 26)).heap.size := by simp
  go_enter Tryz.func21, Tryz.ntmps21
  go_upto_region 1 with fail
  generalize w.alloc (.cells #[.int .i64 0, .int .i64 0, .string ⟨#[]⟩, .slice none 0 0, .slice none 0 0] 26) = W at hN hbB hW ⊢
  have HN := Lib.hid hN
  have HB := Lib.hid hbB
  have HW := Lib.hid hW
  clear hN hbB hW
  go_wp2_with fail
  refine (HKI.out _ HB.out).mono ?_
  rintro e w0 ⟨rfl, hb⟩
  have hN2 := HN.out.below hb
  have HN0 := Lib.hid hN2
  have HB0 := Lib.hid (HB.out.trans (hb.mono HB.out.size))
  have HW0 := Lib.hid (Nat.le_trans HW.out hb.size)
  clear hb HN HB HW HKI
  by_cases h1 : kindsB L = false
  · have HR := Lib.hid (show r = (dat0, 11) by rw [← HBD.out]; unfold buildD; rw [if_pos h1])
    rw [h1]
    clear h1
    have z0 := hN2.cell 0
    have z1 := hN2.cell 1
    have z2 := hN2.cell 2
    have z3 := hN2.cell 3
    have z4 := hN2.cell 4
    have y0 := hN2.frozen 0
    have y1 := hN2.frozen 1
    have y2 := hN2.frozen 2
    have y3 := hN2.frozen 3
    have y4 := hN2.frozen 4
    simp at z0 z1 z2 z3 z4
    have hlw := hN2.lt
    clear hN2
    go_wp2_with fail
    refine bodyPost_ret (v := .tuple #[.agg #[.int .i64 0, .int .i64 0, .string ⟨#[]⟩, .slice none 0 0, .slice none 0 0], .int .i64 11]) (by simp [results, Tryz.results21, go_sem, z0, z1, z2, z3, z4, y0, y1, y2, y3, y4, hlw]) rfl ?_
    rw [HR.out]
    exact BuildP.no w (((((HB0.out.setCell (Nat.le_refl _) _).setCell (Nat.le_refl _) _).setCell (Nat.le_refl _) _).setCell (Nat.le_refl _) _).setCell (Nat.le_refl _) _)
  have h1t : kindsB L = true := by simpa using h1
  rw [h1t]
  clear hN2
  go_wp2_with fail
  refine (HTW.out _ HB0.out).mono ?_
  rintro e w1 ⟨rfl, hb⟩
  have hN2 := HN0.out.below hb
  have HN1 := Lib.hid hN2
  have HB1 := Lib.hid (HB0.out.trans (hb.mono HB0.out.size))
  have HW1 := Lib.hid (Nat.le_trans HW0.out hb.size)
  clear hb HN0 HB0 HW0 HTW
  have z0 := hN2.cell 0
  have z1 := hN2.cell 1
  have z2 := hN2.cell 2
  have z3 := hN2.cell 3
  have z4 := hN2.cell 4
  have y0 := hN2.frozen 0
  have y1 := hN2.frozen 1
  have y2 := hN2.frozen 2
  have y3 := hN2.frozen 3
  have y4 := hN2.frozen 4
  simp at z0 z1 z2 z3 z4
  have hlw := hN2.lt
  clear hN2
  by_cases h2 : twiceB L = true
  · have HR := Lib.hid (show r = (dat0, 6) by rw [← HBD.out]; unfold buildD; rw [if_neg h1, if_pos h2])
    rw [h2]
    clear h1 h1t h2
    go_wp2_with fail
    refine bodyPost_ret (v := .tuple #[.agg #[.int .i64 0, .int .i64 0, .string ⟨#[]⟩, .slice none 0 0, .slice none 0 0], .int .i64 6]) (by simp [results, Tryz.results21, go_sem, z0, z1, z2, z3, z4, y0, y1, y2, y3, y4, hlw]) rfl ?_
    rw [HR.out]
    exact BuildP.no w (((((HB1.out.setCell (Nat.le_refl _) _).setCell (Nat.le_refl _) _).setCell (Nat.le_refl _) _).setCell (Nat.le_refl _) _).setCell (Nat.le_refl _) _)
  have h2f : twiceB L = false := by simpa using h2
  rw [h2f]
  by_cases h3 : L = []
  · have HR := Lib.hid (show r = (dat0, 19) by rw [← HBD.out]; unfold buildD; rw [if_neg h1, if_neg h2, if_pos h3])
    have h4 : L.length = 0 := by rw [h3]; rfl
    rw [h4]
    clear h1 h1t h2 h2f h3 h4
    go_wp2_with fail
    refine bodyPost_ret (v := .tuple #[.agg #[.int .i64 0, .int .i64 0, .string ⟨#[]⟩, .slice none 0 0, .slice none 0 0], .int .i64 19]) (by simp [results, Tryz.results21, go_sem, z0, z1, z2, z3, z4, y0, y1, y2, y3, y4, hlw]) rfl ?_
    rw [HR.out]
    exact BuildP.no w (((((HB1.out.setCell (Nat.le_refl _) _).setCell (Nat.le_refl _) _).setCell (Nat.le_refl _) _).setCell (Nat.le_refl _) _).setCell (Nat.le_refl _) _)
  have h4 : ¬ ((L.length : Int) = 0) := by
    have := List.length_pos_iff.2 h3
    omega
  have h5 : ((L.length : Int) == 0) = false := by rw [beq_eq_false_iff_ne]; exact h4
  have hcc : noClash L := twice_iff.1 h2f
  have hkk : kindsB L = true := h1t
  have hek : ∀ e ∈ L, entOK e := fun e he => ⟨(kinds_all.1 hkk e he).1, (kinds_all.1 hkk e he).2, (HL.out.2 e he).2.1, (HL.out.2 e he).2.2⟩
  have HBL := Lib.hid (refbuild_any (maxP L + 1) L _ w1 ok (HE.out.under HB1.out) h3 hcc (fun e he => ⟨hek e he, Nat.lt_succ_of_le (maxP_le he), (HL.out.2 e he).1⟩) hll)
  have HBE := Lib.hid (show (match bld (maxP L + 1) L with | none => (dat0, 19) | some d => if chk d 1 = 0 then (d, 0) else (dat0, 9)) = r by rw [← HBD.out]; unfold buildD; rw [if_neg h1, if_neg h2, if_neg h3]; cases bld (maxP L + 1) L <;> rfl)
  have HGD := Lib.hid (fun d (hd : bld (maxP L + 1) L = some d) => flat_bld _ L d hd h3 hcc hek hll)
  clear h1 h1t h2 h2f h3 hcc hkk hek HBD
  clear z0 z1 z2 z3 z4 y0 y1 y2 y3 y4 hlw
  go_wp2_with fail
  refine HBL.out.mono ?_
  rintro e w2 ⟨vi, vm, rfl, hrep, hb⟩
  have hN2 := HN1.out.below hb
  have HB2 := Lib.hid (HB1.out.trans (hb.mono HB1.out.size))
  have HW2 := Lib.hid (Nat.le_trans HW1.out hb.size)
  clear hb h4 h5
  generalize bld (maxP L + 1) L = q at hrep HGD HBE
  rcases q with _ | d
  · have e2 : dv ((none : Option Dat).getD dat0) vi vm = .agg #[.int .i64 0, .int .i64 0, .string ⟨#[]⟩, vi, vm] := rfl
    have e4 : (if (none : Option Dat).isSome = true then (0 : Int) else 19) = 19 := rfl
    rw [e2, e4]
    change Rep w2 _ dat0 vi vm at hrep
    obtain ⟨p1, cap1, rfl⟩ : ∃ p c, vi = .slice p 0 c := by
      obtain ⟨p, c, e, -⟩ := hrep.items
      exact ⟨p, c, e⟩
    obtain ⟨q1, caq1, rfl⟩ : ∃ p c, vm = .slice p 0 c := by
      obtain ⟨p, c, e, -⟩ := hrep.members
      exact ⟨p, c, e⟩
    have HR := Lib.hid (show r = (dat0, 19) from HBE.out.symm)
    have hN2 := hN2.alloc (.cells #[.int .i64 0, .int .i64 0, .string ⟨#[]⟩, .slice p1 0 cap1, .slice q1 0 caq1] 26)
    have HB3 := Lib.hid (below_al1 HB2.out (Nat.le_refl _) (.cells #[.int .i64 0, .int .i64 0, .string ⟨#[]⟩, .slice p1 0 cap1, .slice q1 0 caq1] 26))
    clear e2 e4 hrep HB2
    go_upto_region 8 with fail
    generalize w2.alloc (.cells #[.int .i64 0, .int .i64 0, .string ⟨#[]⟩, .slice p1 0 cap1, .slice q1 0 caq1] 26) = W3 at hN2 HB3 ⊢
    have z0 := hN2.cell 0
    have z1 := hN2.cell 1
    have z2 := hN2.cell 2
    have z3 := hN2.cell 3
    have z4 := hN2.cell 4
    have y0 := hN2.frozen 0
    have y1 := hN2.frozen 1
    have y2 := hN2.frozen 2
    have y3 := hN2.frozen 3
    have y4 := hN2.frozen 4
    simp at z0 z1 z2 z3 z4
    have hlw := hN2.lt
    clear hN2
    go_wp2_with fail
    refine bodyPost_ret (v := .tuple #[.agg #[.int .i64 0, .int .i64 0, .string ⟨#[]⟩, .slice none 0 0, .slice none 0 0], .int .i64 19]) (by simp [results, Tryz.results21, go_sem, z0, z1, z2, z3, z4, y0, y1, y2, y3, y4, hlw]) rfl ?_
    rw [HR.out]
    exact BuildP.no w (((((HB3.out.setCell (Nat.le_refl _) _).setCell (Nat.le_refl _) _).setCell (Nat.le_refl _) _).setCell (Nat.le_refl _) _).setCell (Nat.le_refl _) _)
  · have e2 : dv ((some d : Option Dat).getD dat0) vi vm = .agg #[.int .i64 d.k, .int .i64 d.n, .string (S d.s), vi, vm] := rfl
    have e4 : (if (some d : Option Dat).isSome = true then (0 : Int) else 19) = 0 := rfl
    rw [e2, e4]
    change Rep w2 _ d vi vm at hrep
    obtain ⟨p1, cap1, rfl, -, -⟩ := hrep.items
    obtain ⟨q1, caq1, rfl, -, -⟩ := hrep.members
    have hK := Blk.new w2 #[.int .i64 d.k, .int .i64 d.n, .string (S d.s), .slice p1 d.its.length cap1, .slice q1 d.mem.length caq1] 26
    have hN2 := hN2.alloc (.cells #[.int .i64 d.k, .int .i64 d.n, .string (S d.s), .slice p1 d.its.length cap1, .slice q1 d.mem.length caq1] 26)
    have hb3 := below_al1 HB2.out (Nat.le_refl _) (.cells #[.int .i64 d.k, .int .i64 d.n, .string (S d.s), .slice p1 d.its.length cap1, .slice q1 d.mem.length caq1] 26)
    have hx3 := hrep.under ((Below.refl _ _).alloc (Nat.le_refl _) (.cells #[.int .i64 d.k, .int .i64 d.n, .string (S d.s), .slice p1 d.its.length cap1, .slice q1 d.mem.length caq1] 26))
    clear e2 e4 hrep HB2
    go_upto_region 10 with fail
    generalize w2.alloc (.cells #[.int .i64 d.k, .int .i64 d.n, .string (S d.s), .slice p1 d.its.length cap1, .slice q1 d.mem.length caq1] 26) = W3 at hK hN2 hb3 hx3 ⊢
    have HN3 := Lib.hid hN2
    have HK3 := Lib.hid hK
    have HB3 := Lib.hid hb3
    have HX3 := Lib.hid hx3
    have k0 := hK.cell 0
    have k1 := hK.cell 1
    have k2 := hK.cell 2
    have k3 := hK.cell 3
    have k4 := hK.cell 4
    simp at k0 k1 k2 k3 k4
    clear hK hN2 hb3 hx3
    go_wp2_with fail
    refine (refChk_any HX3.out).mono ?_
    rintro e w4 ⟨rfl, hb⟩
    have hN2 := HN3.out.below hb
    have hK := HK3.out.below hb
    have HB4 := Lib.hid (HB3.out.trans (hb.mono HB3.out.size))
    have HX4 := Lib.hid (HX3.out.under hb)
    clear hb k0 k1 k2 k3 k4
    have z0 := hN2.cell 0
    have z1 := hN2.cell 1
    have z2 := hN2.cell 2
    have z3 := hN2.cell 3
    have z4 := hN2.cell 4
    have y0 := hN2.frozen 0
    have y1 := hN2.frozen 1
    have y2 := hN2.frozen 2
    have y3 := hN2.frozen 3
    have y4 := hN2.frozen 4
    simp at z0 z1 z2 z3 z4
    have hlw := hN2.lt
    clear hN2
    by_cases hc : chk d 1 = 0
    · have HR := Lib.hid (show r = (d, 0) by rw [← HBE.out]; simp only [if_pos hc])
      rw [hc]
      have k0 := hK.cell 0
      have k1 := hK.cell 1
      have k2 := hK.cell 2
      have k3 := hK.cell 3
      have k4 := hK.cell 4
      simp at k0 k1 k2 k3 k4
      have hR5 := ((((HX4.out.set ⟨w.heap.size, 0, none⟩ (.int .i64 d.k) (fun B hB e => by have := HW1.out; simp at e; omega)).set ⟨w.heap.size, 1, none⟩ (.int .i64 d.n) (fun B hB e => by have := HW1.out; simp at e; omega)).set ⟨w.heap.size, 2, none⟩ (.string (S d.s)) (fun B hB e => by have := HW1.out; simp at e; omega)).set ⟨w.heap.size, 3, none⟩ (.slice p1 d.its.length cap1) (fun B hB e => by have := HW1.out; simp at e; omega)).set ⟨w.heap.size, 4, none⟩ (.slice q1 d.mem.length caq1) (fun B hB e => by have := HW1.out; simp at e; omega)
      have HR5 := Lib.hid (hR5.mono (ok' := fun B => w.heap.size ≤ B) fun B _ hB => by have := HW1.out; omega)
      clear hK hR5 hc
      go_wp2_with fail
      refine bodyPost_ret (v := .tuple #[.agg #[.int .i64 d.k, .int .i64 d.n, .string (S d.s), .slice p1 d.its.length cap1, .slice q1 d.mem.length caq1], .int .i64 0]) (by simp [results, Tryz.results21, go_sem, z0, z1, z2, z3, z4, y0, y1, y2, y3, y4, hlw]) rfl ?_
      rw [HR.out]
      exact ⟨_, _, rfl, HR5.out, ((((HB4.out.setCell (Nat.le_refl _) _).setCell (Nat.le_refl _) _).setCell (Nat.le_refl _) _).setCell (Nat.le_refl _) _).setCell (Nat.le_refl _) _⟩
    · have HR := Lib.hid (show r = (dat0, 9) by rw [← HBE.out]; simp only [if_neg hc])
      have h9 : chk d 1 = 9 := by rcases (HGD.out d rfl).2.2.2 1 with h | h <;> omega
      rw [h9]
      clear hc hK
      go_wp2_with fail
      refine bodyPost_ret (v := .tuple #[.agg #[.int .i64 0, .int .i64 0, .string ⟨#[]⟩, .slice none 0 0, .slice none 0 0], .int .i64 9]) (by simp [results, Tryz.results21, go_sem, z0, z1, z2, z3, z4, y0, y1, y2, y3, y4, hlw]) rfl ?_
      rw [HR.out]
      exact BuildP.no w (((((HB4.out.setCell (Nat.le_refl _) _).setCell (Nat.le_refl _) _).setCell (Nat.le_refl _) _).setCell (Nat.le_refl _) _).setCell (Nat.le_refl _) _)
end
section
open Go.RowKit

theorem smallE_lims {L : List Ent} (h : smallE L = true) : entLims L ∧ L.length ≤ 30 := by
  unfold smallE at h
  rw [Bool.and_eq_true, decide_eq_true_eq, List.all_eq_true] at h
  refine ⟨⟨by omega, fun e he => ?_⟩, h.1⟩
  have h1 := h.2 e he
  unfold smallOne smallLab at h1
  rw [Bool.and_eq_true, Bool.and_eq_true, decide_eq_true_eq, List.all_eq_true] at h1
  exact ⟨by omega, (small_iff h1.1.2).1, fun x hx => by have := of_decide_eq_true (h1.2 x hx); omega⟩
set_option maxRecDepth 100000 in
set_option maxHeartbeats 4000000 in
theorem lawPropertiesBuilds (v : Value) (L : List Ent) (ok : Nat → Prop) (w : World) (h : EntR w ok v L) (hl : L.length * 104 ≤ 140737488355328) (hp : ∀ e ∈ L, e.1.length ≤ maxLen) (hO : StOk w ∧ MaxOk w) :
    Calls Tryz.prog 6 #[v] w fun e w' => e = .returned (.bool true) ∧ Below w.heap.size w w' := by
  have HE := Lib.hid hO.1
  have HM := Lib.hid hO.2
  have HEN := Lib.hid (fun w' (hb : Below w.heap.size w w') => entries_big (h.under hb) hl)
  have HER := Lib.hid h
  have HP := Lib.hid hp
  obtain ⟨p, cap, B, o, rfl, -⟩ := h.open
  clear hO h hl hp
  obtain ⟨sm, hsm⟩ : ∃ sm, smallE L = sm := ⟨_, rfl⟩
  have HSM := Lib.hid hsm
  have HSW := Lib.hid (fun w' v' (ok' : Nat → Prop) (h : EntR w' ok' v' L) => refESmall_any h HP.out)
  rw [hsm] at HSW
  clear hsm HP
  go_enter Tryz.func6, Tryz.ntmps6
  go_wp2_with fail
  refine (HEN.out _ (Below.refl _ _)).mono ?_
  rintro e w1 ⟨⟨p1, c1, rfl, he⟩, hb⟩
  have HE1 := Lib.hid he
  have HB1 := Lib.hid hb
  clear he hb
  go_wp2_with fail
  refine (HSW.out _ _ _ HE1.out).mono ?_
  rintro e w2 ⟨rfl, hb⟩
  have HB2 := Lib.hid (HB1.out.trans (hb.mono HB1.out.size))
  clear hb HE1 HB1
  rcases Bool.eq_false_or_eq_true sm with rfl | rfl
  case inr =>
    go_wp2_with fail
    refine (awake_from HE.out HM.out _ HB2.out).mono ?_
    rintro e w3 ⟨rfl, hb⟩
    have HB3 := Lib.hid hb
    clear hb
    go_wp2_with fail
    go_ret
    exact ⟨rfl, HB3.out⟩
  obtain ⟨hlm, h30⟩ := smallE_lims HSM.out
  have HLM := Lib.hid hlm
  have HBP := Lib.hid (fun w' (hb : Below w.heap.size w w') => Build_any (HER.out.under hb) hlm)
  have HBR := Lib.hid (fun w' v' (ok' : Nat → Prop) (h : EntR w' ok' v' L) => refBuild_any h hlm)
  have HLR := Lib.hid (build_lim hlm)
  generalize buildD L = r at HBP HBR HLR
  obtain ⟨d, en⟩ := r
  simp only at HLR
  clear hlm h30
  go_wp2_with fail
  refine (HBP.out _ HB2.out).mono ?_
  rintro e w3 ⟨vi, vm, rfl, hrep, hb⟩
  obtain ⟨p3, cap3, rfl, -, -⟩ := hrep.items
  obtain ⟨q3, caq3, rfl, -, -⟩ := hrep.members
  simp only [dv]
  have hb3 := HB2.out.trans (hb.mono HB2.out.size)
  have hba := (Below.refl w3.heap.size w3).alloc (Nat.le_refl _) (.cells #[.int .i64 d.k, .int .i64 d.n, .string (S d.s), .slice p3 d.its.length cap3, .slice q3 d.mem.length caq3] 26)
  have hK := Blk.new w3 #[.int .i64 d.k, .int .i64 d.n, .string (S d.s), .slice p3 d.its.length cap3, .slice q3 d.mem.length caq3] 26
  have HB3 := Lib.hid (hb3.trans (hba.mono hb3.size))
  have HR3 := Lib.hid (hrep.under hba)
  clear hrep hb HB2 hb3 hba HBP
  go_upto_region 4 with fail
  generalize w3.alloc (.cells #[.int .i64 d.k, .int .i64 d.n, .string (S d.s), .slice p3 d.its.length cap3, .slice q3 d.mem.length caq3] 26) = W3 at hK HB3 HR3 ⊢
  have HK := Lib.hid hK
  clear hK
  go_wp2_with fail
  refine (HEN.out _ HB3.out).mono ?_
  rintro e w4 ⟨⟨p4, c4, rfl, he⟩, hb⟩
  have HE4 := Lib.hid he
  have HB4 := Lib.hid (HB3.out.trans (hb.mono HB3.out.size))
  have HR4 := Lib.hid (HR3.out.under hb)
  have HK4 := Lib.hid (HK.out.below hb)
  clear he hb HB3 HR3 HK HEN
  go_wp2_with fail
  refine (HBR.out _ _ _ HE4.out).mono ?_
  rintro e w5 ⟨ui, um, rfl, hrep, hb⟩
  obtain ⟨p5, cap5, rfl, -, -⟩ := hrep.items
  obtain ⟨q5, caq5, rfl, -, -⟩ := hrep.members
  simp only [dv]
  have hb5 := HB4.out.trans (hb.mono HB4.out.size)
  have hba := (Below.refl w5.heap.size w5).alloc (Nat.le_refl _) (.cells #[.int .i64 d.k, .int .i64 d.n, .string (S d.s), .slice p5 d.its.length cap5, .slice q5 d.mem.length caq5] 26)
  have hK := Blk.new w5 #[.int .i64 d.k, .int .i64 d.n, .string (S d.s), .slice p5 d.its.length cap5, .slice q5 d.mem.length caq5] 26
  have HB5 := Lib.hid (hb5.trans (hba.mono hb5.size))
  have HR5 := Lib.hid (And.intro ((HR4.out.under hb).under hba) (hrep.under hba))
  have hK5 := (HK4.out.below hb).below hba
  clear hrep hb HB4 HR4 HK4 hb5 hba HBR HE4
  go_upto_region 5 with fail
  generalize w5.alloc (.cells #[.int .i64 d.k, .int .i64 d.n, .string (S d.s), .slice p5 d.its.length cap5, .slice q5 d.mem.length caq5] 26) = W5 at hK hK5 HB5 HR5 ⊢
  have c0 := hK5.cell 0
  have c1 := hK5.cell 1
  have c2 := hK5.cell 2
  have c3 := hK5.cell 3
  have c4 := hK5.cell 4
  have f0 := hK.cell 0
  have f1 := hK.cell 1
  have f2 := hK.cell 2
  have f3 := hK.cell 3
  have f4 := hK.cell 4
  simp at c0 c1 c2 c3 c4 f0 f1 f2 f3 f4
  clear hK hK5
  have t1 : ((en : Int) == (en : Int)) = true := beq_self_eq_true _
  go_wp2_with fail
  refine (dSame_any (SizeOf.sizeOf d + 1) d d (Nat.lt_succ_self _) _ _ _ _ _ _ _ HR5.out.1 HR5.out.2 HLR.out HLR.out).mono ?_
  rintro e w6 ⟨r, rfl, hr, hb⟩
  obtain rfl : r = true := hr.2 rfl
  have HB6 := Lib.hid (HB5.out.trans (hb.mono HB5.out.size))
  clear hr hb HB5 HR5
  go_wp2_with fail
  refine (awake_from HE.out HM.out _ HB6.out).mono ?_
  rintro e w7 ⟨rfl, hb⟩
  have HB7 := Lib.hid hb
  clear hb
  go_wp2_with fail
  go_ret
  exact ⟨rfl, HB7.out⟩
end
end Go.Proofs.YtoahmganodehkaaGreatDoor
