/- Walks of properties: Build. -/
import Derived.Test.YtoahmganodehkaaGreatDoorM10
import Derived.IntWalk
import Derived.Deep.RegionWith
import Derived.Test.YtoahmganodehkaaGreatDoorM02
import Derived.Test.YtoahmganodehkaaGreatDoorM06
import Derived.Test.YtoahmganodehkaaGreatDoorM07
import Derived.Maps.AppendAt
import Derived.Test.YtoahmganodehkaaGreatDoorM03
import Derived.Test.YtoahmganodehkaaGreatDoorM08
namespace Go.Proofs.YtoahmganodehkaaGreatDoor
set_option linter.unusedSimpArgs false
set_option linter.unusedVariables false
section
open Go.RowKit

/-- what Build hands back -/
def BuildP (w : World) (r : Dat × Nat) (e : Ending) (w' : World) : Prop := ∃ vi vm, e = .returned (.tuple #[dv r.1 vi vm, .int .i64 (r.2 : Int)]) ∧ Rep w' (fun B => w.heap.size ≤ B) r.1 vi vm ∧ Below w.heap.size w w'
theorem BuildP.no (w : World) {w' : World} {n : Nat} (hb : Below w.heap.size w w') : BuildP w (dat0, n) (.returned (.tuple #[.agg #[.int .i64 0, .int .i64 0, .string ⟨#[]⟩, .slice none 0 0, .slice none 0 0], .int .i64 (n : Int)])) w' :=
  ⟨.slice none 0 0, .slice none 0 0, rfl, rep_leaf w' _ rfl rfl none none 0 0, hb⟩
/-- limits of entries, all of them -/
def entLims (L : List Ent) : Prop := L.length ≤ 1000000 ∧ ∀ e ∈ L, e.1.length ≤ 1000000 ∧ limD e.2 = true ∧ ∀ x ∈ e.1, x.lab.length ≤ 1000000
set_option maxRecDepth 100000 in
set_option maxHeartbeats 8000000 in
theorem Build_any {L : List Ent} {v : Value} {ok : Nat → Prop} {w : World} (h : EntR w ok v L) (hl : entLims L) :
    Calls Tryz.prog 16 #[v] w (BuildP w (buildD L)) := by
  have HCK := Lib.hid (fun w' (hb : Below w.heap.size w w') => checkP_any (h.under hb) ⟨hl.1, fun e he => ⟨(hl.2 e he).1, (hl.2 e he).2.1⟩⟩)
  obtain ⟨p, cap, B, o, rfl, -⟩ := h.open
  have HE := Lib.hid h
  have hll := hl.1
  have HL := Lib.hid hl
  generalize hr : buildD L = r
  have HBD := Lib.hid hr
  clear h hl hr
  have hN : Blk (w.alloc (.cells #[.int .i64 0, .int .i64 0, .string ⟨#[]⟩, .slice none 0 0, .slice none 0 0] 26)) w.heap.size #[.int .i64 0, .int .i64 0, .string ⟨#[]⟩, .slice none 0 0, .slice none 0 0] 26 := Blk.new w _ _
  have hbB : Below w.heap.size w (w.alloc (.cells #[.int .i64 0, .int .i64 0, .string ⟨#[]⟩, .slice none 0 0, .slice none 0 0] 26)) := (Below.refl _ _).alloc (Nat.le_refl _) _
  have hW : w.heap.size + 1 ≤ (w.alloc (.cells #[.int .i64 0, .int .i64 0, .string ⟨#[]⟩, .slice none 0 0, .slice none 0 0] 26)).heap.size := by simp
  go_enter Tryz.func16, Tryz.ntmps16
  go_upto_region 1 with fail
  generalize w.alloc (.cells #[.int .i64 0, .int .i64 0, .string ⟨#[]⟩, .slice none 0 0, .slice none 0 0] 26) = W at hN hbB hW ⊢
  have HN := Lib.hid hN
  have HB := Lib.hid hbB
  have HW := Lib.hid hW
  clear hN hbB hW
  go_wp2_with fail
  refine (HCK.out _ HB.out).mono ?_
  rintro e w1 ⟨rfl, hb⟩
  have hN2 := HN.out.below hb
  have HN1 := Lib.hid hN2
  have HB1 := Lib.hid (HB.out.trans (hb.mono HB.out.size))
  have HW1 := Lib.hid (Nat.le_trans HW.out hb.size)
  have z0 := hN2.cell 0
  have z1 := hN2.cell 1
  have z2 := hN2.cell 2
  have z3 := hN2.cell 3
  have z4 := hN2.cell 4
  have y0 := hN2.frozen 0
  have y1 := hN2.frozen 1
  have y2 := hN2.frozen 2
  have y3 := hN2.frozen 3
  have y4 := hN2.frozen 4
  simp at z0 z1 z2 z3 z4
  have hlw := hN2.lt
  clear hb HN HB HW HCK hN2
  by_cases h1 : kindsB L = false
  · have e1 : checkE L = 11 := by unfold checkE; rw [if_pos h1]
    have HR := Lib.hid (show r = (dat0, 11) by rw [← HBD.out]; unfold buildD; rw [if_pos h1])
    rw [e1]
    clear h1 e1
    go_wp2_with fail
    refine bodyPost_ret (v := .tuple #[.agg #[.int .i64 0, .int .i64 0, .string ⟨#[]⟩, .slice none 0 0, .slice none 0 0], .int .i64 11]) (by simp [results, Tryz.results16, go_sem, z0, z1, z2, z3, z4, y0, y1, y2, y3, y4, hlw]) rfl ?_
    rw [HR.out]
    exact BuildP.no w (((((HB1.out.setCell (Nat.le_refl _) _).setCell (Nat.le_refl _) _).setCell (Nat.le_refl _) _).setCell (Nat.le_refl _) _).setCell (Nat.le_refl _) _)
  · by_cases h2 : twiceB L = true
    · have e1 : checkE L = 6 := by unfold checkE; rw [if_neg h1, if_pos h2]
      have HR := Lib.hid (show r = (dat0, 6) by rw [← HBD.out]; unfold buildD; rw [if_neg h1, if_pos h2])
      rw [e1]
      clear h1 h2 e1
      go_wp2_with fail
      refine bodyPost_ret (v := .tuple #[.agg #[.int .i64 0, .int .i64 0, .string ⟨#[]⟩, .slice none 0 0, .slice none 0 0], .int .i64 6]) (by simp [results, Tryz.results16, go_sem, z0, z1, z2, z3, z4, y0, y1, y2, y3, y4, hlw]) rfl ?_
      rw [HR.out]
      exact BuildP.no w (((((HB1.out.setCell (Nat.le_refl _) _).setCell (Nat.le_refl _) _).setCell (Nat.le_refl _) _).setCell (Nat.le_refl _) _).setCell (Nat.le_refl _) _)
    · have e1 : checkE L = 0 := by unfold checkE; rw [if_neg h1, if_neg h2]
      rw [e1]
      by_cases h3 : L = []
      · have HR := Lib.hid (show r = (dat0, 19) by rw [← HBD.out]; unfold buildD; rw [if_neg h1, if_neg h2, if_pos h3])
        have h4 : L.length = 0 := by rw [h3]; rfl
        rw [h4]
        clear h1 h2 e1 h3 h4
        go_wp2_with fail
        refine bodyPost_ret (v := .tuple #[.agg #[.int .i64 0, .int .i64 0, .string ⟨#[]⟩, .slice none 0 0, .slice none 0 0], .int .i64 19]) (by simp [results, Tryz.results16, go_sem, z0, z1, z2, z3, z4, y0, y1, y2, y3, y4, hlw]) rfl ?_
        rw [HR.out]
        exact BuildP.no w (((((HB1.out.setCell (Nat.le_refl _) _).setCell (Nat.le_refl _) _).setCell (Nat.le_refl _) _).setCell (Nat.le_refl _) _).setCell (Nat.le_refl _) _)
      · have h4 : ¬ ((L.length : Int) = 0) := by
          have := List.length_pos_iff.2 h3
          omega
        have h5 : ((L.length : Int) == 0) = false := by rw [beq_eq_false_iff_ne]; exact h4
        have hcc : noClash L := twice_iff.1 (by simpa using h2)
        have hkk : kindsB L = true := by simpa using h1
        have hek : ∀ e ∈ L, entOK e := fun e he => ⟨(kinds_all.1 hkk e he).1, (kinds_all.1 hkk e he).2, (HL.out.2 e he).2.1, (HL.out.2 e he).2.2⟩
        have HBL := Lib.hid (build_any (maxP L + 1) L _ w1 ok (HE.out.under HB1.out) h3 hcc (fun e he => ⟨hek e he, Nat.lt_succ_of_le (maxP_le he), (HL.out.2 e he).1⟩) hll)
        have HGD := Lib.hid (fun d (hd : bld (maxP L + 1) L = some d) => flat_bld _ L d hd h3 hcc hek hll)
        have HBE := Lib.hid (show (match bld (maxP L + 1) L with | none => (dat0, 19) | some d => if chk d 1 = 0 then (d, 0) else (dat0, 9)) = r by rw [← HBD.out]; unfold buildD; rw [if_neg h1, if_neg h2, if_neg h3]; cases bld (maxP L + 1) L <;> rfl)
        clear h1 h2 h3 e1 hcc hkk hek HBD
        clear z0 z1 z2 z3 z4 y0 y1 y2 y3 y4 hlw
        go_wp2_with fail
        refine HBL.out.mono ?_
        rintro e w2 ⟨vi, vm, rfl, hrep, hb⟩
        have hN2 := HN1.out.below hb
        have HB2 := Lib.hid (HB1.out.trans (hb.mono HB1.out.size))
        have HW2 := Lib.hid (Nat.le_trans HW1.out hb.size)
        clear hb h4 h5
        generalize bld (maxP L + 1) L = q at hrep HGD HBE
        rcases q with _ | d
        · have e2 : dv ((none : Option Dat).getD dat0) vi vm = .agg #[.int .i64 0, .int .i64 0, .string ⟨#[]⟩, vi, vm] := rfl
          rw [e2, Option.isSome_none]
          change Rep w2 _ dat0 vi vm at hrep
          obtain ⟨p1, cap1, rfl⟩ : ∃ p c, vi = .slice p 0 c := by
            obtain ⟨p, c, e, -⟩ := hrep.items
            exact ⟨p, c, e⟩
          obtain ⟨q1, caq1, rfl⟩ : ∃ p c, vm = .slice p 0 c := by
            obtain ⟨p, c, e, -⟩ := hrep.members
            exact ⟨p, c, e⟩
          have HR := Lib.hid (show r = (dat0, 19) from HBE.out.symm)
          have hN2 := hN2.alloc (.cells #[.int .i64 0, .int .i64 0, .string ⟨#[]⟩, .slice p1 0 cap1, .slice q1 0 caq1] 26)
          have HB3 := Lib.hid (below_al1 HB2.out (Nat.le_refl _) (.cells #[.int .i64 0, .int .i64 0, .string ⟨#[]⟩, .slice p1 0 cap1, .slice q1 0 caq1] 26))
          clear e2 hrep HB2
          go_upto_region 7 with fail
          generalize w2.alloc (.cells #[.int .i64 0, .int .i64 0, .string ⟨#[]⟩, .slice p1 0 cap1, .slice q1 0 caq1] 26) = W3 at hN2 HB3 ⊢
          have z0 := hN2.cell 0
          have z1 := hN2.cell 1
          have z2 := hN2.cell 2
          have z3 := hN2.cell 3
          have z4 := hN2.cell 4
          have y0 := hN2.frozen 0
          have y1 := hN2.frozen 1
          have y2 := hN2.frozen 2
          have y3 := hN2.frozen 3
          have y4 := hN2.frozen 4
          simp at z0 z1 z2 z3 z4
          have hlw := hN2.lt
          clear hN2
          go_wp2_with fail
          refine bodyPost_ret (v := .tuple #[.agg #[.int .i64 0, .int .i64 0, .string ⟨#[]⟩, .slice none 0 0, .slice none 0 0], .int .i64 19]) (by simp [results, Tryz.results16, go_sem, z0, z1, z2, z3, z4, y0, y1, y2, y3, y4, hlw]) rfl ?_
          rw [HR.out]
          exact BuildP.no w (((((HB3.out.setCell (Nat.le_refl _) _).setCell (Nat.le_refl _) _).setCell (Nat.le_refl _) _).setCell (Nat.le_refl _) _).setCell (Nat.le_refl _) _)
        · have e2 : dv ((some d : Option Dat).getD dat0) vi vm = .agg #[.int .i64 d.k, .int .i64 d.n, .string (S d.s), vi, vm] := rfl
          rw [e2, Option.isSome_some]
          change Rep w2 _ d vi vm at hrep
          obtain ⟨p1, cap1, rfl, -, -⟩ := hrep.items
          obtain ⟨q1, caq1, rfl, -, -⟩ := hrep.members
          have hD := (HGD.out d rfl).2.2.1
          have hK := Blk.new w2 #[.int .i64 d.k, .int .i64 d.n, .string (S d.s), .slice p1 d.its.length cap1, .slice q1 d.mem.length caq1] 26
          have hN2 := hN2.alloc (.cells #[.int .i64 d.k, .int .i64 d.n, .string (S d.s), .slice p1 d.its.length cap1, .slice q1 d.mem.length caq1] 26)
          have hb3 := below_al1 HB2.out (Nat.le_refl _) (.cells #[.int .i64 d.k, .int .i64 d.n, .string (S d.s), .slice p1 d.its.length cap1, .slice q1 d.mem.length caq1] 26)
          have hx3 := hrep.under ((Below.refl _ _).alloc (Nat.le_refl _) (.cells #[.int .i64 d.k, .int .i64 d.n, .string (S d.s), .slice p1 d.its.length cap1, .slice q1 d.mem.length caq1] 26))
          clear e2 hrep HB2
          go_upto_region 9 with fail
          generalize w2.alloc (.cells #[.int .i64 d.k, .int .i64 d.n, .string (S d.s), .slice p1 d.its.length cap1, .slice q1 d.mem.length caq1] 26) = W3 at hK hN2 hb3 hx3 ⊢
          have HN3 := Lib.hid hN2
          have HK3 := Lib.hid hK
          have HB3 := Lib.hid hb3
          have HX3 := Lib.hid hx3
          have k0 := hK.cell 0
          have k1 := hK.cell 1
          have k2 := hK.cell 2
          have k3 := hK.cell 3
          have k4 := hK.cell 4
          simp at k0 k1 k2 k3 k4
          have HD := Lib.hid hD
          clear hK hN2 hb3 hx3 hD
          go_wp2_with fail
          refine (Check_any HX3.out HD.out).mono ?_
          rintro e w4 ⟨rfl, hb⟩
          have hN2 := HN3.out.below hb
          have hK := HK3.out.below hb
          have HB4 := Lib.hid (HB3.out.trans (hb.mono HB3.out.size))
          have HX4 := Lib.hid (HX3.out.under hb)
          clear hb k0 k1 k2 k3 k4
          have z0 := hN2.cell 0
          have z1 := hN2.cell 1
          have z2 := hN2.cell 2
          have z3 := hN2.cell 3
          have z4 := hN2.cell 4
          have y0 := hN2.frozen 0
          have y1 := hN2.frozen 1
          have y2 := hN2.frozen 2
          have y3 := hN2.frozen 3
          have y4 := hN2.frozen 4
          simp at z0 z1 z2 z3 z4
          have hlw := hN2.lt
          clear hN2
          by_cases hc : chk d 1 = 0
          · have HR := Lib.hid (show r = (d, 0) by rw [← HBE.out]; simp only [if_pos hc])
            rw [hc]
            have k0 := hK.cell 0
            have k1 := hK.cell 1
            have k2 := hK.cell 2
            have k3 := hK.cell 3
            have k4 := hK.cell 4
            simp at k0 k1 k2 k3 k4
            have hR5 := ((((HX4.out.set ⟨w.heap.size, 0, none⟩ (.int .i64 d.k) (fun B hB e => by have := HW1.out; simp at e; omega)).set ⟨w.heap.size, 1, none⟩ (.int .i64 d.n) (fun B hB e => by have := HW1.out; simp at e; omega)).set ⟨w.heap.size, 2, none⟩ (.string (S d.s)) (fun B hB e => by have := HW1.out; simp at e; omega)).set ⟨w.heap.size, 3, none⟩ (.slice p1 d.its.length cap1) (fun B hB e => by have := HW1.out; simp at e; omega)).set ⟨w.heap.size, 4, none⟩ (.slice q1 d.mem.length caq1) (fun B hB e => by have := HW1.out; simp at e; omega)
            have HR5 := Lib.hid (hR5.mono (ok' := fun B => w.heap.size ≤ B) fun B _ hB => by have := HW1.out; omega)
            clear hK hR5 hc
            go_wp2_with fail
            refine bodyPost_ret (v := .tuple #[.agg #[.int .i64 d.k, .int .i64 d.n, .string (S d.s), .slice p1 d.its.length cap1, .slice q1 d.mem.length caq1], .int .i64 0]) (by simp [results, Tryz.results16, go_sem, z0, z1, z2, z3, z4, y0, y1, y2, y3, y4, hlw]) rfl ?_
            rw [HR.out]
            exact ⟨_, _, rfl, HR5.out, ((((HB4.out.setCell (Nat.le_refl _) _).setCell (Nat.le_refl _) _).setCell (Nat.le_refl _) _).setCell (Nat.le_refl _) _).setCell (Nat.le_refl _) _⟩
          · have HR := Lib.hid (show r = (dat0, 9) by rw [← HBE.out]; simp only [if_neg hc])
            have c1 : ((chk d 1 : Int) != 0) = true := by simp; omega
            have c2 : ¬ ((chk d 1 : Int) = 0) := by omega
            clear hc hK
            go_wp2_with fail
            refine bodyPost_ret (v := .tuple #[.agg #[.int .i64 0, .int .i64 0, .string ⟨#[]⟩, .slice none 0 0, .slice none 0 0], .int .i64 9]) (by simp [results, Tryz.results16, go_sem, z0, z1, z2, z3, z4, y0, y1, y2, y3, y4, hlw]) rfl ?_
            rw [HR.out]
            exact BuildP.no w (((((HB4.out.setCell (Nat.le_refl _) _).setCell (Nat.le_refl _) _).setCell (Nat.le_refl _) _).setCell (Nat.le_refl _) _).setCell (Nat.le_refl _) _)
end
section
open Go.RowKit

def MaxOk (w : World) : Prop := ∃ m : Int, w.cell? ⟨0, 0, none⟩ = some (.int .i64 m)
theorem MaxOk.below {w w' : World} (h : MaxOk w) (hb : Below w.heap.size w w') : MaxOk w' := by
  obtain ⟨m, hc⟩ := h
  have hlt : 0 < w.heap.size := by
    rcases Nat.lt_or_ge 0 w.heap.size with hl | hl
    · exact hl
    · exfalso; simp [World.cell?, Array.getElem?_eq_none hl] at hc
  exact ⟨m, (hb.cell (p := ⟨0, 0, none⟩) hlt).trans hc⟩
theorem SlF.slk {N : Nat} {W : World} {v : Value} {L : List Stp} (h : SlF N W v L) : SlK W (fun B => N ≤ B) v L := by
  rcases h with ⟨⟨p, cap, rfl⟩, rfl⟩ | ⟨B, o, cap, rfl, h1, h2, h3, h4⟩
  · exact ⟨p, cap, 0, 0, rfl, fun h => by simp at h, fun j h => by simp at h⟩
  · exact ⟨_, cap, B, o, rfl, fun _ => ⟨rfl, h2, h3, h1⟩, fun j h => h4 j _ (List.getElem?_eq_getElem h)⟩
theorem SlK.set {W : World} {ok : Nat → Prop} {v : Value} {L : List Stp} (h : SlK W ok v L) (a : Addr) (v' : Value) (hne : ∀ B, ok B → a.block ≠ B) : SlK (W.setCell a v') ok v L :=
  h.kept (by show W.heap.size ≤ (W.heap.modify _ _).size; simp) fun B _ hk => ⟨hk, fun o => World.cell?_of_block (a := ⟨B, o, none⟩) (set_block (hne B hk))⟩
theorem SlK.six {W : World} {N : Nat} {v : Value} {L : List Stp} (h : SlK W (fun B => N < B) v L) (a b c d e f : Value) : SlK ((((((W.setCell ⟨N, 0, none⟩ a).setCell ⟨N, 1, none⟩ b).setCell ⟨N, 2, none⟩ c).setCell ⟨N, 3, none⟩ d).setCell ⟨N, 4, none⟩ e).setCell ⟨N, 5, none⟩ f) (fun B => N ≤ B) v L := by
  have hh : ∀ (i B : Nat), N < B → (⟨N, i, none⟩ : Addr).block ≠ B := fun i B hB e => by simp at e; omega
  exact ((((((h.set _ _ (hh 0)).set _ _ (hh 1)).set _ _ (hh 2)).set _ _ (hh 3)).set _ _ (hh 4)).set _ _ (hh 5)).mono fun B _ hB => Nat.le_of_lt hB
theorem SlK.drew {W : World} {ok : Nat → Prop} {v : Value} {L : List Stp} (h : SlK W ok v L) : SlK W.drew ok v L := h
/-- what entry hands back -/
def EntP (w : World) (r : Option Ent) (e : Ending) (w' : World) : Prop :=
  ∃ pv k n s, (∃ p l c, pv = .slice p l c) ∧ e = .returned (.tuple #[.agg #[pv, .int .i64 k, .int .i64 n, .string (S s), .slice none 0 0, .slice none 0 0], .bool r.isSome]) ∧
    (∀ x, r = some x → SlK w' (fun B => w.heap.size ≤ B) pv x.1 ∧ x.2 = .mk k n s [] []) ∧ Below w.heap.size w w'
theorem entryP_eq (pp : List UInt8 → List Stp × Nat × Nat) (s : List UInt8) : entryP pp s = (match scanE s (s.length + 1 - 0) 0 with | none => none | some (i, d) => if (pp (s.take i)).2.1 = 0 then some ((pp (s.take i)).1, d) else none) := rfl
set_option maxRecDepth 100000 in
set_option maxHeartbeats 8000000 in
theorem entry_any (l : List UInt8) (hl : l.length ≤ 65536) (w : World) (hE : StOk w) (hM : MaxOk w) :
    Calls Tryz.prog 27 #[.string (S l)] w (EntP w (entryP parseP l)) := by
  have HEQ := Lib.hid (entryP_eq parseP l)
  generalize entryP parseP l = r at HEQ ⊢
  have HE := Lib.hid hE
  have HM := Lib.hid hM
  clear hE hM
  have hN : Blk (w.alloc (.cells #[.slice none 0 0, .int .i64 0, .int .i64 0, .string ⟨#[]⟩, .slice none 0 0, .slice none 0 0] 42)) w.heap.size #[.slice none 0 0, .int .i64 0, .int .i64 0, .string ⟨#[]⟩, .slice none 0 0, .slice none 0 0] 42 := Blk.new w _ _
  have hb : Below w.heap.size w (w.alloc (.cells #[.slice none 0 0, .int .i64 0, .int .i64 0, .string ⟨#[]⟩, .slice none 0 0, .slice none 0 0] 42)) := (Below.refl _ _).alloc (Nat.le_refl _) _
  go_enter Tryz.func27, Tryz.ntmps27
  go_upto_region 1 with fail
  generalize w.alloc (.cells #[.slice none 0 0, .int .i64 0, .int .i64 0, .string ⟨#[]⟩, .slice none 0 0, .slice none 0 0] 42) = W at hN hb ⊢
  have HN := Lib.hid hN
  have HB := Lib.hid hb
  clear hN hb
  go_wp2_with fail
  go_loopw [4] (fun x wr => ∃ a : Nat, x = .int .i64 (a : Int) ∧ a ≤ l.length ∧ Hid (r = (match scanE l (l.length + 1 - a) a with | none => none | some (i, d) => if (parseP (l.take i)).2.1 = 0 then some ((parseP (l.take i)).1, d) else none)) ∧ Hid (Blk wr w.heap.size #[.slice none 0 0, .int .i64 0, .int .i64 0, .string ⟨#[]⟩, .slice none 0 0, .slice none 0 0] 42) ∧ Hid (Below w.heap.size w wr)) (fun x _ => l.length + 1 - (intOf x).toNat)
  case atStart => exact ⟨0, rfl, Nat.zero_le _, HEQ, HN, HB⟩
  case round =>
    clear HEQ HN HB
    obtain ⟨a, rfl, ha, HQ, HN, HB⟩ := hrel
    obtain ⟨m, hm⟩ := HM.out.below HB.out
    have HMM := Lib.hid hm
    have HIX := Lib.hid (show Lib.index (S (sl l a l.length)).data.toList (ByteArray.mk #[32, 61, 32]).data.toList = Lib.index (l.drop a) btw by rw [S_data, sl_from]; rfl)
    have a1 : (0 : Int) ≤ (a : Int) := by omega
    have a2 : (a : Int) ≤ (l.length : Int) := by omega
    have hsz : (S (sl l a l.length)).size < 4294967281 := by rw [S_size, sl_from, List.length_drop]; omega
    have HSZ := Lib.hid hsz
    clear hm hsz
    rcases scan_look l a ha with ⟨h1, h2⟩ | ⟨n, h1, h2, h3⟩
    · have HR := Lib.hid (show r = none by rw [HQ.out, h2])
      have H1 := Lib.hid h1
      clear h1 h2
      go_wp2_with fail
      refine (Tryz.strings_Index (S (sl l a l.length)) (ByteArray.mk #[32, 61, 32]) m _ HSZ.out HMM.out).mono ?_
      rintro e w1 ⟨rfl, rfl⟩
      rw [HIX.out, H1.out]
      have z0 := HN.out.cell 0
      have y0 := HN.out.frozen 0
      have z1 := HN.out.cell 1
      have y1 := HN.out.frozen 1
      have z2 := HN.out.cell 2
      have y2 := HN.out.frozen 2
      have z3 := HN.out.cell 3
      have y3 := HN.out.frozen 3
      have z4 := HN.out.cell 4
      have y4 := HN.out.frozen 4
      have z5 := HN.out.cell 5
      have y5 := HN.out.frozen 5
      simp at z0 z1 z2 z3 z4 z5
      have hzl := HN.out.lt
      go_wp2_with fail
      refine bodyPost_ret (v := .tuple #[.agg #[.slice none 0 0, .int .i64 0, .int .i64 0, .string ⟨#[]⟩, .slice none 0 0, .slice none 0 0], .bool false]) (by simp [results, Tryz.results27, go_sem, z0, z1, z2, z3, z4, z5, y0, y1, y2, y3, y4, y5, hzl]) rfl ?_
      rw [HR.out]
      refine ⟨.slice none 0 0, 0, 0, [], ⟨_, _, _, rfl⟩, rfl, (fun x h => nomatch h), ?_⟩
      have hbw := HB.out
      go_grown
      all_goals exact hbw
    · have HQ1 := Lib.hid (show r = (match scalarP (l.drop (a + n + 3)) with | some d => (if (parseP (l.take (a + n))).2.1 = 0 then some ((parseP (l.take (a + n))).1, d) else none) | none => (match scanE l (l.length + 1 - (a + n + 1)) (a + n + 1) with | none => none | some (i, d) => if (parseP (l.take i)).2.1 = 0 then some ((parseP (l.take i)).1, d) else none)) by
        rw [HQ.out, h3]; cases scalarP (l.drop (a + n + 3)) <;> rfl)
      have H1 := Lib.hid h1
      have n0 : ¬ ((n : Int) < 0) := by omega
      have n1 : decide ((n : Int) < 0) = false := decide_eq_false n0
      have w1' : IntKind.i64.wrap ((a : Int) + (n : Int)) = (a : Int) + (n : Int) := IntWalk.i64_in _ (by omega)
      have w2' : IntKind.i64.wrap ((a : Int) + (n : Int) + 3) = (a : Int) + (n : Int) + 3 := IntWalk.i64_in _ (by omega)
      have w3' : IntKind.i64.wrap ((n : Int) + 1) = (n : Int) + 1 := IntWalk.i64_in _ (by omega)
      have w4' : IntKind.i64.wrap ((a : Int) + ((n : Int) + 1)) = (a : Int) + ((n : Int) + 1) := IntWalk.i64_in _ (by omega)
      have b1 : (0 : Int) ≤ (a : Int) + (n : Int) + 3 := by omega
      have b2 : (a : Int) + (n : Int) + 3 ≤ (l.length : Int) := by omega
      have b3 : ((a : Int) + (n : Int) + 3).toNat = a + n + 3 := by omega
      have b4 : (0 : Int) ≤ (a : Int) + (n : Int) := by omega
      have b5 : (a : Int) + (n : Int) ≤ (l.length : Int) := by omega
      have b6 : ((a : Int) + (n : Int)).toNat = a + n := by omega
      have HDR := Lib.hid (sl_from l (a + n + 3))
      have HTK := Lib.hid (sl_to l (a + n))
      have HDL := Lib.hid (show (sl l (a + n + 3) l.length).length ≤ 1000000 by rw [sl_from, List.length_drop]; omega)
      have HTL := Lib.hid (show (sl l 0 (a + n)).length ≤ 70000 by rw [sl_to, List.length_take]; omega)
      rw [← HDR.out, ← HTK.out] at HQ1
      clear h1 h3 HQ
      go_wp2_with fail
      refine (Tryz.strings_Index (S (sl l a l.length)) (ByteArray.mk #[32, 61, 32]) m _ HSZ.out HMM.out).mono ?_
      rintro e w1 ⟨rfl, rfl⟩
      rw [HIX.out, H1.out]
      clear HIX H1 HMM HSZ
      go_wp2_with fail
      refine (scalar_any (sl l (a + n + 3) l.length) HDL.out _ (HE.out.below HB.out)).mono ?_
      rintro e w2 ⟨k, nn, s, rfl, hd, hb⟩
      have HN2 := Lib.hid (HN.out.below hb)
      have HB2 := Lib.hid (HB.out.trans (hb.mono HB.out.size))
      have HD := Lib.hid hd
      generalize scalarP (sl l (a + n + 3) l.length) = q at HQ1 HD
      clear hb hd HN HB
      have hN3 := HN2.out.alloc (.cells #[.int .i64 k, .int .i64 nn, .string (S s), .slice none 0 0, .slice none 0 0] 26)
      have hK3 := Blk.new w2 #[.int .i64 k, .int .i64 nn, .string (S s), .slice none 0 0, .slice none 0 0] 26
      have hB3 := HB2.out.alloc HB2.out.size (.cells #[.int .i64 k, .int .i64 nn, .string (S s), .slice none 0 0, .slice none 0 0] 26)
      rcases q with _ | d
      · have HQ2 := Lib.hid (show r = (match scanE l (l.length + 1 - (a + n + 1)) (a + n + 1) with | none => none | some (i, d) => if (parseP (l.take i)).2.1 = 0 then some ((parseP (l.take i)).1, d) else none) from HQ1.out)
        rw [Option.isSome_none]
        have HN3 := Lib.hid hN3
        have HB3 := Lib.hid hB3
        clear hN3 hK3 hB3 HQ1
        go_wp2_with fail
        go_roundw
        case rel => exact ⟨a + n + 1, by go_num, by omega, HQ2, HN3, HB3⟩
        case measure => simp [intOf]; omega
      · have HQ2 := Lib.hid (show r = if (parseP (sl l 0 (a + n))).2.1 = 0 then some ((parseP (sl l 0 (a + n))).1, d) else none from HQ1.out)
        have hd : d = .mk k nn s [] [] := HD.out d rfl
        rw [Option.isSome_some]
        go_upto_region 6 with fail
        generalize w2.alloc (.cells #[.int .i64 k, .int .i64 nn, .string (S s), .slice none 0 0, .slice none 0 0] 26) = W3 at hN3 hK3 hB3 ⊢
        have HN3 := Lib.hid hN3
        have HK3 := Lib.hid hK3
        have HB3 := Lib.hid hB3
        have HDD := Lib.hid hd
        clear hN3 hK3 hB3 HQ1 hd HN2 HB2 HD
        go_wp2_with fail
        refine (Parse_any (sl l 0 (a + n)) HTL.out _ (HE.out.below HB3.out)).mono ?_
        rintro e w4 ⟨pv, rfl, hpv, hb⟩
        have hpk := hpv.slk.mono (ok' := fun B => w.heap.size < B) fun B _ hB => Nat.lt_of_lt_of_le HN3.out.lt hB
        generalize parseP (sl l 0 (a + n)) = pr at HQ2 hpv hpk
        obtain ⟨P, en, ep⟩ := pr
        simp only at HQ2 hpv hpk ⊢
        obtain ⟨pp, pc, rfl⟩ := slk_form hpk
        have hlt5 : w.heap.size < w4.heap.size := (HN3.out.below hb).lt
        have e1 : ¬ (w.heap.size = w4.heap.size) := by omega
        have e2 : ¬ (w4.heap.size = w.heap.size) := by omega
        have e3 : (w.heap.size == w4.heap.size) = false := by rw [beq_eq_false_iff_ne]; exact e1
        have e4 : (w4.heap.size == w.heap.size) = false := by rw [beq_eq_false_iff_ne]; exact e2
        have hF := Blk.new w4 #[.int .i64 (en : Int), .int .i64 (ep : Int)] 29
        have hN5 := (HN3.out.below hb).alloc (.cells #[.int .i64 (en : Int), .int .i64 (ep : Int)] 29)
        have hK5 := (HK3.out.below hb).alloc (.cells #[.int .i64 (en : Int), .int .i64 (ep : Int)] 29)
        have hb5 := (Below.refl w4.heap.size w4).alloc (Nat.le_refl _) (.cells #[.int .i64 (en : Int), .int .i64 (ep : Int)] 29)
        have hB5 := (HB3.out.trans (hb.mono HB3.out.size)).trans (hb5.mono (HB3.out.trans (hb.mono HB3.out.size)).size)
        have HP5 := Lib.hid (hpk.under hb5)
        clear hpv hpk hb hb5 HN3 HK3 HB3
        go_upto_region 8 with fail
        generalize w4.alloc (.cells #[.int .i64 (en : Int), .int .i64 (ep : Int)] 29) = W5 at hF hN5 hK5 hB5 HP5 ⊢
        have f0 := hF.cell 0
        have k0 := hK5.cell 0
        have k1 := hK5.cell 1
        have k2 := hK5.cell 2
        have k3 := hK5.cell 3
        have k4 := hK5.cell 4
        simp at f0 k0 k1 k2 k3 k4
        have z0 := hN5.cell 0
        have y0 := hN5.frozen 0
        have z1 := hN5.cell 1
        have y1 := hN5.frozen 1
        have z2 := hN5.cell 2
        have y2 := hN5.frozen 2
        have z3 := hN5.cell 3
        have y3 := hN5.frozen 3
        have z4 := hN5.cell 4
        have y4 := hN5.frozen 4
        have z5 := hN5.cell 5
        have y5 := hN5.frozen 5
        simp at z0 z1 z2 z3 z4 z5
        have hzl := hN5.lt
        have HB5 := Lib.hid hB5
        clear hF hN5 hK5 hB5
        by_cases hen : en = 0
        · have HR := Lib.hid (show r = some (P, d) by rw [HQ2.out, if_pos hen])
          subst hen
          have f1 : W5.cell? ⟨w4.heap.size, 0, none⟩ = some (.int .i64 0) := f0
          clear f0
          go_region
          all_goals
            go_wp2_with fail
            refine bodyPost_ret (v := .tuple #[.agg #[.slice pp P.length pc, .int .i64 k, .int .i64 nn, .string (S s), .slice none 0 0, .slice none 0 0], .bool true]) (by simp [results, Tryz.results27, go_sem, z0, z1, z2, z3, z4, z5, y0, y1, y2, y3, y4, y5, hzl]) rfl ?_
            rw [HR.out]
            refine ⟨.slice pp P.length pc, k, nn, s, ⟨_, _, _, rfl⟩, rfl, fun x hx => by injection hx with hx; subst hx; exact ⟨(HP5.out.six _ _ _ _ _ _).drew, HDD.out⟩, ?_⟩
            have hbw := HB5.out
            go_grown
            all_goals exact hbw
        · have HR := Lib.hid (show r = none by rw [HQ2.out, if_neg hen])
          have c1 : ((en : Int) == 0) = false := by rw [beq_eq_false_iff_ne]; omega
          have c2 : ¬ ((en : Int) = 0) := by omega
          clear hen
          go_region
          all_goals
            go_wp2_with fail
            refine bodyPost_ret (v := .tuple #[.agg #[.slice pp P.length pc, .int .i64 k, .int .i64 nn, .string (S s), .slice none 0 0, .slice none 0 0], .bool false]) (by simp [results, Tryz.results27, go_sem, z0, z1, z2, z3, z4, z5, y0, y1, y2, y3, y4, y5, hzl]) rfl ?_
            rw [HR.out]
            refine ⟨.slice pp P.length pc, k, nn, s, ⟨_, _, _, rfl⟩, rfl, (fun x h => nomatch h), ?_⟩
            have hbw := HB5.out
            go_grown
            all_goals exact hbw
end
section
open Go.RowKit

/-- what lies apart from the captured slice and its row -/
def apE (N0 Bl : Nat) (v : Value) (B : Nat) : Prop := N0 ≤ B ∧ B ≠ Bl ∧ some B ≠ v.ownBlock
theorem Env.good.mono {W : World} {ok ok' : Nat → Prop} {t : Env} (h : t.good W ok) (hk : ∀ B, B < W.heap.size → ok B → ok' B) : t.good W ok' := ⟨h.1.mono hk, h.2.mono hk⟩
theorem Env.good.grown {W W' : World} {ok : Nat → Prop} {row : Option Nat} {t : Env} (h : t.good W ok) (hg : W.grownBy W' row) (hk : ∀ B, ok B → some B ≠ row) : t.good W' ok := ⟨h.1.grown hg hk, h.2.grown hg hk⟩
theorem Env.good.under {W W' : World} {ok : Nat → Prop} {t : Env} (h : t.good W ok) (hb : Below W.heap.size W W') : t.good W' ok := ⟨h.1.under hb, h.2.under hb⟩
theorem Env.good.set {W : World} {ok : Nat → Prop} {t : Env} (h : t.good W ok) (a : Addr) (v : Value) (hne : ∀ B, ok B → a.block ≠ B) : t.good (W.setCell a v) ok := ⟨h.1.set a v hne, h.2.set a v hne⟩
structure EnS (w w0 : World) (Bl N : Nat) (v : Value) (T : List Env) (W : World) : Prop where
  cap : Blk W Bl #[v] 37
  own : W.ownsRow N 42 6 v T.length (flatE T)
  good : ∀ t ∈ T, t.good W (apE w.heap.size Bl v)
  nr : w.heap.size ≤ Bl ∧ Bl < N ∧ N ≤ W.heap.size
  bel : Below w.heap.size w W
  keep : ∀ B, B < N → B ≠ Bl → W.heap[B]? = w0.heap[B]?
theorem EnS.under {w w0 : World} {Bl N : Nat} {v : Value} {T : List Env} {W W' : World} (h : EnS w w0 Bl N v T W) (hb : Below W.heap.size W W') : EnS w w0 Bl N v T W' :=
  ⟨h.cap.below hb, own_under h.own hb, fun t ht => (h.good t ht).under hb, ⟨h.nr.1, h.nr.2.1, Nat.le_trans h.nr.2.2 hb.size⟩, h.bel.trans (hb.mono h.bel.size), fun B h1 h2 => (hb.block B (Nat.lt_of_lt_of_le h1 h.nr.2.2)).trans (h.keep B h1 h2)⟩
theorem EnS.push {w w0 : World} {Bl N : Nat} {v v' : Value} {T : List Env} {W W1 : World} (h : EnS w w0 Bl N v T W) {t : Env} (ht : t.good W (apE w.heap.size Bl v))
    (ho : W1.ownsRow N 42 6 v' (T.length + 1) (flatE T ++ cellsE t)) (hg : W.grownBy W1 v.ownBlock) (ha : v'.ownBlock = v.ownBlock ∨ ∃ b, v'.ownBlock = some b ∧ W.heap.size ≤ b) :
    EnS w w0 Bl N v' (T ++ [t]) (W1.setCell ⟨Bl, 0, none⟩ v') := by
  obtain ⟨n1, n2, n3⟩ := h.nr
  have hr : ∀ B, B < N → some B ≠ v.ownBlock := fun B hB e => by have := (own_ge h.own e.symm).1; omega
  have hv' : v'.ownBlock ≠ some Bl := by
    rcases own_two ho with e | ⟨g, e, h1, -⟩
    · rw [e]; simp
    · rw [e]; intro e2; injection e2; omega
  have hmono : ∀ {u : Env}, u.good W (apE w.heap.size Bl v) → u.good (W1.setCell ⟨Bl, 0, none⟩ v') (apE w.heap.size Bl v') := fun hd => by
    have h1 := hd.mono (ok' := fun B => apE w.heap.size Bl v' B ∧ some B ≠ v.ownBlock) (fun B hB ⟨a, b, d⟩ => ⟨⟨a, b, by
      rcases ha with e1 | ⟨b1, e1, h2⟩
      · rw [e1]; exact d
      · rw [e1]; intro e2; injection e2; omega⟩, d⟩)
    have h2 := h1.grown hg fun B hB => hB.2
    have h3 := h2.mono (ok' := apE w.heap.size Bl v') fun B _ hB => hB.1
    exact h3.set _ _ fun B hB => fun e => hB.2.1 e.symm
  refine ⟨(h.cap.kept hg (hr Bl (by omega))).set 0 v', ?_, ?_, ⟨n1, n2, ?_⟩, ?_, ?_⟩
  · rw [List.length_append, flatE_snoc]
    exact own_set_other ho hv' _ _
  · intro u hu
    rcases List.mem_append.1 hu with hu | hu
    · exact hmono (h.good u hu)
    · rw [List.mem_singleton.1 hu]; exact hmono ht
  · have := hg.size
    simp; omega
  · refine (h.bel.grown hg h.bel.size ?_).setCell ?_ _
    · intro b hb
      have := (own_ge h.own hb).1
      omega
    · show w.heap.size ≤ Bl
      omega
  · intro B h1 h2
    rw [set_block (a := ⟨Bl, 0, none⟩) (fun e => h2 e.symm), hg.block B (Nat.lt_of_lt_of_le h1 n3) (hr B h1)]
    exact h.keep B h1 h2
theorem EnS.apart {w w0 : World} {Bl N : Nat} {v : Value} {T : List Env} {W : World} (h : EnS w w0 Bl N v T W) {K B : Nat} (hK : W.heap.size ≤ K) (hB : K ≤ B) : apE w.heap.size Bl v B := by
  obtain ⟨n1, n2, n3⟩ := h.nr
  exact ⟨by omega, by omega, fun e => by have := (own_ge h.own e.symm).2; omega⟩
/-- the entries that stand -/
theorem EnS.ents {w w0 : World} {Bl N : Nat} {v : Value} {T : List Env} {W : World} (h : EnS w w0 Bl N v T W) : EntR W (fun _ => True) v (T.map Env.e) :=
  own_ents h.own (fun _ _ => trivial) fun t ht => (h.good t ht).mono fun _ _ _ => trivial
/-- what the closure hands back -/
def ReaP (w w0 : World) (Bl N : Nat) (T : List Env) (skip : Bool) (r : Option Ent) (e : Ending) (W' : World) : Prop :=
  e = .returned (.bool (skip || r.isSome)) ∧ Below w.heap.size w W' ∧ ((skip || r.isSome) = true → ∃ v' T', EnS w w0 Bl N v' T' W' ∧ T'.map Env.e = T.map Env.e ++ (if skip then [] else r.toList))
end
section
open Go.RowKit

set_option maxRecDepth 100000 in
set_option maxHeartbeats 8000000 in
theorem read_any {w w0 W : World} {Bl N : Nat} {v : Value} {T : List Env} (l : List UInt8) (hl : l.length ≤ 65536) (h : EnS w w0 Bl N v T W) (hT : T.length < 1000000) (hE : StOk W) (hM : MaxOk W) :
    Calls Tryz.prog 25 #[.string (S l), .pointer (some ⟨Bl, 0, none⟩)] W (ReaP w w0 Bl N T (skipB l) (entryP parseP l)) := by
  obtain ⟨i0, hi, hz0, hz1, hz2⟩ := info_parts infoEnt
  have HS := Lib.hid h
  have HE := Lib.hid hE
  have HM := Lib.hid hM
  clear h hE hM
  have HK0 := Lib.hid (show skipB l = (l.isEmpty || [47, 47].isPrefixOf l) from rfl)
  generalize skipB l = sk at HK0 ⊢
  generalize hr : entryP parseP l = r
  have HRE := Lib.hid hr
  clear hr
  rcases Bool.eq_false_or_eq_true l.isEmpty with h0 | h0
  · have hl0 : l = [] := by simpa using h0
    have HK := Lib.hid (show sk = true by rw [HK0.out, h0]; rfl)
    subst hl0
    clear h0
    go_enter Tryz.func25, Tryz.ntmps25
    go_wp2_with fail
    go_ret
    rw [HK.out]
    exact ⟨rfl, HS.out.bel, fun _ => ⟨v, T, HS.out, by simp⟩⟩
  · rcases Bool.eq_false_or_eq_true ([47, 47].isPrefixOf l) with h1 | h1
    · have HK := Lib.hid (show sk = true by rw [HK0.out, h0, h1]; rfl)
      have HPR := Lib.hid (show Lib.hasPrefix (S l).data.toList (ByteArray.mk #[47, 47]).data.toList = true from h1)
      clear h1
      go_enter Tryz.func25, Tryz.ntmps25
      go_wp2_with fail
      refine (Tryz.strings_HasPrefix (S l) (ByteArray.mk #[47, 47]) _).mono ?_
      rintro e w' ⟨rfl, rfl⟩
      rw [HPR.out]
      go_wp2_with fail
      go_ret
      rw [HK.out]
      exact ⟨rfl, HS.out.bel, fun _ => ⟨v, T, HS.out, by simp⟩⟩
    · have HK := Lib.hid (show sk = false by rw [HK0.out, h0, h1]; rfl)
      have HPR := Lib.hid (show Lib.hasPrefix (S l).data.toList (ByteArray.mk #[47, 47]).data.toList = false from h1)
      clear h1
      go_enter Tryz.func25, Tryz.ntmps25
      go_wp2_with fail
      refine (Tryz.strings_HasPrefix (S l) (ByteArray.mk #[47, 47]) _).mono ?_
      rintro e w' ⟨rfl, rfl⟩
      rw [HPR.out]
      clear HPR
      go_wp2_with fail
      refine (entry_any l hl _ HE.out HM.out).mono ?_
      rintro e w2 ⟨pv, k, n, s, ⟨pp, pn, pc, rfl⟩, rfl, hx, hb⟩
      rw [HRE.out] at hx ⊢
      have hK := Blk.new w2 #[.slice pp pn pc, .int .i64 k, .int .i64 n, .string (S s), .slice none 0 0, .slice none 0 0] 42
      have hS := (HS.out.under hb).under ((Below.refl w2.heap.size w2).alloc (Nat.le_refl _) (.cells #[.slice pp pn pc, .int .i64 k, .int .i64 n, .string (S s), .slice none 0 0, .slice none 0 0] 42))
      have hb2 := (Below.refl w2.heap.size w2).alloc (Nat.le_refl _) (.cells #[.slice pp pn pc, .int .i64 k, .int .i64 n, .string (S s), .slice none 0 0, .slice none 0 0] 42)
      have HGO := Lib.hid (show ∀ x, r = some x → Env.good (w2.alloc (.cells #[.slice pp pn pc, .int .i64 k, .int .i64 n, .string (S s), .slice none 0 0, .slice none 0 0] 42)) (apE w.heap.size Bl v) ⟨x.1, x.2, .slice pp pn pc, .slice none 0 0, .slice none 0 0⟩ ∧ x.2 = .mk k n s [] [] from fun x hxx => by
        obtain ⟨q1, q2⟩ := hx x hxx
        refine ⟨⟨(q1.mono (ok' := apE w.heap.size Bl v) fun B _ hB => HS.out.apart (Nat.le_refl _) hB).under hb2, ?_⟩, q2⟩
        show Rep _ _ x.2 _ _
        rw [q2]
        exact rep_leaf _ _ rfl rfl none none 0 0)
      clear hx hb hb2
      go_upto_region 4 with fail
      generalize w2.alloc (.cells #[.slice pp pn pc, .int .i64 k, .int .i64 n, .string (S s), .slice none 0 0, .slice none 0 0] 42) = W3 at hK hS HGO ⊢
      have k0 := hK.cell 0
      have k1 := hK.cell 1
      have k2 := hK.cell 2
      have k3 := hK.cell 3
      have k4 := hK.cell 4
      have k5 := hK.cell 5
      simp at k0 k1 k2 k3 k4 k5
      obtain ⟨vp, vc, hv⟩ := own_form5 hS.own
      subst hv
      have c0 := hS.cap.cell 0
      have c1 := hS.cap.frozen 0
      simp at c0
      have HC := Lib.hid (And.intro c0 c1)
      have HBL := Lib.hid hS.cap.lt
      have HNE := Lib.hid (show some Bl ≠ (Value.slice vp T.length vc).ownBlock from fun e => by have h1 := (own_ge hS.own e.symm).1; have h2 := hS.nr.2.1; omega)
      have HS3 := Lib.hid hS
      have hnw := hS.nr.2.2
      clear hK hS HS
      go_wp2_with (at_builtin; refine wpList_append_own_at _ rfl _ _ 37 rfl N 42 i0 (.agg #[.slice none 0 0, .int .i64 0, .int .i64 0, .string ⟨#[]⟩, .slice none 0 0, .slice none 0 0]) 6 104 Tryz.underlying37 hi hz0 hz1 hz2 rfl (by decide) (.slice vp T.length vc) T.length (flatE T) rfl (HS3.out.own.alloc _) ⟨W3.heap.size, 0, none⟩ 1 1 [.slice pp pn pc, .int .i64 k, .int .i64 n, .string (S s), .slice none 0 0, .slice none 0 0] rfl rfl (cells_new_at rfl rfl) (by simp [Value.oneCell']) (by unfold maxLen; omega) (by omega) (by simp; omega) ?_; intro v' w8 hown8 hgrow8 _ hat8; obtain ⟨vp8, vc8, rfl⟩ := own_form5 hown8; obtain ⟨z2, zf, zl⟩ := out_kept2 HBL.out HNE.out HC.out.1 HC.out.2 hgrow8; have HO8 := Lib.hid hown8; have HG8 := Lib.hid hgrow8; have HA8 := Lib.hid hat8; clear hown8 hgrow8 hat8)
      go_ret
      rw [HK.out]
      have hb9 : Below W3.heap.size W3 (W3.alloc (.cells #[.slice pp pn pc, .int .i64 k, .int .i64 n, .string (S s), .slice none 0 0, .slice none 0 0] 42)) := (Below.refl _ _).alloc (Nat.le_refl _) _
      refine ⟨by simp, ?_, fun hok => ?_⟩
      · refine ((HS3.out.bel.trans (hb9.mono HS3.out.bel.size)).grown HG8.out (HS3.out.bel.trans (hb9.mono HS3.out.bel.size)).size ?_).setCell (by have := HS3.out.nr.1; exact this) _
        intro b hb
        have h1 := (own_ge HS3.out.own hb).1
        have h2 := HS3.out.nr
        omega
      · cases r with
        | none => simp at hok
        | some x =>
          obtain ⟨q1, q2⟩ := HGO.out x rfl
          refine ⟨_, T ++ [⟨x.1, x.2, .slice pp pn pc, .slice none 0 0, .slice none 0 0⟩], (HS3.out.under hb9).push (q1.under hb9) ?_ HG8.out ?_, by simp [Env.e]⟩
          · have e1 : cellsE ⟨x.1, x.2, .slice pp pn pc, .slice none 0 0, .slice none 0 0⟩ = [.slice pp pn pc, .int .i64 k, .int .i64 n, .string (S s), .slice none 0 0, .slice none 0 0] := by
              unfold cellsE; simp only [q2]; rfl
            rw [e1]; exact HO8.out
          · rcases HA8.out with e | e
            · exact .inl e
            · exact .inr ⟨_, e, Nat.le_refl _⟩
end
section
open Go.RowKit

/-- what Parse hands back -/
def PrsP (w : World) (r : Dat × Nat × Nat) (e : Ending) (w' : World) : Prop :=
  ∃ vi vm, e = .returned (.tuple #[dv r.1 vi vm, .agg #[.int .i64 (r.2.1 : Int), .int .i64 (r.2.2 : Int)]]) ∧ Rep w' (fun B => w.heap.size ≤ B) r.1 vi vm ∧ Below w.heap.size w w'
theorem PrsP.no (w : World) {w' : World} {n m : Nat} (hb : Below w.heap.size w w') : PrsP w (dat0, n, m) (.returned (.tuple #[.agg #[.int .i64 0, .int .i64 0, .string ⟨#[]⟩, .slice none 0 0, .slice none 0 0], .agg #[.int .i64 (n : Int), .int .i64 (m : Int)]])) w' :=
  ⟨.slice none 0 0, .slice none 0 0, rfl, rep_leaf w' _ rfl rfl none none 0 0, hb⟩
theorem lines_at {pp : List UInt8 → List Stp × Nat × Nat} {ls : List (List UInt8)} {i : Nat} (h : i < ls.length) (n : Nat) : linesP pp (ls.drop i) n = if skipB ls[i] = true then linesP pp (ls.drop (i + 1)) (n + 1) else
    match entryP pp ls[i] with
    | none => .error n
    | some e => match linesP pp (ls.drop (i + 1)) (n + 1) with
      | .error k => .error k
      | .ok L => .ok (e :: L) := by
  rw [List.drop_eq_getElem_cons h, linesP]
  split
  · rfl
  · cases entryP pp ls[i] with
    | none => rfl
    | some e => cases linesP pp (ls.drop (i + 1)) (n + 1) <;> rfl
def joinL (A : List Ent) : Except Nat (List Ent) → Except Nat (List Ent)
  | .error k => .error k
  | .ok L => .ok (A ++ L)
theorem joinL_nil (r : Except Nat (List Ent)) : joinL [] r = r := by cases r <;> rfl
theorem joinL_cons (A : List Ent) (e : Ent) (r : Except Nat (List Ent)) : joinL (A ++ [e]) r = joinL A (match r with | .error k => .error k | .ok L => .ok (e :: L)) := by
  cases r <;> simp [joinL]
theorem ent_lims (hp : PpOk parseP) (hlen : ∀ s, s.length ≤ 65536 → (parseP s).1.length ≤ 1000000) {l : List UInt8} {e : Ent} (hl : l.length ≤ 65536) (h : entryP parseP l = some e) : e.1.length ≤ 1000000 ∧ limD e.2 = true ∧ ∀ x ∈ e.1, x.lab.length ≤ 1000000 := by
  obtain ⟨-, -, h3, h4, h5⟩ := entry_some hp hl h
  refine ⟨?_, ?_, fun x hx => by have := h5 x hx; omega⟩
  · unfold entryP at h
    cases hx : scanE l (l.length + 1) 0 with
    | none => rw [hx] at h; cases h
    | some q =>
      obtain ⟨i, d⟩ := q
      rw [hx] at h
      simp only at h
      split at h
      · injection h with h
        subst h
        exact hlen _ (by rw [List.length_take]; omega)
      · cases h
  · obtain ⟨-, l1, l2⟩ := leaf_iff.1 h3
    refine lim_iff.2 ⟨by omega, by rw [l1]; simp, by rw [l2]; simp, by rw [l1]; simp, by rw [l2]; simp⟩
def scells (l : List (List UInt8)) : List Value := l.map fun x => .string (S x)
theorem Split_any (c : UInt8) (l : List UInt8) (hl : l.length ≤ 1000000) (w : World) (hM : MaxOk w) :
    Calls Tryz.prog 28 #[.string (S l), .string (S [c])] w fun e w' => e = .returned (.slice (some ⟨w.heap.size, 0, none⟩) (splitC c l).length (splitC c l).length) ∧ w' = w.alloc (.cells (scells (splitC c l)).toArray 9) := by
  obtain ⟨m, hm⟩ := hM
  refine (Tryz.strings_Split (S l) (S [c]) m w (by show l.length < _; omega) hm (by show 1 ≤ 1; omega)).mono ?_
  rintro e w' ⟨rfl, rfl⟩
  rw [countB_one, splitB_one, List.map_map]
  exact ⟨rfl, rfl⟩
theorem build_zero {L : List Ent} (h : (buildD L).2 ≠ 0) : (buildD L).1 = dat0 := by
  unfold buildD at *
  split
  · rfl
  · split
    · rfl
    · split
      · rfl
      · cases hb : bld (maxP L + 1) L with
        | none => rfl
        | some d =>
          by_cases hc : chk d 1 = 0
          · simp_all
          · simp only [if_neg hc]
set_option maxRecDepth 100000 in
set_option maxHeartbeats 8000000 in
theorem PParse_any (hp : PpOk parseP) (hlen : ∀ s, s.length ≤ 65536 → (parseP s).1.length ≤ 1000000) (l : List UInt8) (hl : l.length ≤ 1000000) (w : World) (hE : StOk w) (hM : MaxOk w) :
    Calls Tryz.prog 11 #[.string (S l)] w (PrsP w (parseD parseP l)) := by
  have hN : Blk ((w.alloc (.cells #[.int .i64 0, .int .i64 0, .string ⟨#[]⟩, .slice none 0 0, .slice none 0 0] 26)).alloc (.cells #[.int .i64 0, .int .i64 0] 29)) w.heap.size #[.int .i64 0, .int .i64 0, .string ⟨#[]⟩, .slice none 0 0, .slice none 0 0] 26 ∧ Blk ((w.alloc (.cells #[.int .i64 0, .int .i64 0, .string ⟨#[]⟩, .slice none 0 0, .slice none 0 0] 26)).alloc (.cells #[.int .i64 0, .int .i64 0] 29)) (w.heap.size + 1) #[.int .i64 0, .int .i64 0] 29 ∧ Below w.heap.size w ((w.alloc (.cells #[.int .i64 0, .int .i64 0, .string ⟨#[]⟩, .slice none 0 0, .slice none 0 0] 26)).alloc (.cells #[.int .i64 0, .int .i64 0] 29)) := two_new w _ _ _ _
  have HPD := Lib.hid (show parseD parseP l = if 65536 < l.length then (dat0, 2, 0) else match linesP parseP (splitC 10 l) 1 with | .error n => (dat0, 19, n) | .ok L => ((buildD L).1, (buildD L).2, 0) from rfl)
  generalize parseD parseP l = r at HPD ⊢
  have HE := Lib.hid hE
  have HM := Lib.hid hM
  clear hE hM
  by_cases hbig : 65536 < l.length
  · have HR := Lib.hid (show r = (dat0, 2, 0) by rw [HPD.out, if_pos hbig])
    have b1 : (65536 : Int) < (l.length : Int) := by omega
    go_enter Tryz.func11, Tryz.ntmps11
    go_upto_region 1 with fail
    generalize (w.alloc (.cells #[.int .i64 0, .int .i64 0, .string ⟨#[]⟩, .slice none 0 0, .slice none 0 0] 26)).alloc (.cells #[.int .i64 0, .int .i64 0] 29) = W at hN ⊢
    have z0 := hN.1.cell 0
    have y0 := hN.1.frozen 0
    have z1 := hN.1.cell 1
    have y1 := hN.1.frozen 1
    have z2 := hN.1.cell 2
    have y2 := hN.1.frozen 2
    have z3 := hN.1.cell 3
    have y3 := hN.1.frozen 3
    have z4 := hN.1.cell 4
    have y4 := hN.1.frozen 4
    have x0 := hN.2.1.cell 0
    have v0 := hN.2.1.frozen 0
    have x1 := hN.2.1.cell 1
    have v1 := hN.2.1.frozen 1
    simp at z0 z1 z2 z3 z4 x0 x1
    have hzl := hN.1.lt
    have hxl := hN.2.1.lt
    have HB := Lib.hid hN.2.2
    clear hN hbig
    go_wp2_with fail
    refine bodyPost_ret (v := .tuple #[.agg #[.int .i64 0, .int .i64 0, .string ⟨#[]⟩, .slice none 0 0, .slice none 0 0], .agg #[.int .i64 2, .int .i64 0]]) (by simp [results, Tryz.results11, go_sem, z0, z1, z2, z3, z4, y0, y1, y2, y3, y4, hzl, x0, x1, v0, v1, hxl]) rfl ?_
    rw [HR.out]
    refine PrsP.no w ?_
    have hbw := HB.out
    go_grown
    all_goals exact hbw
  · have b1 : ¬ ((65536 : Int) < (l.length : Int)) := by omega
    have HPD1 := Lib.hid (show r = (match linesP parseP (splitC 10 l) 1 with | .error n => (dat0, 19, n) | .ok L => ((buildD L).1, (buildD L).2, 0)) by rw [HPD.out, if_neg hbig])
    have hl6 : l.length ≤ 65536 := by omega
    have HLN := Lib.hid (fun p (hp : p ∈ splitC 10 l) => Nat.le_trans (splitC_mem_len 10 l p hp) hl6)
    have hls : (splitC 10 l).length ≤ 65537 := by rw [splitC_len]; have := List.count_le_length (a := (10 : UInt8)) (l := l); omega
    have HSP := Lib.hid (fun w' (h : MaxOk w') => Split_any 10 l hl w' h)
    generalize splitC 10 l = ls at HPD1 HLN hls HSP
    have HP := Lib.hid hp
    have HLE := Lib.hid hlen
    clear hbig HPD hp hlen hl hl6
    go_enter Tryz.func11, Tryz.ntmps11
    go_upto_region 1 with fail
    generalize (w.alloc (.cells #[.int .i64 0, .int .i64 0, .string ⟨#[]⟩, .slice none 0 0, .slice none 0 0] 26)).alloc (.cells #[.int .i64 0, .int .i64 0] 29) = W at hN ⊢
    have HN := Lib.hid hN
    clear hN
    have hb2 : Below W.heap.size W (W.alloc (.cells #[.slice none 0 0] 37)) := (Below.refl _ _).alloc (Nat.le_refl _) _
    have HMM := Lib.hid ((HM.out.below HN.out.2.2).below hb2)
    clear hb2
    go_wp2_with fail
    refine (HSP.out _ HMM.out).mono ?_
    rintro e w3 ⟨rfl, rfl⟩
    have hS : EnS W ((W.alloc (.cells #[.slice none 0 0] 37)).alloc (.cells (scells ls).toArray 9)) W.heap.size (W.heap.size + 2) (.slice none 0 0) [] ((W.alloc (.cells #[.slice none 0 0] 37)).alloc (.cells (scells ls).toArray 9)) :=
      ⟨(Blk.new W _ _).alloc _, World.ownsRow_nil _ _ _ _, by simp, ⟨Nat.le_refl _, by omega, by simp⟩, ((Below.refl _ _).alloc (Nat.le_refl _) _).alloc (by simp) _, fun _ _ _ => rfl⟩
    have hsz2 : (W.alloc (.cells #[.slice none 0 0] 37)).heap.size = W.heap.size + 1 := by simp
    have hcs : ∀ j (h : j < ls.length), ((W.alloc (.cells #[.slice none 0 0] 37)).alloc (.cells (scells ls).toArray 9)).cell? ⟨W.heap.size + 1, j, none⟩ = some (.string (S ls[j])) := by
      intro j h
      have h1 := (Blk.new (W.alloc (.cells #[.slice none 0 0] 37)) (scells ls).toArray 9).cell j
      rw [hsz2] at h1
      rw [h1]
      simp [scells, h]
    have HCS := Lib.hid hcs
    have HS := Lib.hid hS
    rw [hsz2]
    clear hS hcs hsz2 HSP HMM
    generalize (W.alloc (.cells #[.slice none 0 0] 37)).alloc (.cells (scells ls).toArray 9) = W3 at HS HCS ⊢
    have HI0 : Hid (joinL (([] : List Env).map Env.e) (linesP parseP (ls.drop 0) (0 + 1)) = linesP parseP ls 1) := Lib.hid (by rw [List.drop_zero]; exact joinL_nil _)
    have HL0 : Hid (∀ e ∈ ([] : List Env).map Env.e, e.1.length ≤ 1000000 ∧ limD e.2 = true ∧ ∀ x ∈ e.1, x.lab.length ≤ 1000000) := Lib.hid (by simp)
    go_wp2_with fail
    go_loopw [19] (fun x wr => ∃ (i : Nat) (v : Value) (T : List Env), x = .int .i64 (i : Int) ∧ i ≤ ls.length ∧ T.length ≤ i ∧ Hid (EnS W W3 W.heap.size (W.heap.size + 2) v T wr) ∧ Hid (joinL (T.map Env.e) (linesP parseP (ls.drop i) (i + 1)) = linesP parseP ls 1) ∧ Hid (∀ e ∈ T.map Env.e, e.1.length ≤ 1000000 ∧ limD e.2 = true ∧ ∀ x ∈ e.1, x.lab.length ≤ 1000000)) (fun x _ => ls.length - (intOf x).toNat)
    case atStart => exact ⟨0, _, [], rfl, Nat.zero_le _, Nat.le_refl _, HS, HI0, HL0⟩
    case round =>
      clear HS HI0 HL0
      obtain ⟨i, v, T, rfl, hi, hTi, HS, HI, HL⟩ := hrel
      by_cases hlt : i < ls.length
      · have c0 : wr.cell? ⟨W.heap.size + 1, i, none⟩ = some (.string (S ls[i])) := (World.cell?_of_block (a := ⟨W.heap.size + 1, i, none⟩) (HS.out.keep (W.heap.size + 1) (by omega) (by omega))).trans (HCS.out i hlt)
        have HST := Lib.hid (lines_at (pp := parseP) hlt (i + 1))
        have hxl := HLN.out _ (List.getElem_mem hlt)
        generalize ls[i] = x at c0 HST hxl
        have hbw := HN.out.2.2.trans (HS.out.bel.mono HN.out.2.2.size)
        have HRD := Lib.hid (read_any x hxl HS.out (by omega) (HE.out.below hbw) (HM.out.below hbw))
        have HEL := Lib.hid (fun e (h : entryP parseP x = some e) => ent_lims HP.out HLE.out hxl h)
        have w1' : IntKind.i64.wrap ((i : Int) + 1) = (i : Int) + 1 := IntWalk.i64_in _ (by omega)
        clear hbw hxl
        go_wp2_with fail
        refine HRD.out.mono ?_
        rintro e w5 ⟨rfl, hb, hst⟩
        have HB5 := Lib.hid hb
        have HTT := Lib.hid hst
        clear hb hst c0 HRD
        generalize hsk : skipB x = sk at HST HTT ⊢
        generalize hen : entryP parseP x = en at HST HTT HEL ⊢
        clear hsk hen
        rcases Bool.eq_false_or_eq_true (sk || en.isSome) with hk | hk
        · obtain ⟨v', T', hS', hT'⟩ := HTT.out hk
          have HK := Lib.hid hk
          have HS5 := Lib.hid hS'
          have hlen' : T'.length ≤ i + 1 := by
            have h1 := congrArg List.length hT'
            rw [List.length_append, List.length_map, List.length_map] at h1
            have h2 : (if sk = true then [] else en.toList).length ≤ 1 := by cases sk <;> cases en <;> simp
            omega
          have HI5 : Hid (joinL (T'.map Env.e) (linesP parseP (ls.drop (i + 1)) (i + 1 + 1)) = linesP parseP ls 1) := Lib.hid (by
            rw [← HI.out, hT', HST.out]
            cases sk with
            | true => simp
            | false => cases en with
              | none => simp at hk
              | some e =>
                simp only [Bool.false_eq_true, if_false, Option.toList_some]
                rw [joinL_cons])
          have HL5 : Hid (∀ e ∈ T'.map Env.e, e.1.length ≤ 1000000 ∧ limD e.2 = true ∧ ∀ x ∈ e.1, x.lab.length ≤ 1000000) := Lib.hid (by
            intro e he
            rw [hT'] at he
            rcases List.mem_append.1 he with he | he
            · exact HL.out e he
            · cases sk with
              | true => simp at he
              | false => cases en with
                | none => simp at he
                | some e' => simp at he; subst he; exact HEL.out e rfl)
          rw [hk]
          clear hk hS' hT' HTT
          go_wp2_with fail
          go_roundw
          case rel => exact ⟨i + 1, v', T', by go_num, hlt, hlen', HS5, HI5, HL5⟩
          case measure => simp [intOf]; omega
        · have HR := Lib.hid (show r = (dat0, 19, i + 1) by
            rw [HPD1.out, ← HI.out, HST.out]
            cases sk with
            | true => simp at hk
            | false => cases en with
              | some e => simp at hk
              | none => rfl)
          rw [hk]
          clear hk HTT
          have hN0 := HN.out.1.below HB5.out
          have hN1 := HN.out.2.1.below HB5.out
          have z0 := hN0.cell 0
          have y0 := hN0.frozen 0
          have z1 := hN0.cell 1
          have y1 := hN0.frozen 1
          have z2 := hN0.cell 2
          have y2 := hN0.frozen 2
          have z3 := hN0.cell 3
          have y3 := hN0.frozen 3
          have z4 := hN0.cell 4
          have y4 := hN0.frozen 4
          have x0 := hN1.cell 0
          have v0 := hN1.frozen 0
          have x1 := hN1.cell 1
          have v1 := hN1.frozen 1
          simp at z0 z1 z2 z3 z4 x0 x1
          have hzl := hN0.lt
          have hxl := hN1.lt
          clear hN0 hN1
          go_wp2_with fail
          refine bodyPost_ret (v := .tuple #[.agg #[.int .i64 0, .int .i64 0, .string ⟨#[]⟩, .slice none 0 0, .slice none 0 0], .agg #[.int .i64 19, .int .i64 ((i : Int) + 1)]]) (by simp [results, Tryz.results11, go_sem, z0, z1, z2, z3, z4, y0, y1, y2, y3, y4, hzl, x0, x1, v0, v1, hxl]) rfl ?_
          rw [HR.out]
          refine PrsP.no w ?_
          have hbw := HN.out.2.2.trans (HB5.out.mono HN.out.2.2.size)
          go_grown
          all_goals exact hbw
      · have hd : ls.drop i = [] := List.drop_of_length_le (by omega)
        have HOK := Lib.hid (show linesP parseP ls 1 = .ok (T.map Env.e) by rw [← HI.out, hd]; simp [joinL, linesP])
        have HR := Lib.hid (show r = ((buildD (T.map Env.e)).1, (buildD (T.map Env.e)).2, 0) by rw [HPD1.out, HOK.out])
        have HBD := Lib.hid (Build_any HS.out.ents ⟨by rw [List.length_map]; omega, HL.out⟩)
        have hzz := build_zero (L := T.map Env.e)
        generalize buildD (T.map Env.e) = bd at HR HBD hzz
        obtain ⟨d, en⟩ := bd
        simp only at HR hzz
        obtain ⟨vp, vc, hv⟩ := own_form5 HS.out.own
        subst hv
        have c0 := HS.out.cap.cell 0
        simp at c0
        have HZZ := Lib.hid hzz
        clear hd hzz HOK
        go_wp2_with fail
        refine HBD.out.mono ?_
        rintro e w5 ⟨vi, vm, rfl, hrep, hb⟩
        change Rep w5 _ d vi vm at hrep
        have e1 : dv d vi vm = .agg #[.int .i64 d.k, .int .i64 d.n, .string (S d.s), vi, vm] := rfl
        simp only
        rw [e1]
        obtain ⟨p1, cap1, rfl, -, -⟩ := hrep.items
        obtain ⟨q1, caq1, rfl, -, -⟩ := hrep.members
        have hN0 := ((HN.out.1.below HS.out.bel).below hb).alloc (.cells #[.int .i64 d.k, .int .i64 d.n, .string (S d.s), .slice p1 d.its.length cap1, .slice q1 d.mem.length caq1] 26)
        have hN1 := ((HN.out.2.1.below HS.out.bel).below hb).alloc (.cells #[.int .i64 d.k, .int .i64 d.n, .string (S d.s), .slice p1 d.its.length cap1, .slice q1 d.mem.length caq1] 26)
        have hK := Blk.new w5 #[.int .i64 d.k, .int .i64 d.n, .string (S d.s), .slice p1 d.its.length cap1, .slice q1 d.mem.length caq1] 26
        have hb0 := HN.out.2.2.trans (HS.out.bel.mono HN.out.2.2.size)
        have hb1 := hb0.trans (hb.mono hb0.size)
        have hb6 := hb1.alloc hb1.size (.cells #[.int .i64 d.k, .int .i64 d.n, .string (S d.s), .slice p1 d.its.length cap1, .slice q1 d.mem.length caq1] 26)
        have hx6 := hrep.under ((Below.refl w5.heap.size w5).alloc (Nat.le_refl _) (.cells #[.int .i64 d.k, .int .i64 d.n, .string (S d.s), .slice p1 d.its.length cap1, .slice q1 d.mem.length caq1] 26))
        have HWR := Lib.hid (show w.heap.size + 1 < wr.heap.size by have h1 := HS.out.nr.2.2; have h2 := HN.out.2.1.lt; omega)
        have hw5 : w.heap.size + 1 < w5.heap.size := Nat.lt_of_lt_of_le HWR.out hb.size
        have n1 : ¬ (w.heap.size = w5.heap.size) := by omega
        have n2 : ¬ (w.heap.size + 1 = w5.heap.size) := by omega
        clear c0 hrep e1 hb hb0 hb1
        go_upto_region 12 with fail
        generalize w5.alloc (.cells #[.int .i64 d.k, .int .i64 d.n, .string (S d.s), .slice p1 d.its.length cap1, .slice q1 d.mem.length caq1] 26) = W6 at hN0 hN1 hK hb6 hx6 ⊢
        have HB6 := Lib.hid hb6
        have HX6 := Lib.hid hx6
        have z0 := hN0.cell 0
        have y0 := hN0.frozen 0
        have z1 := hN0.cell 1
        have y1 := hN0.frozen 1
        have z2 := hN0.cell 2
        have y2 := hN0.frozen 2
        have z3 := hN0.cell 3
        have y3 := hN0.frozen 3
        have z4 := hN0.cell 4
        have y4 := hN0.frozen 4
        have x0 := hN1.cell 0
        have v0 := hN1.frozen 0
        have x1 := hN1.cell 1
        have v1 := hN1.frozen 1
        simp at z0 z1 z2 z3 z4 x0 x1
        have hzl := hN0.lt
        have hxl := hN1.lt
        by_cases hen : en = 0
        · have HR2 := Lib.hid (show r = (d, 0, 0) by rw [HR.out, hen])
          subst hen
          have k0 := hK.cell 0
          have k1 := hK.cell 1
          have k2 := hK.cell 2
          have k3 := hK.cell 3
          have k4 := hK.cell 4
          simp at k0 k1 k2 k3 k4
          clear hN0 hN1 hK hb6 hx6
          go_wp2_with fail
          refine bodyPost_ret (v := .tuple #[.agg #[.int .i64 d.k, .int .i64 d.n, .string (S d.s), .slice p1 d.its.length cap1, .slice q1 d.mem.length caq1], .agg #[.int .i64 0, .int .i64 0]]) (by simp [results, Tryz.results11, go_sem, z0, z1, z2, z3, z4, y0, y1, y2, y3, y4, hzl, x0, x1, v0, v1, hxl]) rfl ?_
          rw [HR2.out]
          refine ⟨.slice p1 d.its.length cap1, .slice q1 d.mem.length caq1, rfl, ?_, ?_⟩
          · have hh : ∀ (j i B : Nat), j ≤ 1 → wr.heap.size ≤ B → (⟨w.heap.size + j, i, none⟩ : Addr).block ≠ B := fun j i B hj hB e => by have := HWR.out; simp at e; omega
            exact (((((((HX6.out.set _ _ (fun B hB => hh 0 0 B (by omega) hB)).set _ _ (fun B hB => hh 0 1 B (by omega) hB)).set _ _ (fun B hB => hh 0 2 B (by omega) hB)).set _ _ (fun B hB => hh 0 3 B (by omega) hB)).set _ _ (fun B hB => hh 0 4 B (by omega) hB)).set _ _ (fun B hB => hh 1 0 B (by omega) hB)).set _ _ (fun B hB => hh 1 1 B (by omega) hB)).mono fun B _ hB => by have := HWR.out; omega
          · have hbw := HB6.out
            go_grown
            all_goals exact hbw
        · have HR2 := Lib.hid (show r = (dat0, en, 0) by rw [HR.out, HZZ.out hen])
          have c1 : ((en : Int) != 0) = true := by simp; omega
          have c2 : ¬ ((en : Int) = 0) := by omega
          clear hN0 hN1 hK hb6 hx6 hen
          go_wp2_with fail
          refine bodyPost_ret (v := .tuple #[.agg #[.int .i64 0, .int .i64 0, .string ⟨#[]⟩, .slice none 0 0, .slice none 0 0], .agg #[.int .i64 (en : Int), .int .i64 0]]) (by simp [results, Tryz.results11, go_sem, z0, z1, z2, z3, z4, y0, y1, y2, y3, y4, hzl, x0, x1, v0, v1, hxl]) rfl ?_
          rw [HR2.out]
          refine PrsP.no w ?_
          have hbw := HB6.out
          go_grown
          all_goals exact hbw
end
section
open Go.RowKit

def exN : Dat := .mk 3 10000 [] [] []
def exX : Dat := .mk 4 0 [120] [] []
def exB : Dat := .mk 6 0 [] [] [([98], exN)]
def exC : Dat := .mk 5 0 [] [exX] []
def exD : Dat := .mk 6 0 [] [] [([97], exB), ([99], exC)]
theorem rep_exB {W : World} {ok : Nat → Prop} {B : Nat} (h : Blk W B #[.string ⟨#[98]⟩, .int .i64 3, .int .i64 10000, .string ⟨#[]⟩, .slice none 0 0, .slice none 0 0] 64) (hk : ok B) : Rep W ok exB (.slice none 0 0) (.slice (some ⟨B, 0, none⟩) 1 1) := by
  refine Rep.mk (d := exB) none (some ⟨B, 0, none⟩) 0 1 0 0 B 0 (fun _ => .nilFunc) (fun _ => .nilFunc) (fun _ => .slice none 0 0) (fun _ => .slice none 0 0) ⟨Nat.zero_le _, show 1 ≤ maxLen by unfold maxLen; omega⟩ (fun h0 => absurd h0 (Nat.lt_irrefl 0)) (fun j hj => absurd hj (Nat.not_lt_zero j)) (fun j hj => absurd hj (Nat.not_lt_zero j)) (fun _ => ⟨rfl, Nat.le_refl _, h.lt, hk⟩) (fun j hj => ?_) (fun j hj => ?_)
  · have hj0 : j = 0 := Nat.lt_one_iff.1 hj
    subst hj0
    exact ⟨h.cell 0, ⟨h.cell 1, h.cell 2, h.cell 3, h.cell 4, h.cell 5⟩⟩
  · have hj0 : j = 0 := Nat.lt_one_iff.1 hj
    subst hj0
    exact rep_leaf W ok (d := exN) rfl rfl none none 0 0
theorem rep_exC {W : World} {ok : Nat → Prop} {B : Nat} (h : Blk W B #[.int .i64 4, .int .i64 0, .string ⟨#[120]⟩, .slice none 0 0, .slice none 0 0] 26) (hk : ok B) : Rep W ok exC (.slice (some ⟨B, 0, none⟩) 1 1) (.slice none 0 0) := by
  refine Rep.mk (d := exC) (some ⟨B, 0, none⟩) none 1 0 B 0 0 0 (fun _ => .slice none 0 0) (fun _ => .slice none 0 0) (fun _ => .nilFunc) (fun _ => .nilFunc) ⟨show 1 ≤ maxLen by unfold maxLen; omega, Nat.zero_le _⟩ (fun _ => ⟨rfl, Nat.le_refl _, h.lt, hk⟩) (fun j hj => ?_) (fun j hj => ?_) (fun h0 => absurd h0 (Nat.lt_irrefl 0)) (fun j hj => absurd hj (Nat.not_lt_zero j)) (fun j hj => absurd hj (Nat.not_lt_zero j))
  · have hj0 : j = 0 := Nat.lt_one_iff.1 hj
    subst hj0
    exact ⟨h.cell 0, h.cell 1, h.cell 2, h.cell 3, h.cell 4⟩
  · have hj0 : j = 0 := Nat.lt_one_iff.1 hj
    subst hj0
    exact rep_leaf W ok (d := exX) rfl rfl none none 0 0
theorem rep_exD {W : World} {ok : Nat → Prop} {B B1 B3 : Nat} (hB : Rep W ok exB (.slice none 0 0) (.slice (some ⟨B1, 0, none⟩) 1 1)) (hC : Rep W ok exC (.slice (some ⟨B3, 0, none⟩) 1 1) (.slice none 0 0))
    (h : Blk W B #[.string ⟨#[97]⟩, .int .i64 6, .int .i64 0, .string ⟨#[]⟩, .slice none 0 0, .slice (some ⟨B1, 0, none⟩) 1 1, .string ⟨#[99]⟩, .int .i64 5, .int .i64 0, .string ⟨#[]⟩, .slice (some ⟨B3, 0, none⟩) 1 1, .slice none 0 0] 64) (hk : ok B) :
    Rep W ok exD (.slice none 0 0) (.slice (some ⟨B, 0, none⟩) 2 2) := by
  refine Rep.mk (d := exD) none (some ⟨B, 0, none⟩) 0 2 0 0 B 0 (fun _ => .nilFunc) (fun _ => .nilFunc) (fun j => if j = 0 then .slice none 0 0 else .slice (some ⟨B3, 0, none⟩) 1 1) (fun j => if j = 0 then .slice (some ⟨B1, 0, none⟩) 1 1 else .slice none 0 0) ⟨Nat.zero_le _, show 2 ≤ maxLen by unfold maxLen; omega⟩ (fun h0 => absurd h0 (Nat.lt_irrefl 0)) (fun j hj => absurd hj (Nat.not_lt_zero j)) (fun j hj => absurd hj (Nat.not_lt_zero j)) (fun _ => ⟨rfl, Nat.le_refl _, h.lt, hk⟩) (fun j hj => ?_) (fun j hj => ?_)
  · have hj2 : j < 2 := hj
    rcases (show j = 0 ∨ j = 1 by omega) with rfl | rfl
    · exact ⟨h.cell 0, ⟨h.cell 1, h.cell 2, h.cell 3, h.cell 4, h.cell 5⟩⟩
    · exact ⟨h.cell 6, ⟨h.cell 7, h.cell 8, h.cell 9, h.cell 10, h.cell 11⟩⟩
  · have hj2 : j < 2 := hj
    rcases (show j = 0 ∨ j = 1 by omega) with rfl | rfl
    · exact hB
    · exact hC
theorem six1 (w : World) (o0 o2 o3 o4 o5 : Obj) (c : Array Value) (t : TypeId) : Blk ((((((w.alloc o0).alloc (.cells c t)).alloc o2).alloc o3).alloc o4).alloc o5) (w.heap.size + 1) c t := by
  have h := ((((Blk.new (w.alloc o0) c t).alloc o2).alloc o3).alloc o4).alloc o5
  have e : (w.alloc o0).heap.size = w.heap.size + 1 := by simp
  rwa [e] at h
theorem six3 (w : World) (o0 o1 o2 o4 o5 : Obj) (c : Array Value) (t : TypeId) : Blk ((((((w.alloc o0).alloc o1).alloc o2).alloc (.cells c t)).alloc o4).alloc o5) (w.heap.size + 1 + 1 + 1) c t := by
  have h := ((Blk.new (((w.alloc o0).alloc o1).alloc o2) c t).alloc o4).alloc o5
  have e : (((w.alloc o0).alloc o1).alloc o2).heap.size = w.heap.size + 1 + 1 + 1 := by simp
  rwa [e] at h
theorem six5 (w : World) (o0 o1 o2 o3 o4 : Obj) (c : Array Value) (t : TypeId) : Blk ((((((w.alloc o0).alloc o1).alloc o2).alloc o3).alloc o4).alloc (.cells c t)) (w.heap.size + 1 + 1 + 1 + 1 + 1) c t := by
  have h := Blk.new (((((w.alloc o0).alloc o1).alloc o2).alloc o3).alloc o4) c t
  have e : (((((w.alloc o0).alloc o1).alloc o2).alloc o3).alloc o4).heap.size = w.heap.size + 1 + 1 + 1 + 1 + 1 := by simp
  rwa [e] at h
set_option maxRecDepth 100000 in
set_option maxHeartbeats 4000000 in
theorem example_any (w : World) : Calls Tryz.prog 24 #[] w fun e w' => ∃ vi vm, e = .returned (dv exD vi vm) ∧ Rep w' (fun B => w.heap.size ≤ B) exD vi vm ∧ Below w.heap.size w w' := by
  go_enter Tryz.func24, Tryz.ntmps24
  go_wp2_with fail
  refine bodyPost_ret (v := .agg #[.int .i64 6, .int .i64 0, .string ⟨#[]⟩, .slice none 0 0, .slice (some ⟨w.heap.size + 1 + 1 + 1 + 1 + 1, 0, none⟩) 2 2]) (by simp [results, Tryz.results24, go_sem]) rfl ?_
  refine ⟨_, _, rfl, rep_exD (B1 := w.heap.size + 1) (B3 := w.heap.size + 1 + 1 + 1) (rep_exB ?_ ?_) (rep_exC ?_ ?_) ?_ ?_, ?_⟩
  · exact six1 ..
  · omega
  · exact six3 ..
  · omega
  · exact six5 ..
  · omega
  · go_grown
end
section
open Go.RowKit

/-- limits of a line -/
def lineLim (e : Ent) : Prop := LimS e.1 ∧ leafB e.2 = true ∧ limD e.2 = true ∧ (lineT e).length ≤ 10000000
theorem linesT_take {L : List Ent} {i : Nat} (h : i < L.length) : linesT (L.take (i + 1)) = linesT (L.take i) ++ (textS L[i].1 ++ [32, 61, 32] ++ leafT L[i].2 ++ [10]) := by
  rw [List.take_succ_eq_append_getElem h]
  unfold linesT
  rw [List.flatMap_append]
  simp [lineT]
theorem linesT_len {L : List Ent} (h : ∀ e ∈ L, lineLim e) : (linesT L).length ≤ L.length * 10000001 := by
  rw [linesT_sum]
  induction L with
  | nil => simp
  | cons a r ih =>
    have h1 := (h a (List.mem_cons_self ..)).2.2.2
    have h2 := ih fun e he => h e (List.mem_cons_of_mem _ he)
    simp only [List.map_cons, List.sum_cons, List.length_cons]
    omega
set_option maxRecDepth 100000 in
set_option maxHeartbeats 8000000 in
theorem PText_any {d : Dat} {vi vm : Value} {ok : Nat → Prop} {w : World} (hr : Rep w ok d vi vm) (hlim : limD d = true) (hn : (lvD d).length ≤ 1000000) (hE : NumOk w) (hL : (flatD d).1.length ≤ 1000 ∧ ∀ e ∈ (flatD d).1, lineLim e) :
    Calls Tryz.prog 13 #[.agg #[.int .i64 d.k, .int .i64 d.n, .string (S d.s), vi, vm]] w fun e w' => e = .returned (.tuple #[.string (S (textD d).1), .int .i64 ((textD d).2 : Int)]) ∧ Below w.heap.size w w' := by
  have HF := Lib.hid (fun w' (hb : Below w.heap.size w w') => Flatten_any (hr.under hb) hlim hn)
  obtain ⟨p, cap, rfl, -, -⟩ := hr.items
  obtain ⟨q, caq, rfl, -, -⟩ := hr.members
  have HT := Lib.hid (show textD d = if (flatD d).2 = 0 then (linesT (flatD d).1, 0) else ([], (flatD d).2) from rfl)
  generalize textD d = tr at HT ⊢
  generalize hfd : flatD d = fr at HF HT hL
  obtain ⟨L, en⟩ := fr
  simp only at HT hL
  have HE := Lib.hid hE
  have hl1 := hL.1
  have HL := Lib.hid hL.2
  clear hr hlim hn hE hL hfd
  have hN : Blk (w.alloc (.cells #[.int .i64 d.k, .int .i64 d.n, .string (S d.s), .slice p d.its.length cap, .slice q d.mem.length caq] 26)) w.heap.size #[.int .i64 d.k, .int .i64 d.n, .string (S d.s), .slice p d.its.length cap, .slice q d.mem.length caq] 26 := Blk.new w _ _
  have hb : Below w.heap.size w (w.alloc (.cells #[.int .i64 d.k, .int .i64 d.n, .string (S d.s), .slice p d.its.length cap, .slice q d.mem.length caq] 26)) := (Below.refl _ _).alloc (Nat.le_refl _) _
  go_enter Tryz.func13, Tryz.ntmps13
  go_upto_region 1 with fail
  generalize w.alloc (.cells #[.int .i64 d.k, .int .i64 d.n, .string (S d.s), .slice p d.its.length cap, .slice q d.mem.length caq] 26) = W at hN hb ⊢
  have b0 := hN.cell 0
  have b1 := hN.cell 1
  have b2 := hN.cell 2
  have b3 := hN.cell 3
  have b4 := hN.cell 4
  simp at b0 b1 b2 b3 b4
  have hlt0 := hN.lt
  have HB := Lib.hid hb
  clear hN hb
  go_wp2_with fail
  refine (HF.out _ HB.out).mono ?_
  rintro e w1 ⟨v, T, rfl, hown, hTe, hg, hb⟩
  have HB1 := Lib.hid (HB.out.trans (hb.mono HB.out.size))
  have HEN := Lib.hid (own_ents hown (ok := fun B => W.heap.size ≤ B) (fun _ h => h) hg)
  obtain ⟨vp, vc, rfl⟩ := own_form5 hown
  have hTl : T.length = L.length := by simpa using congrArg List.length hTe
  rw [hTe] at HEN
  simp only at HEN
  clear hb hown hg hTe b0 b1 b2 b3 b4 hlt0 HB HF
  rw [hTl] at HEN ⊢
  clear hTl
  by_cases he : en = 0
  · subst he
    have HTR := Lib.hid (show tr = (linesT L, 0) from HT.out)
    obtain ⟨p', cap', B, o, hv, hj⟩ := HEN.out.open
    injection hv with e1 _ e3
    subst e1; subst e3
    have HJ := Lib.hid hj
    clear hj HEN HT
    go_wp2_with fail
    go_loopw [6, 21] (fun a x wr => ∃ i : Nat, x = .int .i64 (i : Int) ∧ i ≤ L.length ∧ a = .string (S (linesT (L.take i))) ∧ Hid (Below w1.heap.size w1 wr)) (fun _ x _ => L.length - (intOf x).toNat)
    case atStart => exact ⟨0, rfl, Nat.zero_le _, rfl, Lib.hid (Below.refl _ _)⟩
    case round =>
      obtain ⟨i, rfl, hi, rfl, HW⟩ := hrel
      by_cases hlt : i < L.length
      · obtain ⟨pv, xi, xm, rfl, hcap, hB, -, c0, hcc, hs, hx⟩ := HJ.out i hlt
        obtain ⟨pp, pc, rfl⟩ := slk_form hs
        obtain ⟨p1, cap1, rfl, -, -⟩ := hx.items
        obtain ⟨q1, caq1, rfl, -, -⟩ := hx.members
        obtain ⟨c1, c2, c3, c4, c5⟩ := hcc
        have HN := Lib.hid (linesT_take hlt)
        have hle := HL.out _ (List.getElem_mem hlt)
        have hacc : (linesT (L.take i)).length ≤ 1000 * 10000001 := by
          have h1 := linesT_len (L := L.take i) fun e he => HL.out e (List.mem_of_mem_take he)
          have h2 : (L.take i).length ≤ 1000 := by rw [List.length_take]; omega
          exact Nat.le_trans h1 (Nat.mul_le_mul_right _ h2)
        replace c0 := (HW.out.cell (p := ⟨B, o + i * 6, none⟩) hB).trans c0
        replace c1 := (HW.out.cell (p := ⟨B, o + i * 6 + 1, none⟩) hB).trans c1
        replace c2 := (HW.out.cell (p := ⟨B, o + i * 6 + 2, none⟩) hB).trans c2
        replace c3 := (HW.out.cell (p := ⟨B, o + i * 6 + 3, none⟩) hB).trans c3
        replace c4 := (HW.out.cell (p := ⟨B, o + i * 6 + 4, none⟩) hB).trans c4
        replace c5 := (HW.out.cell (p := ⟨B, o + i * 6 + 5, none⟩) hB).trans c5
        have HS := Lib.hid (hs.under HW.out)
        have HX := Lib.hid (hx.under HW.out)
        clear hs hx hB
        generalize L[i] = t at c0 c1 c2 c3 c4 c5 HN hle HS HX
        obtain ⟨P, D⟩ := t
        simp only at c0 c1 c2 c3 c4 c5 HN hle HS HX
        generalize linesT (L.take i) = acc at hacc HN ⊢
        obtain ⟨hle1, hle2, hle3, hle4⟩ := hle
        simp only [lineT, List.length_append, List.length_cons, List.length_nil] at hle4
        have HLE := Lib.hid (And.intro hle1 (And.intro hle2 hle3))
        have hN : Blk (wr.alloc (.cells #[.slice pp P.length pc, .int .i64 D.k, .int .i64 D.n, .string (S D.s), .slice p1 D.its.length cap1, .slice q1 D.mem.length caq1] 42)) wr.heap.size #[.slice pp P.length pc, .int .i64 D.k, .int .i64 D.n, .string (S D.s), .slice p1 D.its.length cap1, .slice q1 D.mem.length caq1] 42 := Blk.new wr _ _
        have hb : Below wr.heap.size wr (wr.alloc (.cells #[.slice pp P.length pc, .int .i64 D.k, .int .i64 D.n, .string (S D.s), .slice p1 D.its.length cap1, .slice q1 D.mem.length caq1] 42)) := (Below.refl _ _).alloc (Nat.le_refl _) _
        clear hle1 hle2 hle3
        go_upto_region 8 with fail
        generalize wr.alloc (.cells #[.slice pp P.length pc, .int .i64 D.k, .int .i64 D.n, .string (S D.s), .slice p1 D.its.length cap1, .slice q1 D.mem.length caq1] 42) = W3 at hN hb ⊢
        clear c0 c1 c2 c3 c4 c5
        have n0 := hN.cell 0
        have n1 := hN.cell 1
        have n2 := hN.cell 2
        have n3 := hN.cell 3
        have n4 := hN.cell 4
        have n5 := hN.cell 5
        simp at n0 n1 n2 n3 n4 n5
        have HN3 := Lib.hid hN
        have HB3 := Lib.hid hb
        have HEE := Lib.hid (HE.out.below (HB1.out.trans (HW.out.mono HB1.out.size)))
        clear hN hb
        go_wp2_with fail
        refine (TextLeaf_any (HX.out.under HB3.out) HLE.out.2.1 HLE.out.2.2 (HEE.out.below HB3.out)).mono ?_
        rintro e w4 ⟨rfl, hb⟩
        have n0 := (HN3.out.below hb).cell 0
        simp at n0
        have HB4 := Lib.hid (HB3.out.trans (hb.mono HB3.out.size))
        clear hb n1 n2 n3 n4 n5
        generalize hlf : leafT D = lf at HN hle4 ⊢
        go_wp2_with fail
        refine (Text_any _ P _ (HS.out.under HB4.out).sls HLE.out.1 (HEE.out.below HB4.out)).mono ?_
        rintro e w5 ⟨rfl, hb⟩
        have HB5 := Lib.hid (HW.out.trans ((HB4.out.trans (hb.mono HB4.out.size)).mono HW.out.size))
        clear hb n0 hlf
        generalize textS P = ts at HN hle4 ⊢
        go_wp2_with fail
        go_roundw
        case rel => exact ⟨i + 1, by go_num, hlt, by rw [HN.out]; simp [ct], HB5⟩
        case measure => simp [intOf]; omega
      · have hTk : L.take i = L := List.take_of_length_le (by omega)
        rw [hTk]
        have HB6 := Lib.hid (HB1.out.trans (HW.out.mono HB1.out.size))
        clear hTk
        go_wp2_with fail
        go_ret2
        exact ⟨by rw [HTR.out]; rfl, HB6.out⟩
  · have c1 : ((en : Int) != 0) = true := by simp; omega
    have c2 : ¬ ((en : Int) = 0) := by omega
    have HTR := Lib.hid (show tr = ([], en) by rw [HT.out, if_neg he])
    clear he
    go_wp2_with fail
    go_ret2
    exact ⟨by rw [HTR.out]; rfl, HB1.out⟩
end
section
open Go.RowKit

theorem isB_eq (c : UInt8) (n : Nat) (hn : n < 256) : isB c (n : Int) = decide (c = UInt8.ofNat n) := u8_eq hn
theorem isB_iff (c : UInt8) (n : Nat) (hn : n < 256) : isB c (n : Int) = true ↔ c = UInt8.ofNat n := by rw [isB_eq c n hn, decide_eq_true_eq]
theorem sl_sl (t : List UInt8) (i j k : Nat) : sl (sl t i t.length) j k = sl t (i + j) (i + k) := by
  rw [sl_from]; unfold sl; rw [List.drop_drop]; congr 1; omega
theorem byt_sl (t : List UInt8) (i k : Nat) : byt (sl t i t.length) k = byt t (i + k) := by
  rw [sl_from]; simp [byt, List.getD]
theorem sl_cat (t : List UInt8) (i j k : Nat) (h1 : i ≤ j) (h2 : j ≤ k) : sl t i k = sl t i j ++ sl t j k := by
  unfold sl
  rw [show k - i = (j - i) + (k - j) by omega, List.take_add, List.drop_drop, show i + (j - i) = j by omega]
theorem sl_nil (t : List UInt8) (i : Nat) : sl t i i = [] := by unfold sl; rw [Nat.sub_self, List.take_zero]
theorem sl_one (t : List UInt8) (i : Nat) (h : i < t.length) : sl t i (i + 1) = [byt t i] := by
  unfold sl; rw [show i + 1 - i = 1 by omega, drop_byt t i h]; rfl
theorem take_cat (t : List UInt8) (i j : Nat) (h : i ≤ j) : t.take j = t.take i ++ sl t i j := by
  have := sl_cat t 0 i j (by omega) h
  rwa [sl_to, sl_to] at this

/-! escapes -/
theorem esc_wr : ∀ c : UInt8, wrN c.toNat = true → escB c = 92 :: 120 :: pairH c.toNat :=
  forall_u8 (P := fun c => wrN c.toNat = true → escB c = 92 :: 120 :: pairH c.toNat) (by decide +kernel)
theorem esc_plain : ∀ c : UInt8, okB c = true → c ≠ 34 → c ≠ 92 → escB c = [c] :=
  forall_u8 (P := fun c => okB c = true → c ≠ 34 → c ≠ 92 → escB c = [c]) (by decide +kernel)
theorem hexP_some {s : List UInt8} (hs : s.length = 2) (h : hexP s = true) : ∃ n, n < 256 ∧ wrN n = true ∧ pairH n = s := by
  unfold hexP at h
  obtain ⟨n, hn, ha⟩ := List.any_eq_true.1 h
  rw [List.mem_range] at hn
  unfold hexAt at ha
  rw [Bool.and_eq_true, beq_iff_eq, hs, List.take_of_length_le (by rw [pairH_len n hn]; exact Nat.le_refl _)] at ha
  exact ⟨n, hn, ha.1, ha.2⟩
theorem esc_some (t : List UInt8) (h : (escP t).2 = true) (h0 : byt t 0 = 92) : ∃ c, t.take (escP t).1 = escB c ∧ (escB c).length = (escP t).1 := by
  match t, h, h0 with
  | [], h, _ => cases h
  | [_], h, _ => cases h
  | a :: b :: r, h, h0 =>
    have ha : a = 92 := h0
    subst ha
    have hb : byt (92 :: b :: r) 1 = b := rfl
    unfold escP at h ⊢
    rw [hb] at h ⊢
    rw [if_neg (by simp)] at h ⊢
    rcases bool_two (isB b 34 || isB b 92 || isB b 110 || isB b 116 || isB b 114) with hq | hq
    · rw [hq] at h ⊢
      simp only [Bool.false_eq_true, if_false] at h ⊢
      rcases bool_two (isB b 120) with hx | hx
      · rw [hx] at h; cases h
      · rw [hx] at h ⊢
        simp only [if_true] at h ⊢
        have hb2 : b = 120 := (isB_iff b 120 (by decide)).1 hx
        subst hb2
        match r, h with
        | [], h => cases h
        | [_], h => simp at h; split at h <;> cases h
        | c :: d :: r, h =>
          rw [if_neg (by simp)] at h ⊢
          have hs : sl (92 :: 120 :: c :: d :: r) 2 4 = [c, d] := rfl
          rw [hs] at h ⊢
          rcases bool_two (hexP (sl (92 :: 120 :: c :: d :: r) 2 3)) with h3 | h3
          · rw [if_pos h3] at h; cases h
          · rw [if_neg (by rw [h3]; decide), if_neg (by simp)] at h ⊢
            rcases bool_two (hexP [c, d]) with h4 | h4
            · rw [if_pos h4] at h; cases h
            · rw [if_neg (by rw [h4]; decide)]
              obtain ⟨n, hn, hw, hp⟩ := hexP_some rfl h4
              have hu : (UInt8.ofNat n).toNat = n := u8_ofNat_toNat n hn
              have he := esc_wr (UInt8.ofNat n) (by rw [hu]; exact hw)
              rw [hu, hp] at he
              exact ⟨UInt8.ofNat n, he.symm, by rw [he]; rfl⟩
    · rw [hq]
      simp only [if_true]
      simp only [Bool.or_eq_true] at hq
      rcases hq with (((hq | hq) | hq) | hq) | hq
      · have := (isB_iff b 34 (by decide)).1 hq; subst this; exact ⟨34, by rw [show escB 34 = [92, 34] by decide]; rfl, by decide⟩
      · have := (isB_iff b 92 (by decide)).1 hq; subst this; exact ⟨92, by rw [show escB 92 = [92, 92] by decide]; rfl, by decide⟩
      · have := (isB_iff b 110 (by decide)).1 hq; subst this; exact ⟨10, by rw [show escB 10 = [92, 110] by decide]; rfl, by decide⟩
      · have := (isB_iff b 116 (by decide)).1 hq; subst this; exact ⟨9, by rw [show escB 9 = [92, 116] by decide]; rfl, by decide⟩
      · have := (isB_iff b 114 (by decide)).1 hq; subst this; exact ⟨13, by rw [show escB 13 = [92, 114] by decide]; rfl, by decide⟩
theorem qscan_some (t : List UInt8) : ∀ f i j, t.length ≤ f + i → i ≤ t.length → qscan t f i = (j, true) → j < t.length → byt t j = 34 ∧ i ≤ j ∧ ∃ l : List UInt8, sl t i j = l.flatMap escB
  | 0, i, j, h1, h2, h, hj => by
    rw [qscan] at h; injection h with h3 _; omega
  | f + 1, i, j, h1, h2, h, hj => by
    rw [qscan] at h
    split at h
    · injection h with h3 _; omega
    rename_i hi
    split at h
    · rename_i h34
      injection h with h3 _
      subst h3
      exact ⟨(isB_iff _ 34 (by decide)).1 h34, Nat.le_refl _, [], sl_nil t i⟩
    rename_i h34
    split at h
    · rename_i h92
      split at h
      · rename_i he
        have hb : byt (sl t i t.length) 0 = 92 := by rw [byt_sl]; exact (isB_iff _ 92 (by decide)).1 h92
        have hl := sl_len t i t.length h2 (Nat.le_refl _)
        have hle := (escP_le (sl t i t.length)).2 he
        rw [hl] at hle
        obtain ⟨c, hc, hcl⟩ := esc_some _ he hb
        obtain ⟨k1, k2, l, hk⟩ := qscan_some t f _ j (by omega) (by omega) h hj
        refine ⟨k1, by omega, c :: l, ?_⟩
        rw [sl_cat t i _ j (Nat.le_add_right _ _) k2, hk, List.flatMap_cons, ← hc, ← sl_to, sl_sl, Nat.add_zero]
      · cases h
    · rename_i h92
      split at h
      · rename_i hok
        obtain ⟨k1, k2, l, hk⟩ := qscan_some t f _ j (by omega) (by omega) h hj
        refine ⟨k1, by omega, byt t i :: l, ?_⟩
        have n34 : byt t i ≠ 34 := fun e => h34 ((isB_iff _ 34 (by decide)).2 e)
        have n92 : byt t i ≠ 92 := fun e => h92 ((isB_iff _ 92 (by decide)).2 e)
        rw [sl_cat t i (i + 1) j (Nat.le_succ _) k2, hk, List.flatMap_cons, esc_plain _ hok n34 n92, sl_one t i (by omega)]
      · cases h
theorem qscan_no (t : List UInt8) : ∀ f i, i ≤ t.length → (qscan t f i).2 = false → (qscan t f i).1 ≤ t.length
  | 0, i, h, hf => by cases hf
  | f + 1, i, h, hf => by
    rw [qscan] at hf ⊢
    split at hf
    · cases hf
    rename_i hi
    rw [if_neg hi]
    split at hf
    · cases hf
    rename_i h34
    rw [if_neg h34]
    split at hf
    · rename_i h92
      rw [if_pos h92]
      have he := escP_le (sl t i t.length)
      have hl := sl_len t i t.length h (Nat.le_refl _)
      rw [hl] at he
      split at hf
      · rename_i h1; rw [if_pos h1]; exact qscan_no t f _ (by have := he.2 h1; omega) hf
      · rename_i h1
        rw [if_neg h1]
        have hx : (escP (sl t i t.length)).1 ≤ t.length - i := by
          have hp : 1 ≤ (sl t i t.length).length := by rw [hl]; omega
          have h2 : (escP (sl t i t.length)).1 ≤ (sl t i t.length).length := by
            unfold escP
            repeat' split
            all_goals simp
            all_goals omega
          rw [hl] at h2; exact h2
        simp only; omega
    · rename_i h92
      rw [if_neg h92]
      split at hf
      · rename_i h1; rw [if_pos h1]; exact qscan_no t f _ (by omega) hf
      · rename_i h1; rw [if_neg h1]; exact h
/-! labels -/
def RdOk (t : List UInt8) (b : List UInt8) (x : Stp) (n : Nat) : Prop := okS x = true ∧ n ≤ t.length ∧ 1 ≤ n ∧ t.take n = b
theorem okS_lab {l : List UInt8} (h : l ≠ []) : okS ⟨l, 0⟩ = true := by unfold okS; rw [if_neg h]; exact decide_eq_true rfl
theorem name_some {t : List UInt8} {x : Stp} {n : Nat} (h : nameP t = (x, n, true)) : x.lab ≠ [] ∧ RdOk t (labelL x.lab) x n := by
  have hle := (nameP_le t).2 (by rw [h])
  rw [h] at hle
  unfold nameP at h
  split at h
  · rename_i hi
    injection h with h1 h2
    injection h2 with h2 _
    subst h1 h2
    have hn : t.take (runW t) ≠ [] := fun e => by rw [e, identB_nil] at hi; cases hi
    exact ⟨hn, okS_lab hn, hle.2, hle.1, by unfold labelL; rw [if_pos hi]⟩
  · injection h with _ h2; injection h2 with _ h2; cases h2
theorem lab_some {t : List UInt8} {x : Stp} {n : Nat} (ht : t.length ≤ 65536) (h : labP t = (x, n, true)) : x.lab ≠ [] ∧ RdOk t (labelL x.lab) x n := by
  have hle := (labP_le t).2 (by rw [h])
  rw [h] at hle
  unfold labP at h
  split at h
  · exact name_some h
  · rename_i h0
    rw [Bool.not_eq_true, Bool.or_eq_false_iff, Bool.not_eq_false'] at h0
    have h34 : byt t 0 = 34 := (isB_iff _ 34 (by decide)).1 h0.2
    have hl : 1 ≤ t.length := by cases t with
      | nil => exact absurd h0.1 (by decide)
      | cons => simp
    generalize hq : qscan t t.length 1 = q at h
    obtain ⟨j, b⟩ := q
    unfold labQ at h
    split at h
    · injection h with _ h2; injection h2 with _ h2; cases h2
    · rename_i hb
      have hb' : b = true := by simpa using hb
      subst hb'
      split at h
      · injection h with _ h2; injection h2 with _ h2; cases h2
      · rename_i hj
        simp only [Nat.not_le] at hj
        obtain ⟨k1, k2, l, hk⟩ := qscan_some t _ 1 j (by omega) hl hq hj
        have hu : sl t 0 (j + 1) = quoteL l := by
          rw [sl_cat t 0 1 (j + 1) (by omega) (by omega), sl_cat t 1 j (j + 1) k2 (by omega), hk, sl_one t j hj, k1, sl_one t 0 (by omega), h34]; rfl
        have hun := unq_quote l (by rw [← hu, sl_to, List.length_take]; omega)
        simp only at h
        rw [hu, hun] at h
        split at h
        · injection h with _ h2; injection h2 with _ h2; cases h2
        · rename_i hc
          rw [Bool.not_eq_true, Bool.or_eq_false_iff] at hc
          injection h with h1 h2
          injection h2 with h2 _
          subst h1 h2
          have hn : l ≠ [] := fun e => by rw [e] at hc; exact absurd hc.1 (by decide)
          refine ⟨hn, okS_lab hn, hle.2, hle.1, ?_⟩
          rw [← sl_to, hu]
          unfold labelL
          rw [if_neg (by simp [hc.2])]
theorem lab_no {t : List UInt8} {x : Stp} {n : Nat} (h : labP t = (x, n, false)) : n ≤ t.length := by
  unfold labP at h
  split at h
  · unfold nameP at h
    split at h
    · injection h with _ h2; injection h2 with _ h2; cases h2
    · injection h with _ h2
      injection h2 with h2 _
      subst h2
      have := wrongN_le (t.take (runW t))
      have h1 := runW_le t
      rw [List.length_take] at this; omega
  · rename_i h0
    rw [Bool.not_eq_true, Bool.or_eq_false_iff] at h0
    have hl : 1 ≤ t.length := by cases t with
      | nil => exact absurd h0.1 (by decide)
      | cons => simp
    have hno := qscan_no t t.length 1 hl
    generalize qscan t t.length 1 = q at h hno
    unfold labQ at h
    split at h
    · rename_i hb
      injection h with _ h2; injection h2 with h2 _; subst h2
      exact hno hb
    · split at h
      · injection h with _ h2; injection h2 with h2 _; omega
      · split at h
        · injection h with _ h2; injection h2 with h2 _; omega
        · injection h with _ h2; injection h2 with _ h2; cases h2
end
section
open Go.RowKit

theorem valD_pos (c : UInt8) (r : List UInt8) (hc : dgt c) (h : c ≠ 48) : 1 ≤ valD (c :: r) := by
  have h1 : c.toNat ≠ 48 := fun e => h (UInt8.toNat_inj.1 e)
  have h2 := hc.1
  have := valA_le (0 * 10 + (c.toNat - 48)) r
  unfold valD; rw [valA_cons]; omega
theorem dec_canon : ∀ (n : Nat) (d : List UInt8), d.length = n → (∀ c ∈ d, dgt c) → 0 < n → (n = 1 ∨ byt d 0 ≠ 48) → Lib.decDigits (valD d) = d
  | 0, _, _, _, h, _ => absurd h (by decide)
  | n + 1, d, hn, hd, _, hc => by
    have hl := take_last d (by omega)
    have hlast : dgt (byt d (d.length - 1)) := hd _ (by rw [byt_get d _ (by omega)]; exact List.getElem_mem _)
    generalize byt d (d.length - 1) = c at hl hlast
    generalize he : d.take (d.length - 1) = e at hl
    have hel : e.length = n := by rw [← he, List.length_take]; omega
    have hc48 := hlast.1
    have hc57 := hlast.2
    have hch : UInt8.ofNat (48 + (c.toNat - 48)) = c := by rw [show 48 + (c.toNat - 48) = c.toNat by omega]; simp
    rcases Nat.eq_zero_or_pos n with h0 | h0
    · have he0 : e = [] := List.eq_nil_of_length_eq_zero (by omega)
      rw [hl, he0, List.nil_append, valD_one, Lib.decDigits, dif_pos (by omega), hch]
    · have hde : ∀ x ∈ e, dgt x := fun x hx => hd x (by rw [← he] at hx; exact List.mem_of_mem_take hx)
      have hb : byt e 0 = byt d 0 := by
        rw [byt_get e 0 (by omega), byt_get d 0 (by omega)]
        subst he
        exact List.getElem_take
      have hne : byt e 0 ≠ 48 := by rw [hb]; rcases hc with hc | hc; (omega); exact hc
      have ih := dec_canon n e hel hde h0 (.inr hne)
      have hp : 1 ≤ valD e := by
        cases e with
        | nil => simp at hel; omega
        | cons a r => exact valD_pos a r (hde a (List.mem_cons_self ..)) hne
      have hv : valD (e ++ [c]) = valD e * 10 + (c.toNat - 48) := valD_snoc e c
      rw [hl, hv, Lib.decDigits, dif_neg (by omega), show (valD e * 10 + (c.toNat - 48)) / 10 = valD e by omega, show (valD e * 10 + (c.toNat - 48)) % 10 = c.toNat - 48 by omega, hch, ih]
/-- the digits read so far -/
def IdxIn (t : List UInt8) (i : Nat) : Prop := (∀ c ∈ sl t 1 i, dgt c) ∧ valD (sl t 1 i) ≤ 1000000 ∧ (i ≤ 2 ∨ byt t 1 ≠ 48)
theorem iscan_some (t : List UInt8) : ∀ f i j, 1 ≤ i → i ≤ t.length → IdxIn t i → iscan t f i = (j, true) → j ≤ t.length ∧ i ≤ j ∧ IdxIn t j
  | 0, i, j, h1, h2, hp, h => by rw [iscan] at h; injection h with h3 _; subst h3; exact ⟨h2, Nat.le_refl _, hp⟩
  | f + 1, i, j, h1, h2, hp, h => by
    rw [iscan] at h
    split at h
    · injection h with h3 _; subst h3; exact ⟨h2, Nat.le_refl _, hp⟩
    rename_i hi
    split at h
    · injection h with h3 _; subst h3; exact ⟨h2, Nat.le_refl _, hp⟩
    rename_i hd
    split at h
    · cases h
    rename_i h48
    split at h
    · cases h
    rename_i hv
    have hdg : dgt (byt t i) := (digB_iff _).1 (by simpa using hd)
    obtain ⟨k1, k2, k3⟩ := iscan_some t f (i + 1) j (by omega) (by omega) ⟨fun c hc => by
      rw [sl_snoc t i h1 (by omega), List.mem_append, List.mem_singleton] at hc
      rcases hc with hc | rfl
      · exact hp.1 c hc
      · exact hdg, by omega, by
      rcases Nat.lt_or_ge 1 i with h | h
      · refine .inr fun e => h48 ?_
        rw [decide_eq_true h, Bool.true_and]; exact (isB_iff _ 48 (by decide)).2 e
      · exact .inl (by omega)⟩ h
    exact ⟨k1, by omega, k3⟩
theorem idx_some {t : List UInt8} {x : Stp} {n : Nat} (h0 : 0 < t.length) (hb : byt t 0 = 91) (h : idxP t = (x, n, true)) : x.lab = [] ∧ RdOk t (91 :: (Lib.decDigits x.idx.toNat ++ [93])) x n := by
  have hle := (idxP_le t h0).2 (by rw [h])
  rw [h] at hle
  unfold idxP at h
  generalize hq : iscan t t.length 1 = q at h
  obtain ⟨j, b⟩ := q
  unfold idxQ at h
  split at h
  · injection h with _ h2; injection h2 with _ h2; cases h2
  rename_i hb1
  have hb' : b = true := by simpa using hb1
  subst hb'
  split at h
  · injection h with _ h2; injection h2 with _ h2; cases h2
  rename_i hc
  simp only [Bool.not_eq_true, Bool.or_eq_false_iff, decide_eq_false_iff_not, Bool.not_eq_false', beq_eq_false_iff_ne] at hc
  obtain ⟨⟨hj1, hjl⟩, h93⟩ := hc
  have h93 := (isB_iff _ 93 (by decide)).1 h93
  obtain ⟨k1, k2, k3, k4, k5⟩ := iscan_some t _ 1 j (Nat.le_refl _) h0 ⟨fun c hc => (by rw [sl_nil] at hc; cases hc), by rw [sl_nil]; decide, .inl (by decide)⟩ hq
  injection h with h1 h2
  injection h2 with h2 _
  subst h1 h2
  have hlen := sl_len t 1 j k2 k1
  have hdec : Lib.decDigits (valD (sl t 1 j)) = sl t 1 j := by
    refine dec_canon _ _ hlen k3 (by omega) ?_
    rcases k5 with k5 | k5
    · exact .inl (by omega)
    · refine .inr ?_
      have : byt (sl t 1 j) 0 = byt t 1 := by
        rw [byt_get _ 0 (by omega), byt_get t 1 (by omega)]
        simp [sl]
      rw [this]; exact k5
  refine ⟨rfl, ?_, hle.2, hle.1, ?_⟩
  · unfold okS; rw [if_pos rfl]; simp; omega
  · show t.take (j + 1) = 91 :: (Lib.decDigits (Int.toNat (valD (sl t 1 j) : Int)) ++ [93])
    rw [Int.toNat_natCast, hdec, ← sl_to, sl_cat t 0 1 (j + 1) (by omega) (by omega), sl_cat t 1 j (j + 1) k2 (by omega), sl_one t j (by omega), h93, sl_one t 0 h0, hb]; rfl
theorem idx_no {t : List UInt8} {x : Stp} {n : Nat} (h0 : 0 < t.length) (h : idxP t = (x, n, false)) : n ≤ t.length := by
  have hi := iscan_le t t.length 1 h0
  unfold idxP at h
  generalize iscan t t.length 1 = q at h hi
  unfold idxQ at h
  split at h
  · injection h with _ h2; injection h2 with h2 _; omega
  · split at h
    · injection h with _ h2; injection h2 with h2 _; omega
    · injection h with _ h2; injection h2 with _ h2; cases h2
theorem bodyS_snoc (L : List Stp) (x : Stp) : bodyS (L ++ [x]) = bodyS L ++ bitS x L.isEmpty := by
  cases L with
  | nil => show bitS x true ++ restS [] = [] ++ bitS x true; simp [restS]
  | cons y r =>
    show bitS y true ++ restS (r ++ [x]) = bitS y true ++ restS r ++ bitS x false
    unfold restS
    rw [List.flatMap_append, List.append_assoc]; simp
/-- the reader took a step -/
theorem rd_some {s : List UInt8} {a : Nat} {L : List Stp} {x : Stp} {n b : Nat} (hs : s.length ≤ 65536) (ha : a ≤ s.length)
    (hsep : (!(decide (a < s.length) && isB (byt s a) 91) && (!L.isEmpty && !isB (byt s a) 46)) = false) (hmore : (!decide (a < s.length) && !L.isEmpty) = false)
    (h : rdAt s a L = ((x, n, true), b)) : okS x = true ∧ b + n ≤ s.length ∧ a < b + n ∧ s.take (b + n) = s.take a ++ bitS x L.isEmpty := by
  unfold rdAt at h
  split at h
  · rename_i hb
    rw [Bool.and_eq_true, decide_eq_true_eq] at hb
    injection h with h1 h2
    subst h2
    have hl := sl_len s a s.length ha (Nat.le_refl _)
    obtain ⟨hx, k1, k2, k3, k4⟩ := idx_some (by omega) (by rw [byt_sl]; exact (isB_iff _ 91 (by decide)).1 hb.2) h1
    refine ⟨k1, by omega, by omega, ?_⟩
    rw [take_cat s a (a + n) (by omega)]
    rw [← sl_to, sl_sl, Nat.add_zero] at k4
    rw [k4]; unfold bitS; rw [if_pos hx]
  · rename_i hb
    split at h
    · rename_i hL
      injection h with h1 h2
      subst h2
      have hl := sl_len s a s.length ha (Nat.le_refl _)
      obtain ⟨hx, k1, k2, k3, k4⟩ := lab_some (by omega) h1
      refine ⟨k1, by omega, by omega, ?_⟩
      rw [take_cat s a (a + n) (by omega)]
      rw [← sl_to, sl_sl, Nat.add_zero] at k4
      rw [k4]; unfold bitS; rw [if_neg hx, if_pos hL]
    · rename_i hL
      injection h with h1 h2
      subst h2
      have hL' : L.isEmpty = false := by simpa using hL
      rw [hL'] at hsep hmore ⊢
      simp only [Bool.not_false, Bool.and_true, Bool.true_and, Bool.not_eq_false', decide_eq_true_eq] at hmore
      have hb' : (decide (a < s.length) && isB (byt s a) 91) = false := by simpa using hb
      rw [hb'] at hsep
      simp only [Bool.not_false, Bool.true_and, Bool.not_eq_false'] at hsep
      have h46 := (isB_iff _ 46 (by decide)).1 hsep
      have hl := sl_len s (a + 1) s.length hmore (Nat.le_refl _)
      obtain ⟨hx, k1, k2, k3, k4⟩ := lab_some (by omega) h1
      refine ⟨k1, by omega, by omega, ?_⟩
      rw [take_cat s a (a + 1 + n) (by omega), sl_cat s a (a + 1) _ (by omega) (by omega), sl_one s a hmore, h46]
      rw [← sl_to, sl_sl, Nat.add_zero] at k4
      rw [k4]; unfold bitS; rw [if_neg hx]; rfl
theorem rd_no {s : List UInt8} {a : Nat} {L : List Stp} {x : Stp} {n b : Nat} (ha : a ≤ s.length)
    (hmore : (!decide (a < s.length) && !L.isEmpty) = false) (h : rdAt s a L = ((x, n, false), b)) : b + n ≤ s.length := by
  unfold rdAt at h
  split at h
  · rename_i hb
    rw [Bool.and_eq_true, decide_eq_true_eq] at hb
    injection h with h1 h2
    have hl := sl_len s a s.length ha (Nat.le_refl _)
    have := idx_no (by omega) h1
    omega
  · split at h
    · injection h with h1 h2
      have hl := sl_len s a s.length ha (Nat.le_refl _)
      have := lab_no h1
      omega
    · rename_i hL
      injection h with h1 h2
      have hL' : L.isEmpty = false := by simpa using hL
      rw [hL'] at hmore
      simp only [Bool.not_false, Bool.and_true, Bool.not_eq_false', decide_eq_true_eq] at hmore
      have hl := sl_len s (a + 1) s.length hmore (Nat.le_refl _)
      have := lab_no h1
      omega
def OnlyR (s : List UInt8) (r : List Stp × Nat × Nat) : Prop := (r.2.1 = 0 ∧ r.2.2 = 0 ∧ okL r.1 = true ∧ r.1 ≠ [] ∧ bodyS r.1 = s) ∨ (r.1 = [] ∧ r.2.1 = 8 ∧ r.2.2 ≤ s.length)
theorem pgo_only (s : List UInt8) (hs : s.length ≤ 65536) : ∀ f a L, s.length + 1 ≤ f + a → a ≤ s.length → okL L = true → s.take a = bodyS L → OnlyR s (pgo s f a L)
  | 0, a, L, h1, h2, _, _ => by omega
  | f + 1, a, L, h1, h2, hk, hb => by
    rw [pgo]
    split
    · rename_i hm
      rw [Bool.and_eq_true, Bool.not_eq_true', decide_eq_false_iff_not, Bool.not_eq_true'] at hm
      refine .inl ⟨rfl, rfl, hk, fun e => ?_, ?_⟩
      · simp only at e; rw [e] at hm; exact absurd hm.2 (by decide)
      · show bodyS L = s; rw [← hb, List.take_of_length_le (by omega)]
    · rename_i hm
      have hm' : (!decide (a < s.length) && !L.isEmpty) = false := by simpa using hm
      split
      · exact .inr ⟨rfl, rfl, h2⟩
      · rename_i hp
        have hp' : (!(decide (a < s.length) && isB (byt s a) 91) && (!L.isEmpty && !isB (byt s a) 46)) = false := by
          rcases bool_two (!(decide (a < s.length) && isB (byt s a) 91) && (!L.isEmpty && !isB (byt s a) 46)) with h | h
          · exact h
          · exact absurd h hp
        clear hp hm
        generalize hr : rdAt s a L = r
        obtain ⟨⟨x, n, ok⟩, b⟩ := r
        split
        · rename_i hok
          have hok' : ok = true := hok
          subst hok'
          obtain ⟨k1, k2, k3, k4⟩ := rd_some hs h2 hp' hm' hr
          exact pgo_only s hs f (b + n) (L ++ [x]) (by omega) k2 (by unfold okL at *; rw [List.all_append, hk]; simpa using k1) (by rw [k4, hb, bodyS_snoc])
        · rename_i hok
          have hok' : ok = false := by simpa using hok
          subst hok'
          exact .inr ⟨rfl, rfl, rd_no h2 hm' hr⟩
/-- what Parse hands back for a string that is not too long -/
theorem parse_only (s : List UInt8) (hs : s.length ≤ 65536) : ((parseP s).2.1 = 0 ∧ (parseP s).2.2 = 0 ∧ okL (parseP s).1 = true ∧ textS (parseP s).1 = s) ∨ ((parseP s).1 = [] ∧ (parseP s).2.1 = 8 ∧ (parseP s).2.2 ≤ s.length) := by
  unfold parseP
  rw [if_neg (by omega)]
  split
  · rename_i h
    rw [beq_iff_eq] at h
    subst h
    exact .inl ⟨rfl, rfl, rfl, rfl⟩
  · split
    · rename_i h
      refine .inr ⟨rfl, rfl, ?_⟩
      cases s with
      | nil => cases h
      | cons => simp
    · rcases pgo_only s hs (s.length + 1) 0 [] (by omega) (Nat.zero_le _) rfl rfl with ⟨h1, h2, h3, h4, h5⟩ | h
      · exact .inl ⟨h1, h2, h3, by rw [textS_body _ h3 h4]; exact h5⟩
      · exact .inr h
end
section
open Go.RowKit

theorem label_ge (l : List UInt8) : l.length ≤ (labelL l).length := by
  unfold labelL
  split
  · exact Nat.le_refl _
  · have := (quote_len l).1; omega
theorem bit_ge (x : Stp) (b : Bool) : x.lab.length ≤ (bitS x b).length ∧ 1 ≤ (bitS x b).length := by
  unfold bitS
  by_cases h : x.lab = []
  · rw [if_pos h, h]; simp
  · rw [if_neg h]
    have h1 := label_ge x.lab
    have h2 : 0 < x.lab.length := List.length_pos_iff.2 h
    cases b
    · simp only [Bool.false_eq_true, if_false, List.length_cons]; omega
    · simp only [if_true]; omega
theorem rest_ge : ∀ (L : List Stp), L.length ≤ (restS L).length ∧ ∀ x ∈ L, x.lab.length ≤ (restS L).length
  | [] => by simp
  | y :: r => by
    obtain ⟨h1, h2⟩ := rest_ge r
    have h3 := bit_ge y false
    unfold restS at *
    rw [List.flatMap_cons, List.length_append, List.length_cons]
    refine ⟨by omega, fun x hx => ?_⟩
    rcases List.mem_cons.1 hx with rfl | hx
    · omega
    · have := h2 x hx; omega
theorem body_ge (L : List Stp) : L.length ≤ (bodyS L).length ∧ ∀ x ∈ L, x.lab.length ≤ (bodyS L).length := by
  cases L with
  | nil => simp
  | cons y r =>
    obtain ⟨h1, h2⟩ := rest_ge r
    have h3 := bit_ge y true
    rw [bodyS, List.length_append, List.length_cons]
    refine ⟨by omega, fun x hx => ?_⟩
    rcases List.mem_cons.1 hx with rfl | hx
    · omega
    · have := h2 x hx; omega
theorem text_ge {L : List Stp} (h : okL L = true) : L.length ≤ (textS L).length ∧ ∀ x ∈ L, x.lab.length ≤ (textS L).length := by
  by_cases h0 : L = []
  · subst h0; simp
  · have e : textS L = bodyS L := by unfold textS; rw [h, if_neg (by decide), if_neg h0]
    rw [e]; exact body_ge L
theorem pp_ok : PpOk parseP := by
  intro s hs h0
  rcases parse_only s hs with ⟨-, -, h1, h2⟩ | ⟨-, h1, -⟩
  · refine ⟨h1, h2, fun x hx => ?_⟩
    have := (text_ge h1).2 x hx
    rwa [h2] at this
  · rw [h1] at h0; cases h0
theorem pp_len (s : List UInt8) (hs : s.length ≤ 65536) : (parseP s).1.length ≤ 1000000 := by
  rcases parse_only s hs with ⟨-, -, h1, h2⟩ | ⟨h1, -, -⟩
  · have := (text_ge h1).1
    rw [h2] at this
    omega
  · rw [h1]; simp
end
section
open Go.RowKit

theorem leaf_lim {d : Dat} (h : leafB d = true) (hl : (leafT d).length ≤ 1000000) : limD d = true := by
  obtain ⟨h1, h2, h3⟩ := leaf_iff.1 h
  obtain ⟨hp, -, -⟩ := own_zero (chk_zero.1 h1).2.1
  have hp' := plain_iff.1 hp
  refine lim_iff.2 ⟨?_, by rw [h2]; exact Nat.zero_le _, by rw [h3]; exact Nat.zero_le _, by rw [h2]; simp, by rw [h3]; simp⟩
  rcases hp'.2.2.1 with hk | hs
  · have e : leafT d = quoteL d.s := by unfold leafT; rw [hk]; rfl
    rw [e] at hl
    have := (quote_len d.s).1
    omega
  · rw [hs]; exact Nat.zero_le _
theorem line_lims {a : Dat} (hc : chk a 1 = 0) (hb : lbD a = true) (hl : limD a = true) (hn : (linesT (entsD a)).length ≤ 900) : (entsD a).length ≤ 1000 ∧ ∀ e ∈ entsD a, lineLim e := by
  have hs := linesT_sum (entsD a)
  have hle : ∀ (L : List Ent), L.length ≤ (L.map fun e => (lineT e).length + 1).sum ∧ ∀ e ∈ L, (lineT e).length ≤ (L.map fun e => (lineT e).length + 1).sum := by
    intro L
    induction L with
    | nil => simp
    | cons x r ih =>
      obtain ⟨i1, i2⟩ := ih
      rw [List.map_cons, List.sum_cons, List.length_cons]
      refine ⟨by omega, fun e he => ?_⟩
      rcases List.mem_cons.1 he with rfl | he
      · omega
      · have := i2 e he; omega
  obtain ⟨h1, h2⟩ := hle (entsD a)
  refine ⟨by omega, fun e he => ?_⟩
  obtain ⟨k1, k2⟩ := ents_kind (SizeOf.sizeOf a + 1) a 0 (Nat.lt_succ_self _) hc hb hl e he
  have h3 := h2 e he
  have h4 : (lineT e).length = (textS e.1).length + 3 + (leafT e.2).length := by unfold lineT; simp; omega
  obtain ⟨t1, t2⟩ := text_ge k1
  exact ⟨⟨by omega, fun x hx => by have := t2 x hx; omega⟩, k2, leaf_lim k2 (by omega), by omega⟩
end
section
open Go.RowKit

theorem dat_ext {a b : Dat} : a = b ↔ a.k = b.k ∧ a.n = b.n ∧ a.s = b.s ∧ a.its = b.its ∧ a.mem = b.mem := by
  cases a; cases b
  simp [Dat.k, Dat.n, Dat.s, Dat.its, Dat.mem]
/-- what Same hands back -/
def SamP (w : World) (a b : Dat) (e : Ending) (w' : World) : Prop := ∃ r : Bool, e = .returned (.bool r) ∧ (r = true ↔ a = b) ∧ Below w.heap.size w w'
theorem SamP.no {w w' : World} {a b : Dat} (hb : Below w.heap.size w w') (h : a ≠ b) : SamP w a b (.returned (.bool false)) w' := ⟨false, rfl, by simp [h], hb⟩
set_option maxRecDepth 100000 in
set_option maxHeartbeats 4000000 in
theorem same_top {a b : Dat} (p q p' q' : Option Addr) (c1 c2 c3 c4 : Nat) (w : World) (h : a.k ≠ b.k ∨ (a.k = b.k ∧ a.n ≠ b.n) ∨ (a.k = b.k ∧ a.n = b.n ∧ a.s ≠ b.s) ∨ (a.k = b.k ∧ a.n = b.n ∧ a.s = b.s ∧ a.its.length ≠ b.its.length) ∨ (a.k = b.k ∧ a.n = b.n ∧ a.s = b.s ∧ a.its.length = b.its.length ∧ a.mem.length ≠ b.mem.length)) :
    Calls Tryz.prog 12 #[.agg #[.int .i64 a.k, .int .i64 a.n, .string (S a.s), .slice p a.its.length c1, .slice q a.mem.length c2], .agg #[.int .i64 b.k, .int .i64 b.n, .string (S b.s), .slice p' b.its.length c3, .slice q' b.mem.length c4]] w (SamP w a b) := by
  have hne : a ≠ b := by
    intro e
    subst e
    rcases h with h | ⟨-, h⟩ | ⟨-, -, h⟩ | ⟨-, -, -, h⟩ | ⟨-, -, -, -, h⟩ <;> exact h rfl
  have HNE := Lib.hid hne
  have h2 := two_new w #[.int .i64 a.k, .int .i64 a.n, .string (S a.s), .slice p a.its.length c1, .slice q a.mem.length c2] #[.int .i64 b.k, .int .i64 b.n, .string (S b.s), .slice p' b.its.length c3, .slice q' b.mem.length c4] 26 26
  have HH := Lib.hid h
  clear h hne
  go_enter Tryz.func12, Tryz.ntmps12
  go_upto_region 1 with fail
  generalize (w.alloc (.cells #[.int .i64 a.k, .int .i64 a.n, .string (S a.s), .slice p a.its.length c1, .slice q a.mem.length c2] 26)).alloc (.cells #[.int .i64 b.k, .int .i64 b.n, .string (S b.s), .slice p' b.its.length c3, .slice q' b.mem.length c4] 26) = W at h2 ⊢
  have a0 := h2.1.cell 0
  have a1 := h2.1.cell 1
  have a2 := h2.1.cell 2
  have a3 := h2.1.cell 3
  have a4 := h2.1.cell 4
  have b0 := h2.2.1.cell 0
  have b1 := h2.2.1.cell 1
  have b2 := h2.2.1.cell 2
  have b3 := h2.2.1.cell 3
  have b4 := h2.2.1.cell 4
  simp at a0 a1 a2 a3 a4 b0 b1 b2 b3 b4
  have HB := Lib.hid h2.2.2
  clear h2
  rcases HH.out with h | ⟨e1, h⟩ | ⟨e1, e2, h⟩ | ⟨e1, e2, e3, h⟩ | ⟨e1, e2, e3, e4, h⟩
  · have t1 : (a.k != b.k) = true := by simpa using h
    clear h
    go_wp2_with fail
    go_ret
    exact SamP.no HB.out HNE.out
  · have t1 : (a.k != b.k) = false := by simpa using e1
    have t2 : (a.n != b.n) = true := by simpa using h
    clear h e1
    go_wp2_with fail
    go_ret
    exact SamP.no HB.out HNE.out
  · have t1 : (a.k != b.k) = false := by simpa using e1
    have t2 : (a.n != b.n) = false := by simpa using e2
    have t3 : (a.s != b.s) = true := by simpa using h
    have t4 : (a.s == b.s) = false := by simpa using h
    clear h e1 e2
    go_wp2_with fail
    go_ret
    exact SamP.no HB.out HNE.out
  · have t1 : (a.k != b.k) = false := by simpa using e1
    have t2 : (a.n != b.n) = false := by simpa using e2
    have t3 : (a.s != b.s) = false := by simpa using e3
    have t4 : (a.s == b.s) = true := by simpa using e3
    have t5 : ((a.its.length : Int) != (b.its.length : Int)) = true := by simp; omega
    have t6 : (a.its.length != b.its.length) = true := by simpa using h
    clear h e1 e2 e3
    go_wp2_with fail
    go_ret
    exact SamP.no HB.out HNE.out
  · have t1 : (a.k != b.k) = false := by simpa using e1
    have t2 : (a.n != b.n) = false := by simpa using e2
    have t3 : (a.s != b.s) = false := by simpa using e3
    have t4 : (a.s == b.s) = true := by simpa using e3
    have t5 : ((a.its.length : Int) != (b.its.length : Int)) = false := by simp; omega
    have t6 : (a.its.length != b.its.length) = false := by simpa using e4
    have t7 : ((a.mem.length : Int) != (b.mem.length : Int)) = true := by simp; omega
    have t8 : (a.mem.length != b.mem.length) = true := by simpa using h
    clear h e1 e2 e3 e4
    go_wp2_with fail
    go_ret
    exact SamP.no HB.out HNE.out
end
section
open Go.RowKit

theorem take_step {α : Type} {x y : List α} {i : Nat} (h : x.take i = y.take i) (hx : i < x.length) (hy : i < y.length) (he : x[i] = y[i]) : x.take (i + 1) = y.take (i + 1) := by
  rw [List.take_succ_eq_append_getElem hx, List.take_succ_eq_append_getElem hy, h, he]
set_option maxRecDepth 100000 in
set_option maxHeartbeats 8000000 in
theorem dSame_any (m : Nat) : ∀ (a b : Dat), SizeOf.sizeOf a < m → ∀ (vi vm ui um : Value) (ok ok' : Nat → Prop) (w : World), Rep w ok a vi vm → Rep w ok' b ui um → limD a = true → limD b = true →
    Calls Tryz.prog 12 #[.agg #[.int .i64 a.k, .int .i64 a.n, .string (S a.s), vi, vm], .agg #[.int .i64 b.k, .int .i64 b.n, .string (S b.s), ui, um]] w (SamP w a b) := by
  induction m with
  | zero => intro a b h; exact absurd h (Nat.not_lt_zero _)
  | succ m ih =>
    intro a b hd vi vm ui um ok ok' w hr hr' hla hlb
    obtain ⟨p, c1, rfl, -, hit⟩ := hr.items
    obtain ⟨q, c2, rfl, -, hme⟩ := hr.members
    obtain ⟨p', c3, rfl, -, hit'⟩ := hr'.items
    obtain ⟨q', c4, rfl, -, hme'⟩ := hr'.members
    by_cases e1 : a.k = b.k
    case neg => exact same_top p q p' q' c1 c2 c3 c4 w (.inl e1)
    by_cases e2 : a.n = b.n
    case neg => exact same_top p q p' q' c1 c2 c3 c4 w (.inr (.inl ⟨e1, e2⟩))
    by_cases e3 : a.s = b.s
    case neg => exact same_top p q p' q' c1 c2 c3 c4 w (.inr (.inr (.inl ⟨e1, e2, e3⟩)))
    by_cases e4 : a.its.length = b.its.length
    case neg => exact same_top p q p' q' c1 c2 c3 c4 w (.inr (.inr (.inr (.inl ⟨e1, e2, e3, e4⟩))))
    by_cases e5 : a.mem.length = b.mem.length
    case neg => exact same_top p q p' q' c1 c2 c3 c4 w (.inr (.inr (.inr (.inr ⟨e1, e2, e3, e4, e5⟩))))
    have HEX := Lib.hid (show a = b ↔ a.its = b.its ∧ a.mem = b.mem by rw [dat_ext]; simp [e1, e2, e3])
    obtain ⟨hl1, hl2, -⟩ := lim_len hla
    have HIT := Lib.hid hit
    have HIT' := Lib.hid hit'
    have HME := Lib.hid hme
    have HME' := Lib.hid hme'
    have HLA := Lib.hid hla
    have HLB := Lib.hid hlb
    have IH := Lib.hid ih
    have HD := Lib.hid hd
    have HE4 := Lib.hid e4
    have HE5 := Lib.hid e5
    have t1 : (a.k != b.k) = false := by simpa using e1
    have t2 : (a.n != b.n) = false := by simpa using e2
    have t3 : (a.s != b.s) = false := by simpa using e3
    have t4 : (a.s == b.s) = true := by simpa using e3
    have h2 := two_new w #[.int .i64 a.k, .int .i64 a.n, .string (S a.s), .slice p a.its.length c1, .slice q a.mem.length c2] #[.int .i64 b.k, .int .i64 b.n, .string (S b.s), .slice p' a.its.length c3, .slice q' a.mem.length c4] 26 26
    rw [← e4, ← e5]
    clear e1 e2 e3 e4 e5 hit hit' hme hme' hla hlb ih hd hr hr'
    go_enter Tryz.func12, Tryz.ntmps12
    go_upto_region 1 with fail
    generalize (w.alloc (.cells #[.int .i64 a.k, .int .i64 a.n, .string (S a.s), .slice p a.its.length c1, .slice q a.mem.length c2] 26)).alloc (.cells #[.int .i64 b.k, .int .i64 b.n, .string (S b.s), .slice p' a.its.length c3, .slice q' a.mem.length c4] 26) = W at h2 ⊢
    have a0 := h2.1.cell 0
    have a1 := h2.1.cell 1
    have a2 := h2.1.cell 2
    have a3 := h2.1.cell 3
    have a4 := h2.1.cell 4
    have b0 := h2.2.1.cell 0
    have b1 := h2.2.1.cell 1
    have b2 := h2.2.1.cell 2
    have b3 := h2.2.1.cell 3
    have b4 := h2.2.1.cell 4
    simp at a0 a1 a2 a3 a4 b0 b1 b2 b3 b4
    have H2 := Lib.hid h2
    clear h2
    go_wp2_with fail
    clear a0 a1 a2 a3 a4 b0 b1 b2 b3 b4 t1 t2 t3 t4
    go_loopw [5] (fun x wr => ∃ i : Nat, x = .int .i64 (i : Int) ∧ i ≤ a.its.length ∧ Hid (a.its.take i = b.its.take i) ∧ Hid (Below W.heap.size W wr)) (fun x _ => a.its.length - (intOf x).toNat)
    case atStart => exact ⟨0, rfl, Nat.zero_le _, Lib.hid rfl, Lib.hid (Below.refl _ _)⟩
    case round =>
      obtain ⟨i, rfl, hi, HT, HW⟩ := hrel
      have k3 := (H2.out.1.below HW.out).cell 3
      have m3 := (H2.out.2.1.below HW.out).cell 3
      simp at k3 m3
      by_cases hlt : i < a.its.length
      · have hlt' : i < b.its.length := by have := HE4.out; omega
        have hB0 := H2.out.2.2.trans (HW.out.mono H2.out.2.2.size)
        obtain ⟨B, o, xi, xm, rfl, hcap, hB, hc, hx⟩ := HIT.out i hlt
        obtain ⟨B', o', yi, ym, rfl, hcap', hB', hc', hy⟩ := HIT'.out i hlt'
        obtain ⟨x0, x1, x2, x3, x4⟩ := hc.below hB0 hB
        obtain ⟨y0, y1, y2, y3, y4⟩ := hc'.below hB0 hB'
        have hsz := hB0.size
        have HX := Lib.hid (hx.under hB0)
        have HY := Lib.hid (hy.under hB0)
        have HSZ := Lib.hid (Nat.lt_of_lt_of_le (dat_it (List.getElem_mem hlt)) (Nat.le_of_lt_succ HD.out))
        have HLX := Lib.hid (kid_lim HLA.out (List.mem_append_left _ (List.getElem_mem hlt)))
        have HLY := Lib.hid (kid_lim HLB.out (List.mem_append_left _ (List.getElem_mem hlt')))
        have HNX := Lib.hid (take_step HT.out hlt hlt')
        have HDF := Lib.hid (fun (h : a = b) => (show a.its[i] = b.its[i] by subst h; rfl))
        clear hc hc' hx hy
        generalize a.its[i] = x at x0 x1 x2 x3 x4 HX HSZ HLX HNX HDF
        generalize b.its[i] = y at y0 y1 y2 y3 y4 HY HLY HNX HDF
        have HKE := Lib.hid (fun w' (hb : Below wr.heap.size wr w') => (And.intro ((hb.cell (p := ⟨w.heap.size, 3, none⟩) (H2.out.1.below HW.out).lt).trans k3) (And.intro ((hb.cell (p := ⟨w.heap.size + 1, 3, none⟩) (H2.out.2.1.below HW.out).lt).trans m3) (And.intro ((hb.cell (p := ⟨B, o + i * 5, none⟩) (Nat.lt_of_lt_of_le hB hsz)).trans x0) (And.intro ((hb.cell (p := ⟨B, o + i * 5 + 1, none⟩) (Nat.lt_of_lt_of_le hB hsz)).trans x1) (And.intro ((hb.cell (p := ⟨B, o + i * 5 + 2, none⟩) (Nat.lt_of_lt_of_le hB hsz)).trans x2) (And.intro ((hb.cell (p := ⟨B, o + i * 5 + 3, none⟩) (Nat.lt_of_lt_of_le hB hsz)).trans x3) (And.intro ((hb.cell (p := ⟨B, o + i * 5 + 4, none⟩) (Nat.lt_of_lt_of_le hB hsz)).trans x4) (And.intro ((hb.cell (p := ⟨B', o' + i * 5, none⟩) (Nat.lt_of_lt_of_le hB' hsz)).trans y0) (And.intro ((hb.cell (p := ⟨B', o' + i * 5 + 1, none⟩) (Nat.lt_of_lt_of_le hB' hsz)).trans y1) (And.intro ((hb.cell (p := ⟨B', o' + i * 5 + 2, none⟩) (Nat.lt_of_lt_of_le hB' hsz)).trans y2) (And.intro ((hb.cell (p := ⟨B', o' + i * 5 + 3, none⟩) (Nat.lt_of_lt_of_le hB' hsz)).trans y3) ((hb.cell (p := ⟨B', o' + i * 5 + 4, none⟩) (Nat.lt_of_lt_of_le hB' hsz)).trans y4)))))))))))))
        have HB0 := Lib.hid (below_drew (Below.refl wr.heap.size wr))
        go_upto_region 6 with fail
        clear k3 m3 x0 x1 x2 x3 x4 y0 y1 y2 y3 y4
        go_region_held3 (fun w' => w'.cell? ⟨w.heap.size, 3, none⟩ = some (.slice (some ⟨B, o, none⟩) a.its.length c1) ∧ w'.cell? ⟨w.heap.size + 1, 3, none⟩ = some (.slice (some ⟨B', o', none⟩) a.its.length c3) ∧ w'.cell? ⟨B, o + i * 5, none⟩ = some (.int .i64 x.k) ∧ w'.cell? ⟨B, o + i * 5 + 1, none⟩ = some (.int .i64 x.n) ∧ w'.cell? ⟨B, o + i * 5 + 2, none⟩ = some (.string (S x.s)) ∧ w'.cell? ⟨B, o + i * 5 + 3, none⟩ = some (xi) ∧ w'.cell? ⟨B, o + i * 5 + 4, none⟩ = some (xm) ∧ w'.cell? ⟨B', o' + i * 5, none⟩ = some (.int .i64 y.k) ∧ w'.cell? ⟨B', o' + i * 5 + 1, none⟩ = some (.int .i64 y.n) ∧ w'.cell? ⟨B', o' + i * 5 + 2, none⟩ = some (.string (S y.s)) ∧ w'.cell? ⟨B', o' + i * 5 + 3, none⟩ = some (yi) ∧ w'.cell? ⟨B', o' + i * 5 + 4, none⟩ = some (ym))
          (first
            | with_reducible exact HKE.out _ HB0.out
            | with_reducible exact HKE.out _ HB1.out
            | go_keep)
          (first
            | (go_at_call 12; refine (IH.out x y HSZ.out xi xm yi ym ok ok' _ (HX.out.under HB0.out) (HY.out.under HB0.out) HLX.out HLY.out).mono ?_; rintro e w9 ⟨r, rfl, hr9, hb9⟩; have HR9 := Lib.hid hr9; have HB1 := Lib.hid (HB0.out.trans (hb9.mono HB0.out.size)); clear hr9 hb9))
        all_goals
          have HW9 := Lib.hid (HW.out.trans (HB1.out.mono HW.out.size))
          rcases Bool.eq_false_or_eq_true r with rfl | rfl
          · have HT9 := Lib.hid (HNX.out (HR9.out.1 rfl))
            go_wp2_with fail
            go_roundw
            case rel => exact ⟨i + 1, by go_num, hlt, HT9, HW9⟩
            case measure => simp [intOf]; omega
          · have HN9 := Lib.hid (show a ≠ b from fun h => by have := HR9.out.2 (HDF.out h); cases this)
            go_wp2_with fail
            go_ret
            exact SamP.no (H2.out.2.2.trans (HW9.out.mono H2.out.2.2.size)) HN9.out
      · have hits : a.its = b.its := by
          have h := HT.out
          rw [List.take_of_length_le (by omega), List.take_of_length_le (by have := HE4.out; omega)] at h
          exact h
        have HITS := Lib.hid hits
        clear hits HT
        go_wp2_with fail
        clear k3 m3 hlt hi
        go_loopw [6] (fun x wz => ∃ j : Nat, x = .int .i64 (j : Int) ∧ j ≤ a.mem.length ∧ Hid (a.mem.take j = b.mem.take j) ∧ Hid (Below W.heap.size W wz)) (fun x _ => a.mem.length - (intOf x).toNat)
        case atStart => exact ⟨0, rfl, Nat.zero_le _, Lib.hid rfl, HW⟩
        case round =>
          clear HW
          obtain ⟨j, rfl, hj, HT, HZ⟩ := hrel
          by_cases hlt : j < a.mem.length
          · have hlt' : j < b.mem.length := by have := HE5.out; omega
            have k4 := (H2.out.1.below HZ.out).cell 4
            have m4 := (H2.out.2.1.below HZ.out).cell 4
            simp at k4 m4
            have hB0 := H2.out.2.2.trans (HZ.out.mono H2.out.2.2.size)
            obtain ⟨B, o, xi, xm, rfl, hcap, hB, x0, hc, hx⟩ := HME.out j hlt
            obtain ⟨B', o', yi, ym, rfl, hcap', hB', y0, hc', hy⟩ := HME'.out j hlt'
            obtain ⟨x1, x2, x3, x4, x5⟩ := hc.below hB0 hB
            obtain ⟨y1, y2, y3, y4, y5⟩ := hc'.below hB0 hB'
            replace x0 := (hB0.cell (p := ⟨B, o + j * 6, none⟩) hB).trans x0
            replace y0 := (hB0.cell (p := ⟨B', o' + j * 6, none⟩) hB').trans y0
            have hsz := hB0.size
            have HX := Lib.hid (hx.under hB0)
            have HY := Lib.hid (hy.under hB0)
            have HSZ := Lib.hid (Nat.lt_of_lt_of_le (dat_mg (List.getElem_mem hlt)) (Nat.le_of_lt_succ HD.out))
            have HLX := Lib.hid ((lim_iff.1 HLA.out).2.2.2.2 _ (List.getElem_mem hlt)).2
            have HLY := Lib.hid ((lim_iff.1 HLB.out).2.2.2.2 _ (List.getElem_mem hlt')).2
            have HNX := Lib.hid (take_step HT.out hlt hlt')
            have HDF := Lib.hid (fun (h : a = b) => (show a.mem[j] = b.mem[j] by subst h; rfl))
            clear hc hc' hx hy
            generalize a.mem[j] = tx at x0 x1 x2 x3 x4 x5 HX HSZ HLX HNX HDF
            generalize b.mem[j] = ty at y0 y1 y2 y3 y4 y5 HY HLY HNX HDF
            obtain ⟨la, x⟩ := tx
            obtain ⟨lb, y⟩ := ty
            simp only at x0 x1 x2 x3 x4 x5 y0 y1 y2 y3 y4 y5 HX HY HSZ HLX HLY HNX HDF
            have HKE := Lib.hid (fun w' (hb : Below wr.heap.size wr w') => (And.intro ((hb.cell (p := ⟨w.heap.size, 4, none⟩) (H2.out.1.below HZ.out).lt).trans k4) (And.intro ((hb.cell (p := ⟨w.heap.size + 1, 4, none⟩) (H2.out.2.1.below HZ.out).lt).trans m4) (And.intro ((hb.cell (p := ⟨B, o + j * 6, none⟩) (Nat.lt_of_lt_of_le hB hsz)).trans x0) (And.intro ((hb.cell (p := ⟨B, o + j * 6 + 1, none⟩) (Nat.lt_of_lt_of_le hB hsz)).trans x1) (And.intro ((hb.cell (p := ⟨B, o + j * 6 + 2, none⟩) (Nat.lt_of_lt_of_le hB hsz)).trans x2) (And.intro ((hb.cell (p := ⟨B, o + j * 6 + 3, none⟩) (Nat.lt_of_lt_of_le hB hsz)).trans x3) (And.intro ((hb.cell (p := ⟨B, o + j * 6 + 4, none⟩) (Nat.lt_of_lt_of_le hB hsz)).trans x4) (And.intro ((hb.cell (p := ⟨B, o + j * 6 + 5, none⟩) (Nat.lt_of_lt_of_le hB hsz)).trans x5) (And.intro ((hb.cell (p := ⟨B', o' + j * 6, none⟩) (Nat.lt_of_lt_of_le hB' hsz)).trans y0) (And.intro ((hb.cell (p := ⟨B', o' + j * 6 + 1, none⟩) (Nat.lt_of_lt_of_le hB' hsz)).trans y1) (And.intro ((hb.cell (p := ⟨B', o' + j * 6 + 2, none⟩) (Nat.lt_of_lt_of_le hB' hsz)).trans y2) (And.intro ((hb.cell (p := ⟨B', o' + j * 6 + 3, none⟩) (Nat.lt_of_lt_of_le hB' hsz)).trans y3) (And.intro ((hb.cell (p := ⟨B', o' + j * 6 + 4, none⟩) (Nat.lt_of_lt_of_le hB' hsz)).trans y4) ((hb.cell (p := ⟨B', o' + j * 6 + 5, none⟩) (Nat.lt_of_lt_of_le hB' hsz)).trans y5)))))))))))))))
            have HB0 := Lib.hid (below_drew (Below.refl wr.heap.size wr))
            have hun : undef = Value.tuple #[] := rfl
            go_upto_region 11 with fail
            by_cases hl : la = lb
            · have t1 : (la != lb) = false := by simpa using hl
              have t2 : (la == lb) = true := by simpa using hl
              have HL := Lib.hid hl
              clear hl k4 m4 x0 x1 x2 x3 x4 x5 y0 y1 y2 y3 y4 y5
              go_region_held3 (fun w' => w'.cell? ⟨w.heap.size, 4, none⟩ = some (.slice (some ⟨B, o, none⟩) a.mem.length c2) ∧ w'.cell? ⟨w.heap.size + 1, 4, none⟩ = some (.slice (some ⟨B', o', none⟩) a.mem.length c4) ∧ w'.cell? ⟨B, o + j * 6, none⟩ = some (.string (S la)) ∧ w'.cell? ⟨B, o + j * 6 + 1, none⟩ = some (.int .i64 x.k) ∧ w'.cell? ⟨B, o + j * 6 + 2, none⟩ = some (.int .i64 x.n) ∧ w'.cell? ⟨B, o + j * 6 + 3, none⟩ = some (.string (S x.s)) ∧ w'.cell? ⟨B, o + j * 6 + 4, none⟩ = some (xi) ∧ w'.cell? ⟨B, o + j * 6 + 5, none⟩ = some (xm) ∧ w'.cell? ⟨B', o' + j * 6, none⟩ = some (.string (S lb)) ∧ w'.cell? ⟨B', o' + j * 6 + 1, none⟩ = some (.int .i64 y.k) ∧ w'.cell? ⟨B', o' + j * 6 + 2, none⟩ = some (.int .i64 y.n) ∧ w'.cell? ⟨B', o' + j * 6 + 3, none⟩ = some (.string (S y.s)) ∧ w'.cell? ⟨B', o' + j * 6 + 4, none⟩ = some (yi) ∧ w'.cell? ⟨B', o' + j * 6 + 5, none⟩ = some (ym))
                (first
                  | with_reducible exact HKE.out _ HB0.out
                  | with_reducible exact HKE.out _ HB1.out
                  | go_keep)
                (first
                  | (go_at_call 12; refine (IH.out x y HSZ.out xi xm yi ym ok ok' _ (HX.out.under HB0.out) (HY.out.under HB0.out) HLX.out HLY.out).mono ?_; rintro e w9 ⟨r, rfl, hr9, hb9⟩; have HR9 := Lib.hid hr9; have HB1 := Lib.hid (HB0.out.trans (hb9.mono HB0.out.size)); clear hr9 hb9))
              all_goals
                have HW9 := Lib.hid (HZ.out.trans (HB1.out.mono HZ.out.size))
                rcases Bool.eq_false_or_eq_true r with rfl | rfl
                · have HT9 := Lib.hid (HNX.out (by rw [HL.out, HR9.out.1 rfl]))
                  go_wp2_with fail
                  go_roundw
                  case rel => exact ⟨j + 1, by go_num, hlt, HT9, HW9⟩
                  case measure => simp [intOf]; omega
                · have HN9 := Lib.hid (show a ≠ b from fun h => by have h1 := HDF.out h; injection h1 with _ h1; have := HR9.out.2 h1; cases this)
                  go_wp2_with fail
                  go_ret
                  exact SamP.no (H2.out.2.2.trans (HW9.out.mono H2.out.2.2.size)) HN9.out
            · have t1 : (la != lb) = true := by simpa using hl
              have t2 : (la == lb) = false := by simpa using hl
              have HN9 := Lib.hid (show a ≠ b from fun h => hl (by have h1 := HDF.out h; injection h1))
              clear hl
              clear HKE HB0
              have HB0 := Lib.hid hB0
              clear hB0
              go_quiet (fail)
              go_wp2_with fail
              go_ret
              exact SamP.no (below_drewN HB0.out nq) HN9.out
          · have hmem : a.mem = b.mem := by
              have h := HT.out
              rw [List.take_of_length_le (by omega), List.take_of_length_le (by have := HE5.out; omega)] at h
              exact h
            have HEQ := Lib.hid (HEX.out.2 ⟨HITS.out, hmem⟩)
            have k4 := (H2.out.1.below HZ.out).cell 4
            simp at k4
            clear hmem
            go_wp2_with fail
            go_ret
            exact ⟨true, rfl, ⟨fun _ => HEQ.out, fun _ => rfl⟩, H2.out.2.2.trans (HZ.out.mono H2.out.2.2.size)⟩
end
section
open Go.RowKit

/-- the text of the example -/
def exS : List UInt8 := [97, 46, 98, 32, 61, 32, 49, 10, 99, 91, 48, 93, 32, 61, 32, 34, 120, 34, 10]
/-- a text with a fault in its third line -/
def exF : List UInt8 := [97, 32, 61, 32, 49, 10, 10, 98, 32, 61, 32, 49, 32, 10]
theorem ex_text : textD exD = (exS, 0) := by kernel_rfl
theorem ex_parse : parseD parseP exS = (exD, 0, 0) := by kernel_rfl
theorem ex_bad : parseD parseP exF = (dat0, 19, 3) := by kernel_rfl
theorem ex_flat : (flatD exD).1.length = 2 ∧ (flatD exD).2 = 0 := ⟨by kernel_rfl, by kernel_rfl⟩
theorem ex_nil : buildD [] = (dat0, 19) := by kernel_rfl
theorem ex_lim : limD exD = true := by kernel_rfl
theorem ex_chk : chk exD 1 = 0 := by kernel_rfl
theorem ex_lab : lbD exD = true := by kernel_rfl
theorem ex_lv : (lvD exD).length = 2 := by kernel_rfl
theorem ex_len : (linesT (entsD exD)).length = 19 := by kernel_rfl
theorem flat_ok {d : Dat} (hc : chk d 1 = 0) (hb : lbD d = true) : flatD d = (entsD d, 0) := by
  unfold flatD
  rw [if_neg (by simp [hc]), if_neg (by simp [hb])]
theorem ex_lines : (flatD exD).1.length ≤ 1000 ∧ ∀ e ∈ (flatD exD).1, lineLim e := by
  rw [flat_ok ex_chk ex_lab]
  exact line_lims ex_chk ex_lab ex_lim (by rw [ex_len]; omega)
/-- data as it is handed on: its slices opened -/
theorem PrsP.open {w w' : World} {r : Dat × Nat × Nat} {e : Ending} (h : PrsP w r e w') : ∃ p cap q caq, e = .returned (.tuple #[.agg #[.int .i64 r.1.k, .int .i64 r.1.n, .string (S r.1.s), .slice p r.1.its.length cap, .slice q r.1.mem.length caq], .agg #[.int .i64 (r.2.1 : Int), .int .i64 (r.2.2 : Int)]]) ∧ Rep w' (fun B => w.heap.size ≤ B) r.1 (.slice p r.1.its.length cap) (.slice q r.1.mem.length caq) ∧ Below w.heap.size w w' := by
  obtain ⟨vi, vm, rfl, hr, hb⟩ := h
  obtain ⟨p, cap, rfl, -, -⟩ := hr.items
  obtain ⟨q, caq, rfl, -, -⟩ := hr.members
  exact ⟨p, cap, q, caq, rfl, hr, hb⟩
theorem BuildP.open {w w' : World} {r : Dat × Nat} {e : Ending} (h : BuildP w r e w') : ∃ p cap q caq, e = .returned (.tuple #[.agg #[.int .i64 r.1.k, .int .i64 r.1.n, .string (S r.1.s), .slice p r.1.its.length cap, .slice q r.1.mem.length caq], .int .i64 (r.2 : Int)]) ∧ Rep w' (fun B => w.heap.size ≤ B) r.1 (.slice p r.1.its.length cap) (.slice q r.1.mem.length caq) ∧ Below w.heap.size w w' := by
  obtain ⟨vi, vm, rfl, hr, hb⟩ := h
  obtain ⟨p, cap, rfl, -, -⟩ := hr.items
  obtain ⟨q, caq, rfl, -, -⟩ := hr.members
  exact ⟨p, cap, q, caq, rfl, hr, hb⟩
end
section
open Go.RowKit

set_option maxRecDepth 100000 in
set_option maxHeartbeats 4000000 in
theorem awake_any (w : World) (hE : StOk w) (hM : MaxOk w) : Calls Tryz.prog 10 #[] w fun e w' => e = .returned (.bool true) ∧ Below w.heap.size w w' := by
  have HE := Lib.hid hE
  have HM := Lib.hid hM
  clear hE hM
  have HN := Lib.hid HE.out.num
  go_enter Tryz.func10, Tryz.ntmps10
  go_wp2_with fail
  refine (example_any _).mono ?_
  rintro e w1 ⟨vi, vm, rfl, hr, hb⟩
  have HB1 := Lib.hid hb
  have HR1 := Lib.hid hr
  clear hb hr
  go_wp2_with fail
  refine (PText_any (d := exD) HR1.out ex_lim (by rw [ex_lv]; omega) (HN.out.below HB1.out) ex_lines).mono ?_
  rintro e w2 ⟨rfl, hb⟩
  have HB2 := Lib.hid (HB1.out.trans (hb.mono HB1.out.size))
  clear hb HB1 HR1
  rw [ex_text]
  go_wp2_with fail
  refine (PParse_any pp_ok pp_len exS (by decide) _ (HE.out.below HB2.out) (HM.out.below HB2.out)).mono ?_
  rintro e w3 hp
  rw [ex_parse] at hp
  obtain ⟨p, cap, q, caq, rfl, hr, hb⟩ := hp.open
  have HB3 := Lib.hid (HB2.out.trans (hb.mono HB2.out.size))
  have HR3 := Lib.hid hr
  clear hb hr hp HB2
  have h2 := two_new w3 #[.int .i64 exD.k, .int .i64 exD.n, .string (S exD.s), .slice p exD.its.length cap, .slice q exD.mem.length caq] #[.int .i64 0, .int .i64 0] 26 29
  go_upto_region 3 with fail
  generalize (w3.alloc (.cells #[.int .i64 exD.k, .int .i64 exD.n, .string (S exD.s), .slice p exD.its.length cap, .slice q exD.mem.length caq] 26)).alloc (.cells #[.int .i64 0, .int .i64 0] 29) = w4 at h2 ⊢
  have K4 := Lib.hid (And.intro h2.1 h2.2.1)
  have HB4 := Lib.hid (HB3.out.trans (h2.2.2.mono HB3.out.size))
  have HR4 := Lib.hid (HR3.out.under h2.2.2)
  clear h2 HB3 HR3
  go_wp2_with fail
  refine (example_any _).mono ?_
  rintro e w5 ⟨vi5, vm5, rfl, hr, hb⟩
  have HB5 := Lib.hid (HB4.out.trans (hb.mono HB4.out.size))
  have K5 := Lib.hid (And.intro (K4.out.1.below hb) (K4.out.2.below hb))
  have HR5 := Lib.hid (HR4.out.under hb)
  have HR := Lib.hid hr
  clear hb hr HB4 K4 HR4
  go_wp2_with fail
  refine (Flatten_any (d := exD) HR.out ex_lim (by rw [ex_lv]; omega)).mono ?_
  rintro e w6 ⟨v, T, rfl, ho, hT, -, hb⟩
  have hTl : T.length = 2 := by rw [← ex_flat.1, ← hT, List.length_map]
  obtain ⟨vp, vc, rfl⟩ := own_form5 ho
  rw [hTl, ex_flat.2]
  have HB6 := Lib.hid (HB5.out.trans (hb.mono HB5.out.size))
  have K6 := Lib.hid (And.intro (K5.out.1.below hb) (K5.out.2.below hb))
  have HR6 := Lib.hid (HR5.out.under hb)
  clear hb HR hT ho hTl HB5 K5 HR5
  go_wp2_with fail
  refine (PParse_any pp_ok pp_len exF (by decide) _ (HE.out.below HB6.out) (HM.out.below HB6.out)).mono ?_
  rintro e w7 hp
  rw [ex_bad] at hp
  obtain ⟨p7, cap7, q7, caq7, rfl, -, hb⟩ := hp.open
  have HB7 := Lib.hid (HB6.out.trans (hb.mono HB6.out.size))
  have K7 := Lib.hid (And.intro (K6.out.1.below hb) (K6.out.2.below hb))
  have HR7 := Lib.hid (HR6.out.under hb)
  clear hb hp HB6 K6 HR6
  have h2 := two_new w7 #[.int .i64 dat0.k, .int .i64 dat0.n, .string (S dat0.s), .slice p7 dat0.its.length cap7, .slice q7 dat0.mem.length caq7] #[.int .i64 19, .int .i64 3] 26 29
  go_upto_region 5 with fail
  generalize (w7.alloc (.cells #[.int .i64 dat0.k, .int .i64 dat0.n, .string (S dat0.s), .slice p7 dat0.its.length cap7, .slice q7 dat0.mem.length caq7] 26)).alloc (.cells #[.int .i64 19, .int .i64 3] 29) = w8 at h2 ⊢
  have HB8 := Lib.hid (HB7.out.trans (h2.2.2.mono HB7.out.size))
  have K8 := Lib.hid (And.intro (K7.out.1.below h2.2.2) (And.intro (K7.out.2.below h2.2.2) h2.2.1))
  have HR8 := Lib.hid (HR7.out.under h2.2.2)
  clear h2 HB7 K7 HR7
  go_wp2_with fail
  refine (Build_any (L := []) (ok := fun _ => True) ⟨none, 0, 0, 0, rfl, by simp, by simp⟩ ⟨by simp, by simp⟩).mono ?_
  rintro e w9 hp
  rw [ex_nil] at hp
  obtain ⟨p9, cap9, q9, caq9, rfl, -, hb⟩ := hp.open
  have HB9 := Lib.hid (HB8.out.trans (hb.mono HB8.out.size))
  have K9 := Lib.hid (And.intro (K8.out.1.below hb) (And.intro (K8.out.2.1.below hb) (K8.out.2.2.below hb)))
  have HR9 := Lib.hid (HR8.out.under hb)
  clear hb hp HB8 K8 HR8
  have hb0 := (Below.refl w9.heap.size w9).alloc (Nat.le_refl _) (.cells #[.int .i64 dat0.k, .int .i64 dat0.n, .string (S dat0.s), .slice p9 dat0.its.length cap9, .slice q9 dat0.mem.length caq9] 26)
  go_upto_region 6 with fail
  generalize w9.alloc (.cells #[.int .i64 dat0.k, .int .i64 dat0.n, .string (S dat0.s), .slice p9 dat0.its.length cap9, .slice q9 dat0.mem.length caq9] 26) = w10 at hb0 ⊢
  have HB := Lib.hid (HB9.out.trans (hb0.mono HB9.out.size))
  have k1 := K9.out.1.below hb0
  have k2 := K9.out.2.1.below hb0
  have k3 := K9.out.2.2.below hb0
  have HR := Lib.hid (HR9.out.under hb0)
  have HKE := Lib.hid (fun w' (hb : Below w10.heap.size w10 w') => (And.intro ((k1.below hb).cell 0) (And.intro ((k1.below hb).cell 1) (And.intro ((k1.below hb).cell 2) (And.intro ((k1.below hb).cell 3) (And.intro ((k1.below hb).cell 4) (And.intro ((k2.below hb).cell 0) (And.intro ((k2.below hb).cell 1) (And.intro ((k3.below hb).cell 0) ((k3.below hb).cell 1))))))))))
  simp at HKE
  have HB0 := Lib.hid (below_drew (Below.refl w10.heap.size w10))
  have t1 : (exS == [97, 46, 98, 32, 61, 32, 49, 10, 99, 91, 48, 93, 32, 61, 32, 34, 120, 34, 10]) = true := by decide
  clear HB9 K9 HR9 hb0 k1 k2 k3
  go_region_held3 (fun w' => w'.cell? ⟨w3.heap.size, 0, none⟩ = some (.int .i64 exD.k) ∧ w'.cell? ⟨w3.heap.size, 1, none⟩ = some (.int .i64 exD.n) ∧ w'.cell? ⟨w3.heap.size, 2, none⟩ = some (.string (S exD.s)) ∧ w'.cell? ⟨w3.heap.size, 3, none⟩ = some (.slice p exD.its.length cap) ∧ w'.cell? ⟨w3.heap.size, 4, none⟩ = some (.slice q exD.mem.length caq) ∧ w'.cell? ⟨w3.heap.size + 1, 0, none⟩ = some (.int .i64 0) ∧ w'.cell? ⟨w3.heap.size + 1, 1, none⟩ = some (.int .i64 0) ∧ w'.cell? ⟨w7.heap.size + 1, 0, none⟩ = some (.int .i64 19) ∧ w'.cell? ⟨w7.heap.size + 1, 1, none⟩ = some (.int .i64 3))
    (first
      | with_reducible exact HKE.out _ HB0.out
      | with_reducible exact HKE.out _ HB1.out
      | with_reducible exact HKE.out _ HB2.out
      | go_keep)
    (first
      | (go_at_call 24; refine (example_any _).mono ?_; rintro e w1 ⟨ui, um, rfl, hr, hb⟩; have HB1 := Lib.hid (HB0.out.trans (hb.mono HB0.out.size)); have HR1 := Lib.hid hr; clear hb hr; simp only [dv])
      | (go_at_call 12; refine (dSame_any (SizeOf.sizeOf exD + 1) exD exD (Nat.lt_succ_self _) _ _ _ _ _ _ _ (HR.out.under HB1.out) HR1.out ex_lim ex_lim).mono ?_; rintro e w2 ⟨r, rfl, hr, hb⟩; obtain rfl : r = true := hr.2 rfl; have HB2 := Lib.hid (HB1.out.trans (hb.mono HB1.out.size)); clear hr hb))
  all_goals
    go_wp2_with fail
    go_ret
    exact ⟨rfl, HB.out.trans (HB2.out.mono HB.out.size)⟩
end
section
open Go.RowKit

/-- whatever is not read hands back nothing -/
theorem parse_zero {pp : List UInt8 → List Stp × Nat × Nat} {l : List UInt8} (h : (parseD pp l).2.1 ≠ 0) : (parseD pp l).1 = dat0 := by
  unfold parseD at *
  split
  · rfl
  · rename_i h0
    rw [if_neg h0] at h
    cases hx : linesP pp (splitC 10 l) 1 with
    | error n => rfl
    | ok L => rw [hx] at h; exact build_zero h
theorem parse_at {pp : List UInt8 → List Stp × Nat × Nat} {l : List UInt8} (h : (parseD pp l).2.1 = 0) : (parseD pp l).2.2 = 0 := by
  unfold parseD at *
  split
  · rfl
  · rename_i h0
    rw [if_neg h0] at h
    cases hx : linesP pp (splitC 10 l) 1 with
    | error n => rw [hx] at h; cases h
    | ok L => rfl
theorem text_flat {a : Dat} (h : (textD a).2 = 0) : chk a 1 = 0 ∧ lbD a = true := by
  unfold textD at h
  by_cases h1 : (flatD a).2 = 0
  · unfold flatD at h1
    by_cases hc : chk a 1 = 0
    · rw [if_neg (by simp [hc])] at h1
      by_cases hb : lbD a = true
      · exact ⟨hc, hb⟩
      · rw [if_pos (by simpa using hb)] at h1; cases h1
    · rw [if_pos hc] at h1; exact absurd h1 hc
  · rw [if_neg h1] at h; exact absurd h h1
def pre : List UInt8 := [47, 47, 32, 102, 105, 114, 115, 116, 32, 61, 32, 49, 10, 10]
def post : List UInt8 := [10, 47, 47, 10]
/-- what the law of the lines rests on -/
theorem lines_all {l : List UInt8} (hl : l.length ≤ 600) (h : (parseD parseP l).2.1 = 0) : ∃ (a : Dat) (t : List UInt8), parseD parseP l = (a, 0, 0) ∧ parseD parseP (pre ++ l ++ post) = (a, 0, 0) ∧ textD a = (t, 0) ∧ parseD parseP t = (a, 0, 0) ∧ t.length ≤ 601 ∧ limD a = true ∧ (lvD a).length ≤ 1000000 ∧ (flatD a).1.length ≤ 1000 ∧ ∀ e ∈ (flatD a).1, lineLim e := by
  have e : parseD parseP l = ((parseD parseP l).1, 0, 0) := Prod.ext rfl (Prod.ext h (parse_at h))
  obtain ⟨h1, h2, h3, h4, h5⟩ := lines_law pp_ok hl e
  generalize (parseD parseP l).1 = b at *
  obtain ⟨hc, hb⟩ := text_flat (by rw [h2])
  obtain ⟨k1, k2⟩ := line_lims hc hb h5 (by omega)
  have hf := flat_ok hc hb
  refine ⟨b, linesT (entsD b), e, h1, h2, h3, h4, h5, ?_, ?_⟩
  · unfold entsD at k1
    rw [List.length_map] at k1; omega
  · rw [hf]; exact ⟨k1, k2⟩
end
end Go.Proofs.YtoahmganodehkaaGreatDoor
