import Derived.Test.YtoahmganodehkaaGreatDoorN01
import Derived.Test.YtoahmganodehkaaGreatDoorN11
import Derived.IntWalk
import Derived.Deep.RegionWith
import Derived.Test.YtoahmganodehkaaGreatDoorN05
import Derived.Test.YtoahmganodehkaaGreatDoorN07
import Derived.Maps.AppendAt
import Derived.Test.YtoahmganodehkaaGreatDoorN03
import Derived.LoopTactic
import Derived.Outline
import Derived.Test.YtoahmganodehkaaGreatDoorN06
import Derived.Test.YtoahmganodehkaaGreatDoorN04
namespace Go.Proofs.YtoahmganodehkaaGreatDoor
set_option linter.unusedSimpArgs false
set_option linter.unusedVariables false
section
open Go.RowKit
def BuildP (w : World) (r : Dat × Nat) (e : Ending) (w' : World) : Prop := ∃ vi vm, e = .returned (.tuple #[dv r.1 vi vm, .int .i64 (r.2 : Int)]) ∧ Rep w' (fun B => w.heap.size ≤ B) r.1 vi vm ∧ Below w.heap.size w w'
theorem BuildP.no (w : World) {w' : World} {n : Nat} (hb : Below w.heap.size w w') : BuildP w (dat0, n) (.returned (.tuple #[.agg #[.int .i64 0, .int .i64 0, .string ⟨#[]⟩, .slice none 0 0, .slice none 0 0], .int .i64 (n : Int)])) w' :=
 ⟨.slice none 0 0, .slice none 0 0, rfl, rep_leaf w' _ rfl rfl none none 0 0, hb⟩
def entLims (L : List Ent) : Prop := L.length ≤ 1000000 ∧ ∀ e ∈ L, e.1.length ≤ 1000000 ∧ limD e.2 = true ∧ ∀ x ∈ e.1, x.lab.length ≤ 1000000
set_option maxRecDepth 100000 in
set_option maxHeartbeats 8000000 in
theorem Build_any {L : List Ent} {v : Value} {ok : Nat → Prop} {w : World} (h : EntR w ok v L) (hl : entLims L) :
   Calls Tryz.prog 16 #[v] w (BuildP w (buildD L)) := by
 have HCK := Lib.hid (fun w' (hb : Below w.heap.size w w') => checkP_any (h.under hb) ⟨hl.1, fun e he => ⟨(hl.2 e he).1, (hl.2 e he).2.1⟩⟩)
 obtain ⟨p, cap, B, o, rfl, -⟩ := h.open
 have HE := Lib.hid h
 have hll := hl.1
 have HL := Lib.hid hl
 generalize hr : buildD L = r
 have HBD := Lib.hid hr
 clear h hl hr
 have hN : Blk (w.alloc (.cells #[.int .i64 0, .int .i64 0, .string ⟨#[]⟩, .slice none 0 0, .slice none 0 0] 26)) w.heap.size #[.int .i64 0, .int .i64 0, .string ⟨#[]⟩, .slice none 0 0, .slice none 0 0] 26 := Blk.new w _ _
 have hbB : Below w.heap.size w (w.alloc (.cells #[.int .i64 0, .int .i64 0, .string ⟨#[]⟩, .slice none 0 0, .slice none 0 0] 26)) := (Below.refl _ _).alloc (Nat.le_refl _) _
 have hW : w.heap.size + 1 ≤ (w.alloc (.cells #[.int .i64 0, .int .i64 0, .string ⟨#[]⟩, .slice none 0 0, .slice none 0 0] 26)).heap.size := by simp
 go_enter Tryz.func16, Tryz.ntmps16
 go_upto_region 1 with fail
 generalize w.alloc (.cells #[.int .i64 0, .int .i64 0, .string ⟨#[]⟩, .slice none 0 0, .slice none 0 0] 26) = W at hN hbB hW ⊢
 have HN := Lib.hid hN
 have HB := Lib.hid hbB
 have HW := Lib.hid hW
 clear hN hbB hW
 go_wp2_with fail
 refine (HCK.out _ HB.out).mono ?_
 rintro e w1 ⟨rfl, hb⟩
 have hN2 := HN.out.below hb
 have HN1 := Lib.hid hN2
 have HB1 := Lib.hid (HB.out.trans (hb.mono HB.out.size))
 have HW1 := Lib.hid (Nat.le_trans HW.out hb.size)
 have z0 := hN2.cell 0
 have z1 := hN2.cell 1
 have z2 := hN2.cell 2
 have z3 := hN2.cell 3
 have z4 := hN2.cell 4
 have y0 := hN2.frozen 0
 have y1 := hN2.frozen 1
 have y2 := hN2.frozen 2
 have y3 := hN2.frozen 3
 have y4 := hN2.frozen 4
 simp at z0 z1 z2 z3 z4
 have hlw := hN2.lt
 clear hb HN HB HW HCK hN2
 by_cases h1 : kindsB L = false
 · have e1 : checkE L = 11 := by unfold checkE; rw [if_pos h1]
   have HR := Lib.hid (show r = (dat0, 11) by rw [← HBD.out]; unfold buildD; rw [if_pos h1])
   rw [e1]
   clear h1 e1
   go_wp2_with fail
   refine bodyPost_ret (v := .tuple #[.agg #[.int .i64 0, .int .i64 0, .string ⟨#[]⟩, .slice none 0 0, .slice none 0 0], .int .i64 11]) (by simp [results, Tryz.results16, go_sem, z0, z1, z2, z3, z4, y0, y1, y2, y3, y4, hlw]) rfl ?_
   rw [HR.out]
   exact BuildP.no w (((((HB1.out.setCell (Nat.le_refl _) _).setCell (Nat.le_refl _) _).setCell (Nat.le_refl _) _).setCell (Nat.le_refl _) _).setCell (Nat.le_refl _) _)
 · by_cases h2 : twiceB L = true
   · have e1 : checkE L = 6 := by unfold checkE; rw [if_neg h1, if_pos h2]
     have HR := Lib.hid (show r = (dat0, 6) by rw [← HBD.out]; unfold buildD; rw [if_neg h1, if_pos h2])
     rw [e1]
     clear h1 h2 e1
     go_wp2_with fail
     refine bodyPost_ret (v := .tuple #[.agg #[.int .i64 0, .int .i64 0, .string ⟨#[]⟩, .slice none 0 0, .slice none 0 0], .int .i64 6]) (by simp [results, Tryz.results16, go_sem, z0, z1, z2, z3, z4, y0, y1, y2, y3, y4, hlw]) rfl ?_
     rw [HR.out]
     exact BuildP.no w (((((HB1.out.setCell (Nat.le_refl _) _).setCell (Nat.le_refl _) _).setCell (Nat.le_refl _) _).setCell (Nat.le_refl _) _).setCell (Nat.le_refl _) _)
   · have e1 : checkE L = 0 := by unfold checkE; rw [if_neg h1, if_neg h2]
     rw [e1]
     by_cases h3 : L = []
     · have HR := Lib.hid (show r = (dat0, 19) by rw [← HBD.out]; unfold buildD; rw [if_neg h1, if_neg h2, if_pos h3])
       have h4 : L.length = 0 := by rw [h3]; rfl
       rw [h4]
       clear h1 h2 e1 h3 h4
       go_wp2_with fail
       refine bodyPost_ret (v := .tuple #[.agg #[.int .i64 0, .int .i64 0, .string ⟨#[]⟩, .slice none 0 0, .slice none 0 0], .int .i64 19]) (by simp [results, Tryz.results16, go_sem, z0, z1, z2, z3, z4, y0, y1, y2, y3, y4, hlw]) rfl ?_
       rw [HR.out]
       exact BuildP.no w (((((HB1.out.setCell (Nat.le_refl _) _).setCell (Nat.le_refl _) _).setCell (Nat.le_refl _) _).setCell (Nat.le_refl _) _).setCell (Nat.le_refl _) _)
     · have h4 : ¬ ((L.length : Int) = 0) := by
         have := List.length_pos_iff.2 h3
         omega
       have h5 : ((L.length : Int) == 0) = false := by rw [beq_eq_false_iff_ne]; exact h4
       have hcc : noClash L := twice_iff.1 (by simpa using h2)
       have hkk : kindsB L = true := by simpa using h1
       have hek : ∀ e ∈ L, entOK e := fun e he => ⟨(kinds_all.1 hkk e he).1, (kinds_all.1 hkk e he).2, (HL.out.2 e he).2.1, (HL.out.2 e he).2.2⟩
       have HBL := Lib.hid (build_any (maxP L + 1) L _ w1 ok (HE.out.under HB1.out) h3 hcc (fun e he => ⟨hek e he, Nat.lt_succ_of_le (maxP_le he), (HL.out.2 e he).1⟩) hll)
       have HGD := Lib.hid (fun d (hd : bld (maxP L + 1) L = some d) => flat_bld _ L d hd h3 hcc hek hll)
       have HBE := Lib.hid (show (match bld (maxP L + 1) L with | none => (dat0, 19) | some d => if chk d 1 = 0 then (d, 0) else (dat0, 9)) = r by rw [← HBD.out]; unfold buildD; rw [if_neg h1, if_neg h2, if_neg h3]; cases bld (maxP L + 1) L <;> rfl)
       clear h1 h2 h3 e1 hcc hkk hek HBD
       clear z0 z1 z2 z3 z4 y0 y1 y2 y3 y4 hlw
       go_wp2_with fail
       refine HBL.out.mono ?_
       rintro e w2 ⟨vi, vm, rfl, hrep, hb⟩
       have hN2 := HN1.out.below hb
       have HB2 := Lib.hid (HB1.out.trans (hb.mono HB1.out.size))
       have HW2 := Lib.hid (Nat.le_trans HW1.out hb.size)
       clear hb h4 h5
       generalize bld (maxP L + 1) L = q at hrep HGD HBE
       rcases q with _ | d
       · have e2 : dv ((none : Option Dat).getD dat0) vi vm = .agg #[.int .i64 0, .int .i64 0, .string ⟨#[]⟩, vi, vm] := rfl
         rw [e2, Option.isSome_none]
         change Rep w2 _ dat0 vi vm at hrep
         obtain ⟨p1, cap1, rfl⟩ : ∃ p c, vi = .slice p 0 c := by
           obtain ⟨p, c, e, -⟩ := hrep.items
           exact ⟨p, c, e⟩
         obtain ⟨q1, caq1, rfl⟩ : ∃ p c, vm = .slice p 0 c := by
           obtain ⟨p, c, e, -⟩ := hrep.members
           exact ⟨p, c, e⟩
         have HR := Lib.hid (show r = (dat0, 19) from HBE.out.symm)
         have hN2 := hN2.alloc (.cells #[.int .i64 0, .int .i64 0, .string ⟨#[]⟩, .slice p1 0 cap1, .slice q1 0 caq1] 26)
         have HB3 := Lib.hid (below_al1 HB2.out (Nat.le_refl _) (.cells #[.int .i64 0, .int .i64 0, .string ⟨#[]⟩, .slice p1 0 cap1, .slice q1 0 caq1] 26))
         clear e2 hrep HB2
         go_upto_region 7 with fail
         generalize w2.alloc (.cells #[.int .i64 0, .int .i64 0, .string ⟨#[]⟩, .slice p1 0 cap1, .slice q1 0 caq1] 26) = W3 at hN2 HB3 ⊢
         have z0 := hN2.cell 0
         have z1 := hN2.cell 1
         have z2 := hN2.cell 2
         have z3 := hN2.cell 3
         have z4 := hN2.cell 4
         have y0 := hN2.frozen 0
         have y1 := hN2.frozen 1
         have y2 := hN2.frozen 2
         have y3 := hN2.frozen 3
         have y4 := hN2.frozen 4
         simp at z0 z1 z2 z3 z4
         have hlw := hN2.lt
         clear hN2
         go_wp2_with fail
         refine bodyPost_ret (v := .tuple #[.agg #[.int .i64 0, .int .i64 0, .string ⟨#[]⟩, .slice none 0 0, .slice none 0 0], .int .i64 19]) (by simp [results, Tryz.results16, go_sem, z0, z1, z2, z3, z4, y0, y1, y2, y3, y4, hlw]) rfl ?_
         rw [HR.out]
         exact BuildP.no w (((((HB3.out.setCell (Nat.le_refl _) _).setCell (Nat.le_refl _) _).setCell (Nat.le_refl _) _).setCell (Nat.le_refl _) _).setCell (Nat.le_refl _) _)
       · have e2 : dv ((some d : Option Dat).getD dat0) vi vm = .agg #[.int .i64 d.k, .int .i64 d.n, .string (S d.s), vi, vm] := rfl
         rw [e2, Option.isSome_some]
         change Rep w2 _ d vi vm at hrep
         obtain ⟨p1, cap1, rfl, -, -⟩ := hrep.items
         obtain ⟨q1, caq1, rfl, -, -⟩ := hrep.members
         have hD := (HGD.out d rfl).2.2.1
         have hK := Blk.new w2 #[.int .i64 d.k, .int .i64 d.n, .string (S d.s), .slice p1 d.its.length cap1, .slice q1 d.mem.length caq1] 26
         have hN2 := hN2.alloc (.cells #[.int .i64 d.k, .int .i64 d.n, .string (S d.s), .slice p1 d.its.length cap1, .slice q1 d.mem.length caq1] 26)
         have hb3 := below_al1 HB2.out (Nat.le_refl _) (.cells #[.int .i64 d.k, .int .i64 d.n, .string (S d.s), .slice p1 d.its.length cap1, .slice q1 d.mem.length caq1] 26)
         have hx3 := hrep.under ((Below.refl _ _).alloc (Nat.le_refl _) (.cells #[.int .i64 d.k, .int .i64 d.n, .string (S d.s), .slice p1 d.its.length cap1, .slice q1 d.mem.length caq1] 26))
         clear e2 hrep HB2
         go_upto_region 9 with fail
         generalize w2.alloc (.cells #[.int .i64 d.k, .int .i64 d.n, .string (S d.s), .slice p1 d.its.length cap1, .slice q1 d.mem.length caq1] 26) = W3 at hK hN2 hb3 hx3 ⊢
         have HN3 := Lib.hid hN2
         have HK3 := Lib.hid hK
         have HB3 := Lib.hid hb3
         have HX3 := Lib.hid hx3
         have k0 := hK.cell 0
         have k1 := hK.cell 1
         have k2 := hK.cell 2
         have k3 := hK.cell 3
         have k4 := hK.cell 4
         simp at k0 k1 k2 k3 k4
         have HD := Lib.hid hD
         clear hK hN2 hb3 hx3 hD
         go_wp2_with fail
         refine (Check_any HX3.out HD.out).mono ?_
         rintro e w4 ⟨rfl, hb⟩
         have hN2 := HN3.out.below hb
         have hK := HK3.out.below hb
         have HB4 := Lib.hid (HB3.out.trans (hb.mono HB3.out.size))
         have HX4 := Lib.hid (HX3.out.under hb)
         clear hb k0 k1 k2 k3 k4
         have z0 := hN2.cell 0
         have z1 := hN2.cell 1
         have z2 := hN2.cell 2
         have z3 := hN2.cell 3
         have z4 := hN2.cell 4
         have y0 := hN2.frozen 0
         have y1 := hN2.frozen 1
         have y2 := hN2.frozen 2
         have y3 := hN2.frozen 3
         have y4 := hN2.frozen 4
         simp at z0 z1 z2 z3 z4
         have hlw := hN2.lt
         clear hN2
         by_cases hc : chk d 1 = 0
         · have HR := Lib.hid (show r = (d, 0) by rw [← HBE.out]; simp only [if_pos hc])
           rw [hc]
           have k0 := hK.cell 0
           have k1 := hK.cell 1
           have k2 := hK.cell 2
           have k3 := hK.cell 3
           have k4 := hK.cell 4
           simp at k0 k1 k2 k3 k4
           have hR5 := ((((HX4.out.set ⟨w.heap.size, 0, none⟩ (.int .i64 d.k) (fun B hB e => by have := HW1.out; simp at e; omega)).set ⟨w.heap.size, 1, none⟩ (.int .i64 d.n) (fun B hB e => by have := HW1.out; simp at e; omega)).set ⟨w.heap.size, 2, none⟩ (.string (S d.s)) (fun B hB e => by have := HW1.out; simp at e; omega)).set ⟨w.heap.size, 3, none⟩ (.slice p1 d.its.length cap1) (fun B hB e => by have := HW1.out; simp at e; omega)).set ⟨w.heap.size, 4, none⟩ (.slice q1 d.mem.length caq1) (fun B hB e => by have := HW1.out; simp at e; omega)
           have HR5 := Lib.hid (hR5.mono (ok' := fun B => w.heap.size ≤ B) fun B _ hB => by have := HW1.out; omega)
           clear hK hR5 hc
           go_wp2_with fail
           refine bodyPost_ret (v := .tuple #[.agg #[.int .i64 d.k, .int .i64 d.n, .string (S d.s), .slice p1 d.its.length cap1, .slice q1 d.mem.length caq1], .int .i64 0]) (by simp [results, Tryz.results16, go_sem, z0, z1, z2, z3, z4, y0, y1, y2, y3, y4, hlw]) rfl ?_
           rw [HR.out]
           exact ⟨_, _, rfl, HR5.out, ((((HB4.out.setCell (Nat.le_refl _) _).setCell (Nat.le_refl _) _).setCell (Nat.le_refl _) _).setCell (Nat.le_refl _) _).setCell (Nat.le_refl _) _⟩
         · have HR := Lib.hid (show r = (dat0, 9) by rw [← HBE.out]; simp only [if_neg hc])
           have c1 : ((chk d 1 : Int) != 0) = true := by simp; omega
           have c2 : ¬ ((chk d 1 : Int) = 0) := by omega
           clear hc hK
           go_wp2_with fail
           refine bodyPost_ret (v := .tuple #[.agg #[.int .i64 0, .int .i64 0, .string ⟨#[]⟩, .slice none 0 0, .slice none 0 0], .int .i64 9]) (by simp [results, Tryz.results16, go_sem, z0, z1, z2, z3, z4, y0, y1, y2, y3, y4, hlw]) rfl ?_
           rw [HR.out]
           exact BuildP.no w (((((HB4.out.setCell (Nat.le_refl _) _).setCell (Nat.le_refl _) _).setCell (Nat.le_refl _) _).setCell (Nat.le_refl _) _).setCell (Nat.le_refl _) _)
end
section
open Go.RowKit
def MaxOk (w : World) : Prop := ∃ m : Int, w.cell? ⟨0, 0, none⟩ = some (.int .i64 m)
theorem MaxOk.below {w w' : World} (h : MaxOk w) (hb : Below w.heap.size w w') : MaxOk w' := by
 obtain ⟨m, hc⟩ := h
 have hlt : 0 < w.heap.size := by
   rcases Nat.lt_or_ge 0 w.heap.size with hl | hl
   · exact hl
   · exfalso; simp [World.cell?, Array.getElem?_eq_none hl] at hc
 exact ⟨m, (hb.cell (p := ⟨0, 0, none⟩) hlt).trans hc⟩
theorem SlF.slk {N : Nat} {W : World} {v : Value} {L : List Stp} (h : SlF N W v L) : SlK W (fun B => N ≤ B) v L := by
 rcases h with ⟨⟨p, cap, rfl⟩, rfl⟩ | ⟨B, o, cap, rfl, h1, h2, h3, h4⟩
 · exact ⟨p, cap, 0, 0, rfl, fun h => by simp at h, fun j h => by simp at h⟩
 · exact ⟨_, cap, B, o, rfl, fun _ => ⟨rfl, h2, h3, h1⟩, fun j h => h4 j _ (List.getElem?_eq_getElem h)⟩
theorem SlK.set {W : World} {ok : Nat → Prop} {v : Value} {L : List Stp} (h : SlK W ok v L) (a : Addr) (v' : Value) (hne : ∀ B, ok B → a.block ≠ B) : SlK (W.setCell a v') ok v L :=
 h.kept (by show W.heap.size ≤ (W.heap.modify _ _).size; simp) fun B _ hk => ⟨hk, fun o => World.cell?_of_block (a := ⟨B, o, none⟩) (set_block (hne B hk))⟩
theorem SlK.six {W : World} {N : Nat} {v : Value} {L : List Stp} (h : SlK W (fun B => N < B) v L) (a b c d e f : Value) : SlK ((((((W.setCell ⟨N, 0, none⟩ a).setCell ⟨N, 1, none⟩ b).setCell ⟨N, 2, none⟩ c).setCell ⟨N, 3, none⟩ d).setCell ⟨N, 4, none⟩ e).setCell ⟨N, 5, none⟩ f) (fun B => N ≤ B) v L := by
 have hh : ∀ (i B : Nat), N < B → (⟨N, i, none⟩ : Addr).block ≠ B := fun i B hB e => by simp at e; omega
 exact ((((((h.set _ _ (hh 0)).set _ _ (hh 1)).set _ _ (hh 2)).set _ _ (hh 3)).set _ _ (hh 4)).set _ _ (hh 5)).mono fun B _ hB => Nat.le_of_lt hB
theorem SlK.drew {W : World} {ok : Nat → Prop} {v : Value} {L : List Stp} (h : SlK W ok v L) : SlK W.drew ok v L := h
def EntP (w : World) (r : Option Ent) (e : Ending) (w' : World) : Prop :=
 ∃ pv k n s, (∃ p l c, pv = .slice p l c) ∧ e = .returned (.tuple #[.agg #[pv, .int .i64 k, .int .i64 n, .string (S s), .slice none 0 0, .slice none 0 0], .bool r.isSome]) ∧
   (∀ x, r = some x → SlK w' (fun B => w.heap.size ≤ B) pv x.1 ∧ x.2 = .mk k n s [] []) ∧ Below w.heap.size w w'
theorem entryP_eq (pp : List UInt8 → List Stp × Nat × Nat) (s : List UInt8) : entryP pp s = (match scanE s (s.length + 1 - 0) 0 with | none => none | some (i, d) => if (pp (s.take i)).2.1 = 0 then some ((pp (s.take i)).1, d) else none) := rfl
set_option maxRecDepth 100000 in
set_option maxHeartbeats 8000000 in
theorem entry_any (l : List UInt8) (hl : l.length ≤ 65536) (w : World) (hE : StOk w) (hM : MaxOk w) :
   Calls Tryz.prog 27 #[.string (S l)] w (EntP w (entryP parseP l)) := by
 have HEQ := Lib.hid (entryP_eq parseP l)
 generalize entryP parseP l = r at HEQ ⊢
 have HE := Lib.hid hE
 have HM := Lib.hid hM
 clear hE hM
 have hN : Blk (w.alloc (.cells #[.slice none 0 0, .int .i64 0, .int .i64 0, .string ⟨#[]⟩, .slice none 0 0, .slice none 0 0] 42)) w.heap.size #[.slice none 0 0, .int .i64 0, .int .i64 0, .string ⟨#[]⟩, .slice none 0 0, .slice none 0 0] 42 := Blk.new w _ _
 have hb : Below w.heap.size w (w.alloc (.cells #[.slice none 0 0, .int .i64 0, .int .i64 0, .string ⟨#[]⟩, .slice none 0 0, .slice none 0 0] 42)) := (Below.refl _ _).alloc (Nat.le_refl _) _
 go_enter Tryz.func27, Tryz.ntmps27
 go_upto_region 1 with fail
 generalize w.alloc (.cells #[.slice none 0 0, .int .i64 0, .int .i64 0, .string ⟨#[]⟩, .slice none 0 0, .slice none 0 0] 42) = W at hN hb ⊢
 have HN := Lib.hid hN
 have HB := Lib.hid hb
 clear hN hb
 go_wp2_with fail
 go_loopw [4] (fun x wr => ∃ a : Nat, x = .int .i64 (a : Int) ∧ a ≤ l.length ∧ Hid (r = (match scanE l (l.length + 1 - a) a with | none => none | some (i, d) => if (parseP (l.take i)).2.1 = 0 then some ((parseP (l.take i)).1, d) else none)) ∧ Hid (Blk wr w.heap.size #[.slice none 0 0, .int .i64 0, .int .i64 0, .string ⟨#[]⟩, .slice none 0 0, .slice none 0 0] 42) ∧ Hid (Below w.heap.size w wr)) (fun x _ => l.length + 1 - (intOf x).toNat)
 case atStart => exact ⟨0, rfl, Nat.zero_le _, HEQ, HN, HB⟩
 case round =>
   clear HEQ HN HB
   obtain ⟨a, rfl, ha, HQ, HN, HB⟩ := hrel
   obtain ⟨m, hm⟩ := HM.out.below HB.out
   have HMM := Lib.hid hm
   have HIX := Lib.hid (show Lib.index (S (sl l a l.length)).data.toList (ByteArray.mk #[32, 61, 32]).data.toList = Lib.index (l.drop a) btw by rw [S_data, sl_from]; rfl)
   have a1 : (0 : Int) ≤ (a : Int) := by omega
   have a2 : (a : Int) ≤ (l.length : Int) := by omega
   have hsz : (S (sl l a l.length)).size < 4294967281 := by rw [S_size, sl_from, List.length_drop]; omega
   have HSZ := Lib.hid hsz
   clear hm hsz
   rcases scan_look l a ha with ⟨h1, h2⟩ | ⟨n, h1, h2, h3⟩
   · have HR := Lib.hid (show r = none by rw [HQ.out, h2])
     have H1 := Lib.hid h1
     clear h1 h2
     go_wp2_with fail
     refine (Tryz.strings_Index (S (sl l a l.length)) (ByteArray.mk #[32, 61, 32]) m _ HSZ.out HMM.out).mono ?_
     rintro e w1 ⟨rfl, rfl⟩
     rw [HIX.out, H1.out]
     have z0 := HN.out.cell 0
     have y0 := HN.out.frozen 0
     have z1 := HN.out.cell 1
     have y1 := HN.out.frozen 1
     have z2 := HN.out.cell 2
     have y2 := HN.out.frozen 2
     have z3 := HN.out.cell 3
     have y3 := HN.out.frozen 3
     have z4 := HN.out.cell 4
     have y4 := HN.out.frozen 4
     have z5 := HN.out.cell 5
     have y5 := HN.out.frozen 5
     simp at z0 z1 z2 z3 z4 z5
     have hzl := HN.out.lt
     go_wp2_with fail
     refine bodyPost_ret (v := .tuple #[.agg #[.slice none 0 0, .int .i64 0, .int .i64 0, .string ⟨#[]⟩, .slice none 0 0, .slice none 0 0], .bool false]) (by simp [results, Tryz.results27, go_sem, z0, z1, z2, z3, z4, z5, y0, y1, y2, y3, y4, y5, hzl]) rfl ?_
     rw [HR.out]
     refine ⟨.slice none 0 0, 0, 0, [], ⟨_, _, _, rfl⟩, rfl, (fun x h => nomatch h), ?_⟩
     have hbw := HB.out
     go_grown
     all_goals exact hbw
   · have HQ1 := Lib.hid (show r = (match scalarP (l.drop (a + n + 3)) with | some d => (if (parseP (l.take (a + n))).2.1 = 0 then some ((parseP (l.take (a + n))).1, d) else none) | none => (match scanE l (l.length + 1 - (a + n + 1)) (a + n + 1) with | none => none | some (i, d) => if (parseP (l.take i)).2.1 = 0 then some ((parseP (l.take i)).1, d) else none)) by
       rw [HQ.out, h3]; cases scalarP (l.drop (a + n + 3)) <;> rfl)
     have H1 := Lib.hid h1
     have n0 : ¬ ((n : Int) < 0) := by omega
     have n1 : decide ((n : Int) < 0) = false := decide_eq_false n0
     have w1' : IntKind.i64.wrap ((a : Int) + (n : Int)) = (a : Int) + (n : Int) := IntWalk.i64_in _ (by omega)
     have w2' : IntKind.i64.wrap ((a : Int) + (n : Int) + 3) = (a : Int) + (n : Int) + 3 := IntWalk.i64_in _ (by omega)
     have w3' : IntKind.i64.wrap ((n : Int) + 1) = (n : Int) + 1 := IntWalk.i64_in _ (by omega)
     have w4' : IntKind.i64.wrap ((a : Int) + ((n : Int) + 1)) = (a : Int) + ((n : Int) + 1) := IntWalk.i64_in _ (by omega)
     have b1 : (0 : Int) ≤ (a : Int) + (n : Int) + 3 := by omega
     have b2 : (a : Int) + (n : Int) + 3 ≤ (l.length : Int) := by omega
     have b3 : ((a : Int) + (n : Int) + 3).toNat = a + n + 3 := by omega
     have b4 : (0 : Int) ≤ (a : Int) + (n : Int) := by omega
     have b5 : (a : Int) + (n : Int) ≤ (l.length : Int) := by omega
     have b6 : ((a : Int) + (n : Int)).toNat = a + n := by omega
     have HDR := Lib.hid (sl_from l (a + n + 3))
     have HTK := Lib.hid (sl_to l (a + n))
     have HDL := Lib.hid (show (sl l (a + n + 3) l.length).length ≤ 1000000 by rw [sl_from, List.length_drop]; omega)
     have HTL := Lib.hid (show (sl l 0 (a + n)).length ≤ 70000 by rw [sl_to, List.length_take]; omega)
     rw [← HDR.out, ← HTK.out] at HQ1
     clear h1 h3 HQ
     go_wp2_with fail
     refine (Tryz.strings_Index (S (sl l a l.length)) (ByteArray.mk #[32, 61, 32]) m _ HSZ.out HMM.out).mono ?_
     rintro e w1 ⟨rfl, rfl⟩
     rw [HIX.out, H1.out]
     clear HIX H1 HMM HSZ
     go_wp2_with fail
     refine (scalar_any (sl l (a + n + 3) l.length) HDL.out _ (HE.out.below HB.out)).mono ?_
     rintro e w2 ⟨k, nn, s, rfl, hd, hb⟩
     have HN2 := Lib.hid (HN.out.below hb)
     have HB2 := Lib.hid (HB.out.trans (hb.mono HB.out.size))
     have HD := Lib.hid hd
     generalize scalarP (sl l (a + n + 3) l.length) = q at HQ1 HD
     clear hb hd HN HB
     have hN3 := HN2.out.alloc (.cells #[.int .i64 k, .int .i64 nn, .string (S s), .slice none 0 0, .slice none 0 0] 26)
     have hK3 := Blk.new w2 #[.int .i64 k, .int .i64 nn, .string (S s), .slice none 0 0, .slice none 0 0] 26
     have hB3 := HB2.out.alloc HB2.out.size (.cells #[.int .i64 k, .int .i64 nn, .string (S s), .slice none 0 0, .slice none 0 0] 26)
     rcases q with _ | d
     · have HQ2 := Lib.hid (show r = (match scanE l (l.length + 1 - (a + n + 1)) (a + n + 1) with | none => none | some (i, d) => if (parseP (l.take i)).2.1 = 0 then some ((parseP (l.take i)).1, d) else none) from HQ1.out)
       rw [Option.isSome_none]
       have HN3 := Lib.hid hN3
       have HB3 := Lib.hid hB3
       clear hN3 hK3 hB3 HQ1
       go_wp2_with fail
       go_roundw
       case rel => exact ⟨a + n + 1, by go_num, by omega, HQ2, HN3, HB3⟩
       case measure => simp [intOf]; omega
     · have HQ2 := Lib.hid (show r = if (parseP (sl l 0 (a + n))).2.1 = 0 then some ((parseP (sl l 0 (a + n))).1, d) else none from HQ1.out)
       have hd : d = .mk k nn s [] [] := HD.out d rfl
       rw [Option.isSome_some]
       go_upto_region 6 with fail
       generalize w2.alloc (.cells #[.int .i64 k, .int .i64 nn, .string (S s), .slice none 0 0, .slice none 0 0] 26) = W3 at hN3 hK3 hB3 ⊢
       have HN3 := Lib.hid hN3
       have HK3 := Lib.hid hK3
       have HB3 := Lib.hid hB3
       have HDD := Lib.hid hd
       clear hN3 hK3 hB3 HQ1 hd HN2 HB2 HD
       go_wp2_with fail
       refine (Parse_any (sl l 0 (a + n)) HTL.out _ (HE.out.below HB3.out)).mono ?_
       rintro e w4 ⟨pv, rfl, hpv, hb⟩
       have hpk := hpv.slk.mono (ok' := fun B => w.heap.size < B) fun B _ hB => Nat.lt_of_lt_of_le HN3.out.lt hB
       generalize parseP (sl l 0 (a + n)) = pr at HQ2 hpv hpk
       obtain ⟨P, en, ep⟩ := pr
       simp only at HQ2 hpv hpk ⊢
       obtain ⟨pp, pc, rfl⟩ := slk_form hpk
       have hlt5 : w.heap.size < w4.heap.size := (HN3.out.below hb).lt
       have e1 : ¬ (w.heap.size = w4.heap.size) := by omega
       have e2 : ¬ (w4.heap.size = w.heap.size) := by omega
       have e3 : (w.heap.size == w4.heap.size) = false := by rw [beq_eq_false_iff_ne]; exact e1
       have e4 : (w4.heap.size == w.heap.size) = false := by rw [beq_eq_false_iff_ne]; exact e2
       have hF := Blk.new w4 #[.int .i64 (en : Int), .int .i64 (ep : Int)] 29
       have hN5 := (HN3.out.below hb).alloc (.cells #[.int .i64 (en : Int), .int .i64 (ep : Int)] 29)
       have hK5 := (HK3.out.below hb).alloc (.cells #[.int .i64 (en : Int), .int .i64 (ep : Int)] 29)
       have hb5 := (Below.refl w4.heap.size w4).alloc (Nat.le_refl _) (.cells #[.int .i64 (en : Int), .int .i64 (ep : Int)] 29)
       have hB5 := (HB3.out.trans (hb.mono HB3.out.size)).trans (hb5.mono (HB3.out.trans (hb.mono HB3.out.size)).size)
       have HP5 := Lib.hid (hpk.under hb5)
       clear hpv hpk hb hb5 HN3 HK3 HB3
       go_upto_region 8 with fail
       generalize w4.alloc (.cells #[.int .i64 (en : Int), .int .i64 (ep : Int)] 29) = W5 at hF hN5 hK5 hB5 HP5 ⊢
       have f0 := hF.cell 0
       have k0 := hK5.cell 0
       have k1 := hK5.cell 1
       have k2 := hK5.cell 2
       have k3 := hK5.cell 3
       have k4 := hK5.cell 4
       simp at f0 k0 k1 k2 k3 k4
       have z0 := hN5.cell 0
       have y0 := hN5.frozen 0
       have z1 := hN5.cell 1
       have y1 := hN5.frozen 1
       have z2 := hN5.cell 2
       have y2 := hN5.frozen 2
       have z3 := hN5.cell 3
       have y3 := hN5.frozen 3
       have z4 := hN5.cell 4
       have y4 := hN5.frozen 4
       have z5 := hN5.cell 5
       have y5 := hN5.frozen 5
       simp at z0 z1 z2 z3 z4 z5
       have hzl := hN5.lt
       have HB5 := Lib.hid hB5
       clear hF hN5 hK5 hB5
       by_cases hen : en = 0
       · have HR := Lib.hid (show r = some (P, d) by rw [HQ2.out, if_pos hen])
         subst hen
         have f1 : W5.cell? ⟨w4.heap.size, 0, none⟩ = some (.int .i64 0) := f0
         clear f0
         go_region
         all_goals
           go_wp2_with fail
           refine bodyPost_ret (v := .tuple #[.agg #[.slice pp P.length pc, .int .i64 k, .int .i64 nn, .string (S s), .slice none 0 0, .slice none 0 0], .bool true]) (by simp [results, Tryz.results27, go_sem, z0, z1, z2, z3, z4, z5, y0, y1, y2, y3, y4, y5, hzl]) rfl ?_
           rw [HR.out]
           refine ⟨.slice pp P.length pc, k, nn, s, ⟨_, _, _, rfl⟩, rfl, fun x hx => by injection hx with hx; subst hx; exact ⟨(HP5.out.six _ _ _ _ _ _).drew, HDD.out⟩, ?_⟩
           have hbw := HB5.out
           go_grown
           all_goals exact hbw
       · have HR := Lib.hid (show r = none by rw [HQ2.out, if_neg hen])
         have c1 : ((en : Int) == 0) = false := by rw [beq_eq_false_iff_ne]; omega
         have c2 : ¬ ((en : Int) = 0) := by omega
         clear hen
         go_region
         all_goals
           go_wp2_with fail
           refine bodyPost_ret (v := .tuple #[.agg #[.slice pp P.length pc, .int .i64 k, .int .i64 nn, .string (S s), .slice none 0 0, .slice none 0 0], .bool false]) (by simp [results, Tryz.results27, go_sem, z0, z1, z2, z3, z4, z5, y0, y1, y2, y3, y4, y5, hzl]) rfl ?_
           rw [HR.out]
           refine ⟨.slice pp P.length pc, k, nn, s, ⟨_, _, _, rfl⟩, rfl, (fun x h => nomatch h), ?_⟩
           have hbw := HB5.out
           go_grown
           all_goals exact hbw
end
section
open Go.RowKit
def apE (N0 Bl : Nat) (v : Value) (B : Nat) : Prop := N0 ≤ B ∧ B ≠ Bl ∧ some B ≠ v.ownBlock
theorem Env.good.mono {W : World} {ok ok' : Nat → Prop} {t : Env} (h : t.good W ok) (hk : ∀ B, B < W.heap.size → ok B → ok' B) : t.good W ok' := ⟨h.1.mono hk, h.2.mono hk⟩
theorem Env.good.grown {W W' : World} {ok : Nat → Prop} {row : Option Nat} {t : Env} (h : t.good W ok) (hg : W.grownBy W' row) (hk : ∀ B, ok B → some B ≠ row) : t.good W' ok := ⟨h.1.grown hg hk, h.2.grown hg hk⟩
theorem Env.good.under {W W' : World} {ok : Nat → Prop} {t : Env} (h : t.good W ok) (hb : Below W.heap.size W W') : t.good W' ok := ⟨h.1.under hb, h.2.under hb⟩
theorem Env.good.set {W : World} {ok : Nat → Prop} {t : Env} (h : t.good W ok) (a : Addr) (v : Value) (hne : ∀ B, ok B → a.block ≠ B) : t.good (W.setCell a v) ok := ⟨h.1.set a v hne, h.2.set a v hne⟩
structure EnS (w w0 : World) (Bl N : Nat) (v : Value) (T : List Env) (W : World) : Prop where
 cap : Blk W Bl #[v] 37
 own : W.ownsRow N 42 6 v T.length (flatE T)
 good : ∀ t ∈ T, t.good W (apE w.heap.size Bl v)
 nr : w.heap.size ≤ Bl ∧ Bl < N ∧ N ≤ W.heap.size
 bel : Below w.heap.size w W
 keep : ∀ B, B < N → B ≠ Bl → W.heap[B]? = w0.heap[B]?
theorem EnS.under {w w0 : World} {Bl N : Nat} {v : Value} {T : List Env} {W W' : World} (h : EnS w w0 Bl N v T W) (hb : Below W.heap.size W W') : EnS w w0 Bl N v T W' :=
 ⟨h.cap.below hb, own_under h.own hb, fun t ht => (h.good t ht).under hb, ⟨h.nr.1, h.nr.2.1, Nat.le_trans h.nr.2.2 hb.size⟩, h.bel.trans (hb.mono h.bel.size), fun B h1 h2 => (hb.block B (Nat.lt_of_lt_of_le h1 h.nr.2.2)).trans (h.keep B h1 h2)⟩
theorem EnS.push {w w0 : World} {Bl N : Nat} {v v' : Value} {T : List Env} {W W1 : World} (h : EnS w w0 Bl N v T W) {t : Env} (ht : t.good W (apE w.heap.size Bl v))
   (ho : W1.ownsRow N 42 6 v' (T.length + 1) (flatE T ++ cellsE t)) (hg : W.grownBy W1 v.ownBlock) (ha : v'.ownBlock = v.ownBlock ∨ ∃ b, v'.ownBlock = some b ∧ W.heap.size ≤ b) :
   EnS w w0 Bl N v' (T ++ [t]) (W1.setCell ⟨Bl, 0, none⟩ v') := by
 obtain ⟨n1, n2, n3⟩ := h.nr
 have hr : ∀ B, B < N → some B ≠ v.ownBlock := fun B hB e => by have := (own_ge h.own e.symm).1; omega
 have hv' : v'.ownBlock ≠ some Bl := by
   rcases own_two ho with e | ⟨g, e, h1, -⟩
   · rw [e]; simp
   · rw [e]; intro e2; injection e2; omega
 have hmono : ∀ {u : Env}, u.good W (apE w.heap.size Bl v) → u.good (W1.setCell ⟨Bl, 0, none⟩ v') (apE w.heap.size Bl v') := fun hd => by
   have h1 := hd.mono (ok' := fun B => apE w.heap.size Bl v' B ∧ some B ≠ v.ownBlock) (fun B hB ⟨a, b, d⟩ => ⟨⟨a, b, by
     rcases ha with e1 | ⟨b1, e1, h2⟩
     · rw [e1]; exact d
     · rw [e1]; intro e2; injection e2; omega⟩, d⟩)
   have h2 := h1.grown hg fun B hB => hB.2
   have h3 := h2.mono (ok' := apE w.heap.size Bl v') fun B _ hB => hB.1
   exact h3.set _ _ fun B hB => fun e => hB.2.1 e.symm
 refine ⟨(h.cap.kept hg (hr Bl (by omega))).set 0 v', ?_, ?_, ⟨n1, n2, ?_⟩, ?_, ?_⟩
 · rw [List.length_append, flatE_snoc]
   exact own_set_other ho hv' _ _
 · intro u hu
   rcases List.mem_append.1 hu with hu | hu
   · exact hmono (h.good u hu)
   · rw [List.mem_singleton.1 hu]; exact hmono ht
 · have := hg.size
   simp; omega
 · refine (h.bel.grown hg h.bel.size ?_).setCell ?_ _
   · intro b hb
     have := (own_ge h.own hb).1
     omega
   · show w.heap.size ≤ Bl
     omega
 · intro B h1 h2
   rw [set_block (a := ⟨Bl, 0, none⟩) (fun e => h2 e.symm), hg.block B (Nat.lt_of_lt_of_le h1 n3) (hr B h1)]
   exact h.keep B h1 h2
theorem EnS.apart {w w0 : World} {Bl N : Nat} {v : Value} {T : List Env} {W : World} (h : EnS w w0 Bl N v T W) {K B : Nat} (hK : W.heap.size ≤ K) (hB : K ≤ B) : apE w.heap.size Bl v B := by
 obtain ⟨n1, n2, n3⟩ := h.nr
 exact ⟨by omega, by omega, fun e => by have := (own_ge h.own e.symm).2; omega⟩
theorem EnS.ents {w w0 : World} {Bl N : Nat} {v : Value} {T : List Env} {W : World} (h : EnS w w0 Bl N v T W) : EntR W (fun _ => True) v (T.map Env.e) :=
 own_ents h.own (fun _ _ => trivial) fun t ht => (h.good t ht).mono fun _ _ _ => trivial
def ReaP (w w0 : World) (Bl N : Nat) (T : List Env) (skip : Bool) (r : Option Ent) (e : Ending) (W' : World) : Prop :=
 e = .returned (.bool (skip || r.isSome)) ∧ Below w.heap.size w W' ∧ ((skip || r.isSome) = true → ∃ v' T', EnS w w0 Bl N v' T' W' ∧ T'.map Env.e = T.map Env.e ++ (if skip then [] else r.toList))
end
section
open Go.RowKit
set_option maxRecDepth 100000 in
set_option maxHeartbeats 8000000 in
theorem read_any {w w0 W : World} {Bl N : Nat} {v : Value} {T : List Env} (l : List UInt8) (hl : l.length ≤ 65536) (h : EnS w w0 Bl N v T W) (hT : T.length < 1000000) (hE : StOk W) (hM : MaxOk W) :
   Calls Tryz.prog 25 #[.string (S l), .pointer (some ⟨Bl, 0, none⟩)] W (ReaP w w0 Bl N T (skipB l) (entryP parseP l)) := by
 obtain ⟨i0, hi, hz0, hz1, hz2⟩ := info_parts infoEnt
 have HS := Lib.hid h
 have HE := Lib.hid hE
 have HM := Lib.hid hM
 clear h hE hM
 have HK0 := Lib.hid (show skipB l = (l.isEmpty || [47, 47].isPrefixOf l) from rfl)
 generalize skipB l = sk at HK0 ⊢
 generalize hr : entryP parseP l = r
 have HRE := Lib.hid hr
 clear hr
 rcases Bool.eq_false_or_eq_true l.isEmpty with h0 | h0
 · have hl0 : l = [] := by simpa using h0
   have HK := Lib.hid (show sk = true by rw [HK0.out, h0]; rfl)
   subst hl0
   clear h0
   go_enter Tryz.func25, Tryz.ntmps25
   go_wp2_with fail
   go_ret
   rw [HK.out]
   exact ⟨rfl, HS.out.bel, fun _ => ⟨v, T, HS.out, by simp⟩⟩
 · rcases Bool.eq_false_or_eq_true ([47, 47].isPrefixOf l) with h1 | h1
   · have HK := Lib.hid (show sk = true by rw [HK0.out, h0, h1]; rfl)
     have HPR := Lib.hid (show Lib.hasPrefix (S l).data.toList (ByteArray.mk #[47, 47]).data.toList = true from h1)
     clear h1
     go_enter Tryz.func25, Tryz.ntmps25
     go_wp2_with fail
     refine (Tryz.strings_HasPrefix (S l) (ByteArray.mk #[47, 47]) _).mono ?_
     rintro e w' ⟨rfl, rfl⟩
     rw [HPR.out]
     go_wp2_with fail
     go_ret
     rw [HK.out]
     exact ⟨rfl, HS.out.bel, fun _ => ⟨v, T, HS.out, by simp⟩⟩
   · have HK := Lib.hid (show sk = false by rw [HK0.out, h0, h1]; rfl)
     have HPR := Lib.hid (show Lib.hasPrefix (S l).data.toList (ByteArray.mk #[47, 47]).data.toList = false from h1)
     clear h1
     go_enter Tryz.func25, Tryz.ntmps25
     go_wp2_with fail
     refine (Tryz.strings_HasPrefix (S l) (ByteArray.mk #[47, 47]) _).mono ?_
     rintro e w' ⟨rfl, rfl⟩
     rw [HPR.out]
     clear HPR
     go_wp2_with fail
     refine (entry_any l hl _ HE.out HM.out).mono ?_
     rintro e w2 ⟨pv, k, n, s, ⟨pp, pn, pc, rfl⟩, rfl, hx, hb⟩
     rw [HRE.out] at hx ⊢
     have hK := Blk.new w2 #[.slice pp pn pc, .int .i64 k, .int .i64 n, .string (S s), .slice none 0 0, .slice none 0 0] 42
     have hS := (HS.out.under hb).under ((Below.refl w2.heap.size w2).alloc (Nat.le_refl _) (.cells #[.slice pp pn pc, .int .i64 k, .int .i64 n, .string (S s), .slice none 0 0, .slice none 0 0] 42))
     have hb2 := (Below.refl w2.heap.size w2).alloc (Nat.le_refl _) (.cells #[.slice pp pn pc, .int .i64 k, .int .i64 n, .string (S s), .slice none 0 0, .slice none 0 0] 42)
     have HGO := Lib.hid (show ∀ x, r = some x → Env.good (w2.alloc (.cells #[.slice pp pn pc, .int .i64 k, .int .i64 n, .string (S s), .slice none 0 0, .slice none 0 0] 42)) (apE w.heap.size Bl v) ⟨x.1, x.2, .slice pp pn pc, .slice none 0 0, .slice none 0 0⟩ ∧ x.2 = .mk k n s [] [] from fun x hxx => by
       obtain ⟨q1, q2⟩ := hx x hxx
       refine ⟨⟨(q1.mono (ok' := apE w.heap.size Bl v) fun B _ hB => HS.out.apart (Nat.le_refl _) hB).under hb2, ?_⟩, q2⟩
       show Rep _ _ x.2 _ _
       rw [q2]
       exact rep_leaf _ _ rfl rfl none none 0 0)
     clear hx hb hb2
     go_upto_region 4 with fail
     generalize w2.alloc (.cells #[.slice pp pn pc, .int .i64 k, .int .i64 n, .string (S s), .slice none 0 0, .slice none 0 0] 42) = W3 at hK hS HGO ⊢
     have k0 := hK.cell 0
     have k1 := hK.cell 1
     have k2 := hK.cell 2
     have k3 := hK.cell 3
     have k4 := hK.cell 4
     have k5 := hK.cell 5
     simp at k0 k1 k2 k3 k4 k5
     obtain ⟨vp, vc, hv⟩ := own_form5 hS.own
     subst hv
     have c0 := hS.cap.cell 0
     have c1 := hS.cap.frozen 0
     simp at c0
     have HC := Lib.hid (And.intro c0 c1)
     have HBL := Lib.hid hS.cap.lt
     have HNE := Lib.hid (show some Bl ≠ (Value.slice vp T.length vc).ownBlock from fun e => by have h1 := (own_ge hS.own e.symm).1; have h2 := hS.nr.2.1; omega)
     have HS3 := Lib.hid hS
     have hnw := hS.nr.2.2
     clear hK hS HS
     go_wp2_with (at_builtin; refine wpList_append_own_at _ rfl _ _ 37 rfl N 42 i0 (.agg #[.slice none 0 0, .int .i64 0, .int .i64 0, .string ⟨#[]⟩, .slice none 0 0, .slice none 0 0]) 6 104 Tryz.underlying37 hi hz0 hz1 hz2 rfl (by decide) (.slice vp T.length vc) T.length (flatE T) rfl (HS3.out.own.alloc _) ⟨W3.heap.size, 0, none⟩ 1 1 [.slice pp pn pc, .int .i64 k, .int .i64 n, .string (S s), .slice none 0 0, .slice none 0 0] rfl rfl (cells_new_at rfl rfl) (by simp [Value.oneCell']) (by unfold maxLen; omega) (by omega) (by simp; omega) ?_; intro v' w8 hown8 hgrow8 _ hat8; obtain ⟨vp8, vc8, rfl⟩ := own_form5 hown8; obtain ⟨z2, zf, zl⟩ := out_kept2 HBL.out HNE.out HC.out.1 HC.out.2 hgrow8; have HO8 := Lib.hid hown8; have HG8 := Lib.hid hgrow8; have HA8 := Lib.hid hat8; clear hown8 hgrow8 hat8)
     go_ret
     rw [HK.out]
     have hb9 : Below W3.heap.size W3 (W3.alloc (.cells #[.slice pp pn pc, .int .i64 k, .int .i64 n, .string (S s), .slice none 0 0, .slice none 0 0] 42)) := (Below.refl _ _).alloc (Nat.le_refl _) _
     refine ⟨by simp, ?_, fun hok => ?_⟩
     · refine ((HS3.out.bel.trans (hb9.mono HS3.out.bel.size)).grown HG8.out (HS3.out.bel.trans (hb9.mono HS3.out.bel.size)).size ?_).setCell (by have := HS3.out.nr.1; exact this) _
       intro b hb
       have h1 := (own_ge HS3.out.own hb).1
       have h2 := HS3.out.nr
       omega
     · cases r with
       | none => simp at hok
       | some x =>
         obtain ⟨q1, q2⟩ := HGO.out x rfl
         refine ⟨_, T ++ [⟨x.1, x.2, .slice pp pn pc, .slice none 0 0, .slice none 0 0⟩], (HS3.out.under hb9).push (q1.under hb9) ?_ HG8.out ?_, by simp [Env.e]⟩
         · have e1 : cellsE ⟨x.1, x.2, .slice pp pn pc, .slice none 0 0, .slice none 0 0⟩ = [.slice pp pn pc, .int .i64 k, .int .i64 n, .string (S s), .slice none 0 0, .slice none 0 0] := by
             unfold cellsE; simp only [q2]; rfl
           rw [e1]; exact HO8.out
         · rcases HA8.out with e | e
           · exact .inl e
           · exact .inr ⟨_, e, Nat.le_refl _⟩
end
section
open Go.RowKit
def PrsP (w : World) (r : Dat × Nat × Nat) (e : Ending) (w' : World) : Prop :=
 ∃ vi vm, e = .returned (.tuple #[dv r.1 vi vm, .agg #[.int .i64 (r.2.1 : Int), .int .i64 (r.2.2 : Int)]]) ∧ Rep w' (fun B => w.heap.size ≤ B) r.1 vi vm ∧ Below w.heap.size w w'
theorem PrsP.no (w : World) {w' : World} {n m : Nat} (hb : Below w.heap.size w w') : PrsP w (dat0, n, m) (.returned (.tuple #[.agg #[.int .i64 0, .int .i64 0, .string ⟨#[]⟩, .slice none 0 0, .slice none 0 0], .agg #[.int .i64 (n : Int), .int .i64 (m : Int)]])) w' :=
 ⟨.slice none 0 0, .slice none 0 0, rfl, rep_leaf w' _ rfl rfl none none 0 0, hb⟩
theorem lines_at {pp : List UInt8 → List Stp × Nat × Nat} {ls : List (List UInt8)} {i : Nat} (h : i < ls.length) (n : Nat) : linesP pp (ls.drop i) n = if skipB ls[i] = true then linesP pp (ls.drop (i + 1)) (n + 1) else
   match entryP pp ls[i] with
   | none => .error n
   | some e => match linesP pp (ls.drop (i + 1)) (n + 1) with
     | .error k => .error k
     | .ok L => .ok (e :: L) := by
 rw [List.drop_eq_getElem_cons h, linesP]
 split
 · rfl
 · cases entryP pp ls[i] with
   | none => rfl
   | some e => cases linesP pp (ls.drop (i + 1)) (n + 1) <;> rfl
def joinL (A : List Ent) : Except Nat (List Ent) → Except Nat (List Ent)
 | .error k => .error k
 | .ok L => .ok (A ++ L)
theorem joinL_nil (r : Except Nat (List Ent)) : joinL [] r = r := by cases r <;> rfl
theorem joinL_cons (A : List Ent) (e : Ent) (r : Except Nat (List Ent)) : joinL (A ++ [e]) r = joinL A (match r with | .error k => .error k | .ok L => .ok (e :: L)) := by
 cases r <;> simp [joinL]
theorem ent_lims (hp : PpOk parseP) (hlen : ∀ s, s.length ≤ 65536 → (parseP s).1.length ≤ 1000000) {l : List UInt8} {e : Ent} (hl : l.length ≤ 65536) (h : entryP parseP l = some e) : e.1.length ≤ 1000000 ∧ limD e.2 = true ∧ ∀ x ∈ e.1, x.lab.length ≤ 1000000 := by
 obtain ⟨-, -, h3, h4, h5⟩ := entry_some hp hl h
 refine ⟨?_, ?_, fun x hx => by have := h5 x hx; omega⟩
 · unfold entryP at h
   cases hx : scanE l (l.length + 1) 0 with
   | none => rw [hx] at h; cases h
   | some q =>
     obtain ⟨i, d⟩ := q
     rw [hx] at h
     simp only at h
     split at h
     · injection h with h
       subst h
       exact hlen _ (by rw [List.length_take]; omega)
     · cases h
 · obtain ⟨-, l1, l2⟩ := leaf_iff.1 h3
   refine lim_iff.2 ⟨by omega, by rw [l1]; simp, by rw [l2]; simp, by rw [l1]; simp, by rw [l2]; simp⟩
def scells (l : List (List UInt8)) : List Value := l.map fun x => .string (S x)
theorem Split_any (c : UInt8) (l : List UInt8) (hl : l.length ≤ 1000000) (w : World) (hM : MaxOk w) :
   Calls Tryz.prog 28 #[.string (S l), .string (S [c])] w fun e w' => e = .returned (.slice (some ⟨w.heap.size, 0, none⟩) (splitC c l).length (splitC c l).length) ∧ w' = w.alloc (.cells (scells (splitC c l)).toArray 9) := by
 obtain ⟨m, hm⟩ := hM
 refine (Tryz.strings_Split (S l) (S [c]) m w (by show l.length < _; omega) hm (by show 1 ≤ 1; omega)).mono ?_
 rintro e w' ⟨rfl, rfl⟩
 rw [countB_one, splitB_one, List.map_map]
 exact ⟨rfl, rfl⟩
theorem build_zero {L : List Ent} (h : (buildD L).2 ≠ 0) : (buildD L).1 = dat0 := by
 unfold buildD at *
 split
 · rfl
 · split
   · rfl
   · split
     · rfl
     · cases hb : bld (maxP L + 1) L with
       | none => rfl
       | some d =>
         by_cases hc : chk d 1 = 0
         · simp_all
         · simp only [if_neg hc]
set_option maxRecDepth 100000 in
set_option maxHeartbeats 8000000 in
theorem PParse_any (hp : PpOk parseP) (hlen : ∀ s, s.length ≤ 65536 → (parseP s).1.length ≤ 1000000) (l : List UInt8) (hl : l.length ≤ 1000000) (w : World) (hE : StOk w) (hM : MaxOk w) :
   Calls Tryz.prog 11 #[.string (S l)] w (PrsP w (parseD parseP l)) := by
 have hN : Blk ((w.alloc (.cells #[.int .i64 0, .int .i64 0, .string ⟨#[]⟩, .slice none 0 0, .slice none 0 0] 26)).alloc (.cells #[.int .i64 0, .int .i64 0] 29)) w.heap.size #[.int .i64 0, .int .i64 0, .string ⟨#[]⟩, .slice none 0 0, .slice none 0 0] 26 ∧ Blk ((w.alloc (.cells #[.int .i64 0, .int .i64 0, .string ⟨#[]⟩, .slice none 0 0, .slice none 0 0] 26)).alloc (.cells #[.int .i64 0, .int .i64 0] 29)) (w.heap.size + 1) #[.int .i64 0, .int .i64 0] 29 ∧ Below w.heap.size w ((w.alloc (.cells #[.int .i64 0, .int .i64 0, .string ⟨#[]⟩, .slice none 0 0, .slice none 0 0] 26)).alloc (.cells #[.int .i64 0, .int .i64 0] 29)) := two_new w _ _ _ _
 have HPD := Lib.hid (show parseD parseP l = if 65536 < l.length then (dat0, 2, 0) else match linesP parseP (splitC 10 l) 1 with | .error n => (dat0, 19, n) | .ok L => ((buildD L).1, (buildD L).2, 0) from rfl)
 generalize parseD parseP l = r at HPD ⊢
 have HE := Lib.hid hE
 have HM := Lib.hid hM
 clear hE hM
 by_cases hbig : 65536 < l.length
 · have HR := Lib.hid (show r = (dat0, 2, 0) by rw [HPD.out, if_pos hbig])
   have b1 : (65536 : Int) < (l.length : Int) := by omega
   go_enter Tryz.func11, Tryz.ntmps11
   go_upto_region 1 with fail
   generalize (w.alloc (.cells #[.int .i64 0, .int .i64 0, .string ⟨#[]⟩, .slice none 0 0, .slice none 0 0] 26)).alloc (.cells #[.int .i64 0, .int .i64 0] 29) = W at hN ⊢
   have z0 := hN.1.cell 0
   have y0 := hN.1.frozen 0
   have z1 := hN.1.cell 1
   have y1 := hN.1.frozen 1
   have z2 := hN.1.cell 2
   have y2 := hN.1.frozen 2
   have z3 := hN.1.cell 3
   have y3 := hN.1.frozen 3
   have z4 := hN.1.cell 4
   have y4 := hN.1.frozen 4
   have x0 := hN.2.1.cell 0
   have v0 := hN.2.1.frozen 0
   have x1 := hN.2.1.cell 1
   have v1 := hN.2.1.frozen 1
   simp at z0 z1 z2 z3 z4 x0 x1
   have hzl := hN.1.lt
   have hxl := hN.2.1.lt
   have HB := Lib.hid hN.2.2
   clear hN hbig
   go_wp2_with fail
   refine bodyPost_ret (v := .tuple #[.agg #[.int .i64 0, .int .i64 0, .string ⟨#[]⟩, .slice none 0 0, .slice none 0 0], .agg #[.int .i64 2, .int .i64 0]]) (by simp [results, Tryz.results11, go_sem, z0, z1, z2, z3, z4, y0, y1, y2, y3, y4, hzl, x0, x1, v0, v1, hxl]) rfl ?_
   rw [HR.out]
   refine PrsP.no w ?_
   have hbw := HB.out
   go_grown
   all_goals exact hbw
 · have b1 : ¬ ((65536 : Int) < (l.length : Int)) := by omega
   have HPD1 := Lib.hid (show r = (match linesP parseP (splitC 10 l) 1 with | .error n => (dat0, 19, n) | .ok L => ((buildD L).1, (buildD L).2, 0)) by rw [HPD.out, if_neg hbig])
   have hl6 : l.length ≤ 65536 := by omega
   have HLN := Lib.hid (fun p (hp : p ∈ splitC 10 l) => Nat.le_trans (splitC_mem_len 10 l p hp) hl6)
   have hls : (splitC 10 l).length ≤ 65537 := by rw [splitC_len]; have := List.count_le_length (a := (10 : UInt8)) (l := l); omega
   have HSP := Lib.hid (fun w' (h : MaxOk w') => Split_any 10 l hl w' h)
   generalize splitC 10 l = ls at HPD1 HLN hls HSP
   have HP := Lib.hid hp
   have HLE := Lib.hid hlen
   clear hbig HPD hp hlen hl hl6
   go_enter Tryz.func11, Tryz.ntmps11
   go_upto_region 1 with fail
   generalize (w.alloc (.cells #[.int .i64 0, .int .i64 0, .string ⟨#[]⟩, .slice none 0 0, .slice none 0 0] 26)).alloc (.cells #[.int .i64 0, .int .i64 0] 29) = W at hN ⊢
   have HN := Lib.hid hN
   clear hN
   have hb2 : Below W.heap.size W (W.alloc (.cells #[.slice none 0 0] 37)) := (Below.refl _ _).alloc (Nat.le_refl _) _
   have HMM := Lib.hid ((HM.out.below HN.out.2.2).below hb2)
   clear hb2
   go_wp2_with fail
   refine (HSP.out _ HMM.out).mono ?_
   rintro e w3 ⟨rfl, rfl⟩
   have hS : EnS W ((W.alloc (.cells #[.slice none 0 0] 37)).alloc (.cells (scells ls).toArray 9)) W.heap.size (W.heap.size + 2) (.slice none 0 0) [] ((W.alloc (.cells #[.slice none 0 0] 37)).alloc (.cells (scells ls).toArray 9)) :=
     ⟨(Blk.new W _ _).alloc _, World.ownsRow_nil _ _ _ _, by simp, ⟨Nat.le_refl _, by omega, by simp⟩, ((Below.refl _ _).alloc (Nat.le_refl _) _).alloc (by simp) _, fun _ _ _ => rfl⟩
   have hsz2 : (W.alloc (.cells #[.slice none 0 0] 37)).heap.size = W.heap.size + 1 := by simp
   have hcs : ∀ j (h : j < ls.length), ((W.alloc (.cells #[.slice none 0 0] 37)).alloc (.cells (scells ls).toArray 9)).cell? ⟨W.heap.size + 1, j, none⟩ = some (.string (S ls[j])) := by
     intro j h
     have h1 := (Blk.new (W.alloc (.cells #[.slice none 0 0] 37)) (scells ls).toArray 9).cell j
     rw [hsz2] at h1
     rw [h1]
     simp [scells, h]
   have HCS := Lib.hid hcs
   have HS := Lib.hid hS
   rw [hsz2]
   clear hS hcs hsz2 HSP HMM
   generalize (W.alloc (.cells #[.slice none 0 0] 37)).alloc (.cells (scells ls).toArray 9) = W3 at HS HCS ⊢
   have HI0 : Hid (joinL (([] : List Env).map Env.e) (linesP parseP (ls.drop 0) (0 + 1)) = linesP parseP ls 1) := Lib.hid (by rw [List.drop_zero]; exact joinL_nil _)
   have HL0 : Hid (∀ e ∈ ([] : List Env).map Env.e, e.1.length ≤ 1000000 ∧ limD e.2 = true ∧ ∀ x ∈ e.1, x.lab.length ≤ 1000000) := Lib.hid (by simp)
   go_wp2_with fail
   go_loopw [19] (fun x wr => ∃ (i : Nat) (v : Value) (T : List Env), x = .int .i64 (i : Int) ∧ i ≤ ls.length ∧ T.length ≤ i ∧ Hid (EnS W W3 W.heap.size (W.heap.size + 2) v T wr) ∧ Hid (joinL (T.map Env.e) (linesP parseP (ls.drop i) (i + 1)) = linesP parseP ls 1) ∧ Hid (∀ e ∈ T.map Env.e, e.1.length ≤ 1000000 ∧ limD e.2 = true ∧ ∀ x ∈ e.1, x.lab.length ≤ 1000000)) (fun x _ => ls.length - (intOf x).toNat)
   case atStart => exact ⟨0, _, [], rfl, Nat.zero_le _, Nat.le_refl _, HS, HI0, HL0⟩
   case round =>
     clear HS HI0 HL0
     obtain ⟨i, v, T, rfl, hi, hTi, HS, HI, HL⟩ := hrel
     by_cases hlt : i < ls.length
     · have c0 : wr.cell? ⟨W.heap.size + 1, i, none⟩ = some (.string (S ls[i])) := (World.cell?_of_block (a := ⟨W.heap.size + 1, i, none⟩) (HS.out.keep (W.heap.size + 1) (by omega) (by omega))).trans (HCS.out i hlt)
       have HST := Lib.hid (lines_at (pp := parseP) hlt (i + 1))
       have hxl := HLN.out _ (List.getElem_mem hlt)
       generalize ls[i] = x at c0 HST hxl
       have hbw := HN.out.2.2.trans (HS.out.bel.mono HN.out.2.2.size)
       have HRD := Lib.hid (read_any x hxl HS.out (by omega) (HE.out.below hbw) (HM.out.below hbw))
       have HEL := Lib.hid (fun e (h : entryP parseP x = some e) => ent_lims HP.out HLE.out hxl h)
       have w1' : IntKind.i64.wrap ((i : Int) + 1) = (i : Int) + 1 := IntWalk.i64_in _ (by omega)
       clear hbw hxl
       go_wp2_with fail
       refine HRD.out.mono ?_
       rintro e w5 ⟨rfl, hb, hst⟩
       have HB5 := Lib.hid hb
       have HTT := Lib.hid hst
       clear hb hst c0 HRD
       generalize hsk : skipB x = sk at HST HTT ⊢
       generalize hen : entryP parseP x = en at HST HTT HEL ⊢
       clear hsk hen
       rcases Bool.eq_false_or_eq_true (sk || en.isSome) with hk | hk
       · obtain ⟨v', T', hS', hT'⟩ := HTT.out hk
         have HK := Lib.hid hk
         have HS5 := Lib.hid hS'
         have hlen' : T'.length ≤ i + 1 := by
           have h1 := congrArg List.length hT'
           rw [List.length_append, List.length_map, List.length_map] at h1
           have h2 : (if sk = true then [] else en.toList).length ≤ 1 := by cases sk <;> cases en <;> simp
           omega
         have HI5 : Hid (joinL (T'.map Env.e) (linesP parseP (ls.drop (i + 1)) (i + 1 + 1)) = linesP parseP ls 1) := Lib.hid (by
           rw [← HI.out, hT', HST.out]
           cases sk with
           | true => simp
           | false => cases en with
             | none => simp at hk
             | some e =>
               simp only [Bool.false_eq_true, if_false, Option.toList_some]
               rw [joinL_cons])
         have HL5 : Hid (∀ e ∈ T'.map Env.e, e.1.length ≤ 1000000 ∧ limD e.2 = true ∧ ∀ x ∈ e.1, x.lab.length ≤ 1000000) := Lib.hid (by
           intro e he
           rw [hT'] at he
           rcases List.mem_append.1 he with he | he
           · exact HL.out e he
           · cases sk with
             | true => simp at he
             | false => cases en with
               | none => simp at he
               | some e' => simp at he; subst he; exact HEL.out e rfl)
         rw [hk]
         clear hk hS' hT' HTT
         go_wp2_with fail
         go_roundw
         case rel => exact ⟨i + 1, v', T', by go_num, hlt, hlen', HS5, HI5, HL5⟩
         case measure => simp [intOf]; omega
       · have HR := Lib.hid (show r = (dat0, 19, i + 1) by
           rw [HPD1.out, ← HI.out, HST.out]
           cases sk with
           | true => simp at hk
           | false => cases en with
             | some e => simp at hk
             | none => rfl)
         rw [hk]
         clear hk HTT
         have hN0 := HN.out.1.below HB5.out
         have hN1 := HN.out.2.1.below HB5.out
         have z0 := hN0.cell 0
         have y0 := hN0.frozen 0
         have z1 := hN0.cell 1
         have y1 := hN0.frozen 1
         have z2 := hN0.cell 2
         have y2 := hN0.frozen 2
         have z3 := hN0.cell 3
         have y3 := hN0.frozen 3
         have z4 := hN0.cell 4
         have y4 := hN0.frozen 4
         have x0 := hN1.cell 0
         have v0 := hN1.frozen 0
         have x1 := hN1.cell 1
         have v1 := hN1.frozen 1
         simp at z0 z1 z2 z3 z4 x0 x1
         have hzl := hN0.lt
         have hxl := hN1.lt
         clear hN0 hN1
         go_wp2_with fail
         refine bodyPost_ret (v := .tuple #[.agg #[.int .i64 0, .int .i64 0, .string ⟨#[]⟩, .slice none 0 0, .slice none 0 0], .agg #[.int .i64 19, .int .i64 ((i : Int) + 1)]]) (by simp [results, Tryz.results11, go_sem, z0, z1, z2, z3, z4, y0, y1, y2, y3, y4, hzl, x0, x1, v0, v1, hxl]) rfl ?_
         rw [HR.out]
         refine PrsP.no w ?_
         have hbw := HN.out.2.2.trans (HB5.out.mono HN.out.2.2.size)
         go_grown
         all_goals exact hbw
     · have hd : ls.drop i = [] := List.drop_of_length_le (by omega)
       have HOK := Lib.hid (show linesP parseP ls 1 = .ok (T.map Env.e) by rw [← HI.out, hd]; simp [joinL, linesP])
       have HR := Lib.hid (show r = ((buildD (T.map Env.e)).1, (buildD (T.map Env.e)).2, 0) by rw [HPD1.out, HOK.out])
       have HBD := Lib.hid (Build_any HS.out.ents ⟨by rw [List.length_map]; omega, HL.out⟩)
       have hzz := build_zero (L := T.map Env.e)
       generalize buildD (T.map Env.e) = bd at HR HBD hzz
       obtain ⟨d, en⟩ := bd
       simp only at HR hzz
       obtain ⟨vp, vc, hv⟩ := own_form5 HS.out.own
       subst hv
       have c0 := HS.out.cap.cell 0
       simp at c0
       have HZZ := Lib.hid hzz
       clear hd hzz HOK
       go_wp2_with fail
       refine HBD.out.mono ?_
       rintro e w5 ⟨vi, vm, rfl, hrep, hb⟩
       change Rep w5 _ d vi vm at hrep
       have e1 : dv d vi vm = .agg #[.int .i64 d.k, .int .i64 d.n, .string (S d.s), vi, vm] := rfl
       simp only
       rw [e1]
       obtain ⟨p1, cap1, rfl, -, -⟩ := hrep.items
       obtain ⟨q1, caq1, rfl, -, -⟩ := hrep.members
       have hN0 := ((HN.out.1.below HS.out.bel).below hb).alloc (.cells #[.int .i64 d.k, .int .i64 d.n, .string (S d.s), .slice p1 d.its.length cap1, .slice q1 d.mem.length caq1] 26)
       have hN1 := ((HN.out.2.1.below HS.out.bel).below hb).alloc (.cells #[.int .i64 d.k, .int .i64 d.n, .string (S d.s), .slice p1 d.its.length cap1, .slice q1 d.mem.length caq1] 26)
       have hK := Blk.new w5 #[.int .i64 d.k, .int .i64 d.n, .string (S d.s), .slice p1 d.its.length cap1, .slice q1 d.mem.length caq1] 26
       have hb0 := HN.out.2.2.trans (HS.out.bel.mono HN.out.2.2.size)
       have hb1 := hb0.trans (hb.mono hb0.size)
       have hb6 := hb1.alloc hb1.size (.cells #[.int .i64 d.k, .int .i64 d.n, .string (S d.s), .slice p1 d.its.length cap1, .slice q1 d.mem.length caq1] 26)
       have hx6 := hrep.under ((Below.refl w5.heap.size w5).alloc (Nat.le_refl _) (.cells #[.int .i64 d.k, .int .i64 d.n, .string (S d.s), .slice p1 d.its.length cap1, .slice q1 d.mem.length caq1] 26))
       have HWR := Lib.hid (show w.heap.size + 1 < wr.heap.size by have h1 := HS.out.nr.2.2; have h2 := HN.out.2.1.lt; omega)
       have hw5 : w.heap.size + 1 < w5.heap.size := Nat.lt_of_lt_of_le HWR.out hb.size
       have n1 : ¬ (w.heap.size = w5.heap.size) := by omega
       have n2 : ¬ (w.heap.size + 1 = w5.heap.size) := by omega
       clear c0 hrep e1 hb hb0 hb1
       go_upto_region 12 with fail
       generalize w5.alloc (.cells #[.int .i64 d.k, .int .i64 d.n, .string (S d.s), .slice p1 d.its.length cap1, .slice q1 d.mem.length caq1] 26) = W6 at hN0 hN1 hK hb6 hx6 ⊢
       have HB6 := Lib.hid hb6
       have HX6 := Lib.hid hx6
       have z0 := hN0.cell 0
       have y0 := hN0.frozen 0
       have z1 := hN0.cell 1
       have y1 := hN0.frozen 1
       have z2 := hN0.cell 2
       have y2 := hN0.frozen 2
       have z3 := hN0.cell 3
       have y3 := hN0.frozen 3
       have z4 := hN0.cell 4
       have y4 := hN0.frozen 4
       have x0 := hN1.cell 0
       have v0 := hN1.frozen 0
       have x1 := hN1.cell 1
       have v1 := hN1.frozen 1
       simp at z0 z1 z2 z3 z4 x0 x1
       have hzl := hN0.lt
       have hxl := hN1.lt
       by_cases hen : en = 0
       · have HR2 := Lib.hid (show r = (d, 0, 0) by rw [HR.out, hen])
         subst hen
         have k0 := hK.cell 0
         have k1 := hK.cell 1
         have k2 := hK.cell 2
         have k3 := hK.cell 3
         have k4 := hK.cell 4
         simp at k0 k1 k2 k3 k4
         clear hN0 hN1 hK hb6 hx6
         go_wp2_with fail
         refine bodyPost_ret (v := .tuple #[.agg #[.int .i64 d.k, .int .i64 d.n, .string (S d.s), .slice p1 d.its.length cap1, .slice q1 d.mem.length caq1], .agg #[.int .i64 0, .int .i64 0]]) (by simp [results, Tryz.results11, go_sem, z0, z1, z2, z3, z4, y0, y1, y2, y3, y4, hzl, x0, x1, v0, v1, hxl]) rfl ?_
         rw [HR2.out]
         refine ⟨.slice p1 d.its.length cap1, .slice q1 d.mem.length caq1, rfl, ?_, ?_⟩
         · have hh : ∀ (j i B : Nat), j ≤ 1 → wr.heap.size ≤ B → (⟨w.heap.size + j, i, none⟩ : Addr).block ≠ B := fun j i B hj hB e => by have := HWR.out; simp at e; omega
           exact (((((((HX6.out.set _ _ (fun B hB => hh 0 0 B (by omega) hB)).set _ _ (fun B hB => hh 0 1 B (by omega) hB)).set _ _ (fun B hB => hh 0 2 B (by omega) hB)).set _ _ (fun B hB => hh 0 3 B (by omega) hB)).set _ _ (fun B hB => hh 0 4 B (by omega) hB)).set _ _ (fun B hB => hh 1 0 B (by omega) hB)).set _ _ (fun B hB => hh 1 1 B (by omega) hB)).mono fun B _ hB => by have := HWR.out; omega
         · have hbw := HB6.out
           go_grown
           all_goals exact hbw
       · have HR2 := Lib.hid (show r = (dat0, en, 0) by rw [HR.out, HZZ.out hen])
         have c1 : ((en : Int) != 0) = true := by simp; omega
         have c2 : ¬ ((en : Int) = 0) := by omega
         clear hN0 hN1 hK hb6 hx6 hen
         go_wp2_with fail
         refine bodyPost_ret (v := .tuple #[.agg #[.int .i64 0, .int .i64 0, .string ⟨#[]⟩, .slice none 0 0, .slice none 0 0], .agg #[.int .i64 (en : Int), .int .i64 0]]) (by simp [results, Tryz.results11, go_sem, z0, z1, z2, z3, z4, y0, y1, y2, y3, y4, hzl, x0, x1, v0, v1, hxl]) rfl ?_
         rw [HR2.out]
         refine PrsP.no w ?_
         have hbw := HB6.out
         go_grown
         all_goals exact hbw
end
section
def restC (s : List UInt8) (i : Nat) : List (List UInt8) := if i ≤ s.length then splitC 10 (s.drop i) else []
theorem rest_zero (s : List UInt8) : restC s 0 = splitC 10 s := by unfold restC; rw [if_pos (Nat.zero_le _), List.drop_zero]
theorem rest_end {s : List UInt8} {i : Nat} (h : s.length < i) : restC s i = [] := by unfold restC; rw [if_neg (by omega)]
theorem rest_line {s : List UInt8} {a i : Nat} (ha : a ≤ i) (hi : i ≤ s.length) (hno : ∀ j (h : j < s.length), a ≤ j → j < i → s[j] ≠ 10) (he : ∀ h : i < s.length, s[i] = 10) : restC s a = sl s a i :: restC s (i + 1) := by
 have hx : ∀ x ∈ sl s a i, x ≠ 10 := by
   intro x hx
   unfold sl at hx
   obtain ⟨j, hj, rfl⟩ := List.getElem_of_mem hx
   rw [List.length_take, List.length_drop] at hj
   rw [List.getElem_take, List.getElem_drop]
   exact hno _ (by omega) (by omega) (by omega)
 have hsp : s.drop a = sl s a i ++ s.drop i := by
   unfold sl
   conv => lhs; rw [← List.take_append_drop (i - a) (s.drop a)]
   rw [List.drop_drop, show a + (i - a) = i by omega]
 unfold restC
 rw [if_pos (by omega), hsp]
 by_cases hl : i < s.length
 · rw [if_pos (by omega), List.drop_eq_getElem_cons hl, he hl, splitC_app 10 _ _ hx]
 · rw [if_neg (by omega), List.drop_of_length_le (by omega), List.append_nil, splitC_one 10 _ hx]
theorem skip_two {t : List UInt8} (h : 2 ≤ t.length) : skipB t = (sl t 0 2 == [47, 47]) := by
 match t, h with
 | a :: b :: r, _ =>
   have e : ∀ x : UInt8, ((47 : UInt8) == x) = (x == 47) := fun x => by rw [Bool.eq_iff_iff, beq_iff_eq, beq_iff_eq]; exact ⟨fun h => h.symm, fun h => h.symm⟩
   have e1 : skipB (a :: b :: r) = ((47 == a) && ((47 == b) && true)) := rfl
   have e2 : (sl (a :: b :: r) 0 2 == [47, 47]) = ((a == 47) && ((b == 47) && true)) := rfl
   rw [e1, e2, e, e]
theorem skip_one {t : List UInt8} (h : t ≠ []) (h2 : t.length < 2) : skipB t = false := by
 match t, h, h2 with
 | [a], _, _ => simp [skipB, List.isPrefixOf]
end
section
open Go.RowKit
end
section
open Go.RowKit
theorem tmod_bound (u v : Int) (hu : vld u = true) : -1000000000000000 ≤ u.tmod v ∧ u.tmod v ≤ 1000000000000000 := by
 rw [vld_iff] at hu
 have h := Int.natAbs_tmod u v
 have h2 := Nat.mod_le u.natAbs v.natAbs
 omega
end
section
open Go.RowKit
end
section
open Go.RowKit
theorem abs_at (u : Int) (a : Nat) (h : vld u = true) (ha : Hid (u.natAbs = a)) (w : World) : Calls Tryz.prog 164 #[.int .i64 u] w fun e w' => e = .returned (.int .i64 (a : Int)) ∧ w = w' :=
 (abs_any u h w).mono fun e w' ⟨he, hw⟩ => ⟨by rw [he, ha.out], hw⟩
theorem long_low (r b d k : Nat) (hb : 0 < b) (hr : r < b) (hd : d < 10 ^ k) : d * 10 + r * 10 / b < 10 ^ (k + 1) := by
 have h1 : r * 10 / b < 10 := (Nat.div_lt_iff_lt_mul hb).2 (by rw [Nat.mul_comm 10 b]; omega)
 rw [Nat.pow_succ]
 omega
structure Longs (a b : Nat) (k d r : Nat) : Prop where
 le : k ≤ 4
 eq : d * b + r = a % b * 10 ^ k
 lt : r < b
 low : d < 10 ^ k
theorem Longs.next {a b k d r : Nat} (hb : 0 < b) (h : Longs a b k d r) (hk : k < 4) : Longs a b (k + 1) (d * 10 + r * 10 / b) (r * 10 % b) :=
 ⟨by omega, by rw [long_step r b d _ h.eq, Nat.pow_succ, Nat.mul_assoc], Nat.mod_lt _ hb, long_low r b d k hb h.lt h.low⟩
theorem Longs.last {a b d r : Nat} (hb : 0 < b) (h : Longs a b 4 d r) : (a * 10000) / b = a / b * 10000 + d ∧ (a * 10000) % b = r := by
 have hl := long_div a b hb
 have he : a % b * 10000 = r + b * d := by have := h.eq; simp only [Nat.reducePow] at this; rw [← this, Nat.mul_comm d b]; omega
 have h1 : a % b * 10000 / b = d := by rw [he, Nat.add_mul_div_left _ _ hb, Nat.div_eq_of_lt h.lt, Nat.zero_add]
 have h2 : a % b * 10000 % b = r := by rw [he, Nat.add_mul_mod_self_left, Nat.mod_eq_of_lt h.lt]
 rw [hl.1, hl.2, h1, h2]; exact ⟨rfl, rfl⟩
end
section
open Go.RowKit
theorem trim_ne {P m : List UInt8} (h : trimZ P = trimZ m) (hP : trimZ P ≠ []) : m ≠ [] := by
 intro e; subst e; rw [trimZ_off [] (by simp)] at h; exact hP h
set_option maxHeartbeats 1000000 in
theorem fxRefText_any (u : Int) (w : World) : Calls Tryz.prog 121 #[.int .i64 u] w fun e w' => e = .returned (.string (S (textI u))) ∧ Below w.heap.size w w' := by
 cases hu : vld u
 · go_enter Tryz.func121, Tryz.ntmps121
   go_wp2_with (go_at_call 118; refine (fxRefValid_any _ _).mono ?_; rintro e w' ⟨rfl, rfl⟩; rw [hu])
   go_ret
   exact ⟨ret_S (by unfold textI; rw [hu]; rfl), Below.refl _ _⟩
 · have hA' := abs_lt hu
   have ht := tmod_bound u 10000 hu
   have ht0 : u.tmod 10000 = 0 ↔ u.natAbs % 10000 = 0 := by
     have := Int.natAbs_tmod u 10000
     rw [show Int.natAbs 10000 = 10000 from rfl] at this
     rw [← this]; exact Int.natAbs_eq_zero.symm
   obtain ⟨a, hA⟩ : ∃ a, u.natAbs = a := ⟨_, rfl⟩
   have HT := Lib.hid (textI_val u hu)
   rw [hA] at HT hA' ht0
   have HA := Lib.hid hA; clear hA
   obtain ⟨x, hx⟩ : ∃ x, a / 10000 = x := ⟨_, rfl⟩
   obtain ⟨f, hf⟩ : ∃ f, a % 10000 = f := ⟨_, rfl⟩
   rw [hx, hf] at HT
   rw [hf] at ht0
   have ex : (a : Int) / 10000 = (x : Int) := by omega
   have ef : (a : Int) % 10000 = (f : Int) := by omega
   have hxb : x ≤ 100000000000 := by omega
   have hfb : f ≤ 9999 := by omega
   clear hx hf
   obtain ⟨P, hP⟩ : ∃ P, pad4 f = P := ⟨_, rfl⟩
   have hP4 : P.length ≤ 4 := by rw [← hP]; exact Nat.le_refl 4
   have HZ := Lib.hid (trim_nil f (by omega))
   have HP := Lib.hid hP
   obtain ⟨D, hD⟩ : ∃ D, Lib.decDigits x = D := ⟨_, rfl⟩
   have hDl : D.length ≤ 12 := by rw [← hD]; exact (dec_len x 12 (by omega) (by omega)).2
   rw [hD] at HT
   have HD := Lib.hid hD
   clear hP hD
   by_cases hf0 : f = 0
   · have T : (u.tmod 10000 == 0) = true := by rw [beq_iff_eq]; exact ht0.2 hf0
     have HF := Lib.hid hf0
     clear ht0 hf0
     cases d1 : decide (u < 0)
     all_goals
       go_enter Tryz.func121, Tryz.ntmps121
       go_wp2_with (first
         | (go_at_call 118; refine (fxRefValid_any _ _).mono ?_; rintro e w' ⟨rfl, rfl⟩; rw [hu])
         | (go_at_call 164; refine (abs_at u a hu HA _).mono ?_; rintro e w' ⟨rfl, rfl⟩)
         | (go_at_call 87; refine (Digits_one x (by omega) _).mono ?_; rintro e w1 ⟨rfl, hb1⟩; rw [HD.out]))
       go_ret
       exact ⟨ret_S (by rw [HT.out, text_frac (HZ.out.2 HF.out)]; simp at d1; simp [d1, ct]), hb1⟩
   · have T : (u.tmod 10000 == 0) = false := by rw [beq_eq_false_iff_ne]; exact fun h => hf0 (ht0.1 h)
     have HF := Lib.hid (show trimZ P ≠ [] by rw [← HP.out]; exact fun h => hf0 (HZ.out.1 h))
     clear ht0 hf0
     cases d1 : decide (u < 0)
     all_goals
       go_enter Tryz.func121, Tryz.ntmps121
       go_wp2_with (first
         | (go_at_call 118; refine (fxRefValid_any _ _).mono ?_; rintro e w' ⟨rfl, rfl⟩; rw [hu])
         | (go_at_call 164; refine (abs_at u a hu HA _).mono ?_; rintro e w' ⟨rfl, rfl⟩))
       refine (Digits_one x (by omega) _).mono ?_
       rintro e w1 ⟨rfl, hb1⟩
       rw [HD.out]
       have HB1 := Lib.hid hb1; clear hb1
       go_wp2_with (go_at_call 164; refine (abs_at u a hu HA _).mono ?_; rintro e w' ⟨rfl, rfl⟩)
       refine (Digits_four f (by omega) _).mono ?_
       rintro e w2 ⟨rfl, hb2⟩
       rw [HP.out]
       have HB2 := Lib.hid hb2; clear hb2
       go_wp2_with fail
       clear ex ef hxb T
       go_loop [4] (fun v => ∃ m : List UInt8, v = .string (S m) ∧ m.length ≤ 4 ∧ Hid (trimZ P = trimZ m)) (fun v => strLen v)
       case atStart => exact ⟨P, rfl, by omega, Lib.hid rfl⟩
       case round =>
         obtain ⟨m, rfl, hm4, HM⟩ := hrel
         have hmne := trim_ne HM.out HF.out
         have hpos : 0 < m.length := List.length_pos_iff.2 hmne
         have HNE := Lib.hid hmne
         clear hmne
         by_cases hz : byt m (m.length - 1) = 48
         · have T : (((byt m (m.length - 1)).toNat : Int) == 48) = true := by rw [hz]; rfl
           have HN := Lib.hid (trimZ_on m ⟨hpos, hz⟩)
           clear hz
           go_wp2_with fail
           go_round
           case rel => exact ⟨_, rfl, by rw [sl_to, List.length_take]; omega, Lib.hid (by rw [sl_to, HM.out, HN.out])⟩
           case measure => simp [strLen, S_size, sl_to]; omega
         · have T : (((byt m (m.length - 1)).toNat : Int) == 48) = false := by rw [beq_eq_false_iff_ne]; intro e; exact hz (UInt8.toNat_inj.1 (by rw [show (48 : UInt8).toNat = 48 from rfl]; omega))
           have HN := Lib.hid (trimZ_off m (fun h => hz h.2))
           clear hz
           go_wp2_with fail
           go_ret
           exact ⟨ret_S (by rw [HT.out, text_frac (HP.out.symm ▸ HM.out.trans HN.out), if_neg HNE.out]; simp at d1; simp [d1, ct]), HB1.out.trans (HB2.out.mono HB1.out.size)⟩
end
section
open Go.RowKit
def pI : Option Nat → Int
 | none => -1
 | some k => (k : Int)
theorem rs_dot (b : Bool) (n : Nat) (l : List UInt8) (i : Nat) (h : i < l.length) (hc : byt l i = 46) : rscan b n none (l.drop i) = rscan false n (some 0) (l.drop (i + 1)) := by
 rw [drop_byt l i h, rscan, if_pos ⟨hc, rfl⟩]
theorem rs_dig (b : Bool) (n : Nat) (p : Option Nat) (l : List UInt8) (i : Nat) (h : i < l.length) (hc : dgt (byt l i)) : rscan b n p (l.drop i) = rscan false (n * 10 + ((byt l i).toNat - 48)) (p.map (· + 1)) (l.drop (i + 1)) := by
 have h46 : byt l i ≠ 46 := by intro e; rw [e] at hc; exact absurd hc.1 (by decide)
 rw [drop_byt l i h, rscan, if_neg (fun hh => h46 hh.1), if_pos hc]
theorem rs_minus (n : Nat) (p : Option Nat) (l : List UInt8) (i : Nat) (h : i < l.length) (hc : byt l i = 45) : rscan true n p (l.drop i) = rscan false n p (l.drop (i + 1)) := by
 rw [drop_byt l i h, rscan, if_neg (by rw [hc]; intro hh; exact absurd hh.1 (by decide)), if_neg (by rw [hc]; decide), if_pos ⟨rfl, hc⟩]
theorem rs_none (b : Bool) (n : Nat) (p : Option Nat) (l : List UInt8) (i : Nat) (h : i < l.length) (h1 : ¬ (byt l i = 46 ∧ p = none)) (h2 : ¬ dgt (byt l i)) (h3 : ¬ (b = true ∧ byt l i = 45)) : rscan b n p (l.drop i) = none := by
 rw [drop_byt l i h, rscan, if_neg h1, if_neg h2, if_neg h3]
theorem rsc_stop (n k : Nat) (h : 4 ≤ k) : rscale n k = some n := by rw [rscale, if_pos h]
theorem rsc_over (n k : Nat) (h : ¬ 4 ≤ k) (h2 : 1000000000000000 < n) : rscale n k = none := by rw [rscale, if_neg h, if_pos h2]
theorem rsc_next (n k : Nat) (h : ¬ 4 ≤ k) (h2 : ¬ 1000000000000000 < n) : rscale n k = rscale (n * 10) (k + 1) := by
 conv => lhs; rw [rscale, if_neg h, if_neg h2]
theorem digit_low {n i : Nat} (d : Nat) (h : n < 10 ^ i) (hd : d ≤ 9) : n * 10 + d < 10 ^ (i + 1) := by rw [Nat.pow_succ]; omega
theorem pow_top {n i : Nat} (k : Nat) (h : n < 10 ^ i) (hi : i ≤ k) : n < 10 ^ k := Nat.lt_of_lt_of_le h (Nat.pow_le_pow_right (by decide) hi)
theorem i64_eq {a b : Int} (h : a = b) : Value.int .i64 a = .int .i64 b := by rw [h]
theorem head_get (l : List UInt8) (h : 0 < l.length) : l.head? = some (byt l 0) := by
 cases l with
 | nil => simp at h
 | cons c r => rfl
theorem head_not (l : List UInt8) (h : ¬ byt l 0 = 45) : ¬ l.head? = some 45 := by
 cases l with
 | nil => simp
 | cons c r => intro e; exact h (show c = 45 by simpa using e)
set_option maxHeartbeats 2000000 in
theorem fxRefParse_any (l : List UInt8) (w : World) (hl : l.length ≤ 1000000) : Calls Tryz.prog 124 #[.string (S l)] w (OkB (parseI l) w) := by
 by_cases hlong : 18 < l.length
 · have HP := Lib.hid (parseI_long l (by omega))
   go_enter Tryz.func124, Tryz.ntmps124
   go_wp2_with fail
   go_ret2
   exact ⟨ret_pr HP.out, Below.refl _ _⟩
 · have hl18 : l.length ≤ 18 := by omega
   clear hlong hl
   go_enter Tryz.func124, Tryz.ntmps124
   go_wp2_with fail
   go_loop [4, 5, 6] (fun a b c => ∃ (i n : Nat) (p : Option Nat), i ≤ l.length ∧ a = .int .i64 (n : Int) ∧ b = .int .i64 (pI p) ∧ c = .int .i64 (i : Int) ∧ Hid (rscan true 0 none l = rscan (decide (i = 0)) n p (l.drop i) ∧ n < 10 ^ i ∧ p.getD 0 ≤ i)) (fun _ _ c => l.length - (intOf c).toNat)
   case atStart => exact ⟨0, 0, none, by omega, rfl, rfl, rfl, Lib.hid ⟨by simp, by decide, by decide⟩⟩
   case round =>
     obtain ⟨i, n, p, hi, rfl, rfl, rfl, HR⟩ := hrel
     by_cases hlt : i < l.length
     · have hn : n ≤ 100000000000000000 := by have := pow_top 17 HR.out.2.1 (by omega); omega
       by_cases hdot : byt l i = 46 ∧ p = none
       · obtain ⟨h46, rfl⟩ := hdot
         have HN := Lib.hid (HR.out.1.trans (rs_dot _ n l i hlt h46))
         have T : (((byt l i).toNat : Int) == 46) = true := by rw [h46]; rfl
         clear h46
         simp only [pI]
         go_wp2_with fail
         go_round
         case rel => exact ⟨i + 1, n, some 0, by omega, rfl, rfl, by go_num, Lib.hid ⟨by rw [HN.out]; simp, by have := digit_low 0 HR.out.2.1 (by decide); omega, by simp⟩⟩
         case measure => simp [intOf]; omega
       · by_cases hdg : dgt (byt l i)
         · have HN := Lib.hid (HR.out.1.trans (rs_dig _ n p l i hlt hdg))
           have h46 : byt l i ≠ 46 := by intro e; rw [e] at hdg; exact absurd hdg.1 (by decide)
           have T : (((byt l i).toNat : Int) == 46) = false := u8_ne h46
           obtain ⟨d1, d2⟩ := hdg
           have hp := HR.out.2.2
           clear h46 hdot
           cases p with
           | none =>
             simp only [pI]
             go_wp2_with fail
             go_round
             case rel => exact ⟨i + 1, n * 10 + ((byt l i).toNat - 48), none, by omega, i64_eq (by omega), rfl, by go_num, Lib.hid ⟨by rw [HN.out]; simp, digit_low _ HR.out.2.1 (by omega), by simp⟩⟩
             case measure => simp [intOf]; omega
           | some k =>
             simp only [pI]
             simp only [Option.getD_some] at hp
             go_wp2_with fail
             go_round
             case rel => exact ⟨i + 1, n * 10 + ((byt l i).toNat - 48), some (k + 1), by omega, i64_eq (by omega), i64_eq (by simp only [pI]; omega), by go_num, Lib.hid ⟨by rw [HN.out]; simp, digit_low _ HR.out.2.1 (by omega), by simp only [Option.getD_some]; omega⟩⟩
             case measure => simp [intOf]; omega
         · by_cases hmin : i = 0 ∧ byt l i = 45
           · obtain ⟨hi0, h45⟩ := hmin
             have HN := Lib.hid (show rscan true 0 none l = rscan false n p (l.drop (i + 1)) by rw [HR.out.1, show decide (i = 0) = true by simpa using hi0]; exact rs_minus n p l i hlt h45)
             have HD := Lib.hid HR.out.2
             have T : (((byt l i).toNat : Int) == 46) = false := by rw [h45]; rfl
             have T2 : (((byt l i).toNat : Int) != 45) = false := by rw [h45]; rfl
             have T3 : (byt l i).toNat < 48 := by rw [h45]; decide
             have T4 : decide (0 < i) = false := by simp; omega
             clear h45 hdg hdot HR hi0
             go_wp2_with fail
             go_round
             case rel => exact ⟨i + 1, n, p, by omega, rfl, rfl, by go_num, Lib.hid ⟨by rw [HN.out]; simp, by have := digit_low 0 HD.out.1 (by decide); omega, by have := HD.out.2; omega⟩⟩
             case measure => simp [intOf]; omega
           · have HX := Lib.hid (ref_none l (by rw [HR.out.1]; exact rs_none _ n p l i hlt hdot hdg (by simpa using hmin)))
             have hT : decide (0 < i) = true ∨ decide (0 < i) = false ∧ (((byt l i).toNat : Int) != 45) = true := by
               by_cases h0 : 0 < i
               · exact .inl (by simpa using h0)
               · refine .inr ⟨by simpa using h0, ?_⟩
                 rw [bne_iff_ne]; intro e
                 exact hmin ⟨by omega, UInt8.toNat_inj.1 (by rw [show (45 : UInt8).toNat = 45 from rfl]; omega)⟩
             have hD : (byt l i).toNat < 48 ∨ (48 ≤ (byt l i).toNat ∧ 57 < (byt l i).toNat) := by unfold dgt at hdg; omega
             have hE : ((((byt l i).toNat : Int) == 46) = true ∧ ∃ k, p = some k) ∨ (((byt l i).toNat : Int) == 46) = false := by
               by_cases h46 : byt l i = 46
               · refine .inl ⟨by rw [h46]; rfl, ?_⟩
                 cases p with
                 | none => exact absurd ⟨h46, rfl⟩ hdot
                 | some k => exact ⟨k, rfl⟩
               · exact .inr (u8_ne h46)
             clear hmin hdg hdot HR
             rcases hE with ⟨T, k, rfl⟩ | T
             · simp only [pI]
               rcases hD with D1 | ⟨D1, D2⟩ <;> rcases hT with T1 | ⟨T1, T2⟩
               all_goals
                 go_wp2_with fail
                 go_ret2
                 exact ⟨ret_pr HX.out, Below.refl _ _⟩
             · rcases hD with D1 | ⟨D1, D2⟩ <;> rcases hT with T1 | ⟨T1, T2⟩
               all_goals
                 go_wp2_with fail
                 go_ret2
                 exact ⟨ret_pr HX.out, Below.refl _ _⟩
     · have hn : n ≤ 1000000000000000000 := by have := pow_top 18 HR.out.2.1 (by omega); omega
       have HN := Lib.hid (show rscan true 0 none l = some (n, p) by rw [HR.out.1, List.drop_eq_nil_of_le (by omega)]; rfl)
       obtain ⟨k0, hk0⟩ : ∃ k, p.getD 0 = k := ⟨_, rfl⟩
       have hk18 : k0 ≤ 18 := by have := HR.out.2.2; omega
       have hpI : pI p < 0 ∧ k0 = 0 ∨ pI p = (k0 : Int) := by
         cases p with
         | none => exact .inl ⟨by simp [pI], by rw [← hk0]; rfl⟩
         | some k => exact .inr (by rw [← hk0]; rfl)
       have HK := Lib.hid hk0
       have HP := Lib.hid hpI
       clear hk0 HR
       rcases hpI with ⟨hneg, hk⟩ | hpos
       all_goals
         go_wp2_with fail
         go_loop [4, 5] (fun a b => ∃ (m k : Nat), a = .int .i64 (m : Int) ∧ b = .int .i64 (k : Int) ∧ m ≤ 1000000000000000000 ∧ k ≤ 18 ∧ Hid (rscale n k0 = rscale m k)) (fun _ b => 4 - (intOf b).toNat)
         case atStart => exact ⟨n, k0, rfl, i64_eq (by omega), hn, hk18, Lib.hid rfl⟩
         case round =>
           first | clear hneg hk | clear hpos
           clear hk18 hn
           obtain ⟨m, k, rfl, rfl, hm, hk18, HM⟩ := hrel
           by_cases hk4 : 4 ≤ k
           · have HS0 := Lib.hid (HM.out.trans (rsc_stop m k hk4))
             have hS := ref_some l n p m HN.out (by rw [HK.out]; exact HS0.out)
             by_cases hl0 : l.length = 0
             · have hsg : signI l m = (m : Int) := by unfold signI; rw [List.eq_nil_of_length_eq_zero hl0]; simp
               rw [hsg] at hS
               have HS := Lib.hid hS
               clear hS hsg
               cases hv : vld (m : Int)
               · go_wp2_with (go_at_call 118; refine (fxRefValid_any _ _).mono ?_; rintro e w' ⟨rfl, rfl⟩; rw [hv])
                 go_ret2
                 exact ⟨ret_pr (by rw [HS.out, hv]; simp), Below.refl _ _⟩
               · by_cases hte : textI (m : Int) = l
                 · have HT := Lib.hid hte
                   clear hte
                   go_wp2_with (go_at_call 118; refine (fxRefValid_any _ _).mono ?_; rintro e w' ⟨rfl, rfl⟩; rw [hv])
                   refine (fxRefText_any _ _).mono ?_
                   rintro e w2 ⟨rfl, hb2⟩
                   rw [HT.out]
                   go_wp2_with fail
                   go_ret2
                   exact ⟨ret_pr (by rw [HS.out, if_pos ⟨hv, HT.out⟩]), hb2⟩
                 · have HT := Lib.hid hte
                   have T9 : (textI (m : Int) == l) = false := by rw [beq_eq_false_iff_ne]; exact hte
                   clear hte
                   go_wp2_with (go_at_call 118; refine (fxRefValid_any _ _).mono ?_; rintro e w' ⟨rfl, rfl⟩; rw [hv])
                   refine (fxRefText_any _ _).mono ?_
                   rintro e w2 ⟨rfl, hb2⟩
                   go_wp2_with fail
                   go_ret2
                   exact ⟨ret_pr (by rw [HS.out, if_neg (fun h => HT.out h.2)]), hb2⟩
             · have hl1 : 0 < l.length := by omega
               clear hl0
               by_cases h45 : byt l 0 = 45
               · have hsg : signI l m = -(m : Int) := by unfold signI; rw [if_pos (by rw [head_get l hl1, h45])]
                 rw [hsg] at hS
                 have HS := Lib.hid hS
                 have T : (((byt l 0).toNat : Int) == 45) = true := by rw [h45]; rfl
                 clear hS hsg h45
                 cases hv : vld (-(m : Int))
                 · go_wp2_with (go_at_call 118; refine (fxRefValid_any _ _).mono ?_; rintro e w' ⟨rfl, rfl⟩; rw [hv])
                   go_ret2
                   exact ⟨ret_pr (by rw [HS.out, hv]; simp), Below.refl _ _⟩
                 · by_cases hte : textI (-(m : Int)) = l
                   · have HT := Lib.hid hte
                     clear hte
                     go_wp2_with (go_at_call 118; refine (fxRefValid_any _ _).mono ?_; rintro e w' ⟨rfl, rfl⟩; rw [hv])
                     refine (fxRefText_any _ _).mono ?_
                     rintro e w2 ⟨rfl, hb2⟩
                     rw [HT.out]
                     go_wp2_with fail
                     go_ret2
                     exact ⟨ret_pr (by rw [HS.out, if_pos ⟨hv, HT.out⟩]), hb2⟩
                   · have HT := Lib.hid hte
                     have T9 : (textI (-(m : Int)) == l) = false := by rw [beq_eq_false_iff_ne]; exact hte
                     clear hte
                     go_wp2_with (go_at_call 118; refine (fxRefValid_any _ _).mono ?_; rintro e w' ⟨rfl, rfl⟩; rw [hv])
                     refine (fxRefText_any _ _).mono ?_
                     rintro e w2 ⟨rfl, hb2⟩
                     go_wp2_with fail
                     go_ret2
                     exact ⟨ret_pr (by rw [HS.out, if_neg (fun h => HT.out h.2)]), hb2⟩
               · have hsg : signI l m = (m : Int) := by unfold signI; rw [if_neg (head_not l h45)]
                 rw [hsg] at hS
                 have HS := Lib.hid hS
                 have T : (((byt l 0).toNat : Int) == 45) = false := u8_ne h45
                 clear hS hsg h45
                 cases hv : vld (m : Int)
                 · go_wp2_with (go_at_call 118; refine (fxRefValid_any _ _).mono ?_; rintro e w' ⟨rfl, rfl⟩; rw [hv])
                   go_ret2
                   exact ⟨ret_pr (by rw [HS.out, hv]; simp), Below.refl _ _⟩
                 · by_cases hte : textI (m : Int) = l
                   · have HT := Lib.hid hte
                     clear hte
                     go_wp2_with (go_at_call 118; refine (fxRefValid_any _ _).mono ?_; rintro e w' ⟨rfl, rfl⟩; rw [hv])
                     refine (fxRefText_any _ _).mono ?_
                     rintro e w2 ⟨rfl, hb2⟩
                     rw [HT.out]
                     go_wp2_with fail
                     go_ret2
                     exact ⟨ret_pr (by rw [HS.out, if_pos ⟨hv, HT.out⟩]), hb2⟩
                   · have HT := Lib.hid hte
                     have T9 : (textI (m : Int) == l) = false := by rw [beq_eq_false_iff_ne]; exact hte
                     clear hte
                     go_wp2_with (go_at_call 118; refine (fxRefValid_any _ _).mono ?_; rintro e w' ⟨rfl, rfl⟩; rw [hv])
                     refine (fxRefText_any _ _).mono ?_
                     rintro e w2 ⟨rfl, hb2⟩
                     go_wp2_with fail
                     go_ret2
                     exact ⟨ret_pr (by rw [HS.out, if_neg (fun h => HT.out h.2)]), hb2⟩
           · by_cases hov : 1000000000000000 < m
             · have HX := Lib.hid (ref_over l n p HN.out (by rw [HK.out, HM.out]; exact rsc_over m k hk4 hov))
               have T : decide ((1000000000000000 : Int) < (m : Int)) = true := by rw [decide_eq_true_eq]; omega
               clear hov
               go_wp2_with fail
               go_ret2
               exact ⟨ret_pr HX.out, Below.refl _ _⟩
             · have HX := Lib.hid (HM.out.trans (rsc_next m k hk4 hov))
               have T : decide ((1000000000000000 : Int) < (m : Int)) = false := by rw [decide_eq_false_iff_not]; omega
               have hmm : m ≤ 1000000000000000 := by omega
               clear hov
               go_wp2_with fail
               go_round
               case rel => exact ⟨m * 10, k + 1, i64_eq (by omega), by go_num, by omega, by omega, HX⟩
               case measure => simp [intOf]; omega
end
end Go.Proofs.YtoahmganodehkaaGreatDoor
