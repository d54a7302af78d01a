/- Walks of data: Get of a leaf, Make of a leaf. -/
import Derived.Test.YtoahmganodehkaaGreatDoorM02
import Derived.Test.YtoahmganodehkaaGreatDoorChecked
import Derived.Test.YtoahmganodehkaaGreatDoorM01
import Derived.RangeFuncNested
import Derived.RangeFuncBound
import Derived.RangeFuncCalls
import Derived.RangeFuncLeaves
import Derived.RangeFuncBox
import Derived.Shelf.Abstract
import Derived.Shelf.RegionOpen
import Derived.OwnWalkIn
import Derived.TacticsInMore
import Derived.LoopNIn
import Derived.LoopIn
import Derived.Maps.AppendAt
import Derived.Lib.AppendIntMem
import Derived.Lib.SmallJoins
import Derived.Test.YtoahmganodehkaaGreatDoorProg
import Derived.Handy
import Derived.Lib.Hide
import Derived.Lib.ItoaWalk
import Derived.BigCall
import Derived.BigGuard
import Derived.Test.YtoahmganodehkaaGreatDoorShelf
import Derived.LoopTactic
import Derived.Outline
namespace Go.Proofs.YtoahmganodehkaaGreatDoor
set_option linter.unusedSimpArgs false
set_option linter.unusedVariables false
section
open Go.RowKit

theorem stepD_any {d x : Dat} {vi vm : Value} {ok : Nat → Prop} {w0 w : World} (hb0 : Below w0.heap.size w0 w) (hr : Rep w0 ok d vi vm) (s : Stp) (hs : stpD d s = some x) :
    Calls Tryz.prog 65 #[.agg #[.int .i64 d.k, .int .i64 d.n, .string (S d.s), vi, vm], .agg #[.string (S s.lab), .int .i64 s.idx]] w fun e w' => FindE w0 ok e (some x) ∧ Below w.heap.size w w' := by
  obtain ⟨lab, idx⟩ := s
  unfold stpD at hs
  simp only at hs
  by_cases h1 : lab = []
  · subst h1
    rw [if_pos rfl] at hs
    by_cases h2 : 0 ≤ idx
    · rw [if_pos h2] at hs
      obtain ⟨j, rfl⟩ := Int.eq_ofNat_of_zero_le h2
      exact step_idx hb0 hr j hs
    · rw [if_neg h2] at hs; cases hs
  · rw [if_neg h1] at hs
    exact step_lab hb0 hr lab idx (by simpa using h1) hs
theorem SlK.open {W : World} {ok : Nat → Prop} {v : Value} {L : List Stp} (h : SlK W ok v L) : ∃ p cap, v = .slice p L.length cap ∧ ∀ (j : Nat) (_ : j < L.length), ∃ B o, p = some ⟨B, o, none⟩ ∧ L.length ≤ cap ∧ B < W.heap.size ∧ ok B ∧ W.cell? ⟨B, o + j * 2, none⟩ = some (.string (S L[j].lab)) ∧ W.cell? ⟨B, o + j * 2 + 1, none⟩ = some (.int .i64 L[j].idx) := by
  obtain ⟨p, cap, B, o, rfl, hp, hc⟩ := h
  refine ⟨p, cap, rfl, fun j h => ?_⟩
  obtain ⟨h1, h2, h3, h4⟩ := hp (by omega)
  exact ⟨B, o, h1, h2, h3, h4, hc j h⟩
theorem getD_step {d x : Dat} {L : List Stp} {i : Nat} (h : i < L.length) (hg : getD d (L.drop i) = some x) : ∃ y, stpD d L[i] = some y ∧ getD y (L.drop (i + 1)) = some x := by
  rw [List.drop_eq_getElem_cons h, getD] at hg
  exact Option.bind_eq_some_iff.1 hg
theorem getD_over {d x : Dat} {L : List Stp} {i : Nat} (h : L.length ≤ i) (hg : getD d (L.drop i) = some x) : d = x := by
  rw [List.drop_of_length_le h, getD] at hg
  exact Option.some.inj hg
/-- the state of Get: the part in a box, the result in the next -/
def GetS (w : World) (d : Dat) (vi vm : Value) (W : World) : Prop :=
  Blk W w.heap.size (boxD d vi vm) 26 ∧ Blk W (w.heap.size + 1) #[.int .i64 0, .int .i64 0, .string ⟨#[]⟩, .slice none 0 0, .slice none 0 0] 26 ∧ Below w.heap.size w W
theorem GetS.below {w W W' : World} {d : Dat} {vi vm : Value} (h : GetS w d vi vm W) (hb : Below W.heap.size W W') : GetS w d vi vm W' :=
  ⟨h.1.below hb, h.2.1.below hb, h.2.2.trans (hb.mono h.2.2.size)⟩
theorem GetS.put {w W : World} {d : Dat} {vi vm : Value} (h : GetS w d vi vm W) (x : Dat) (xi xm : Value) :
    GetS w x xi xm (((((W.setCell ⟨w.heap.size, 0, none⟩ (.int .i64 x.k)).setCell ⟨w.heap.size, 1, none⟩ (.int .i64 x.n)).setCell ⟨w.heap.size, 2, none⟩ (.string (S x.s))).setCell ⟨w.heap.size, 3, none⟩ xi).setCell ⟨w.heap.size, 4, none⟩ xm) := by
  obtain ⟨h1, h2, h3⟩ := h
  refine ⟨((((h1.set 0 _).set 1 _).set 2 _).set 3 _).set 4 _, ((((h2.set_other 0 _ (by omega)).set_other 1 _ (by omega)).set_other 2 _ (by omega)).set_other 3 _ (by omega)).set_other 4 _ (by omega), ?_⟩
  exact ((((h3.setCell (Nat.le_refl _) _).setCell (Nat.le_refl _) _).setCell (Nat.le_refl _) _).setCell (Nat.le_refl _) _).setCell (Nat.le_refl _) _
theorem GetS.facts {w W : World} {d : Dat} {vi vm : Value} (h : GetS w d vi vm W) :
    (W.cell? ⟨w.heap.size, 0, none⟩ = some (.int .i64 d.k) ∧ W.cell? ⟨w.heap.size, 1, none⟩ = some (.int .i64 d.n) ∧ W.cell? ⟨w.heap.size, 2, none⟩ = some (.string (S d.s)) ∧ W.cell? ⟨w.heap.size, 3, none⟩ = some vi ∧ W.cell? ⟨w.heap.size, 4, none⟩ = some vm) ∧
    (W.frozen? ⟨w.heap.size, 0, none⟩ = false ∧ W.frozen? ⟨w.heap.size, 1, none⟩ = false ∧ W.frozen? ⟨w.heap.size, 2, none⟩ = false ∧ W.frozen? ⟨w.heap.size, 3, none⟩ = false ∧ W.frozen? ⟨w.heap.size, 4, none⟩ = false) ∧ w.heap.size + 1 < W.heap.size :=
  ⟨⟨h.1.cell 0, h.1.cell 1, h.1.cell 2, h.1.cell 3, h.1.cell 4⟩, ⟨h.1.frozen 0, h.1.frozen 1, h.1.frozen 2, h.1.frozen 3, h.1.frozen 4⟩, h.2.1.lt⟩
theorem two_new (w : World) (a b : Array Value) (t1 t2 : TypeId) : Blk ((w.alloc (.cells a t1)).alloc (.cells b t2)) w.heap.size a t1 ∧ Blk ((w.alloc (.cells a t1)).alloc (.cells b t2)) (w.heap.size + 1) b t2 ∧ Below w.heap.size w ((w.alloc (.cells a t1)).alloc (.cells b t2)) := by
  refine ⟨(Blk.new w a t1).alloc _, ?_, ((Below.refl _ _).alloc (Nat.le_refl _) _).alloc (by simp) _⟩
  have h := Blk.new (w.alloc (.cells a t1)) b t2
  simpa using h
set_option maxRecDepth 100000 in
set_option maxHeartbeats 4000000 in
theorem Get_any {d x : Dat} {vi vm pv : Value} {L : List Stp} {ok ok' : Nat → Prop} {w : World} (hr : Rep w ok d vi vm) (hv : SlK w ok' pv L) (hL : L.length ≤ 1000000) (hc : chk d 1 = 0) (hl : limD d = true) (hg : getD d L = some x) (hx : plainB x = true ∧ x.its = [] ∧ x.mem = []) :
    Calls Tryz.prog 36 #[.agg #[.int .i64 d.k, .int .i64 d.n, .string (S d.s), vi, vm], pv] w fun e w' => e = .returned (.tuple #[dv x (.slice none 0 0) (.slice none 0 0), .bool true]) ∧ Below w.heap.size w w' := by
  obtain ⟨p, cap, rfl, hst⟩ := hv.open
  have HST := Lib.hid hst
  have HREP := Lib.hid hr
  have HG := Lib.hid (show getD d (L.drop 0) = some x from hg)
  have HX := Lib.hid hx
  have HCK := Lib.hid (fun w' (hb : Below w.heap.size w w') => (Check_any (hr.under hb) hl))
  simp only [hc] at HCK
  clear hv hst hr hg hx hc hl
  go_enter Tryz.func36, Tryz.ntmps36
  go_upto_region 1 with fail
  have hS : GetS w d vi vm ((w.alloc (.cells #[.int .i64 d.k, .int .i64 d.n, .string (S d.s), vi, vm] 26)).alloc (.cells #[.int .i64 0, .int .i64 0, .string ⟨#[]⟩, .slice none 0 0, .slice none 0 0] 26)) := two_new w _ _ _ _
  generalize (w.alloc (.cells #[.int .i64 d.k, .int .i64 d.n, .string (S d.s), vi, vm] 26)).alloc (.cells #[.int .i64 0, .int .i64 0, .string ⟨#[]⟩, .slice none 0 0, .slice none 0 0] 26) = W at hS ⊢
  obtain ⟨⟨c0, c1, c2, c3, c4⟩, -, hlw⟩ := hS.facts
  have HS := Lib.hid hS
  clear hS
  go_wp2_with fail
  refine (HCK.out _ HS.out.2.2).mono ?_
  rintro e w1 ⟨rfl, hb⟩
  have HS1 := Lib.hid (HS.out.below hb)
  clear hb HS c0 c1 c2 c3 c4 hlw HCK
  go_wp2_with fail
  go_loopw [16] (fun y wr => ∃ (i : Nat) (z : Dat) (zi zm : Value), y = .int .i64 (i : Int) ∧ i ≤ L.length ∧ Hid (GetS w z zi zm wr) ∧ Hid (Rep w ok z zi zm) ∧ Hid (getD z (L.drop i) = some x)) (fun y _ => L.length - (intOf y).toNat)
  case atStart => exact ⟨0, d, vi, vm, rfl, Nat.zero_le _, HS1, HREP, HG⟩
  case round =>
    clear HS1 HREP HG
    obtain ⟨i, z, zi, zm, rfl, hi, HS, HREP, HG⟩ := hrel
    obtain ⟨p1, cap1, rfl, -, -⟩ := HREP.out.items
    obtain ⟨q1, caq1, rfl, -, -⟩ := HREP.out.members
    by_cases hlt : i < L.length
    · obtain ⟨B, o, rfl, hcap, hB, -, s0, s1⟩ := HST.out i hlt
      obtain ⟨y, hy1, hy2⟩ := getD_step hlt HG.out
      have HY1 := Lib.hid hy1
      have HG2 := Lib.hid hy2
      have m0 := (HS.out.2.2.cell (p := ⟨B, o + i * 2, none⟩) hB).trans s0
      have m1 := (HS.out.2.2.cell (p := ⟨B, o + i * 2 + 1, none⟩) hB).trans s1
      clear hy1 hy2 HG s0 s1
      generalize L[i] = s at m0 m1 HY1
      have hN : Blk (wr.alloc (.cells #[.string (S s.lab), .int .i64 s.idx] 44)) wr.heap.size #[.string (S s.lab), .int .i64 s.idx] 44 := Blk.new wr _ _
      have hS := HS.out.below ((Below.refl _ _).alloc (Nat.le_refl _) (.cells #[.string (S s.lab), .int .i64 s.idx] 44))
      clear HS
      go_upto_region 6 with fail
      generalize wr.alloc (.cells #[.string (S s.lab), .int .i64 s.idx] 44) = w5 at hN hS ⊢
      clear m0 m1
      obtain ⟨⟨c0, c1, c2, c3, c4⟩, -, hlw⟩ := hS.facts
      have n0 := hN.cell 0
      have n1 := hN.cell 1
      simp at n0 n1
      have hNl := hN.lt
      have HS5 := Lib.hid hS
      clear hS hN
      go_wp2_with fail
      refine (stepD_any HS5.out.2.2 HREP.out s HY1.out).mono ?_
      rintro e w6 ⟨⟨yi, ym, rfl, hrep6⟩, hb⟩
      have hS6 := HS5.out.below hb
      obtain ⟨p2, cap2, rfl, -, -⟩ := hrep6.items
      obtain ⟨q2, caq2, rfl, -, -⟩ := hrep6.members
      have hN : Blk (w6.alloc (.cells #[.int .i64 y.k, .int .i64 y.n, .string (S y.s), .slice p2 y.its.length cap2, .slice q2 y.mem.length caq2] 26)) w6.heap.size #[.int .i64 y.k, .int .i64 y.n, .string (S y.s), .slice p2 y.its.length cap2, .slice q2 y.mem.length caq2] 26 := Blk.new w6 _ _
      have hS7 := hS6.below ((Below.refl _ _).alloc (Nat.le_refl _) (.cells #[.int .i64 y.k, .int .i64 y.n, .string (S y.s), .slice p2 y.its.length cap2, .slice q2 y.mem.length caq2] 26))
      have HR7 := Lib.hid hrep6
      clear c0 c1 c2 c3 c4 n0 n1 hNl hrep6 HREP HS5 hS6 hb hlw
      simp only [dv]
      go_upto_region 7 with fail
      generalize w6.alloc (.cells #[.int .i64 y.k, .int .i64 y.n, .string (S y.s), .slice p2 y.its.length cap2, .slice q2 y.mem.length caq2] 26) = w7 at hN hS7 ⊢
      have HS8 := Lib.hid (hS7.put y (.slice p2 y.its.length cap2) (.slice q2 y.mem.length caq2))
      obtain ⟨⟨c0, c1, c2, c3, c4⟩, ⟨f0, f1, f2, f3, f4⟩, hlw⟩ := hS7.facts
      have n0 := hN.cell 0
      have n1 := hN.cell 1
      have n2 := hN.cell 2
      have n3 := hN.cell 3
      have n4 := hN.cell 4
      simp at n0 n1 n2 n3 n4
      have hNl := hN.lt
      clear hN hS7
      go_wp2_with fail
      go_roundw
      case rel => exact ⟨i + 1, y, _, _, by go_num, hlt, HS8, HR7, HG2⟩
      case measure => simp [intOf]; omega
    · obtain rfl := getD_over (by omega) HG.out
      obtain ⟨⟨c0, c1, c2, c3, c4⟩, -, hlw⟩ := HS.out.facts
      have HB := Lib.hid HS.out.2.2
      have b2 := HS.out.2.1
      go_wp2_with fail
      refine (cleanLeaf_any (HREP.out.under HB.out) HX.out.1 HX.out.2.1 HX.out.2.2).mono ?_
      rintro e w8 ⟨rfl, hb⟩
      have HB8 := Lib.hid (HB.out.trans (hb.mono HB.out.size))
      have b8 := b2.below hb
      clear b2 c0 c1 c2 c3 c4 hlw hb HS HREP HG
      have z0 := b8.cell 0
      have z1 := b8.cell 1
      have z2 := b8.cell 2
      have z3 := b8.cell 3
      have z4 := b8.cell 4
      have y0 := b8.frozen 0
      have y1 := b8.frozen 1
      have y2 := b8.frozen 2
      have y3 := b8.frozen 3
      have y4 := b8.frozen 4
      simp at z0 z1 z2 z3 z4
      have hlw := b8.lt
      clear b8
      simp only [dv]
      go_wp2_with fail
      refine bodyPost_ret (v := .tuple #[dv z (.slice none 0 0) (.slice none 0 0), .bool true]) (by simp [results, Tryz.results36, go_sem, dv, show S [] = ⟨#[]⟩ from rfl, z0, z1, z2, z3, z4, y0, y1, y2, y3, y4, hlw]) rfl ⟨rfl, ?_⟩
      exact ((((HB8.out.setCell (Nat.le_add_right _ 1) _).setCell (Nat.le_add_right _ 1) _).setCell (Nat.le_add_right _ 1) _).setCell (Nat.le_add_right _ 1) _).setCell (Nat.le_add_right _ 1) _
end
section
open Go.RowKit

theorem infoU8 : (Tryz.prog.info? 5).map (fun i => (i.zero, i.size, i.bytes)) = some (some (.int .u8 0), 1, 1) := by kernel_rfl

set_option maxHeartbeats 400000 in
theorem escape_any (c : UInt8) (w : World) : Calls Tryz.prog 180 #[.int .u8 (c.toNat : Int)] w fun e w' => e = .returned (.string (S (escB c))) ∧ ∃ n, w' = w.drewN n := by
  have hlt := c.toNat_lt
  by_cases h34 : c = 34
  · subst h34
    go_enter Tryz.func180, Tryz.ntmps180
    go_wp2
    go_ret
    exact ⟨rfl, 0, rfl⟩
  by_cases h92 : c = 92
  · subst h92
    go_enter Tryz.func180, Tryz.ntmps180
    go_wp2
    go_ret
    exact ⟨rfl, 0, rfl⟩
  by_cases h10 : c = 10
  · subst h10
    go_enter Tryz.func180, Tryz.ntmps180
    go_wp2
    go_ret
    exact ⟨rfl, 0, rfl⟩
  by_cases h9 : c = 9
  · subst h9
    go_enter Tryz.func180, Tryz.ntmps180
    go_wp2
    go_ret
    exact ⟨rfl, 0, rfl⟩
  by_cases h13 : c = 13
  · subst h13
    go_enter Tryz.func180, Tryz.ntmps180
    go_wp2
    go_ret
    exact ⟨rfl, 0, rfl⟩
  have e34 : ((c.toNat : Int) == 34) = false := u8_ne h34
  have e92 : ((c.toNat : Int) == 92) = false := u8_ne h92
  have e10 : ((c.toNat : Int) == 10) = false := u8_ne h10
  have e9 : ((c.toNat : Int) == 9) = false := u8_ne h9
  have e13 : ((c.toNat : Int) == 13) = false := u8_ne h13
  by_cases hp : c < 32 ∨ 126 < c
  · have hb : ¬ (32 ≤ c.toNat ∧ c.toNat ≤ 126) := by
      rcases hp with h | h <;> rw [UInt8.lt_iff_toNat_lt] at h <;> simp at h <;> omega
    have hd : (decide ((c.toNat : Int) < 32) || decide (126 < (c.toNat : Int))) = true := by simp; omega
    have hx : escB c = [92, 120, hexDig (c >>> 4), hexDig (c &&& 15)] := by simp [escB, h34, h92, h10, h9, h13, hp]
    rw [hx]
    have HX := Lib.hid hx
    clear hx hp h34 h92 h10 h9 h13
    have q2 : (0 : Int) ≤ (c.toNat : Int) / 16 := by omega
    have q3 : (c.toNat : Int) / 16 + 1 ≤ 16 := by omega
    have q6 : (0 : Int) ≤ (c.toNat : Int) % 16 := by omega
    have q7 : (c.toNat : Int) % 16 + 1 ≤ 16 := by omega
    have l1 : (sl [48, 49, 50, 51, 52, 53, 54, 55, 56, 57, 97, 98, 99, 100, 101, 102] (c.toNat / 16) (c.toNat / 16 + 1)).length ≤ 1 := by have := sl_le [48, 49, 50, 51, 52, 53, 54, 55, 56, 57, 97, 98, 99, 100, 101, 102] (c.toNat / 16) (c.toNat / 16 + 1); omega
    have l2 : (sl [48, 49, 50, 51, 52, 53, 54, 55, 56, 57, 97, 98, 99, 100, 101, 102] (c.toNat % 16) (c.toNat % 16 + 1)).length ≤ 1 := by have := sl_le [48, 49, 50, 51, 52, 53, 54, 55, 56, 57, 97, 98, 99, 100, 101, 102] (c.toNat % 16) (c.toNat % 16 + 1); omega
    have hfin : ct (ct [92, 120] (sl [48, 49, 50, 51, 52, 53, 54, 55, 56, 57, 97, 98, 99, 100, 101, 102] (c.toNat / 16) (c.toNat / 16 + 1))) (sl [48, 49, 50, 51, 52, 53, 54, 55, 56, 57, 97, 98, 99, 100, 101, 102] (c.toNat % 16) (c.toNat % 16 + 1)) = [92, 120, hexDig (c >>> 4), hexDig (c &&& 15)] :=
      forall_u8 (P := fun c => ct (ct [92, 120] (sl [48, 49, 50, 51, 52, 53, 54, 55, 56, 57, 97, 98, 99, 100, 101, 102] (c.toNat / 16) (c.toNat / 16 + 1))) (sl [48, 49, 50, 51, 52, 53, 54, 55, 56, 57, 97, 98, 99, 100, 101, 102] (c.toNat % 16) (c.toNat % 16 + 1)) = [92, 120, hexDig (c >>> 4), hexDig (c &&& 15)]) (by decide +kernel) c
    have HF := Lib.hid hfin
    clear hfin
    have q1 : IntKind.u8.wrap ((c.toNat : Int) / 16 + 1) = (c.toNat : Int) / 16 + 1 := IntWalk.u8_in _ (by omega)
    have q4 : bits .and .u8 (c.toNat : Int) 15 = (c.toNat : Int) % 16 := u8_and15 _ (by omega) (by omega)
    have q5 : IntKind.u8.wrap ((c.toNat : Int) % 16 + 1) = (c.toNat : Int) % 16 + 1 := IntWalk.u8_in _ (by omega)
    rcases Nat.lt_or_ge c.toNat 32 with h32 | h32
    · go_enter Tryz.func180, Tryz.ntmps180
      go_wp2
      go_quiet (fail)
      clear q1 q4 q5
      go_wp2
      go_ret
      exact ⟨congrArg (fun x => Ending.returned (.string (S x))) HF.out, _, rfl⟩
    · have h126 : 126 < c.toNat := by omega
      go_enter Tryz.func180, Tryz.ntmps180
      go_wp2
      go_quiet (fail)
      clear q1 q4 q5
      go_wp2
      go_ret
      exact ⟨congrArg (fun x => Ending.returned (.string (S x))) HF.out, _, rfl⟩
  · have hp1 : 32 ≤ c.toNat := by
      have := fun h => hp (.inl h); rw [UInt8.lt_iff_toNat_lt] at this; simp at this; exact this
    have hp2 : c.toNat ≤ 126 := by
      have := fun h => hp (.inr h); rw [UInt8.lt_iff_toNat_lt] at this; simp at this; exact this
    have hx : escB c = [c] := by simp [escB, h34, h92, h10, h9, h13, hp]
    rw [hx]
    have HX := Lib.hid hx
    clear hx hp h34 h92 h10 h9 h13
    go_enter Tryz.func180, Tryz.ntmps180
    go_wp2
    go_ret
    exact ⟨congrArg (fun x => Ending.returned (.string x)) (encode_S c (by omega)), 0, rfl⟩
end
section
open Go.RowKit

set_option maxHeartbeats 400000 in
set_option maxRecDepth 100000 in
theorem written_any (c : UInt8) (w : World) : Calls Tryz.prog 165 #[.int .u8 (c.toNat : Int)] w fun e w' => e = .returned (.string (S (escB c))) ∧ Below w.heap.size w w' := by
  have hlt := c.toNat_lt
  by_cases h34 : c = 34
  · subst h34
    go_enter Tryz.func165, Tryz.ntmps165
    go_wp2
    go_ret
    exact ⟨rfl, Below.refl _ _⟩
  by_cases h92 : c = 92
  · subst h92
    go_enter Tryz.func165, Tryz.ntmps165
    go_wp2
    go_ret
    exact ⟨rfl, Below.refl _ _⟩
  by_cases h10 : c = 10
  · subst h10
    go_enter Tryz.func165, Tryz.ntmps165
    go_wp2
    go_ret
    exact ⟨rfl, Below.refl _ _⟩
  by_cases h9 : c = 9
  · subst h9
    go_enter Tryz.func165, Tryz.ntmps165
    go_wp2
    go_ret
    exact ⟨rfl, Below.refl _ _⟩
  by_cases h13 : c = 13
  · subst h13
    go_enter Tryz.func165, Tryz.ntmps165
    go_wp2
    go_ret
    exact ⟨rfl, Below.refl _ _⟩
  have e34 : ((c.toNat : Int) == 34) = false := u8_ne h34
  have e92 : ((c.toNat : Int) == 92) = false := u8_ne h92
  have e10 : ((c.toNat : Int) == 10) = false := u8_ne h10
  have e9 : ((c.toNat : Int) == 9) = false := u8_ne h9
  have e13 : ((c.toNat : Int) == 13) = false := u8_ne h13
  by_cases hp : c < 32 ∨ 126 < c
  · have hb : ¬ (32 ≤ c.toNat ∧ c.toNat ≤ 126) := by
      rcases hp with h | h <;> rw [UInt8.lt_iff_toNat_lt] at h <;> simp at h <;> omega
    have hd : (decide ((c.toNat : Int) < 32) || decide (126 < (c.toNat : Int))) = true := by simp; omega
    have hx : escB c = [92, 120, hexDig (c >>> 4), hexDig (c &&& 15)] := by simp [escB, h34, h92, h10, h9, h13, hp]
    rw [hx]
    have HX := Lib.hid hx
    clear hx hp h34 h92 h10 h9 h13
    have q2 : (0 : Int) ≤ (c.toNat : Int) / 16 := by omega
    have q3 : (c.toNat : Int) / 16 + 1 ≤ 16 := by omega
    have q6 : (0 : Int) ≤ (c.toNat : Int) % 16 := by omega
    have q7 : (c.toNat : Int) % 16 + 1 ≤ 16 := by omega
    have l1 : (sl [48, 49, 50, 51, 52, 53, 54, 55, 56, 57, 97, 98, 99, 100, 101, 102] (c.toNat / 16) (c.toNat / 16 + 1)).length ≤ 1 := by have := sl_le [48, 49, 50, 51, 52, 53, 54, 55, 56, 57, 97, 98, 99, 100, 101, 102] (c.toNat / 16) (c.toNat / 16 + 1); omega
    have l2 : (sl [48, 49, 50, 51, 52, 53, 54, 55, 56, 57, 97, 98, 99, 100, 101, 102] (c.toNat % 16) (c.toNat % 16 + 1)).length ≤ 1 := by have := sl_le [48, 49, 50, 51, 52, 53, 54, 55, 56, 57, 97, 98, 99, 100, 101, 102] (c.toNat % 16) (c.toNat % 16 + 1); omega
    have hfin : ct (ct [92, 120] (sl [48, 49, 50, 51, 52, 53, 54, 55, 56, 57, 97, 98, 99, 100, 101, 102] (c.toNat / 16) (c.toNat / 16 + 1))) (sl [48, 49, 50, 51, 52, 53, 54, 55, 56, 57, 97, 98, 99, 100, 101, 102] (c.toNat % 16) (c.toNat % 16 + 1)) = [92, 120, hexDig (c >>> 4), hexDig (c &&& 15)] :=
      forall_u8 (P := fun c => ct (ct [92, 120] (sl [48, 49, 50, 51, 52, 53, 54, 55, 56, 57, 97, 98, 99, 100, 101, 102] (c.toNat / 16) (c.toNat / 16 + 1))) (sl [48, 49, 50, 51, 52, 53, 54, 55, 56, 57, 97, 98, 99, 100, 101, 102] (c.toNat % 16) (c.toNat % 16 + 1)) = [92, 120, hexDig (c >>> 4), hexDig (c &&& 15)]) (by decide +kernel) c
    have HF := Lib.hid hfin
    clear hfin
    rcases Nat.lt_or_ge c.toNat 32 with h32 | h32
    · go_enter Tryz.func165, Tryz.ntmps165
      go_wp2
      go_quiet (fail)
      go_wp2
      go_ret
      exact ⟨congrArg (fun x => Ending.returned (.string (S x))) HF.out, below_drewN (Below.refl _ _) _⟩
    · have h126 : 126 < c.toNat := by omega
      go_enter Tryz.func165, Tryz.ntmps165
      go_wp2
      go_quiet (fail)
      go_wp2
      go_ret
      exact ⟨congrArg (fun x => Ending.returned (.string (S x))) HF.out, below_drewN (Below.refl _ _) _⟩
  · have hp1 : 32 ≤ c.toNat := by
      have := fun h => hp (.inl h); rw [UInt8.lt_iff_toNat_lt] at this; simp at this; exact this
    have hp2 : c.toNat ≤ 126 := by
      have := fun h => hp (.inr h); rw [UInt8.lt_iff_toNat_lt] at this; simp at this; exact this
    have hx : escB c = [c] := by simp [escB, h34, h92, h10, h9, h13, hp]
    rw [hx]
    have HX := Lib.hid hx
    clear hx hp h34 h92 h10 h9 h13
    have hc := conv_one (P := Tryz.prog) w 138 9 5 5 c 1 Tryz.underlying138 Tryz.underlying5 Tryz.underlying9
    go_enter Tryz.func165, Tryz.ntmps165
    go_wp2
    go_ret
    exact ⟨rfl, (Below.refl _ _).alloc (Nat.le_refl _) _⟩
end
section
open Go.RowKit

theorem flat_take (l : List UInt8) (k : Nat) (h : k < l.length) : (l.take (k + 1)).flatMap escB = (l.take k).flatMap escB ++ escB (byt l k) := by
  rw [take_byt l k h, List.flatMap_append]; simp

set_option maxHeartbeats 400000 in
theorem refQuote_any (l : List UInt8) (hl : l.length ≤ 1000000) (w : World) : Calls Tryz.prog 122 #[.string (S l)] w fun e w' => e = .returned (.string (S (quoteL l))) ∧ Below w.heap.size w w' := by
  go_enter Tryz.func122, Tryz.ntmps122
  go_wp2_with fail
  go_loopw [3, 4] (fun o i wr => ∃ (k : Nat) (acc : List UInt8), k ≤ l.length ∧ i = .int .i64 k ∧ o = .string (S acc) ∧ acc.length ≤ 4 * k + 1 ∧ Hid (acc = 34 :: (l.take k).flatMap escB) ∧ Below w.heap.size w wr)
    (fun _ i _ => l.length - (intOf i).toNat)
  case atStart => exact ⟨0, [34], by omega, rfl, rfl, by simp, rfl, Below.refl _ _⟩
  case round =>
    obtain ⟨k, acc, hk, rfl, rfl, hacc, hh, hB⟩ := hrel
    by_cases hlt : k < l.length
    · have he := esc_len (byt l k)
      go_wp2_with (go_at_call 165; refine (written_any _ _).mono ?_; rintro e w' ⟨rfl, hb1⟩)
      go_roundw
      case rel => exact ⟨k + 1, ct acc (escB (byt l k)), by omega, by go_num, rfl, by rw [ct_len]; omega, by show ct acc _ = _; rw [hh.out, flat_take l k hlt, ct_eq]; rfl, hB.trans (hb1.mono hB.size)⟩
      case measure => simp [intOf]; omega
    · go_wp2_with fail
      go_ret
      exact ⟨ret_S (by rw [ct_eq, hh.out, List.take_of_length_le (by omega)]; rfl), hB⟩
end
section
open Go.RowKit Go.Shelf
attribute [local go_sem] Oper.semAt_some

theorem drewN_abides {β : Type} {B : Nat} {J : β → World → Prop} (h : AbidesFrom B J) {s : β} {W : World} (hs : J s W) (n : Nat) : J s (W.drewN n) :=
  h s W (W.drewN n) none hs ⟨rfl, rfl, rfl, Nat.le_refl _, fun _ _ _ => rfl⟩ (fun r e => by cases e)

set_option maxRecDepth 100000 in
set_option maxHeartbeats 1000000 in
theorem pieces1_in (n : Nat) (hn : 1 ≤ n) (y Bn : Nat) (l : List UInt8) (hl : l.length ≤ 1000000) (J Jx : List UInt8 → World → Prop) (W : World) (hJ : AbidesFrom W.heap.size J)
    (hY : ∀ pre x W1, J pre W1 → pre.length < l.length → YieldAt Fence.wide (n - 1) Tryz.prog y #[.string (S (escB x))] W1 fun e W' =>
      (e = .returned (.bool true) ∧ J (pre ++ [x]) W' ∧ W'.heap[Bn]? = W1.heap[Bn]?) ∨ (e = .returned (.bool false) ∧ Jx (pre ++ [x]) W'))
    (hBn : Boxed W Bn 9 (.string (S l))) (h0 : J [] W) :
    CallsIn Fence.wide n Tryz.prog 179 #[.func (.yield y) #[] #[], .pointer (some ⟨Bn, 0, none⟩)] W fun e W' => (∃ v, e = .returned v) ∧
      ((∃ xs, xs = l ∧ J xs W') ∨ (∃ pre, pre <+: l ∧ Jx pre W')) := by
  have hc := hBn.cell
  refine callsIn_of_wp Tryz.func179 rfl trivial ?_ rfl
  simp only [Tryz.ntmps179, List.size_toArray, List.length_cons, List.length_nil, Nat.reduceAdd, Nat.reduceSub, Array.replicate_succ, Array.replicate_zero, List.push_toArray, List.append_toArray, List.nil_append, List.cons_append]
  gi_wp2
  clear hc
  gi_loopw [6] (fun i wr => ∃ k : Nat, k ≤ l.length ∧ i = .int .i64 k ∧ J (l.take k) wr ∧ Boxed wr Bn 9 (.string (S l)))
    (fun i _ => l.length - (intOf i).toNat)
  case atStart => exact ⟨0, by omega, rfl, h0, hBn⟩
  case round =>
    obtain ⟨k, hk, rfl, hJk, hbx⟩ := hrel
    by_cases hlt : k < l.length
    · have hc := hbx.cell
      gi_wp2_with fail
      refine ⟨trivial, ?_⟩
      refine (callsIn_wide.2 (escape_any _ _)).mono ?_
      rintro e w' ⟨rfl, q, rfl⟩
      obtain ⟨fn, tmps, assign, body, hy, hR⟩ := hY (l.take k) (byt l k) (wr.drewN q) (drewN_abides hJ hJk q) (by rw [List.length_take]; omega)
      gi_wp2_with fail
      refine hR.mono ?_
      rintro e W3 (⟨rfl, hJ3, hk3⟩ | ⟨rfl, hJx3⟩)
      · gi_wp2
        go_roundw
        case rel => exact ⟨k + 1, by omega, by go_num, by rw [take_byt l k hlt]; exact hJ3, hk3.trans hbx⟩
        case measure => simp [intOf]; omega
      · gi_wp2
        refine bodyPost_ret (results_none rfl _ _ _) rfl ?_
        exact ⟨⟨_, rfl⟩, .inr ⟨l.take k ++ [byt l k], by rw [← take_byt l k hlt]; exact List.take_prefix _ _, hJx3⟩⟩
    · gi_wp2
      go_end0
      exact ⟨⟨_, rfl⟩, .inl ⟨l, rfl, by rw [List.take_of_length_le (by omega)] at hJk; exact hJk⟩⟩

theorem pieces_in (n : Nat) (l : List UInt8) (w : World) :
    CallsIn Fence.wide n Tryz.prog 134 #[.string (S l)] w fun e w' => e = .returned (.func (.func 179) #[] #[.pointer (some ⟨w.heap.size, 0, none⟩)]) ∧ w' = w.alloc (.cells #[.string (S l)] 9) := by
  refine callsIn_of_wp Tryz.func134 rfl trivial ?_ rfl
  simp only [Tryz.ntmps134, List.size_toArray, List.length_cons, List.length_nil, Nat.reduceAdd, Nat.reduceSub, Array.replicate_succ, Array.replicate_zero, List.push_toArray, List.append_toArray, List.nil_append, List.cons_append]
  gi_wp2
  go_ret
  exact ⟨rfl, rfl⟩

theorem pieces_stops (n : Nat) (hn : 1 ≤ n) (Bn : Nat) (l : List UInt8) (hl : l.length ≤ 1000000) (w : World) (hBn : Boxed w Bn 9 (.string (S l))) :
    SeqStopsK Fence.wide n Tryz.prog 179 #[.pointer (some ⟨Bn, 0, none⟩)] (fun x : UInt8 => #[Value.string (S (escB x))]) (fun A B => B.heap[Bn]? = A.heap[Bn]?) (fun ys => ys = l) (fun pre => pre <+: l) l.length w := fun y J Jx W hW hJ _ hY h0 =>
  pieces1_in n hn y Bn l hl J Jx W hJ hY ((hW.block Bn hBn.lt).trans hBn) h0



section
variable {F : Fence} {n' : Nat} {P : Program}
theorem wpListIn_append_own_string {ops : Array Oper} {rest : List Oper} {o : Oper} {a : Act} {Q : Exit → Act → World → Prop} (w : World) (hgd : o.guard = none) (sl x : Operand) (t u : TypeId)
    (ho : o.op = .call { callee := .builtin .append, args := #[sl, x], argTypes := #[t, u] })
    (base : Nat) (e : TypeId) (i : TypeInfo) (ht : P.underlying t = some (.slice e)) (hu : P.underlying u = some .string) (hi : P.info? e = some i) (hz : i.zero = some (.int .u8 0))
    (hsize : i.size = 1) (hby : i.bytes = 1)
    (v : Value) (n : Nat) (xs : List Value) (hs : a.eval sl = v) (hown : w.ownsRow base e 1 v n xs) (s : ByteArray) (hx : a.eval x = .string s)
    (h63 : n + s.size ≤ maxLen) (hbytes : n + s.size ≤ 140737488355328) (hbase : base ≤ w.heap.size)
    (h : ∀ v' w', w'.ownsRow base e 1 v' (n + s.size) (xs ++ Lib.strCells s) → w.grownBy w' v.ownBlock → (v' = .slice none 0 0 ↔ v = .slice none 0 0 ∧ s.size = 0) → wpListIn F n' P ops Q rest (a.put o.dst v') w') : wpListIn F n' P ops Q (o :: rest) a w := by
  refine wpListIn_plain hgd fun K hK => ?_
  obtain ⟨v', w', hr, h2, h3, h4⟩ := Lib.run_append_own_string (P := P) w base t u o.type e i ht hu hi hz hsize hby v n xs hown s h63 hbytes hbase
  unfold Oper.wpIn
  refine ⟨?_, ?_⟩
  · simp [Oper.about, ho, resolve, Target.leads, Sem.run_pure]
  · rw [Oper.semAt_plain F _ _ (by rw [ho]; intro c hc'; cases hc')]
    simp [execOp, ho, resolve, invoke, builtin, hs, hx, hr, Result.andThen]
    exact hK _ _ (h v' w' h2 h3 h4)
end

theorem boxed_appended {W w1 : World} {n₀ B : Nat} {t e : TypeId} {size : Nat} {v v' : Value} {k m : Nat} {xs ys : List Value}
    (hv : Boxed W B t v) (hte : t ≠ e) (hrow : W.ownsRow n₀ e size v k xs) (hn₀ : n₀ ≤ W.heap.size) (hB : n₀ ≤ B)
    (hown' : w1.ownsRow n₀ e size v' m ys) (hgrow : W.grownBy w1 v.ownBlock) :
    Boxed w1 B t v ∧ Boxed (w1.setCell ⟨B, 0, none⟩ v') B t v' ∧ (w1.setCell ⟨B, 0, none⟩ v').ownsRow n₀ e size v' m ys ∧ KeepsOthers W (w1.setCell ⟨B, 0, none⟩ v') ∧ Below n₀ W (w1.setCell ⟨B, 0, none⟩ v') := by
  have hv1 : Boxed w1 B t v := hv.kept hgrow (hv.not_row hte hrow)
  refine ⟨hv1, hv1.set v', hown'.kept (grownBy_setCell' w1 B v') (.inr (hv1.not_row hte hown').symm), ?_, ?_⟩
  · refine (KeepsOthers.of_grownBy hgrow fun j o ej hj => ?_).trans (KeepsOthers.setCell _ _ _)
    rcases hrow.2 with ⟨rfl, _⟩ | ⟨g, cap, cur, rfl, _, hgb, _⟩
    · simp [Value.ownBlock] at ej
    · obtain rfl : g = j := by simpa [Value.ownBlock] using ej
      rw [hgb] at hj; cases hj; rfl
  · refine ((Below.refl n₀ W).grown hgrow hn₀ fun j ej => ?_).setCell (p := ⟨B, 0, none⟩) hB v'
    rcases hrow.2 with ⟨rfl, _⟩ | ⟨g, cap, cur, rfl, hb, _, _⟩
    · simp [Value.ownBlock] at ej
    · obtain rfl : g = j := by simpa [Value.ownBlock] using ej
      exact hb

def qpre (pre : List UInt8) : List UInt8 := 34 :: pre.flatMap escB
theorem qpre_len (pre : List UInt8) : 1 ≤ (qpre pre).length ∧ (qpre pre).length ≤ 4 * pre.length + 1 := by
  have := flat_len pre
  unfold qpre; rw [List.length_cons]; omega
theorem qpre_snoc (pre : List UInt8) (x : UInt8) : qpre (pre ++ [x]) = qpre pre ++ escB x := by
  unfold qpre; rw [List.flatMap_append]; simp
theorem own_keeps_block {W w1 : World} {base : Nat} {e : TypeId} {size : Nat} {v : Value} {k : Nat} {xs : List Value} {o ob : Obj} {D : Nat} (h : W.ownsRow base e size v k xs) (hgrow : (W.alloc o).grownBy w1 v.ownBlock)
    (hK : W.heap[D]? = some ob) (ho : ob.isCells = false) : w1.heap[D]? = some ob := by
  have hlt := (Array.getElem?_eq_some_iff.1 hK).1
  refine (hgrow.block D (by simp; omega) fun ej => ?_).trans ((Below.heap_alloc W _ D hlt).trans hK)
  obtain ⟨_, cur, hc⟩ := own_base h D ej.symm
  rw [hK] at hc; cases hc; cases ho

set_option maxRecDepth 100000 in
set_option maxHeartbeats 2000000 in
theorem Quote_in (l : List UInt8) (hl : l.length ≤ 1000000) (w : World) :
    CallsIn Fence.wide 6 Tryz.prog 94 #[.string (S l)] w fun e W' => e = .returned (.string (S (quoteL l))) ∧ Below w.heap.size w W' := by
  have h1 : 1 ≤ 6 := by omega
  obtain ⟨i0, hi, hz0, hz1, hz2⟩ := info_parts infoU8
  refine callsIn_of_wp_marks Tryz.func94 rfl trivial ?_ rfl
  simp only [Tryz.ntmps94, List.size_toArray, List.length_cons, List.length_nil, Nat.reduceAdd, Nat.reduceSub, Array.replicate_succ, Array.replicate_zero, List.push_toArray, List.append_toArray, List.nil_append, List.cons_append]
  gi_wp2_with fail
  refine ⟨trivial, ?_⟩
  refine (pieces_in _ _ _).mono ?_
  rintro e w' ⟨rfl, rfl⟩
  gi_wp2_with fail
  have bO := Boxed.new (w.alloc (.cells #[.int .u8 34] 5)) 138 (.slice (some ⟨w.heap.size, 0, none⟩) 1 1)
  have bS := Boxed.new ((w.alloc (.cells #[.int .u8 34] 5)).alloc (.cells #[.slice (some ⟨w.heap.size, 0, none⟩) 1 1] 138)) 9 (.string (S l))
  rw [World.size_alloc] at bO bS
  rw [World.size_alloc] at bS
  have bO' := bO.alloc (.cells #[.string (S l)] 9)
  have hB0 : Below w.heap.size w (((w.alloc (.cells #[.int .u8 34] 5)).alloc (.cells #[.slice (some ⟨w.heap.size, 0, none⟩) 1 1] 138)).alloc (.cells #[.string (S l)] 9)) :=
    (((Below.refl _ w).alloc (Nat.le_refl _) _).alloc (by simp) _).alloc (by simp; omega) _
  have hrow0 : (((w.alloc (.cells #[.int .u8 34] 5)).alloc (.cells #[.slice (some ⟨w.heap.size, 0, none⟩) 1 1] 138)).alloc (.cells #[.string (S l)] 9)).ownsRow w.heap.size 5 1 (.slice (some ⟨w.heap.size, 0, none⟩) 1 1) 1 [.int .u8 34] :=
    ⟨rfl, .inr ⟨w.heap.size, 1, #[.int .u8 34], rfl, Nat.le_refl _, ((Boxed.new w 5 (.int .u8 34)).alloc _).alloc _, Nat.le_refl _, by decide, rfl, rfl⟩⟩
  refine wpIn_rangeFunc_ownG rfl h1 (gf := 179) (lb := #[.pointer (some ⟨w.heap.size + 1 + 1, 0, none⟩)]) rfl trivial (enters_of Tryz.func179 (by kernel_rfl) rfl)
    (pieces_stops _ (by omega) (w.heap.size + 1 + 1) l hl _ bS) (fun h k => k.trans h) (fun W y o o' hl' hy _ _ => World.putObj_heap_other (by simp at hl'; omega)) (Below.refl _ _) (fun _ => rfl)
    (fun pre W => (∃ v, Boxed W (w.heap.size + 1) 138 v ∧ W.ownsRow w.heap.size 5 1 v (qpre pre).length (bcells (qpre pre)) ∧ True) ∧ Boxed W (w.heap.size + 1 + 1) 9 (.string (S l)) ∧ Below w.heap.size w W)
    (fun _ _ _ => False)
    (OwnFrom.and (Own.from (holdsRow_own w.heap.size (w.heap.size + 1) 138 5 1 (fun pre => (qpre pre).length) (fun pre => bcells (qpre pre)) (fun _ _ => True)) _) (OwnFrom.and (Own.from (boxed_own _ _ _) _) (ownFrom_below (Nat.le_refl _) (by simp; omega))))
    (fun _ _ _ _ _ hs _ _ => hs)
    ⟨⟨_, bO', hrow0, trivial⟩, bS, hB0⟩
    (fun x => { tmps := #[.string (S l), undef, .string ⟨#[]⟩, .pointer (some ⟨w.heap.size + 1, 0, none⟩), .string (S (escB x)), .slice (some ⟨w.heap.size, 0, none⟩) 1 1, .string (S l), .func (.func 179) #[] #[.pointer (some ⟨w.heap.size + 1 + 1, 0, none⟩)], .string (S (escB x)), undef, undef, undef, undef, undef, undef, undef], defers := [] }) ?assign ?body ?done ?stop
  case assign =>
    intro y x W K hK
    gi_wp2
    exact hK
  case body =>
    rintro y pre x W ⟨⟨v, hv, hrow, _⟩, hs, hB⟩ hlt
    have hc := hv.cell
    have hq := qpre_len pre
    have hx := esc_len x
    have hx' : (S (escB x)).size ≤ 4 := hx.2
    gi_wp2_with (gi_at_builtin; refine wpListIn_append_own_string _ rfl _ _ 138 9 rfl w.heap.size 5 i0 Tryz.underlying138 Tryz.underlying9 hi hz0 hz1 hz2 _ _ _ rfl hrow (S (escB x)) rfl (by unfold maxLen; omega) (by omega) hB.size ?_; intro v' w1 hown' hgrow _; obtain ⟨g', cap', rfl⟩ := ownsRow_pos hown' (by omega); obtain ⟨hv1, hv2, hr2, hk2, hb2⟩ := boxed_appended hv (by decide) hrow hB.size (by omega) hown' hgrow; have hc1 := hv1.cell; have hf1 := hv1.frozen)
    have hs2 : Boxed (w1.setCell ⟨w.heap.size + 1, 0, none⟩ (.slice (some ⟨g', 0, none⟩) ((qpre pre).length + (S (escB x)).size) cap')) (w.heap.size + 1 + 1) 9 (.string (S l)) :=
      (hs.kept hgrow (hs.not_row (by decide) hrow)).kept (grownBy_setCell' _ _ _) (by simp)
    refine ⟨hk2.from _, hs2.trans hs.symm, ⟨_, hv2, ?_, trivial⟩, hs2, hB.trans hb2⟩
    rw [qpre_snoc, ← bcells_append, List.length_append]
    exact hr2
  case done =>
    rintro D ys W hD rfl ⟨⟨v, hv, hrow, _⟩, hs, hB⟩ hK
    have hc := hv.cell
    have hq := qpre_len ys
    have hq2 : qpre ys ++ [34] = quoteL ys := rfl
    gi_wp2_with (gi_at_builtin; refine wpListIn_append_own _ rfl _ _ 138 rfl w.heap.size 5 i0 (.int .u8 0) 1 1 Tryz.underlying138 hi hz0 hz1 hz2 rfl (by decide) _ _ _ rfl (hrow.alloc _) ⟨W.heap.size, 0, none⟩ 1 1 [.int .u8 34] rfl rfl (cell_one_new _ _ _) (by simp [Value.oneCell']) (by unfold maxLen; omega) (by omega) (by have := hB.size; simp; omega) ?_; intro v' w1 hown' hgrow _; have hK1 := own_keeps_block hrow hgrow hK rfl; have hcv := conv_own (P := Tryz.prog) w1 138 9 5 w.heap.size v' (qpre ys ++ [34]) Tryz.underlying138 Tryz.underlying5 Tryz.underlying9 (by rw [List.length_append, ← bcells_append]; exact hown'); rw [hq2] at hcv; have hB1 := own_below1 hB hrow hgrow hB.size; clear hgrow hown' hq2)
    refine ⟨by simp, .inl ⟨_, _, rfl, run_takeDeferred hK1, ?_⟩⟩
    exact ⟨_, results_tmp rfl _ _ _, rfl, hB1.trans (belowK_b (w := w) (Nat.le_refl _) w1 D _ _ (by simp at hD; omega) hK1 rfl rfl)⟩
  case stop =>
    rintro D c pre W _ _ h _
    exact h.elim

theorem quote_any (l : List UInt8) (hl : l.length ≤ 1000000) (w : World) :
    Calls Tryz.prog 94 #[.string (S l)] w fun e w' => e = .returned (.string (S (quoteL l))) ∧ Below w.heap.size w w' :=
  callsIn_wide.1 (Quote_in l hl w)
end
section
open Go.RowKit

/-- the library's table of powers and its two errors -/
structure NumOk (w : World) : Prop where
  tab : Lib.TabIs Tryz.prog w "internal/strconv.uint64pow10" .u64 Lib.pow10Tab
  es : ∃ tp p, w.var? Tryz.prog "strconv.ErrSyntax" = some #[.iface tp p]
  er : ∃ tp p, w.var? Tryz.prog "strconv.ErrRange" = some #[.iface tp p]
theorem var_on {w w' : World} {n : String} {cs : Array Value} (h : w.var? Tryz.prog n = some cs) (hb : Below w.heap.size w w') : w'.var? Tryz.prog n = some cs := by
  cases hg : Tryz.prog.globalNamed n with
  | none => unfold World.var? at h; rw [hg] at h; cases h
  | some g => exact Go.Joins.var_stays hg h hb (Nat.le_refl _)
theorem NumOk.below {w w' : World} (h : NumOk w) (hb : Below w.heap.size w w') : NumOk w' := by
  obtain ⟨t, ⟨a, b, hs⟩, ⟨c, d, hr⟩⟩ := h
  exact ⟨var_on t hb, ⟨a, b, var_on hs hb⟩, ⟨c, d, var_on hr hb⟩⟩
end
section
open Go.RowKit

theorem letterB_nat (c : UInt8) : letterB c = (decide (97 ≤ c.toNat ∧ c.toNat ≤ 122) || decide (65 ≤ c.toNat ∧ c.toNat ≤ 90)) := by
  unfold letterB
  rw [Bool.eq_iff_iff]; simp [UInt8.le_iff_toNat_le]
theorem digitB_nat (c : UInt8) : digitB c = decide (48 ≤ c.toNat ∧ c.toNat ≤ 57) := by
  unfold digitB
  rw [Bool.eq_iff_iff]; simp [UInt8.le_iff_toNat_le]
theorem ret_bool {a b : Bool} (h : a = b) : Ending.returned (.bool a) = .returned (.bool b) := by rw [h]
theorem ret_i64 {a b : Int} (h : a = b) : Ending.returned (.int .i64 a) = .returned (.int .i64 b) := by rw [h]


set_option maxHeartbeats 400000 in
theorem letter_any (c : UInt8) (w : World) : Calls Tryz.prog 146 #[.int .u8 (c.toNat : Int)] w fun e w' => e = .returned (.bool (letterB c)) ∧ w = w' := by
  have hlt := c.toNat_lt
  have hn := letterB_nat c
  generalize letterB c = b at hn ⊢
  have HN := Lib.hid hn
  clear hn
  go_enter Tryz.func146, Tryz.ntmps146
  go_wp2
  all_goals
    go_ret
    exact ⟨ret_bool (by rw [HN.out, Bool.eq_iff_iff]; first | (simp; omega) | (simp [*]; done)), rfl⟩

set_option maxHeartbeats 400000 in
theorem Letter_any (c : UInt8) (w : World) : Calls Tryz.prog 167 #[.int .u8 (c.toNat : Int)] w fun e w' => e = .returned (.bool (letterB c)) ∧ w = w' := by
  have hlt := c.toNat_lt
  have hn := letterB_nat c
  generalize letterB c = b at hn ⊢
  have HN := Lib.hid hn
  clear hn
  go_enter Tryz.func167, Tryz.ntmps167
  go_wp2
  all_goals
    go_ret
    exact ⟨ret_bool (by rw [HN.out, Bool.eq_iff_iff]; first | (simp; omega) | (simp [*]; done)), rfl⟩

set_option maxHeartbeats 400000 in
theorem Digit_any (c : UInt8) (w : World) : Calls Tryz.prog 168 #[.int .u8 (c.toNat : Int)] w fun e w' => e = .returned (.bool (digitB c)) ∧ w = w' := by
  have hlt := c.toNat_lt
  have hn := digitB_nat c
  generalize digitB c = b at hn ⊢
  have HN := Lib.hid hn
  clear hn
  go_enter Tryz.func168, Tryz.ntmps168
  go_wp2
  all_goals
    go_ret
    exact ⟨ret_bool (by rw [HN.out, Bool.eq_iff_iff]; first | (simp; omega) | (simp [*]; done)), rfl⟩
end
section
open Go.RowKit

/-- two results -/
def pr (x : Int × Int) : Value := .tuple #[.int .i64 x.1, .int .i64 x.2]
def OkB (x : Int × Int) (w : World) (e : Ending) (w' : World) : Prop := e = .returned (pr x) ∧ Below w.heap.size w w'
theorem ret_u64 {a b : Int} (h : a = b) : Ending.returned (.int .u64 a) = .returned (.int .u64 b) := by rw [h]
theorem ret_pr {a b : Int} {x : Int × Int} (h : x = (a, b)) : Ending.returned (.tuple #[.int .i64 a, .int .i64 b]) = .returned (pr x) := by rw [h]; rfl

theorem fxValid_any (u : Int) (w : World) : Calls Tryz.prog 132 #[.int .i64 u] w fun e w' => e = .returned (.bool (vld u)) ∧ w = w' := by
  have HN := Lib.hid (show vld u = (decide (-1000000000000000 ≤ u) && decide (u ≤ 1000000000000000)) from rfl)
  generalize vld u = b at HN
  by_cases h1 : -1000000000000000 ≤ u
  all_goals
    go_enter Tryz.func132, Tryz.ntmps132
    go_wp2_with fail
    go_ret
    exact ⟨ret_bool (by rw [HN.out, Bool.eq_iff_iff]; simp; omega), rfl⟩
theorem fxRefValid_any (u : Int) (w : World) : Calls Tryz.prog 118 #[.int .i64 u] w fun e w' => e = .returned (.bool (vld u)) ∧ w = w' := by
  have HN := Lib.hid (show vld u = (decide (-1000000000000000 ≤ u) && decide (u ≤ 1000000000000000)) from rfl)
  generalize vld u = b at HN
  by_cases h1 : -1000000000000000 ≤ u
  all_goals
    go_enter Tryz.func118, Tryz.ntmps118
    go_wp2_with fail
    go_ret
    exact ⟨ret_bool (by rw [HN.out, Bool.eq_iff_iff]; simp; omega), rfl⟩
theorem size_any (u : Int) (h : vld u = true) (w : World) : Calls Tryz.prog 141 #[.int .i64 u] w fun e w' => e = .returned (.int .u64 (u.natAbs : Int)) ∧ w = w' := by
  rw [vld_iff] at h
  by_cases h1 : u < 0
  all_goals
    go_enter Tryz.func141, Tryz.ntmps141
    go_wp2_with fail
    go_ret
    exact ⟨ret_u64 (by omega), rfl⟩
theorem size_at (u : Int) (a : Nat) (h : vld u = true) (ha : Hid (u.natAbs = a)) (w : World) : Calls Tryz.prog 141 #[.int .i64 u] w fun e w' => e = .returned (.int .u64 (a : Int)) ∧ w = w' :=
  (size_any u h w).mono fun e w' ⟨he, hw⟩ => ⟨by rw [he, ha.out], hw⟩
theorem abs_any (u : Int) (h : vld u = true) (w : World) : Calls Tryz.prog 164 #[.int .i64 u] w fun e w' => e = .returned (.int .i64 (u.natAbs : Int)) ∧ w = w' := by
  rw [vld_iff] at h
  by_cases h1 : u < 0
  all_goals
    go_enter Tryz.func164, Tryz.ntmps164
    go_wp2_with fail
    go_ret
    exact ⟨ret_i64 (by omega), rfl⟩
end
section
open Go.RowKit Go.Lib Go.Sort

theorem iFormatUint_any (u : Nat) (hu64 : u < 18446744073709551616) (w : World) (htab : Lib.TabIs Tryz.prog w "internal/strconv.uint64pow10" .u64 Lib.pow10Tab) :
    Calls Tryz.prog 186 #[.int .u64 (u : Int), .int .i64 10] w fun e w' => e = .returned (.string (S (Lib.decDigits u))) ∧ Below w.heap.size w w' := by
  by_cases hs : u < 100
  · go_enter Tryz.func186, Tryz.ntmps186
    go_wp2_with (go_at_call 190; refine (Tryz.internal_strconv_small u hs _).mono ?_; rintro e w' ⟨rfl, rfl⟩)
    go_ret
    exact ⟨rfl, Below.refl _ _⟩
  · have hu1 : 1 ≤ u := by omega
    have hnd20 : Lib.nDigits u ≤ 20 := by have := Lib.numDigits_eq u hu1 hu64; split at this <;> omega
    have hb3 : Lib.nDigits u ≤ 23 := by omega
    have hal : Tryz.prog.arrayLen 196 = 24 := by kernel_rfl
    have hsl1 : ∀ W, (Instr.sliceAt 196 (.pointer (some ⟨w.heap.size, 0, none⟩)) none (some (.int .i64 (Lib.nDigits u : Int))) none).run Tryz.prog W = .ok (.slice (some ⟨w.heap.size, 0, none⟩) (Lib.nDigits u) 24) W := fun W => by
      rw [run_sliceAt_array_h W 196 ⟨w.heap.size, 0, none⟩ (by simp [Program.arrayLen, Program.elem, Tryz.underlying196]) .i64 (Lib.nDigits u : Int) (by omega) (by rw [hal]; omega)]
      go_simp
    have hH0 := Lib.holds_zero0 w 196 (Lib.nDigits u) (by omega)
    have hfmt := Tryz.internal_strconv_formatBase10 w.heap.size 0 24 u (Array.replicate (Lib.nDigits u) 0) (w.alloc (.cells Lib.zeros24 196)) hH0 (by rw [Array.size_replicate]; exact Lib.lt_pow_nDigits u) hu64 (by rw [Array.size_replicate]; omega)
    rw [Array.size_replicate] at hfmt
    have HH0 := Lib.hid hH0
    have HF := Lib.hid hfmt
    clear hH0 hal hfmt
    have n1 : decide ((u : Int) < 100) = false := by rw [decide_eq_false_iff_not]; omega
    go_enter Tryz.func186, Tryz.ntmps186
    go_wp2_with (go_at_call 191; refine (Tryz.internal_strconv_numDigits u hu1 hu64 _ (Lib.tabIs_alloc htab _)).mono ?_; rintro e w' ⟨rfl, rfl⟩)
    go_at_call 192
    refine HF.out.mono ?_
    rintro e w' ⟨rfl, k, v', dk, rfl, hF⟩
    have hcv : (convert 138 9 (.slice (some ⟨w.heap.size, 0, none⟩) (Lib.nDigits u) 24)).run Tryz.prog ((putRow (fun (b : UInt8) => Value.int .u8 (b.toNat : Int)) (w.alloc (.cells Lib.zeros24 196)) w.heap.size 0 dk).drewN k) = .ok (.string ⟨(Lib.decDigits u).toArray⟩) ((putRow (fun (b : UInt8) => Value.int .u8 (b.toNat : Int)) (w.alloc (.cells Lib.zeros24 196)) w.heap.size 0 dk).drewN k) := by
      have h := run_convert_bytes_back (P := Tryz.prog) ((putRow (fun (b : UInt8) => Value.int .u8 (b.toNat : Int)) (w.alloc (.cells Lib.zeros24 196)) w.heap.size 0 dk).drewN k) 138 9 5 ⟨w.heap.size, 0, none⟩ 24 (Lib.decDigits u) Tryz.underlying138 Tryz.underlying5 Tryz.underlying9 (fun j hj => by
        rw [Lib.row_is_numeral hF j hj, Lib.add_plain, World.cell?_drewN]
        exact cell?_putRow (fun (b : UInt8) => Value.int .u8 (b.toNat : Int)) _ w.heap.size 0 _ dk HH0.out (by rw [hF.size, Array.size_replicate]) j (by rw [hF.size]; rw [Lib.decDigits_length] at hj; exact hj))
      rw [Lib.decDigits_length] at h
      exact h
    go_wp2
    go_ret
    obtain ⟨os, eo⟩ := Lib.fin_at w (.cells Lib.zeros24 196) dk k 0
    exact ⟨rfl, by rw [eo]; exact Lib.below_grow _ w (Nat.le_refl _) k os⟩
theorem FormatUint_any (u : Nat) (hu64 : u < 18446744073709551616) (w : World) (htab : Lib.TabIs Tryz.prog w "internal/strconv.uint64pow10" .u64 Lib.pow10Tab) :
    Calls Tryz.prog 142 #[.int .u64 (u : Int), .int .i64 10] w fun e w' => e = .returned (.string (S (Lib.decDigits u))) ∧ Below w.heap.size w w' := by
  have H := Lib.hid (iFormatUint_any u hu64 w htab)
  clear htab
  go_enter Tryz.func142, Tryz.ntmps142
  go_wp2_with (go_at_call 186; refine H.out.mono ?_; rintro e w1 ⟨rfl, hb⟩)
  go_ret
  exact ⟨rfl, hb⟩
end
section
open Go.RowKit

theorem FormatUint_at (k : Int) (u : Nat) (hk : Hid (k = (u : Int))) (hu64 : u < 18446744073709551616) (w : World) (hE : NumOk w) :
    Calls Tryz.prog 142 #[.int .u64 k, .int .i64 10] w fun e w' => e = .returned (.string (S (Lib.decDigits u))) ∧ Below w.heap.size w w' := by
  rw [hk.out]; exact FormatUint_any u hu64 w hE.tab
theorem text_frac {f : Nat} {m : List UInt8} (h : trimZ (pad4 f) = m) : fracL f = if m = [] then [] else 46 :: m := by unfold fracL; rw [h]
set_option maxHeartbeats 1000000 in
theorem fxText_any (u : Int) (w : World) (hE : NumOk w) : Calls Tryz.prog 99 #[.int .i64 u] w fun e w' => e = .returned (.string (S (textI u))) ∧ Below w.heap.size w w' := by
  cases hu : vld u
  · go_enter Tryz.func99, Tryz.ntmps99
    go_wp2_with (go_at_call 132; refine (fxValid_any _ _).mono ?_; rintro e w' ⟨rfl, rfl⟩; rw [hu])
    go_ret
    exact ⟨ret_S (by unfold textI; rw [hu]; rfl), Below.refl _ _⟩
  · have HE := Lib.hid hE; clear hE
    have hA' := abs_lt hu
    obtain ⟨a, hA⟩ : ∃ a, u.natAbs = a := ⟨_, rfl⟩
    have HT := Lib.hid (textI_val u hu)
    rw [hA] at HT hA'
    have HA := Lib.hid hA; clear hA
    obtain ⟨x, hx⟩ : ∃ x, a / 10000 = x := ⟨_, rfl⟩
    obtain ⟨f, hf⟩ : ∃ f, a % 10000 = f := ⟨_, rfl⟩
    rw [hx, hf] at HT
    have ex : (a : Int) / 10000 = (x : Int) := by omega
    have ef : (a : Int) % 10000 = (f : Int) := by omega
    have hxb : x ≤ 100000000000 := by omega
    have hfb : f ≤ 9999 := by omega
    clear hx hf
    have HK := Lib.hid (show (f : Int) + 10000 = ((10000 + f : Nat) : Int) by omega)
    obtain ⟨P, hP⟩ : ∃ P, pad4 f = P := ⟨_, rfl⟩
    have hPl : P.length = 4 := by rw [← hP]; rfl
    obtain ⟨L, hL⟩ : ∃ L, Lib.decDigits (10000 + f) = L := ⟨_, rfl⟩
    have hL2 : L = 49 :: P := by rw [← hL, dec_10000 f (by omega), hP]
    have hLl : L.length = 5 := by rw [hL2, List.length_cons, hPl]
    have eL : sl L 1 5 = P := by rw [hL2]; unfold sl; rw [List.drop_succ_cons, List.drop_zero, List.take_of_length_le (by omega)]
    have HL := Lib.hid hL
    have HP := Lib.hid hP
    obtain ⟨D, hD⟩ : ∃ D, Lib.decDigits x = D := ⟨_, rfl⟩
    have hDl : D.length ≤ 12 := by rw [← hD]; exact (dec_len x 12 (by omega) (by omega)).2
    rw [hD] at HT
    have HD := Lib.hid hD
    clear hP hL hL2 hD
    have HC0 := Lib.hid (show ∃ q : List UInt8, q = P from ⟨_, rfl⟩)
    clear HC0
    cases d1 : decide (u < 0)
    all_goals
      go_enter Tryz.func99, Tryz.ntmps99
      go_wp2_with (first
        | (go_at_call 132; refine (fxValid_any _ _).mono ?_; rintro e w' ⟨rfl, rfl⟩; rw [hu])
        | (go_at_call 141; refine (size_at u a hu HA _).mono ?_; rintro e w' ⟨rfl, rfl⟩))
      refine (FormatUint_any x (by omega) _ HE.out.tab).mono ?_
      rintro e w1 ⟨rfl, hb1⟩
      rw [HD.out]
      have HB1 := Lib.hid hb1; clear hb1
      go_wp2_with fail
      refine (FormatUint_at _ (10000 + f) HK (by omega) _ (HE.out.below HB1.out)).mono ?_
      rintro e w2 ⟨rfl, hb2⟩
      rw [HL.out]
      have HB2 := Lib.hid hb2; clear hb2
      go_wp2_with fail
      have hP4 : P.length ≤ 4 := by omega
      clear eL hPl hLl ex ef hxb
      go_loop [5] (fun v => ∃ m : List UInt8, v = .string (S m) ∧ m.length ≤ 4 ∧ Hid (trimZ P = trimZ m)) (fun v => strLen v)
      case atStart => exact ⟨P, rfl, by omega, Lib.hid rfl⟩
      case round =>
        obtain ⟨m, rfl, hm4, HM⟩ := hrel
        by_cases hm0 : m.length = 0
        · obtain rfl := List.eq_nil_of_length_eq_zero hm0
          clear hm0
          go_wp2_with fail
          go_ret
          exact ⟨ret_S (by rw [HT.out, text_frac (HP.out.symm ▸ HM.out.trans (by rw [trimZ_off [] (by simp)]))]; simp at d1; simp [d1, ct]), HB1.out.trans (HB2.out.mono HB1.out.size)⟩
        · have hpos : 0 < m.length := by omega
          by_cases hz : byt m (m.length - 1) = 48
          · have T : (((byt m (m.length - 1)).toNat : Int) == 48) = true := by rw [hz]; rfl
            have HN := Lib.hid (trimZ_on m ⟨hpos, hz⟩)
            clear hz
            go_wp2_with fail
            go_round
            case rel => exact ⟨_, rfl, by rw [sl_to, List.length_take]; omega, Lib.hid (by rw [sl_to, HM.out, HN.out])⟩
            case measure => simp [strLen, S_size, sl_to]; omega
          · have T : (((byt m (m.length - 1)).toNat : Int) == 48) = false := by rw [beq_eq_false_iff_ne]; intro e; exact hz (UInt8.toNat_inj.1 (by rw [show (48 : UInt8).toNat = 48 from rfl]; omega))
            have HN := Lib.hid (trimZ_off m (fun h => hz h.2))
            have hne : m ≠ [] := by intro e; subst e; simp at hpos
            have HE2 := Lib.hid hne
            have hie : m.isEmpty = false := by cases m; (exact absurd rfl hne); rfl
            clear hz hne
            go_wp2_with fail
            go_ret
            exact ⟨ret_S (by rw [HT.out, text_frac (HP.out.symm ▸ HM.out.trans HN.out), if_neg HE2.out]; simp at d1; simp [d1, ct]), HB1.out.trans (HB2.out.mono HB1.out.size)⟩
end
section
open Go.RowKit

set_option maxRecDepth 100000 in
set_option maxHeartbeats 4000000 in
theorem makeLeaf_any {d : Dat} {vi vm : Value} {ok : Nat → Prop} {w : World} (hr : Rep w ok d vi vm) (hl : leafB d = true) (hlim : limD d = true) :
    Calls Tryz.prog 73 #[.agg #[.int .i64 d.k, .int .i64 d.n, .string (S d.s), vi, vm]] w fun e w' => e = .returned (.tuple #[dv d (.slice none 0 0) (.slice none 0 0), .int .i64 0]) ∧ Below w.heap.size w w' := by
  obtain ⟨hc, hi, hm⟩ := leaf_iff.1 hl
  obtain ⟨-, ho, -, -⟩ := chk_zero.1 hc
  have HP := Lib.hid (own_zero ho).1
  have HIM := Lib.hid (And.intro hi hm)
  have HREP := Lib.hid hr
  have HCK := Lib.hid (fun w' => (Check_any (w := w') (rep_leaf w' ok hi hm none none 0 0) hlim))
  simp only [hc] at HCK
  clear hr hl hlim hc hi hm ho
  go_enter Tryz.func73, Tryz.ntmps73
  go_upto_region 1 with fail
  have hS : GetS w d vi vm ((w.alloc (.cells #[.int .i64 d.k, .int .i64 d.n, .string (S d.s), vi, vm] 26)).alloc (.cells #[.int .i64 0, .int .i64 0, .string ⟨#[]⟩, .slice none 0 0, .slice none 0 0] 26)) := two_new w _ _ _ _
  generalize (w.alloc (.cells #[.int .i64 d.k, .int .i64 d.n, .string (S d.s), vi, vm] 26)).alloc (.cells #[.int .i64 0, .int .i64 0, .string ⟨#[]⟩, .slice none 0 0, .slice none 0 0] 26) = W at hS ⊢
  obtain ⟨⟨c0, c1, c2, c3, c4⟩, -, hlw⟩ := hS.facts
  have HS := Lib.hid hS
  clear hS
  go_wp2_with fail
  refine (cleanLeaf_any (HREP.out.under HS.out.2.2) HP.out HIM.out.1 HIM.out.2).mono ?_
  rintro e w1 ⟨rfl, hb⟩
  have hS1 := HS.out.below hb
  clear hb HS c0 c1 c2 c3 c4 hlw
  simp only [dv]
  have hN : Blk (w1.alloc (.cells #[.int .i64 d.k, .int .i64 d.n, .string (S d.s), .slice none 0 0, .slice none 0 0] 26)) w1.heap.size #[.int .i64 d.k, .int .i64 d.n, .string (S d.s), .slice none 0 0, .slice none 0 0] 26 := Blk.new w1 _ _
  have hS2 := hS1.below ((Below.refl _ _).alloc (Nat.le_refl _) (.cells #[.int .i64 d.k, .int .i64 d.n, .string (S d.s), .slice none 0 0, .slice none 0 0] 26))
  clear hS1
  go_upto_region 2 with fail
  generalize w1.alloc (.cells #[.int .i64 d.k, .int .i64 d.n, .string (S d.s), .slice none 0 0, .slice none 0 0] 26) = w2 at hN hS2 ⊢
  have n0 := hN.cell 0
  have n1 := hN.cell 1
  have n2 := hN.cell 2
  have n3 := hN.cell 3
  have n4 := hN.cell 4
  simp at n0 n1 n2 n3 n4
  have hNl := hN.lt
  have HN := Lib.hid hN
  have HS2 := Lib.hid hS2
  clear hN hS2
  go_wp2_with fail
  refine (HCK.out _).mono ?_
  rintro e w3 ⟨rfl, hb⟩
  have hN := HN.out.below hb
  obtain ⟨-, b2, hB⟩ := HS2.out.below hb
  have HB := Lib.hid hB
  clear n0 n1 n2 n3 n4 hNl hB
  have n0 := hN.cell 0
  have n1 := hN.cell 1
  have n2 := hN.cell 2
  have n3 := hN.cell 3
  have n4 := hN.cell 4
  simp at n0 n1 n2 n3 n4
  have hNl := hN.lt
  have z0 := b2.cell 0
  have z1 := b2.cell 1
  have z2 := b2.cell 2
  have z3 := b2.cell 3
  have z4 := b2.cell 4
  have y0 := b2.frozen 0
  have y1 := b2.frozen 1
  have y2 := b2.frozen 2
  have y3 := b2.frozen 3
  have y4 := b2.frozen 4
  simp at z0 z1 z2 z3 z4
  have hlw := b2.lt
  clear b2 hN HCK hb
  go_wp2_with fail
  refine bodyPost_ret (v := .tuple #[dv d (.slice none 0 0) (.slice none 0 0), .int .i64 0]) (by simp [results, Tryz.results73, go_sem, dv, show S [] = ⟨#[]⟩ from rfl, z0, z1, z2, z3, z4, y0, y1, y2, y3, y4, hlw]) rfl ⟨rfl, ?_⟩
  exact ((((HB.out.setCell (Nat.le_add_right _ 1) _).setCell (Nat.le_add_right _ 1) _).setCell (Nat.le_add_right _ 1) _).setCell (Nat.le_add_right _ 1) _).setCell (Nat.le_add_right _ 1) _
theorem joinNone_any (p : Option Addr) (cap : Nat) (s : ByteArray) (w : World) : Calls Tryz.prog 143 #[.slice p 0 cap, .string s] w fun e w' => e = .returned (.string (S [])) ∧ w = w' := by
  go_enter Tryz.func143, Tryz.ntmps143
  go_wp2_with fail
  go_ret
  exact ⟨rfl, rfl⟩
theorem joinD_any (a b : List UInt8) (ha : a.length ≤ 1000) (hb : b.length ≤ 1000) (p : Option Addr) (cap : Nat) (w : World) : Calls Tryz.prog 100 #[.string (S a), .string (S b), .slice p 0 cap] w fun e w' => e = .returned (.string (S (a ++ b))) ∧ w = w' := by
  have HE := Lib.hid (show ct (ct a []) b = a ++ b by simp [ct])
  go_enter Tryz.func100, Tryz.ntmps100
  go_wp2_with (go_at_call 143; refine (joinNone_any _ _ _ _).mono ?_; rintro e w' ⟨rfl, rfl⟩)
  go_ret
  exact ⟨by rw [← HE.out]; rfl, rfl⟩
set_option maxRecDepth 100000 in
theorem text_1 (p q : Option Addr) (cap caq : Nat) (w : World) :
    Calls Tryz.prog 55 #[.agg #[.int .i64 1, .int .i64 0, .string (S []), .slice p 0 cap, .slice q 0 caq]] w fun e w' => e = .returned (.string (S [110, 117, 108, 108])) ∧ Below w.heap.size w w' := by
  go_enter Tryz.func55, Tryz.ntmps55
  go_wp2_with fail
  refine wp_loop_rounds 1 ?_
  rw [rounds_succ]
  go_wp2_with fail
  refine wp_loop_rounds 1 ?_
  rw [rounds_succ]
  go_wp2_with fail
  go_ret
  exact ⟨rfl, by go_grown⟩
set_option maxRecDepth 100000 in
theorem text_2t (p q : Option Addr) (cap caq : Nat) (w : World) :
    Calls Tryz.prog 55 #[.agg #[.int .i64 2, .int .i64 1, .string (S []), .slice p 0 cap, .slice q 0 caq]] w fun e w' => e = .returned (.string (S [116, 114, 117, 101])) ∧ Below w.heap.size w w' := by
  go_enter Tryz.func55, Tryz.ntmps55
  go_wp2_with fail
  refine wp_loop_rounds 1 ?_
  rw [rounds_succ]
  go_wp2_with fail
  refine wp_loop_rounds 1 ?_
  rw [rounds_succ]
  go_wp2_with fail
  go_ret
  exact ⟨rfl, by go_grown⟩
set_option maxRecDepth 100000 in
theorem text_2f (n : Int) (p q : Option Addr) (cap caq : Nat) (w : World) (hn : (n == 1) = false) :
    Calls Tryz.prog 55 #[.agg #[.int .i64 2, .int .i64 n, .string (S []), .slice p 0 cap, .slice q 0 caq]] w fun e w' => e = .returned (.string (S [102, 97, 108, 115, 101])) ∧ Below w.heap.size w w' := by
  go_enter Tryz.func55, Tryz.ntmps55
  go_wp2_with fail
  refine wp_loop_rounds 1 ?_
  rw [rounds_succ]
  go_wp2_with fail
  refine wp_loop_rounds 1 ?_
  rw [rounds_succ]
  go_wp2_with fail
  go_ret
  exact ⟨rfl, by go_grown⟩
set_option maxRecDepth 100000 in
theorem text_3 (n : Int) (p q : Option Addr) (cap caq : Nat) (w : World) (hE : NumOk w) :
    Calls Tryz.prog 55 #[.agg #[.int .i64 3, .int .i64 n, .string (S []), .slice p 0 cap, .slice q 0 caq]] w fun e w' => e = .returned (.string (S (textI n))) ∧ Below w.heap.size w w' := by
  have HE := Lib.hid hE
  clear hE
  go_enter Tryz.func55, Tryz.ntmps55
  go_wp2_with fail
  refine wp_loop_rounds 1 ?_
  rw [rounds_succ]
  go_wp2_with fail
  refine wp_loop_rounds 1 ?_
  rw [rounds_succ]
  go_wp2_with (go_at_call 99; refine (fxText_any n _ (HE.out.below (by go_grown))).mono ?_; rintro e w' ⟨rfl, hb⟩; have HB := Lib.hid (((Below.refl _ w).alloc (Nat.le_refl _) _).trans (hb.mono (by simp))); clear hb)
  go_ret
  exact ⟨rfl, by exact HB.out⟩
set_option maxRecDepth 100000 in
theorem text_4 (s : List UInt8) (p q : Option Addr) (cap caq : Nat) (w : World) (hs : s.length ≤ 1000000) :
    Calls Tryz.prog 55 #[.agg #[.int .i64 4, .int .i64 0, .string (S s), .slice p 0 cap, .slice q 0 caq]] w fun e w' => e = .returned (.string (S (quoteL s))) ∧ Below w.heap.size w w' := by
  go_enter Tryz.func55, Tryz.ntmps55
  go_wp2_with fail
  refine wp_loop_rounds 1 ?_
  rw [rounds_succ]
  go_wp2_with fail
  refine wp_loop_rounds 1 ?_
  rw [rounds_succ]
  go_wp2_with (go_at_call 94; refine (quote_any s hs _).mono ?_; rintro e w' ⟨rfl, hb⟩; have HB := Lib.hid (((Below.refl _ w).alloc (Nat.le_refl _) _).trans (hb.mono (by simp))); clear hb)
  go_ret
  exact ⟨rfl, by exact HB.out⟩
set_option maxRecDepth 100000 in
theorem text_5 (p q : Option Addr) (cap caq : Nat) (w : World) :
    Calls Tryz.prog 55 #[.agg #[.int .i64 5, .int .i64 0, .string (S []), .slice p 0 cap, .slice q 0 caq]] w fun e w' => e = .returned (.string (S [91, 93])) ∧ Below w.heap.size w w' := by
  go_enter Tryz.func55, Tryz.ntmps55
  go_wp2_with fail
  refine wp_loop_rounds 1 ?_
  rw [rounds_succ]
  go_wp2_with fail
  refine wp_loop_rounds 1 ?_
  rw [rounds_succ]
  go_wp2_with (go_at_call 100; refine (joinD_any [91] [93] (by decide) (by decide) _ _ _).mono ?_; rintro e w' ⟨rfl, rfl⟩)
  go_ret
  exact ⟨rfl, by go_grown⟩
set_option maxRecDepth 100000 in
theorem text_6 (p q : Option Addr) (cap caq : Nat) (w : World) :
    Calls Tryz.prog 55 #[.agg #[.int .i64 6, .int .i64 0, .string (S []), .slice p 0 cap, .slice q 0 caq]] w fun e w' => e = .returned (.string (S [123, 125])) ∧ Below w.heap.size w w' := by
  go_enter Tryz.func55, Tryz.ntmps55
  go_wp2_with fail
  refine wp_loop_rounds 1 ?_
  rw [rounds_succ]
  go_wp2_with fail
  refine wp_loop_rounds 1 ?_
  rw [rounds_succ]
  go_wp2_with (go_at_call 100; refine (joinD_any [123] [125] (by decide) (by decide) _ _ _).mono ?_; rintro e w' ⟨rfl, rfl⟩)
  go_ret
  exact ⟨rfl, by go_grown⟩
theorem textLeaf_any {d : Dat} {vi vm : Value} {ok : Nat → Prop} {w : World} (hr : Rep w ok d vi vm) (hp : plainB d = true) (hi : d.its = []) (hm : d.mem = []) (hs : d.s.length ≤ 1000000) (hE : NumOk w) :
    Calls Tryz.prog 55 #[.agg #[.int .i64 d.k, .int .i64 d.n, .string (S d.s), vi, vm]] w fun e w' => e = .returned (.string (S (leafT d))) ∧ Below w.heap.size w w' := by
  obtain ⟨p, cap, rfl, -, -⟩ := hr.items
  obtain ⟨q, caq, rfl, -, -⟩ := hr.members
  obtain ⟨⟨h1, h6⟩, h2, h4, -, -⟩ := plain_iff.1 hp
  rw [hi, hm]
  clear hr hp
  have hd := dat_leaf hi hm
  generalize d.k = k at *
  generalize d.n = n at *
  generalize d.s = s at *
  subst hd
  have hk : k = 1 ∨ k = 2 ∨ k = 3 ∨ k = 4 ∨ k = 5 ∨ k = 6 := by omega
  rcases hk with rfl | rfl | rfl | rfl | rfl | rfl
  · obtain rfl : n = 0 := by simpa using h2
    obtain rfl : s = [] := by simpa using h4
    exact text_1 _ _ _ _ _
  · obtain rfl : s = [] := by simpa using h4
    by_cases hn : n = 1
    · subst hn; exact text_2t _ _ _ _ _
    · have : leafT (.mk 2 n [] [] []) = [102, 97, 108, 115, 101] := by simp [leafT, Dat.k, Dat.n, hn]
      rw [this]
      exact text_2f n _ _ _ _ _ (by simpa using hn)
  · obtain rfl : s = [] := by simpa using h4
    exact text_3 _ _ _ _ _ _ hE
  · obtain rfl : n = 0 := by simpa using h2
    exact text_4 _ _ _ _ _ _ hs
  · obtain rfl : n = 0 := by simpa using h2
    obtain rfl : s = [] := by simpa using h4
    exact text_5 _ _ _ _ _
  · obtain rfl : n = 0 := by simpa using h2
    obtain rfl : s = [] := by simpa using h4
    exact text_6 _ _ _ _ _
theorem TextLeaf_any {d : Dat} {vi vm : Value} {ok : Nat → Prop} {w : World} (hr : Rep w ok d vi vm) (hl : leafB d = true) (hlim : limD d = true) (hE : NumOk w) :
    Calls Tryz.prog 29 #[.agg #[.int .i64 d.k, .int .i64 d.n, .string (S d.s), vi, vm]] w fun e w' => e = .returned (.tuple #[.string (S (leafT d)), .int .i64 0]) ∧ Below w.heap.size w w' := by
  obtain ⟨hc, hi, hm⟩ := leaf_iff.1 hl
  obtain ⟨-, ho, -, -⟩ := chk_zero.1 hc
  have HP := Lib.hid (own_zero ho).1
  have HIM := Lib.hid (And.intro hi hm)
  have HREP := Lib.hid hr
  have HE := Lib.hid hE
  have HSL := Lib.hid (lim_len hlim).2.2
  have HCK := Lib.hid (fun w' (hb : Below w.heap.size w w') => (Check_any (hr.under hb) hlim))
  simp only [hc] at HCK
  clear hr hl hlim hc hi hm ho hE
  go_enter Tryz.func29, Tryz.ntmps29
  go_upto_region 1 with fail
  have hS : CkS w.heap.size w d vi vm (w.alloc (.cells #[.int .i64 d.k, .int .i64 d.n, .string (S d.s), vi, vm] 26)) := CkS.new w d _ _
  generalize w.alloc (.cells #[.int .i64 d.k, .int .i64 d.n, .string (S d.s), vi, vm] 26) = W at hS ⊢
  obtain ⟨c0, c1, c2, c3, c4, hlw⟩ := hS.cells
  have HS := Lib.hid hS
  clear hS
  go_wp2_with fail
  refine (HCK.out _ HS.out.2).mono ?_
  rintro e w1 ⟨rfl, hb⟩
  have HS1 := Lib.hid (HS.out.below hb)
  clear hb HS c0 c1 c2 c3 c4 hlw HCK
  obtain ⟨c0, c1, c2, c3, c4, hlw⟩ := HS1.out.cells
  go_wp2_with fail
  refine (textLeaf_any (HREP.out.under HS1.out.2) HP.out HIM.out.1 HIM.out.2 HSL.out (HE.out.below HS1.out.2)).mono ?_
  rintro e w2 ⟨rfl, hb⟩
  have HB := Lib.hid (HS1.out.below hb).2
  clear hb
  go_wp2_with fail
  go_ret2
  exact ⟨rfl, HB.out⟩
end
section
open Go.RowKit

/-- word j of a list -/
def wd (ws : List (List UInt8)) (j : Nat) : List UInt8 := ws.getD j []
theorem wd_get (ws : List (List UInt8)) (j : Nat) (h : j < ws.length) : wd ws j = ws[j] := by simp [wd, List.getD, List.getElem?_eq_getElem h]
/-- the words lie in block b -/
def WordsAt (w : World) (b : Nat) (ws : List (List UInt8)) : Prop := ∀ j, j < ws.length → w.cell? ⟨b, j, none⟩ = some (.string (S (wd ws j)))
theorem contains_step {ws : List (List UInt8)} {x : List UInt8} {k : Nat} (hk : k < ws.length) (h : x ∉ ws.take k) (hne : (x == wd ws k) = false) : x ∉ ws.take (k + 1) := by
  rw [List.take_succ_eq_append_getElem hk, List.mem_append]
  rintro (hm | hm)
  · exact h hm
  · simp at hm; rw [wd_get ws k hk, hm] at hne; simp at hne

def IdxPost (ws : List (List UInt8)) (x : List UInt8) (e : Ending) : Prop := ∃ r : Int, e = .returned (.int .i64 r) ∧ decide (0 ≤ r) = ws.contains x

set_option maxHeartbeats 400000 in
theorem Index_any (b cap : Nat) (ws : List (List UInt8)) (x : List UInt8) (w : World) (hn : ws.length ≤ 1000000) (hc : WordsAt w b ws) :
    Calls Tryz.prog 194 #[.slice (some ⟨b, 0, none⟩) ws.length cap, .string (S x)] w fun e w' => IdxPost ws x e ∧ w = w' := by
  have HC := Lib.hid hc; clear hc
  go_enter Tryz.func194, Tryz.ntmps194
  go_wp2_with fail
  go_loop [8] (fun i => ∃ k : Nat, k ≤ ws.length ∧ i = .int .i64 k ∧ Hid (x ∉ ws.take k)) (fun i => ws.length - (intOf i).toNat)
  case atStart => exact ⟨0, by omega, rfl, by show x ∉ ws.take 0; simp⟩
  case round =>
    obtain ⟨k, hk, rfl, hh⟩ := hrel
    by_cases hlt : k < ws.length
    · have hcell := HC.out k hlt
      by_cases he : (x == wd ws k) = true
      · go_wp2
        go_ret
        have hm : ws.contains x = true := by
          rw [List.contains_iff_mem]
          have : x = wd ws k := by simpa using he
          rw [this, wd_get ws k hlt]; exact List.getElem_mem hlt
        exact ⟨⟨(k : Int), rfl, by rw [hm]; simp⟩, rfl⟩
      · have he' : (x == wd ws k) = false := by simpa using he
        clear he
        go_wp2
        go_round
        case rel => exact ⟨k + 1, by omega, by go_num, contains_step hlt hh.out he'⟩
        case measure => simp [intOf]; omega
    · go_wp2
      go_ret
      have hm : ws.contains x = false := by
        have := hh.out
        rw [List.take_of_length_le (by omega)] at this
        rw [← Bool.not_eq_true, List.contains_iff_mem]; exact this
      exact ⟨⟨-1, rfl, by rw [hm]; decide⟩, rfl⟩

set_option maxHeartbeats 400000 in
theorem Contains_any (b cap : Nat) (ws : List (List UInt8)) (x : List UInt8) (w : World) (hn : ws.length ≤ 1000000) (hc : WordsAt w b ws) :
    Calls Tryz.prog 145 #[.slice (some ⟨b, 0, none⟩) ws.length cap, .string (S x)] w fun e w' => e = .returned (.bool (ws.contains x)) ∧ w = w' := by
  have H := Lib.hid (Index_any b cap ws x w hn hc)
  clear hc
  generalize hq : ws.contains x = q
  have HQ := Lib.hid hq; clear hq
  go_enter Tryz.func145, Tryz.ntmps145
  go_wp2_with fail
  refine H.out.mono ?_
  rintro e w' ⟨⟨r, rfl, hr⟩, rfl⟩
  have HR := Lib.hid hr; clear hr H
  go_wp2
  go_ret
  exact ⟨ret_bool (HR.out.trans HQ.out), rfl⟩

theorem words_at (w : World) (t : TypeId) : WordsAt (w.alloc (.cells #[.string ⟨#[110, 117, 108, 108]⟩, .string ⟨#[116, 114, 117, 101]⟩, .string ⟨#[102, 97, 108, 115, 101]⟩, .string ⟨#[98, 111, 111, 108]⟩, .string ⟨#[105, 110, 116]⟩, .string ⟨#[110, 117, 109, 98, 101, 114]⟩, .string ⟨#[115, 116, 114, 105, 110, 103]⟩, .string ⟨#[108, 101, 116]⟩, .string ⟨#[105, 102]⟩, .string ⟨#[102, 111, 114]⟩, .string ⟨#[105, 110]⟩, .string ⟨#[112, 97, 99, 107, 97, 103, 101]⟩, .string ⟨#[105, 109, 112, 111, 114, 116]⟩] t)) w.heap.size wordsL := by
  intro j hj
  have hj' : j < 13 := hj
  rw [World.cell?_alloc_mark]
  match j, hj' with
  | 0, _ => rfl
  | 1, _ => rfl
  | 2, _ => rfl
  | 3, _ => rfl
  | 4, _ => rfl
  | 5, _ => rfl
  | 6, _ => rfl
  | 7, _ => rfl
  | 8, _ => rfl
  | 9, _ => rfl
  | 10, _ => rfl
  | 11, _ => rfl
  | 12, _ => rfl
end
section
open Go.RowKit

def idByte (c : UInt8) : Bool := letterB c || c == 95 || digitB c
theorem idTail_nil {m : List UInt8} (h : m.length = 0) : idTail m = false := by rw [List.eq_nil_of_length_eq_zero h]; rfl
theorem idTail_pos {m : List UInt8} (h : 0 < m.length) (hL : letterB (byt m 0) = true) : idTail m = m.all idByte := by
  cases m with
  | nil => simp at h
  | cons c t => show (letterB c && _) = _; rw [show letterB c = true from hL]; rfl
theorem idTail_neg {m : List UInt8} (h : 0 < m.length) (hL : letterB (byt m 0) = false) : idTail m = false := by
  cases m with
  | nil => simp at h
  | cons c t => show (letterB c && _) = _; rw [show letterB c = false from hL]; rfl
theorem all_snoc {m : List UInt8} {k : Nat} (hk : k < m.length) (h : (m.take k).all idByte = true) (hb : idByte (byt m k) = true) : (m.take (k + 1)).all idByte = true := by
  rw [take_byt m k hk, List.all_append, h]; simp [hb]
theorem all_false {m : List UInt8} {k : Nat} (hk : k < m.length) (hb : idByte (byt m k) = false) : m.all idByte = false := by
  rw [← Bool.not_eq_true, List.all_eq_true]
  intro h
  have := h (byt m k) (by rw [byt_get m k hk]; exact List.getElem_mem hk)
  rw [hb] at this; cases this
theorem idByte_cases {c : UInt8} (h : idByte c = true) : letterB c = true ∨ (letterB c = false ∧ ((c.toNat : Int) != 95) = false) ∨ (letterB c = false ∧ ((c.toNat : Int) != 95) = true ∧ 48 ≤ c.toNat ∧ c.toNat ≤ 57) := by
  cases hl : letterB c with
  | true => exact .inl rfl
  | false =>
    unfold idByte at h
    rw [hl] at h
    by_cases h95 : c = 95
    · subst h95; exact .inr (.inl ⟨rfl, rfl⟩)
    · have : ((c.toNat : Int) == 95) = false := u8_ne h95
      rw [show (c == 95) = false by simpa using h95, digitB_nat] at h
      simp at h
      exact .inr (.inr ⟨rfl, by simp only [bne, this]; rfl, h.1, h.2⟩)
theorem idByte_no {c : UInt8} (h : idByte c = false) : letterB c = false ∧ ((c.toNat : Int) != 95) = true ∧ ¬ (48 ≤ c.toNat ∧ c.toNat ≤ 57) := by
  unfold idByte at h
  simp only [Bool.or_eq_false_iff] at h
  obtain ⟨⟨h1, h2⟩, h3⟩ := h
  have : ((c.toNat : Int) == 95) = false := u8_ne (by simpa using h2)
  rw [digitB_nat] at h3
  exact ⟨h1, by simp only [bne, this]; rfl, by simpa using h3⟩
theorem identB_big {l : List UInt8} (h : 32 < l.length) : identB l = false := by unfold identB; rw [if_pos (.inl h)]
theorem identB_word {l : List UInt8} (h : wordsL.contains l = true) : identB l = false := by unfold identB; rw [if_pos (.inr h)]
theorem identB_rest {l : List UInt8} (h : ¬ 32 < l.length) (hw : wordsL.contains l = false) (h0 : 0 < l.length) : identB l = if byt l 0 = 35 ∨ byt l 0 = 95 then idTail (l.drop 1) else idTail l := by
  unfold identB
  rw [if_neg (by rw [hw]; simp; omega)]
  cases l with
  | nil => simp at h0
  | cons c t => rfl

set_option maxRecDepth 100000 in
set_option maxHeartbeats 2000000 in
theorem Ident_any (l : List UInt8) (hl : l.length ≤ 1000000) (w : World) :
    Calls Tryz.prog 103 #[.string (S l)] w fun e w' => e = .returned (.bool (identB l)) ∧ Below w.heap.size w w' := by
  generalize hr : identB l = r
  have HI := Lib.hid hr; clear hr
  by_cases hbig : 32 < l.length
  · have hr : r = false := by rw [← HI.out, identB_big hbig]
    have HR := Lib.hid hr; clear hr
    go_enter Tryz.func103, Tryz.ntmps103
    go_wp2_with fail
    go_ret
    exact ⟨ret_bool HR.out.symm, by go_grown⟩
  have hw := Lib.hid (words_at w 9)
  have hbig' : l.length ≤ 32 := by omega
  generalize hq : wordsL.contains l = q
  have HQ := Lib.hid hq; clear hq
  cases q with
  | true =>
    have hr : r = false := by rw [← HI.out, identB_word HQ.out]
    have HR := Lib.hid hr; clear hr
    go_enter Tryz.func103, Tryz.ntmps103
    go_wp2_with fail
    refine (Contains_any w.heap.size 13 wordsL l _ (by decide) hw.out).mono ?_
    rintro e w' ⟨rfl, rfl⟩
    rw [HQ.out]
    go_wp2_with fail
    go_ret
    exact ⟨ret_bool HR.out.symm, by go_grown⟩
  | false =>
    by_cases h0 : l.length = 0
    · have hr : r = false := by rw [← HI.out, List.eq_nil_of_length_eq_zero h0]; rfl
      have HR := Lib.hid hr; clear hr
      have hz : ((l.length : Int) == 0) = true := by rw [h0]; rfl
      go_enter Tryz.func103, Tryz.ntmps103
      go_wp2_with fail
      refine (Contains_any w.heap.size 13 wordsL l _ (by decide) hw.out).mono ?_
      rintro e w' ⟨rfl, rfl⟩
      rw [HQ.out]
      go_wp2_with fail
      go_ret
      exact ⟨ret_bool HR.out.symm, by go_grown⟩
    have h0' : 0 < l.length := by omega
    have hrest := identB_rest hbig HQ.out h0'
    clear h0
    by_cases h35 : byt l 0 = 35
    · rw [if_pos (.inl h35), HI.out, ← sl_from l 1] at hrest
      have HT := Lib.hid hrest; clear hrest
      have hml : (sl l 1 l.length).length ≤ 32 := by have := sl_le l 1 l.length; omega
      go_enter Tryz.func103, Tryz.ntmps103
      go_wp2_with fail
      refine (Contains_any w.heap.size 13 wordsL l _ (by decide) hw.out).mono ?_
      rintro e w' ⟨rfl, rfl⟩
      rw [HQ.out]
      by_cases hm0 : (sl l 1 l.length).length = 0
      · have hr : r = false := by rw [HT.out, idTail_nil hm0]
        have HR := Lib.hid hr; clear hr
        have hz : (((sl l 1 l.length).length : Int) == 0) = true := by rw [hm0]; rfl
        go_wp2_with fail
        go_ret
        exact ⟨ret_bool HR.out.symm, by go_grown⟩
      have hm1 : 0 < (sl l 1 l.length).length := by omega
      have hz : (((sl l 1 l.length).length : Int) == 0) = false := beq_eq_false_iff_ne.2 (by omega)
      clear hm0
      by_cases hL : letterB (byt (sl l 1 l.length) 0) = true
      · have hr : r = (sl l 1 l.length).all idByte := by rw [HT.out, idTail_pos hm1 hL]
        have HR := Lib.hid hr; clear hr
        go_wp2_with (go_at_call 146; refine (letter_any _ _).mono ?_; rintro e w' ⟨rfl, rfl⟩)
        clear hL hz
        go_loop [40] (fun i => ∃ k : Nat, k ≤ (sl l 1 l.length).length ∧ i = .int .i64 k ∧ Hid (((sl l 1 l.length).take k).all idByte = true)) (fun i => (sl l 1 l.length).length - (intOf i).toNat)
        case atStart => exact ⟨0, by omega, rfl, rfl⟩
        case round =>
          obtain ⟨k, hk, rfl, hh⟩ := hrel
          by_cases hlt : k < (sl l 1 l.length).length
          · by_cases hb : idByte (byt (sl l 1 l.length) k) = true
            · have hnext := Lib.hid (all_snoc hlt hh.out hb)
              rcases idByte_cases hb with h1 | ⟨h1, h2⟩ | ⟨h1, h2, h3, h4⟩
              · go_wp2_with (go_at_call 146; refine (letter_any _ _).mono ?_; rintro e w' ⟨rfl, rfl⟩)
                go_round
                case rel => exact ⟨k + 1, by omega, by go_num, hnext.out⟩
                case measure => simp [intOf]; omega
              · go_wp2_with (go_at_call 146; refine (letter_any _ _).mono ?_; rintro e w' ⟨rfl, rfl⟩)
                go_round
                case rel => exact ⟨k + 1, by omega, by go_num, hnext.out⟩
                case measure => simp [intOf]; omega
              · go_wp2_with (go_at_call 146; refine (letter_any _ _).mono ?_; rintro e w' ⟨rfl, rfl⟩)
                go_round
                case rel => exact ⟨k + 1, by omega, by go_num, hnext.out⟩
                case measure => simp [intOf]; omega
            · have hbf : idByte (byt (sl l 1 l.length) k) = false := by simpa using hb
              have hrf := Lib.hid (all_false hlt hbf)
              obtain ⟨h1, h2, h3⟩ := idByte_no hbf
              clear hb hbf
              by_cases h4 : (byt (sl l 1 l.length) k).toNat < 48
              · go_wp2_with (go_at_call 146; refine (letter_any _ _).mono ?_; rintro e w' ⟨rfl, rfl⟩)
                go_ret
                exact ⟨ret_bool (by rw [HR.out, hrf.out]), by go_grown⟩
              · have h5 : 57 < (byt (sl l 1 l.length) k).toNat := by omega
                go_wp2_with (go_at_call 146; refine (letter_any _ _).mono ?_; rintro e w' ⟨rfl, rfl⟩)
                go_ret
                exact ⟨ret_bool (by rw [HR.out, hrf.out]), by go_grown⟩
          · have hall := hh.out
            rw [List.take_of_length_le (by omega)] at hall
            have HA := Lib.hid hall; clear hall
            go_wp2_with fail
            go_ret
            exact ⟨ret_bool (by rw [HR.out, HA.out]), by go_grown⟩
      · have hLf : letterB (byt (sl l 1 l.length) 0) = false := by simpa using hL
        have hr : r = false := by rw [HT.out, idTail_neg hm1 hLf]
        have HR := Lib.hid hr; clear hr hL
        go_wp2_with (go_at_call 146; refine (letter_any _ _).mono ?_; rintro e w' ⟨rfl, rfl⟩)
        go_ret
        exact ⟨ret_bool HR.out.symm, by go_grown⟩

    by_cases h95 : byt l 0 = 95
    · rw [if_pos (.inr h95), HI.out, ← sl_from l 1] at hrest
      have HT := Lib.hid hrest; clear hrest h35
      have hml : (sl l 1 l.length).length ≤ 32 := by have := sl_le l 1 l.length; omega
      go_enter Tryz.func103, Tryz.ntmps103
      go_wp2_with fail
      refine (Contains_any w.heap.size 13 wordsL l _ (by decide) hw.out).mono ?_
      rintro e w' ⟨rfl, rfl⟩
      rw [HQ.out]
      by_cases hm0 : (sl l 1 l.length).length = 0
      · have hr : r = false := by rw [HT.out, idTail_nil hm0]
        have HR := Lib.hid hr; clear hr
        have hz : (((sl l 1 l.length).length : Int) == 0) = true := by rw [hm0]; rfl
        go_wp2_with fail
        go_ret
        exact ⟨ret_bool HR.out.symm, by go_grown⟩
      have hm1 : 0 < (sl l 1 l.length).length := by omega
      have hz : (((sl l 1 l.length).length : Int) == 0) = false := beq_eq_false_iff_ne.2 (by omega)
      clear hm0
      by_cases hL : letterB (byt (sl l 1 l.length) 0) = true
      · have hr : r = (sl l 1 l.length).all idByte := by rw [HT.out, idTail_pos hm1 hL]
        have HR := Lib.hid hr; clear hr
        go_wp2_with (go_at_call 146; refine (letter_any _ _).mono ?_; rintro e w' ⟨rfl, rfl⟩)
        clear hL hz
        go_loop [40] (fun i => ∃ k : Nat, k ≤ (sl l 1 l.length).length ∧ i = .int .i64 k ∧ Hid (((sl l 1 l.length).take k).all idByte = true)) (fun i => (sl l 1 l.length).length - (intOf i).toNat)
        case atStart => exact ⟨0, by omega, rfl, rfl⟩
        case round =>
          obtain ⟨k, hk, rfl, hh⟩ := hrel
          by_cases hlt : k < (sl l 1 l.length).length
          · by_cases hb : idByte (byt (sl l 1 l.length) k) = true
            · have hnext := Lib.hid (all_snoc hlt hh.out hb)
              rcases idByte_cases hb with h1 | ⟨h1, h2⟩ | ⟨h1, h2, h3, h4⟩
              · go_wp2_with (go_at_call 146; refine (letter_any _ _).mono ?_; rintro e w' ⟨rfl, rfl⟩)
                go_round
                case rel => exact ⟨k + 1, by omega, by go_num, hnext.out⟩
                case measure => simp [intOf]; omega
              · go_wp2_with (go_at_call 146; refine (letter_any _ _).mono ?_; rintro e w' ⟨rfl, rfl⟩)
                go_round
                case rel => exact ⟨k + 1, by omega, by go_num, hnext.out⟩
                case measure => simp [intOf]; omega
              · go_wp2_with (go_at_call 146; refine (letter_any _ _).mono ?_; rintro e w' ⟨rfl, rfl⟩)
                go_round
                case rel => exact ⟨k + 1, by omega, by go_num, hnext.out⟩
                case measure => simp [intOf]; omega
            · have hbf : idByte (byt (sl l 1 l.length) k) = false := by simpa using hb
              have hrf := Lib.hid (all_false hlt hbf)
              obtain ⟨h1, h2, h3⟩ := idByte_no hbf
              clear hb hbf
              by_cases h4 : (byt (sl l 1 l.length) k).toNat < 48
              · go_wp2_with (go_at_call 146; refine (letter_any _ _).mono ?_; rintro e w' ⟨rfl, rfl⟩)
                go_ret
                exact ⟨ret_bool (by rw [HR.out, hrf.out]), by go_grown⟩
              · have h5 : 57 < (byt (sl l 1 l.length) k).toNat := by omega
                go_wp2_with (go_at_call 146; refine (letter_any _ _).mono ?_; rintro e w' ⟨rfl, rfl⟩)
                go_ret
                exact ⟨ret_bool (by rw [HR.out, hrf.out]), by go_grown⟩
          · have hall := hh.out
            rw [List.take_of_length_le (by omega)] at hall
            have HA := Lib.hid hall; clear hall
            go_wp2_with fail
            go_ret
            exact ⟨ret_bool (by rw [HR.out, HA.out]), by go_grown⟩
      · have hLf : letterB (byt (sl l 1 l.length) 0) = false := by simpa using hL
        have hr : r = false := by rw [HT.out, idTail_neg hm1 hLf]
        have HR := Lib.hid hr; clear hr hL
        go_wp2_with (go_at_call 146; refine (letter_any _ _).mono ?_; rintro e w' ⟨rfl, rfl⟩)
        go_ret
        exact ⟨ret_bool HR.out.symm, by go_grown⟩

    · rw [if_neg (by simp [h35, h95]), HI.out] at hrest
      have HT := Lib.hid hrest; clear hrest
      have e35 : (((byt l 0).toNat : Int) == 35) = false := u8_ne h35
      have e95 : (((byt l 0).toNat : Int) == 95) = false := u8_ne h95
      clear h35 h95
      go_enter Tryz.func103, Tryz.ntmps103
      go_wp2_with fail
      refine (Contains_any w.heap.size 13 wordsL l _ (by decide) hw.out).mono ?_
      rintro e w' ⟨rfl, rfl⟩
      rw [HQ.out]
      by_cases hm0 : l.length = 0
      · have hr : r = false := by rw [HT.out, idTail_nil hm0]
        have HR := Lib.hid hr; clear hr
        have hz : ((l.length : Int) == 0) = true := by rw [hm0]; rfl
        go_wp2_with fail
        go_ret
        exact ⟨ret_bool HR.out.symm, by go_grown⟩
      have hm1 : 0 < l.length := by omega
      have hz : ((l.length : Int) == 0) = false := beq_eq_false_iff_ne.2 (by omega)
      clear hm0
      by_cases hL : letterB (byt l 0) = true
      · have hr : r = l.all idByte := by rw [HT.out, idTail_pos hm1 hL]
        have HR := Lib.hid hr; clear hr
        go_wp2_with (go_at_call 146; refine (letter_any _ _).mono ?_; rintro e w' ⟨rfl, rfl⟩)
        clear hL hz
        go_loop [40] (fun i => ∃ k : Nat, k ≤ l.length ∧ i = .int .i64 k ∧ Hid ((l.take k).all idByte = true)) (fun i => l.length - (intOf i).toNat)
        case atStart => exact ⟨0, by omega, rfl, rfl⟩
        case round =>
          obtain ⟨k, hk, rfl, hh⟩ := hrel
          by_cases hlt : k < l.length
          · by_cases hb : idByte (byt l k) = true
            · have hnext := Lib.hid (all_snoc hlt hh.out hb)
              rcases idByte_cases hb with h1 | ⟨h1, h2⟩ | ⟨h1, h2, h3, h4⟩
              · go_wp2_with (go_at_call 146; refine (letter_any _ _).mono ?_; rintro e w' ⟨rfl, rfl⟩)
                go_round
                case rel => exact ⟨k + 1, by omega, by go_num, hnext.out⟩
                case measure => simp [intOf]; omega
              · go_wp2_with (go_at_call 146; refine (letter_any _ _).mono ?_; rintro e w' ⟨rfl, rfl⟩)
                go_round
                case rel => exact ⟨k + 1, by omega, by go_num, hnext.out⟩
                case measure => simp [intOf]; omega
              · go_wp2_with (go_at_call 146; refine (letter_any _ _).mono ?_; rintro e w' ⟨rfl, rfl⟩)
                go_round
                case rel => exact ⟨k + 1, by omega, by go_num, hnext.out⟩
                case measure => simp [intOf]; omega
            · have hbf : idByte (byt l k) = false := by simpa using hb
              have hrf := Lib.hid (all_false hlt hbf)
              obtain ⟨h1, h2, h3⟩ := idByte_no hbf
              clear hb hbf
              by_cases h4 : (byt l k).toNat < 48
              · go_wp2_with (go_at_call 146; refine (letter_any _ _).mono ?_; rintro e w' ⟨rfl, rfl⟩)
                go_ret
                exact ⟨ret_bool (by rw [HR.out, hrf.out]), by go_grown⟩
              · have h5 : 57 < (byt l k).toNat := by omega
                go_wp2_with (go_at_call 146; refine (letter_any _ _).mono ?_; rintro e w' ⟨rfl, rfl⟩)
                go_ret
                exact ⟨ret_bool (by rw [HR.out, hrf.out]), by go_grown⟩
          · have hall := hh.out
            rw [List.take_of_length_le (by omega)] at hall
            have HA := Lib.hid hall; clear hall
            go_wp2_with fail
            go_ret
            exact ⟨ret_bool (by rw [HR.out, HA.out]), by go_grown⟩
      · have hLf : letterB (byt l 0) = false := by simpa using hL
        have hr : r = false := by rw [HT.out, idTail_neg hm1 hLf]
        have HR := Lib.hid hr; clear hr hL
        go_wp2_with (go_at_call 146; refine (letter_any _ _).mono ?_; rintro e w' ⟨rfl, rfl⟩)
        go_ret
        exact ⟨ret_bool HR.out.symm, by go_grown⟩
end
section
open Go.RowKit

theorem byt_drop (l : List UInt8) (f : Nat) : byt (l.drop f) 0 = byt l f := by
  simp [byt, List.getD, List.getElem?_drop]
theorem byt_drop' (l : List UInt8) (f k : Nat) (h : f ≤ k) : byt (l.drop f) (k - f) = byt l k := by
  simp only [byt, List.getD, List.getElem?_drop]; rw [show f + (k - f) = k by omega]
theorem all_snoc_drop {l : List UInt8} {f k : Nat} (hf : f ≤ k) (hk : k < l.length) (h : ((l.drop f).take (k - f)).all idByte = true) (hb : idByte (byt l k) = true) : ((l.drop f).take (k + 1 - f)).all idByte = true := by
  rw [show k + 1 - f = (k - f) + 1 by omega]
  exact all_snoc (by rw [List.length_drop]; omega) h (by rw [byt_drop' l f k hf]; exact hb)
theorem all_false_drop {l : List UInt8} {f k : Nat} (hf : f ≤ k) (hk : k < l.length) (hb : idByte (byt l k) = false) : (l.drop f).all idByte = false :=
  all_false (k := k - f) (by rw [List.length_drop]; omega) (by rw [byt_drop' l f k hf]; exact hb)
theorem idByte_cases2 {c : UInt8} (h : idByte c = true) : letterB c = true ∨ (letterB c = false ∧ digitB c = true) ∨ (letterB c = false ∧ digitB c = false ∧ ((c.toNat : Int) != 95) = false) := by
  unfold idByte at h
  cases hl : letterB c with
  | true => exact .inl rfl
  | false =>
    cases hd : digitB c with
    | true => exact .inr (.inl ⟨rfl, rfl⟩)
    | false =>
      rw [hl, hd] at h
      have : c = 95 := by simpa using h
      subst this
      exact .inr (.inr ⟨rfl, rfl, rfl⟩)
theorem idByte_no2 {c : UInt8} (h : idByte c = false) : letterB c = false ∧ digitB c = false ∧ ((c.toNat : Int) != 95) = true := by
  obtain ⟨h1, h2, _⟩ := idByte_no h
  unfold idByte at h
  simp only [Bool.or_eq_false_iff] at h
  exact ⟨h1, h.2, h2⟩

theorem Words_any (w : World) : Calls Tryz.prog 166 #[] w fun e w' => e = .returned (.slice (some ⟨w.heap.size, 0, none⟩) 13 13) ∧ w' = w.alloc (.cells #[.string ⟨#[110, 117, 108, 108]⟩, .string ⟨#[116, 114, 117, 101]⟩, .string ⟨#[102, 97, 108, 115, 101]⟩, .string ⟨#[98, 111, 111, 108]⟩, .string ⟨#[105, 110, 116]⟩, .string ⟨#[110, 117, 109, 98, 101, 114]⟩, .string ⟨#[115, 116, 114, 105, 110, 103]⟩, .string ⟨#[108, 101, 116]⟩, .string ⟨#[105, 102]⟩, .string ⟨#[102, 111, 114]⟩, .string ⟨#[105, 110]⟩, .string ⟨#[112, 97, 99, 107, 97, 103, 101]⟩, .string ⟨#[105, 109, 112, 111, 114, 116]⟩] 9) := by
  go_enter Tryz.func166, Tryz.ntmps166
  go_wp2
  go_ret
  exact ⟨rfl, rfl⟩

set_option maxRecDepth 100000 in
set_option maxHeartbeats 2000000 in
theorem refIdent_any (l : List UInt8) (hl : l.length ≤ 1000000) (w : World) :
    Calls Tryz.prog 123 #[.string (S l)] w fun e w' => e = .returned (.bool (identB l)) ∧ Below w.heap.size w w' := by
  generalize hr : identB l = r
  have HI := Lib.hid hr; clear hr
  by_cases hbig : 32 < l.length
  · have hr : r = false := by rw [← HI.out, identB_big hbig]
    have HR := Lib.hid hr; clear hr
    go_enter Tryz.func123, Tryz.ntmps123
    go_wp2_with fail
    go_ret
    exact ⟨ret_bool HR.out.symm, Below.refl _ _⟩
  by_cases h0 : l.length = 0
  · have hr : r = false := by rw [← HI.out, List.eq_nil_of_length_eq_zero h0]; rfl
    have HR := Lib.hid hr; clear hr
    have hz : (l.length : Int) < 1 := by omega
    go_enter Tryz.func123, Tryz.ntmps123
    go_wp2_with fail
    go_ret
    exact ⟨ret_bool HR.out.symm, Below.refl _ _⟩
  have hw := words_at w 9
  have hbw : Below w.heap.size w (w.alloc (.cells #[.string ⟨#[110, 117, 108, 108]⟩, .string ⟨#[116, 114, 117, 101]⟩, .string ⟨#[102, 97, 108, 115, 101]⟩, .string ⟨#[98, 111, 111, 108]⟩, .string ⟨#[105, 110, 116]⟩, .string ⟨#[110, 117, 109, 98, 101, 114]⟩, .string ⟨#[115, 116, 114, 105, 110, 103]⟩, .string ⟨#[108, 101, 116]⟩, .string ⟨#[105, 102]⟩, .string ⟨#[102, 111, 114]⟩, .string ⟨#[105, 110]⟩, .string ⟨#[112, 97, 99, 107, 97, 103, 101]⟩, .string ⟨#[105, 109, 112, 111, 114, 116]⟩] 9)) := (Below.refl _ _).alloc (Nat.le_refl _) _
  obtain ⟨W1, hW1⟩ : ∃ W1, W1 = w.alloc (.cells #[.string ⟨#[110, 117, 108, 108]⟩, .string ⟨#[116, 114, 117, 101]⟩, .string ⟨#[102, 97, 108, 115, 101]⟩, .string ⟨#[98, 111, 111, 108]⟩, .string ⟨#[105, 110, 116]⟩, .string ⟨#[110, 117, 109, 98, 101, 114]⟩, .string ⟨#[115, 116, 114, 105, 110, 103]⟩, .string ⟨#[108, 101, 116]⟩, .string ⟨#[105, 102]⟩, .string ⟨#[102, 111, 114]⟩, .string ⟨#[105, 110]⟩, .string ⟨#[112, 97, 99, 107, 97, 103, 101]⟩, .string ⟨#[105, 109, 112, 111, 114, 116]⟩] 9) := ⟨_, rfl⟩
  rw [← hW1] at hw hbw
  have HW := Lib.hid hw; have hBw := hbw; have HE := Lib.hid hW1; clear hw hbw hW1
  have hbig' : l.length ≤ 32 := by omega
  have h0' : 0 < l.length := by omega
  clear h0
  go_enter Tryz.func123, Tryz.ntmps123
  go_wp2_with fail
  refine (Words_any _).mono ?_
  rintro e w' ⟨rfl, hw'⟩
  rw [← HE.out] at hw'
  subst hw'
  go_wp2_with fail
  go_loop [17] (fun i => ∃ k : Nat, k ≤ 13 ∧ i = .int .i64 k ∧ Hid (l ∉ wordsL.take k)) (fun i => 13 - (intOf i).toNat)
  case atStart => exact ⟨0, by omega, rfl, by show l ∉ wordsL.take 0; simp⟩
  case round =>
    obtain ⟨k, hk, rfl, hh⟩ := hrel
    by_cases hlt : k < 13
    · have hcell := HW.out k hlt
      by_cases he : (l == wd wordsL k) = true
      · have hm : wordsL.contains l = true := by
          rw [List.contains_iff_mem]
          have : l = wd wordsL k := by simpa using he
          rw [this, wd_get wordsL k hlt]; exact List.getElem_mem hlt
        have hr : r = false := by rw [← HI.out, identB_word hm]
        have HR := Lib.hid hr; clear hr hm
        go_wp2_with fail
        go_ret
        exact ⟨ret_bool HR.out.symm, hBw⟩
      · have he' : (l == wd wordsL k) = false := by simpa using he
        clear he
        go_wp2_with fail
        go_round
        case rel => exact ⟨k + 1, by omega, by go_num, contains_step hlt hh.out he'⟩
        case measure => simp [intOf]; omega
    · have hm : wordsL.contains l = false := by
        have := hh.out
        rw [List.take_of_length_le (by show 13 ≤ k; omega)] at this
        rw [← Bool.not_eq_true, List.contains_iff_mem]; exact this
      have hrest := identB_rest hbig hm h0'
      clear hm
      by_cases h35 : byt l 0 = 35
      · rw [if_pos (.inl h35), HI.out] at hrest
        have HT := Lib.hid hrest; clear hrest
        by_cases hm0 : l.length = 1
        · have hr : r = false := by rw [HT.out, idTail_nil (by rw [List.length_drop]; omega)]
          have HR := Lib.hid hr; clear hr
          have hz : (l.length : Int) ≤ 1 := by omega
          go_wp2_with fail
          go_ret
          exact ⟨ret_bool HR.out.symm, hBw⟩
        have hm1 : 1 < l.length := by omega
        clear hm0
        by_cases hL : letterB (byt l 1) = true
        · have hr : r = (l.drop 1).all idByte := by rw [HT.out, idTail_pos (by rw [List.length_drop]; omega) (by rw [byt_drop]; exact hL)]
          have HR := Lib.hid hr; clear hr
          go_wp2_with (first | (go_at_call 167; refine (Letter_any _ _).mono ?_; rintro e w' ⟨rfl, rfl⟩) | (go_at_call 168; refine (Digit_any _ _).mono ?_; rintro e w' ⟨rfl, rfl⟩))
          clear hL
          go_loop [6] (fun i => ∃ k : Nat, 1 ≤ k ∧ k ≤ l.length ∧ i = .int .i64 k ∧ Hid (((l.drop 1).take (k - 1)).all idByte = true)) (fun i => l.length - (intOf i).toNat)
          case atStart => exact ⟨1, by omega, by omega, rfl, by show (List.take _ _).all idByte = true; simp⟩
          case round =>
            obtain ⟨k, hk0, hk, rfl, hh⟩ := hrel
            by_cases hlt : k < l.length
            · by_cases hb : idByte (byt l k) = true
              · have hnext : Hid (((l.drop 1).take (k + 1 - 1)).all idByte = true) := all_snoc_drop hk0 hlt hh.out hb
                rcases idByte_cases2 hb with h1 | ⟨h1, h2⟩ | ⟨h1, h2, h3⟩
                · go_wp2_with (first | (go_at_call 167; refine (Letter_any _ _).mono ?_; rintro e w' ⟨rfl, rfl⟩) | (go_at_call 168; refine (Digit_any _ _).mono ?_; rintro e w' ⟨rfl, rfl⟩))
                  go_round
                  case rel => exact ⟨k + 1, by omega, by omega, by go_num, hnext⟩
                  case measure => simp [intOf]; omega
                · go_wp2_with (first | (go_at_call 167; refine (Letter_any _ _).mono ?_; rintro e w' ⟨rfl, rfl⟩) | (go_at_call 168; refine (Digit_any _ _).mono ?_; rintro e w' ⟨rfl, rfl⟩))
                  go_round
                  case rel => exact ⟨k + 1, by omega, by omega, by go_num, hnext⟩
                  case measure => simp [intOf]; omega
                · go_wp2_with (first | (go_at_call 167; refine (Letter_any _ _).mono ?_; rintro e w' ⟨rfl, rfl⟩) | (go_at_call 168; refine (Digit_any _ _).mono ?_; rintro e w' ⟨rfl, rfl⟩))
                  go_round
                  case rel => exact ⟨k + 1, by omega, by omega, by go_num, hnext⟩
                  case measure => simp [intOf]; omega
              · have hbf : idByte (byt l k) = false := by simpa using hb
                have hrf : Hid ((l.drop 1).all idByte = false) := all_false_drop hk0 hlt hbf
                obtain ⟨h1, h2, h3⟩ := idByte_no2 hbf
                clear hb hbf
                go_wp2_with (first | (go_at_call 167; refine (Letter_any _ _).mono ?_; rintro e w' ⟨rfl, rfl⟩) | (go_at_call 168; refine (Digit_any _ _).mono ?_; rintro e w' ⟨rfl, rfl⟩))
                go_ret
                exact ⟨ret_bool (by rw [HR.out, hrf.out]), hBw⟩
            · have hall := hh.out
              rw [List.take_of_length_le (by rw [List.length_drop]; omega)] at hall
              have HA := Lib.hid hall; clear hall
              go_wp2_with fail
              go_ret
              exact ⟨ret_bool (by rw [HR.out, HA.out]), hBw⟩
        · have hLf : letterB (byt l 1) = false := by simpa using hL
          have hr : r = false := by rw [HT.out, idTail_neg (by rw [List.length_drop]; omega) (by rw [byt_drop]; exact hLf)]
          have HR := Lib.hid hr; clear hr hL
          go_wp2_with (first | (go_at_call 167; refine (Letter_any _ _).mono ?_; rintro e w' ⟨rfl, rfl⟩) | (go_at_call 168; refine (Digit_any _ _).mono ?_; rintro e w' ⟨rfl, rfl⟩))
          go_ret
          exact ⟨ret_bool HR.out.symm, hBw⟩

      by_cases h95 : byt l 0 = 95
      · rw [if_pos (.inr h95), HI.out] at hrest
        have HT := Lib.hid hrest; clear hrest h35
        by_cases hm0 : l.length = 1
        · have hr : r = false := by rw [HT.out, idTail_nil (by rw [List.length_drop]; omega)]
          have HR := Lib.hid hr; clear hr
          have hz : (l.length : Int) ≤ 1 := by omega
          go_wp2_with fail
          go_ret
          exact ⟨ret_bool HR.out.symm, hBw⟩
        have hm1 : 1 < l.length := by omega
        clear hm0
        by_cases hL : letterB (byt l 1) = true
        · have hr : r = (l.drop 1).all idByte := by rw [HT.out, idTail_pos (by rw [List.length_drop]; omega) (by rw [byt_drop]; exact hL)]
          have HR := Lib.hid hr; clear hr
          go_wp2_with (first | (go_at_call 167; refine (Letter_any _ _).mono ?_; rintro e w' ⟨rfl, rfl⟩) | (go_at_call 168; refine (Digit_any _ _).mono ?_; rintro e w' ⟨rfl, rfl⟩))
          clear hL
          go_loop [6] (fun i => ∃ k : Nat, 1 ≤ k ∧ k ≤ l.length ∧ i = .int .i64 k ∧ Hid (((l.drop 1).take (k - 1)).all idByte = true)) (fun i => l.length - (intOf i).toNat)
          case atStart => exact ⟨1, by omega, by omega, rfl, by show (List.take _ _).all idByte = true; simp⟩
          case round =>
            obtain ⟨k, hk0, hk, rfl, hh⟩ := hrel
            by_cases hlt : k < l.length
            · by_cases hb : idByte (byt l k) = true
              · have hnext : Hid (((l.drop 1).take (k + 1 - 1)).all idByte = true) := all_snoc_drop hk0 hlt hh.out hb
                rcases idByte_cases2 hb with h1 | ⟨h1, h2⟩ | ⟨h1, h2, h3⟩
                · go_wp2_with (first | (go_at_call 167; refine (Letter_any _ _).mono ?_; rintro e w' ⟨rfl, rfl⟩) | (go_at_call 168; refine (Digit_any _ _).mono ?_; rintro e w' ⟨rfl, rfl⟩))
                  go_round
                  case rel => exact ⟨k + 1, by omega, by omega, by go_num, hnext⟩
                  case measure => simp [intOf]; omega
                · go_wp2_with (first | (go_at_call 167; refine (Letter_any _ _).mono ?_; rintro e w' ⟨rfl, rfl⟩) | (go_at_call 168; refine (Digit_any _ _).mono ?_; rintro e w' ⟨rfl, rfl⟩))
                  go_round
                  case rel => exact ⟨k + 1, by omega, by omega, by go_num, hnext⟩
                  case measure => simp [intOf]; omega
                · go_wp2_with (first | (go_at_call 167; refine (Letter_any _ _).mono ?_; rintro e w' ⟨rfl, rfl⟩) | (go_at_call 168; refine (Digit_any _ _).mono ?_; rintro e w' ⟨rfl, rfl⟩))
                  go_round
                  case rel => exact ⟨k + 1, by omega, by omega, by go_num, hnext⟩
                  case measure => simp [intOf]; omega
              · have hbf : idByte (byt l k) = false := by simpa using hb
                have hrf : Hid ((l.drop 1).all idByte = false) := all_false_drop hk0 hlt hbf
                obtain ⟨h1, h2, h3⟩ := idByte_no2 hbf
                clear hb hbf
                go_wp2_with (first | (go_at_call 167; refine (Letter_any _ _).mono ?_; rintro e w' ⟨rfl, rfl⟩) | (go_at_call 168; refine (Digit_any _ _).mono ?_; rintro e w' ⟨rfl, rfl⟩))
                go_ret
                exact ⟨ret_bool (by rw [HR.out, hrf.out]), hBw⟩
            · have hall := hh.out
              rw [List.take_of_length_le (by rw [List.length_drop]; omega)] at hall
              have HA := Lib.hid hall; clear hall
              go_wp2_with fail
              go_ret
              exact ⟨ret_bool (by rw [HR.out, HA.out]), hBw⟩
        · have hLf : letterB (byt l 1) = false := by simpa using hL
          have hr : r = false := by rw [HT.out, idTail_neg (by rw [List.length_drop]; omega) (by rw [byt_drop]; exact hLf)]
          have HR := Lib.hid hr; clear hr hL
          go_wp2_with (first | (go_at_call 167; refine (Letter_any _ _).mono ?_; rintro e w' ⟨rfl, rfl⟩) | (go_at_call 168; refine (Digit_any _ _).mono ?_; rintro e w' ⟨rfl, rfl⟩))
          go_ret
          exact ⟨ret_bool HR.out.symm, hBw⟩

      · rw [if_neg (by simp [h35, h95]), HI.out] at hrest
        have HT : Hid (r = idTail (l.drop 0)) := hrest
        clear hrest
        have e35 : (((byt l 0).toNat : Int) == 35) = false := u8_ne h35
        have e95 : (((byt l 0).toNat : Int) == 95) = false := u8_ne h95
        clear h35 h95
        have hnil : ¬ l = [] := by intro h; rw [h] at h0'; simp at h0'
        have hm1 : 0 < l.length := by omega
        by_cases hL : letterB (byt l 0) = true
        · have hr : r = (l.drop 0).all idByte := by rw [HT.out, idTail_pos (by rw [List.length_drop]; omega) (by rw [byt_drop]; exact hL)]
          have HR := Lib.hid hr; clear hr
          go_wp2_with (first | (go_at_call 167; refine (Letter_any _ _).mono ?_; rintro e w' ⟨rfl, rfl⟩) | (go_at_call 168; refine (Digit_any _ _).mono ?_; rintro e w' ⟨rfl, rfl⟩))
          clear hL
          go_loop [6] (fun i => ∃ k : Nat, 0 ≤ k ∧ k ≤ l.length ∧ i = .int .i64 k ∧ Hid (((l.drop 0).take (k - 0)).all idByte = true)) (fun i => l.length - (intOf i).toNat)
          case atStart => exact ⟨0, by omega, by omega, rfl, by show (List.take _ _).all idByte = true; simp⟩
          case round =>
            obtain ⟨k, hk0, hk, rfl, hh⟩ := hrel
            by_cases hlt : k < l.length
            · by_cases hb : idByte (byt l k) = true
              · have hnext : Hid (((l.drop 0).take (k + 1 - 0)).all idByte = true) := all_snoc_drop hk0 hlt hh.out hb
                rcases idByte_cases2 hb with h1 | ⟨h1, h2⟩ | ⟨h1, h2, h3⟩
                · go_wp2_with (first | (go_at_call 167; refine (Letter_any _ _).mono ?_; rintro e w' ⟨rfl, rfl⟩) | (go_at_call 168; refine (Digit_any _ _).mono ?_; rintro e w' ⟨rfl, rfl⟩))
                  go_round
                  case rel => exact ⟨k + 1, by omega, by omega, by go_num, hnext⟩
                  case measure => simp [intOf]; omega
                · go_wp2_with (first | (go_at_call 167; refine (Letter_any _ _).mono ?_; rintro e w' ⟨rfl, rfl⟩) | (go_at_call 168; refine (Digit_any _ _).mono ?_; rintro e w' ⟨rfl, rfl⟩))
                  go_round
                  case rel => exact ⟨k + 1, by omega, by omega, by go_num, hnext⟩
                  case measure => simp [intOf]; omega
                · go_wp2_with (first | (go_at_call 167; refine (Letter_any _ _).mono ?_; rintro e w' ⟨rfl, rfl⟩) | (go_at_call 168; refine (Digit_any _ _).mono ?_; rintro e w' ⟨rfl, rfl⟩))
                  go_round
                  case rel => exact ⟨k + 1, by omega, by omega, by go_num, hnext⟩
                  case measure => simp [intOf]; omega
              · have hbf : idByte (byt l k) = false := by simpa using hb
                have hrf : Hid ((l.drop 0).all idByte = false) := all_false_drop hk0 hlt hbf
                obtain ⟨h1, h2, h3⟩ := idByte_no2 hbf
                clear hb hbf
                go_wp2_with (first | (go_at_call 167; refine (Letter_any _ _).mono ?_; rintro e w' ⟨rfl, rfl⟩) | (go_at_call 168; refine (Digit_any _ _).mono ?_; rintro e w' ⟨rfl, rfl⟩))
                go_ret
                exact ⟨ret_bool (by rw [HR.out, hrf.out]), hBw⟩
            · have hall := hh.out
              rw [List.take_of_length_le (by rw [List.length_drop]; omega)] at hall
              have HA := Lib.hid hall; clear hall
              go_wp2_with fail
              go_ret
              exact ⟨ret_bool (by rw [HR.out, HA.out]), hBw⟩
        · have hLf : letterB (byt l 0) = false := by simpa using hL
          have hr : r = false := by rw [HT.out, idTail_neg (by rw [List.length_drop]; omega) (by rw [byt_drop]; exact hLf)]
          have HR := Lib.hid hr; clear hr hL
          go_wp2_with (first | (go_at_call 167; refine (Letter_any _ _).mono ?_; rintro e w' ⟨rfl, rfl⟩) | (go_at_call 168; refine (Digit_any _ _).mono ?_; rintro e w' ⟨rfl, rfl⟩))
          go_ret
          exact ⟨ret_bool HR.out.symm, hBw⟩
end
end Go.Proofs.YtoahmganodehkaaGreatDoor
