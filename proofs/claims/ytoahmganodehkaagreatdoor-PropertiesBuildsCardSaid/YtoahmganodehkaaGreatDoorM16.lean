/- Walks of the reference's properties: Leaf. -/
import Derived.Test.YtoahmganodehkaaGreatDoorM12
import Derived.Test.YtoahmganodehkaaGreatDoorM03
import Derived.Laws.OwnMore
import Derived.Test.YtoahmganodehkaaGreatDoorM14
import Derived.Test.YtoahmganodehkaaGreatDoorM08
namespace Go.Proofs.YtoahmganodehkaaGreatDoor
set_option linter.unusedSimpArgs false
set_option linter.unusedVariables false
section
open Go.RowKit

def leafC (d : Dat) : Bool := decide (chk d 1 = 0) && ((d.its.length : Int) == 0) && ((d.mem.length : Int) == 0)
theorem refLeaf_any {d : Dat} {vi vm : Value} {ok : Nat → Prop} {w : World} (hr : Rep w ok d vi vm) : Calls Tryz.prog 81 #[.agg #[.int .i64 d.k, .int .i64 d.n, .string (S d.s), vi, vm]] w fun e w' => e = .returned (.bool (leafC d)) ∧ Below w.heap.size w w' := by
  have HW := Lib.hid (fun w' (hb : Below w.heap.size w w') => refVal_any (hr.under hb))
  obtain ⟨p, cap, rfl, hil, -⟩ := hr.items
  obtain ⟨q, caq, rfl, hml, -⟩ := hr.members
  clear hr
  have HC := Lib.hid (show leafC d = (decide (chk d 1 = 0) && ((d.its.length : Int) == 0) && ((d.mem.length : Int) == 0)) from rfl)
  generalize leafC d = r at HC ⊢
  generalize decide (chk d 1 = 0) = c at HC HW
  go_enter Tryz.func81, Tryz.ntmps81
  go_upto_region 1 with fail
  have hS : CkS w.heap.size w d (.slice p d.its.length cap) (.slice q d.mem.length caq) (w.alloc (.cells #[.int .i64 d.k, .int .i64 d.n, .string (S d.s), .slice p d.its.length cap, .slice q d.mem.length caq] 26)) := CkS.new w d _ _
  generalize w.alloc (.cells #[.int .i64 d.k, .int .i64 d.n, .string (S d.s), .slice p d.its.length cap, .slice q d.mem.length caq] 26) = W at hS ⊢
  obtain ⟨c0, c1, c2, c3, c4, hlw⟩ := hS.cells
  have HS0 := Lib.hid hS
  clear hS
  go_wp2_with fail
  refine (HW.out _ HS0.out.2).mono ?_
  rintro e w1 ⟨rfl, hb⟩
  have hS := HS0.out.below hb
  clear hb HS0 c0 c1 c2 c3 c4 hlw
  obtain ⟨c0, c1, c2, c3, c4, hlw⟩ := hS.cells
  have HB := Lib.hid hS.2
  clear hS
  rcases three_ways c ((d.its.length : Int) == 0) ((d.mem.length : Int) == 0) with rfl | ⟨rfl, t2⟩ | ⟨rfl, t2, t3⟩ | ⟨rfl, t2, t3⟩
  all_goals
    go_wp2_with fail
    go_ret
    exact ⟨by rw [HC.out]; (try rw [t2]); (try rw [t3]); rfl, HB.out⟩
end
section
open Go.RowKit

/-- data whose blocks are old lies as well in the old world -/
theorem Rep.back {w W : World} {ok : Nat → Prop} (hb : Below w.heap.size w W) {d : Dat} {vi vm : Value} (h : Rep W (fun B => B < w.heap.size ∧ ok B) d vi vm) : Rep w ok d vi vm := by
  induction h with
  | mk p q cap caq B o B' o' vi vm ui um hl hp hc hr hq hd hs ihr ihs =>
    refine .mk p q cap caq B o B' o' vi vm ui um hl (fun h => ?_) (fun j h => ?_) ihr (fun h => ?_) (fun j h => ?_) ihs
    · obtain ⟨h1, h2, -, h4, h5⟩ := hp h; exact ⟨h1, h2, h4, h5⟩
    · obtain ⟨-, -, -, h4, -⟩ := hp (by omega)
      have k := fun o => hb.cell (p := ⟨B, o, none⟩) h4
      have c := hc j h
      exact ⟨(k _).symm.trans c.c0, (k _).symm.trans c.c1, (k _).symm.trans c.c2, (k _).symm.trans c.c3, (k _).symm.trans c.c4⟩
    · obtain ⟨h1, h2, -, h4, h5⟩ := hq h; exact ⟨h1, h2, h4, h5⟩
    · obtain ⟨-, -, -, h4, -⟩ := hq (by omega)
      have k := fun o => hb.cell (p := ⟨B', o, none⟩) h4
      have c := (hd j h).2
      exact ⟨(k _).symm.trans (hd j h).1, (k _).symm.trans c.c0, (k _).symm.trans c.c1, (k _).symm.trans c.c2, (k _).symm.trans c.c3, (k _).symm.trans c.c4⟩
theorem Rep.old {w W : World} {ok : Nat → Prop} (hb : Below w.heap.size w W) {d : Dat} {vi vm : Value} (h : Rep w ok d vi vm) : Rep W (fun B => B < w.heap.size ∧ ok B) d vi vm :=
  (h.mono fun _ h1 h2 => ⟨h1, h2⟩).under hb
/-- find, in a world that has grown -/
theorem refFind_old {x : Dat} {xi xm : Value} {ok : Nat → Prop} {w W : World} (hb0 : Below w.heap.size w W) (hr : Rep w ok x xi xm) (lab : List UInt8) :
    Calls Tryz.prog 79 #[xm, .string (S lab)] W fun e w' => FindE w ok e (findM lab x.mem) ∧ Below W.heap.size W w' := by
  obtain ⟨q, caq, rfl, hml, hme⟩ := (hr.old hb0).members
  refine (refFind_any hml hme lab).mono ?_
  rintro e w' ⟨he, hb⟩
  refine ⟨?_, hb⟩
  cases hf : findM lab x.mem with
  | none => rw [hf] at he; exact he
  | some y =>
    rw [hf] at he
    obtain ⟨yi, ym, rfl, hy⟩ := he
    exact ⟨yi, ym, rfl, hy.back hb0⟩
/-- the state of Get: the result's cell, the part in a box -/
def GetT (w : World) (K : Nat) (d : Dat) (vi vm : Value) (W : World) : Prop :=
  Blk W (w.heap.size + 1) #[.int .i64 0, .int .i64 0, .string ⟨#[]⟩, .slice none 0 0, .slice none 0 0] 26 ∧ Blk W K (boxD d vi vm) 26 ∧ w.heap.size + 1 < K ∧ Below w.heap.size w W
theorem GetT.below {w W W' : World} {K : Nat} {d : Dat} {vi vm : Value} (h : GetT w K d vi vm W) (hb : Below W.heap.size W W') : GetT w K d vi vm W' :=
  ⟨h.1.below hb, h.2.1.below hb, h.2.2.1, h.2.2.2.trans (hb.mono h.2.2.2.size)⟩
theorem GetT.put {w W : World} {K : Nat} {d : Dat} {vi vm : Value} (h : GetT w K d vi vm W) (x : Dat) (xi xm : Value) :
    GetT w K x xi xm (((((W.setCell ⟨K, 0, none⟩ (.int .i64 x.k)).setCell ⟨K, 1, none⟩ (.int .i64 x.n)).setCell ⟨K, 2, none⟩ (.string (S x.s))).setCell ⟨K, 3, none⟩ xi).setCell ⟨K, 4, none⟩ xm) := by
  obtain ⟨h1, h2, h3, h4⟩ := h
  have hk : w.heap.size ≤ K := by omega
  have hne : K ≠ w.heap.size + 1 := by omega
  refine ⟨((((h1.set_other 0 _ hne).set_other 1 _ hne).set_other 2 _ hne).set_other 3 _ hne).set_other 4 _ hne, ((((h2.set 0 _).set 1 _).set 2 _).set 3 _).set 4 _, h3, ?_⟩
  exact ((((h4.setCell hk _).setCell hk _).setCell hk _).setCell hk _).setCell hk _
theorem GetT.facts {w W : World} {K : Nat} {d : Dat} {vi vm : Value} (h : GetT w K d vi vm W) :
    (W.cell? ⟨K, 0, none⟩ = some (.int .i64 d.k) ∧ W.cell? ⟨K, 1, none⟩ = some (.int .i64 d.n) ∧ W.cell? ⟨K, 2, none⟩ = some (.string (S d.s)) ∧ W.cell? ⟨K, 3, none⟩ = some vi ∧ W.cell? ⟨K, 4, none⟩ = some vm) ∧
    (W.frozen? ⟨K, 0, none⟩ = false ∧ W.frozen? ⟨K, 1, none⟩ = false ∧ W.frozen? ⟨K, 2, none⟩ = false ∧ W.frozen? ⟨K, 3, none⟩ = false ∧ W.frozen? ⟨K, 4, none⟩ = false) ∧ K < W.heap.size :=
  ⟨⟨h.2.1.cell 0, h.2.1.cell 1, h.2.1.cell 2, h.2.1.cell 3, h.2.1.cell 4⟩, ⟨h.2.1.frozen 0, h.2.1.frozen 1, h.2.1.frozen 2, h.2.1.frozen 3, h.2.1.frozen 4⟩, h.2.1.lt⟩
set_option maxRecDepth 100000 in
set_option maxHeartbeats 4000000 in
theorem refGet_any {d x : Dat} {vi vm pv : Value} {L : List Stp} {ok ok' : Nat → Prop} {w : World} (hr : Rep w ok d vi vm) (hv : SlK w ok' pv L) (hL : L.length ≤ 1000000) (hc : chk d 1 = 0) (hg : getD d L = some x) :
    Calls Tryz.prog 42 #[.agg #[.int .i64 d.k, .int .i64 d.n, .string (S d.s), vi, vm], pv] w fun e w' => FindE w ok e (some x) ∧ Below w.heap.size w w' := by
  obtain ⟨p, cap, rfl, hst⟩ := hv.open
  have HST := Lib.hid hst
  have HREP := Lib.hid hr
  have HG := Lib.hid (show getD d (L.drop 0) = some x from hg)
  have HCK := Lib.hid (fun w' (hb : Below w.heap.size w w') => (refVal_any (hr.under hb)))
  simp only [hc, decide_true] at HCK
  obtain ⟨p0, cap0, rfl, -, -⟩ := hr.items
  obtain ⟨q0, caq0, rfl, -, -⟩ := hr.members
  clear hv hst hr hg hc
  go_enter Tryz.func42, Tryz.ntmps42
  go_upto_region 1 with fail
  have hS : GetS w d (.slice p0 d.its.length cap0) (.slice q0 d.mem.length caq0) ((w.alloc (.cells #[.int .i64 d.k, .int .i64 d.n, .string (S d.s), .slice p0 d.its.length cap0, .slice q0 d.mem.length caq0] 26)).alloc (.cells #[.int .i64 0, .int .i64 0, .string ⟨#[]⟩, .slice none 0 0, .slice none 0 0] 26)) := two_new w _ _ _ _
  generalize (w.alloc (.cells #[.int .i64 d.k, .int .i64 d.n, .string (S d.s), .slice p0 d.its.length cap0, .slice q0 d.mem.length caq0] 26)).alloc (.cells #[.int .i64 0, .int .i64 0, .string ⟨#[]⟩, .slice none 0 0, .slice none 0 0] 26) = W at hS ⊢
  obtain ⟨⟨c0, c1, c2, c3, c4⟩, -, hlw⟩ := hS.facts
  have HS := Lib.hid hS
  clear hS
  go_wp2_with fail
  refine (HCK.out _ HS.out.2.2).mono ?_
  rintro e w1 ⟨rfl, hb⟩
  have hS1 := HS.out.below hb
  obtain ⟨⟨c0, c1, c2, c3, c4⟩, -, hlw⟩ := hS1.facts
  have hT : GetT w w1.heap.size d (.slice p0 d.its.length cap0) (.slice q0 d.mem.length caq0) (w1.alloc (.cells #[.int .i64 d.k, .int .i64 d.n, .string (S d.s), .slice p0 d.its.length cap0, .slice q0 d.mem.length caq0] 26)) :=
    ⟨hS1.2.1.alloc _, Blk.new w1 _ _, hlw, hS1.2.2.alloc (Nat.le_trans hS1.2.2.size (Nat.le_refl _)) _⟩
  clear hb HS HCK hS1
  go_upto_region 4 with fail
  generalize w1.alloc (.cells #[.int .i64 d.k, .int .i64 d.n, .string (S d.s), .slice p0 d.its.length cap0, .slice q0 d.mem.length caq0] 26) = W2 at hT ⊢
  generalize w1.heap.size = K at hT hlw ⊢
  have HS1 := Lib.hid hT
  clear hT c0 c1 c2 c3 c4 hlw
  go_wp2_with fail
  go_loopw [7] (fun y wr => ∃ (i : Nat) (z : Dat) (zi zm : Value), y = .int .i64 (i : Int) ∧ i ≤ L.length ∧ Hid (GetT w K z zi zm wr) ∧ Hid (Rep w ok z zi zm) ∧ Hid (getD z (L.drop i) = some x)) (fun y _ => L.length - (intOf y).toNat)
  case atStart => exact ⟨0, d, _, _, rfl, Nat.zero_le _, HS1, HREP, HG⟩
  case round =>
    clear HS1 HREP HG
    obtain ⟨i, z, zi, zm, rfl, hi, HS, HREP, HG⟩ := hrel
    obtain ⟨p1, cap1, rfl, hzl, hit⟩ := HREP.out.items
    obtain ⟨q1, caq1, rfl, -, -⟩ := HREP.out.members
    by_cases hlt : i < L.length
    · obtain ⟨B, o, rfl, hcap, hB, -, s0, s1⟩ := HST.out i hlt
      obtain ⟨y, hy1, hy2⟩ := getD_step hlt HG.out
      have HY1 := Lib.hid hy1
      have HG2 := Lib.hid hy2
      have m0 := (HS.out.2.2.2.cell (p := ⟨B, o + i * 2, none⟩) hB).trans s0
      have m1 := (HS.out.2.2.2.cell (p := ⟨B, o + i * 2 + 1, none⟩) hB).trans s1
      have HIT := Lib.hid hit
      clear hy1 hy2 HG s0 s1 hit
      generalize L[i] = s at m0 m1 HY1
      obtain ⟨lab, idx⟩ := s
      simp only at m0 m1 HY1
      have hN : Blk (wr.alloc (.cells #[.string (S lab), .int .i64 idx] 44)) wr.heap.size #[.string (S lab), .int .i64 idx] 44 := Blk.new wr _ _
      have hS := HS.out.below ((Below.refl _ _).alloc (Nat.le_refl _) (.cells #[.string (S lab), .int .i64 idx] 44))
      clear HS
      go_upto_region 8 with fail
      generalize wr.alloc (.cells #[.string (S lab), .int .i64 idx] 44) = w5 at hN hS ⊢
      clear m0 m1
      obtain ⟨⟨c0, c1, c2, c3, c4⟩, ⟨f0, f1, f2, f3, f4⟩, hlw⟩ := hS.facts
      have n0 := hN.cell 0
      have n1 := hN.cell 1
      simp at n0 n1
      have hNl := hN.lt
      have HS5 := Lib.hid hS
      clear hS hN
      by_cases hlab : lab = []
      · obtain ⟨j, hj, hji, hjy⟩ : ∃ j : Nat, idx = (j : Int) ∧ ∃ h : j < z.its.length, z.its[j] = y := by
          have h := HY1.out
          unfold stpD at h
          simp only [hlab, if_true] at h
          by_cases h2 : 0 ≤ idx
          · rw [if_pos h2] at h
            obtain ⟨hj, he⟩ := List.getElem?_eq_some_iff.1 h
            exact ⟨idx.toNat, by omega, hj, he⟩
          · rw [if_neg h2] at h; cases h
        subst hj
        obtain ⟨B5, o5, yi, ym, rfl, hcap5, hB5, hc5, hy5⟩ := HIT.out j hji
        rw [hjy] at hc5 hy5
        obtain ⟨p2, cap2, rfl, -, -⟩ := hy5.items
        obtain ⟨q2, caq2, rfl, -, -⟩ := hy5.members
        obtain ⟨k0, k1, k2, k3, k4⟩ := hc5.below HS5.out.2.2.2 hB5
        have HR7 := Lib.hid hy5
        have HS8 := Lib.hid (HS5.out.put y (.slice p2 y.its.length cap2) (.slice q2 y.mem.length caq2))
        have t1 : (lab == []) = true := by rw [hlab]; rfl
        have t2 : (lab != []) = false := by rw [hlab]; rfl
        unfold maxLen at hzl
        have t3 : ¬ ((z.its.length : Int) ≤ (j : Int)) := by omega
        have t4 : decide ((z.its.length : Int) ≤ (j : Int)) = false := decide_eq_false t3
        have t5 : ¬ ((j : Int) < 0) := by omega
        have t6 : decide ((j : Int) < 0) = false := decide_eq_false t5
        have t7 : decide (z.its.length ≤ j) = false := decide_eq_false (by omega)
        clear hlab hjy hc5 hy5
        go_wp2_with fail
        go_roundw
        case rel => exact ⟨i + 1, y, _, _, by go_num, hlt, HS8, HR7, HG2⟩
        case measure => simp [intOf]; omega
      · have hf : findM lab z.mem = some y := by
          have h := HY1.out
          unfold stpD at h
          simp only [hlab, if_false] at h
          exact h
        have HFI := Lib.hid (refFind_old HS5.out.2.2.2 HREP.out lab)
        rw [hf] at HFI
        have t1 : (lab == []) = false := by simpa using hlab
        have t2 : (lab != []) = true := by simpa using hlab
        clear hlab hf
        go_wp2_with fail
        refine HFI.out.mono ?_
        rintro e w6 ⟨⟨yi, ym, rfl, hrep6⟩, hb⟩
        have hS6 := HS5.out.below hb
        obtain ⟨p2, cap2, rfl, -, -⟩ := hrep6.items
        obtain ⟨q2, caq2, rfl, -, -⟩ := hrep6.members
        have hN : Blk (w6.alloc (.cells #[.int .i64 y.k, .int .i64 y.n, .string (S y.s), .slice p2 y.its.length cap2, .slice q2 y.mem.length caq2] 26)) w6.heap.size #[.int .i64 y.k, .int .i64 y.n, .string (S y.s), .slice p2 y.its.length cap2, .slice q2 y.mem.length caq2] 26 := Blk.new w6 _ _
        have hS7 := hS6.below ((Below.refl _ _).alloc (Nat.le_refl _) (.cells #[.int .i64 y.k, .int .i64 y.n, .string (S y.s), .slice p2 y.its.length cap2, .slice q2 y.mem.length caq2] 26))
        have HR7 := Lib.hid hrep6
        clear c0 c1 c2 c3 c4 f0 f1 f2 f3 f4 n0 n1 hNl hrep6 HREP HS5 hS6 hb hlw HFI
        simp only [dv]
        go_upto_region 10 with fail
        generalize w6.alloc (.cells #[.int .i64 y.k, .int .i64 y.n, .string (S y.s), .slice p2 y.its.length cap2, .slice q2 y.mem.length caq2] 26) = w7 at hN hS7 ⊢
        have HS8 := Lib.hid (hS7.put y (.slice p2 y.its.length cap2) (.slice q2 y.mem.length caq2))
        obtain ⟨⟨c0, c1, c2, c3, c4⟩, ⟨f0, f1, f2, f3, f4⟩, hlw⟩ := hS7.facts
        have n0 := hN.cell 0
        have n1 := hN.cell 1
        have n2 := hN.cell 2
        have n3 := hN.cell 3
        have n4 := hN.cell 4
        simp at n0 n1 n2 n3 n4
        have hNl := hN.lt
        clear hN hS7
        go_wp2_with fail
        go_roundw
        case rel => exact ⟨i + 1, y, _, _, by go_num, hlt, HS8, HR7, HG2⟩
        case measure => simp [intOf]; omega
    · obtain rfl := getD_over (by omega) HG.out
      obtain ⟨⟨c0, c1, c2, c3, c4⟩, -, hlw⟩ := HS.out.facts
      have HB := Lib.hid HS.out.2.2.2
      have b8 := HS.out.1
      have z0 := b8.cell 0
      have z1 := b8.cell 1
      have z2 := b8.cell 2
      have z3 := b8.cell 3
      have z4 := b8.cell 4
      have y0 := b8.frozen 0
      have y1 := b8.frozen 1
      have y2 := b8.frozen 2
      have y3 := b8.frozen 3
      have y4 := b8.frozen 4
      simp at z0 z1 z2 z3 z4
      have hlw2 := b8.lt
      clear b8
      have hK := HS.out.2.2.1
      have hne : ¬ (w.heap.size + 1 = K) := by omega
      have hne' : ¬ (K = w.heap.size + 1) := by omega
      clear hK
      go_wp2_with fail
      refine bodyPost_ret (v := .tuple #[dv z (.slice p1 z.its.length cap1) (.slice q1 z.mem.length caq1), .bool true]) (by simp [results, Tryz.results42, go_sem, dv, show S [] = ⟨#[]⟩ from rfl, z0, z1, z2, z3, z4, y0, y1, y2, y3, y4, hlw2]) rfl ⟨⟨_, _, rfl, HREP.out⟩, ?_⟩
      exact ((((HB.out.setCell (Nat.le_add_right _ 1) _).setCell (Nat.le_add_right _ 1) _).setCell (Nat.le_add_right _ 1) _).setCell (Nat.le_add_right _ 1) _).setCell (Nat.le_add_right _ 1) _
end
section
open Go.RowKit

theorem new_srcN {size : Nat} (x : World) (cs : Array Value) (t : TypeId) {vs : List Value} {m : Nat} (hv : cs.toList = vs := by rfl) (hl : vs.length = m * size := by rfl) (ho : ∀ u ∈ vs, u.oneCell' = true := by simp [Value.oneCell']) : Src (x.alloc (.cells cs t)) size (some ⟨x.heap.size, 0, none⟩) m vs :=
  ⟨hl, by simp, fun a ha j u hu => by injection ha with ha; subst ha; exact cells_new_at rfl hv j u hu, ho⟩
theorem kept_srcN {w x : World} {B size : Nat} {cs : Array Value} {t : TypeId} (hB : Blk w B cs t) {row : Option Nat} (hg : w.grownBy x row) (hne : some B ≠ row) {vs : List Value} {m : Nat} (hv : cs.toList = vs := by rfl) (hl : vs.length = m * size := by rfl) (ho : ∀ u ∈ vs, u.oneCell' = true := by simp [Value.oneCell']) : Src x size (some ⟨B, 0, none⟩) m vs := by
  refine ⟨hl, by simp, fun a ha j u hu => ?_, ho⟩
  injection ha with ha; subst ha
  rw [Lib.add_plain, Nat.zero_add, (hB.kept hg hne).cell j]
  subst hv
  simpa using hu
theorem kept_srcD2 {w x : World} {B size : Nat} {cs : Array Value} {t : TypeId} (hB : Blk w B cs t) {row : Option Nat} (hg : w.drew.grownBy x row) (hne : some B ≠ row) {vs : List Value} {m : Nat} (hv : cs.toList = vs := by rfl) (hl : vs.length = m * size := by rfl) (ho : ∀ u ∈ vs, u.oneCell' = true := by simp [Value.oneCell']) : Src x size (some ⟨B, 0, none⟩) m vs :=
  kept_srcN (w := w.drew) hB hg hne hv hl ho
theorem own_secondN {size : Nat} (w : World) (o : Obj) {t : TypeId} : ((w.alloc o).alloc (.cells #[] t)).ownsRow w.heap.size t size (.slice (some ⟨w.heap.size + 1, 0, none⟩) 0 0) 0 [] := by
  have h := own_less (b' := w.heap.size) (own_empty (w.alloc o) (t := t) (size := size)) (by simp)
  simpa using h
theorem blk_twoN (w : World) (o : Obj) (cs : Array Value) {t : TypeId} : Blk ((w.alloc o).alloc (.cells cs t)) (w.heap.size + 1) cs t := by
  have h := Blk.new (w.alloc o) cs t
  simpa using h
theorem path_snoc {W : World} {b : Nat} {P : List Stp} {s : Stp} {vp : Option Addr} {vc : Nat} (h : W.ownsRow b 44 2 (.slice vp (P.length + 1) vc) (P.length + 1) (flatC P ++ [.string (S s.lab), .int .i64 s.idx])) : SlK W (fun _ => True) (.slice vp (P.length + 1) vc) (P ++ [s]) :=
  own_SlK (L := P ++ [s]) (by rw [flatC_snoc', List.length_append]; exact h) fun _ _ _ _ => trivial
/-- paths that the call made, as a source -/
theorem paths_src {W : World} {b : Nat} {ok : Nat → Prop} {p : Option Addr} {c : Nat} {T : List (List Stp × Value)} (h : W.ownsRow b 40 1 (.slice p T.length c) T.length (T.map fun t => t.2)) (ht : ∀ t ∈ T, SlK W ok t.2 t.1) : Src W 1 p T.length (T.map fun t => t.2) := by
  have hone : ∀ u ∈ T.map (fun t => t.2), u.oneCell' = true := by
    intro u hu
    obtain ⟨t, ht', rfl⟩ := List.mem_map.1 hu
    obtain ⟨p, c, e⟩ := slk_form (ht t ht')
    rw [e]; rfl
  rcases own_head h with ⟨e, h0⟩ | ⟨g, cap, e, hb, hc, hg, ek⟩
  · injection e with e1 _ _
    subst e1
    exact ⟨by simp, fun _ => h0, by simp, hone⟩
  · injection e with e1 _ e3
    subst e1; subst e3
    refine ⟨by simp, by simp, fun a ha j u hu => ?_, hone⟩
    injection ha with ha; subst ha
    exact h.cells (g := g) rfl j u hu
/-- the state: data in its box, the paths so far in a row of the call's own -/
structure LeS (w : World) (d : Dat) (vi vm u : Value) (T : List (List Stp × Value)) (W : World) : Prop where
  box : CkS w.heap.size w d vi vm W
  own : W.ownsRow w.heap.size 40 1 u T.length (T.map fun t => t.2)
  paths : ∀ t ∈ T, SlK W (fun B => w.heap.size ≤ B ∧ some B ≠ u.ownBlock) t.2 t.1
theorem LeS.bel {w : World} {d : Dat} {vi vm u : Value} {T : List (List Stp × Value)} {W : World} (h : LeS w d vi vm u T W) : Below w.heap.size w W := h.box.2
theorem LeS.start {w : World} {d : Dat} {vi vm : Value} {W : World} (h : CkS w.heap.size w d vi vm W) : LeS w d vi vm (.slice none 0 0) [] W := ⟨h, World.ownsRow_nil _ _ _ _, by simp⟩
theorem blk_own2 {W : World} {B b s n : Nat} {cs : Array Value} {t e : TypeId} {v : Value} {xs : List Value} (h : Blk W B cs t) (ho : W.ownsRow b e s v n xs) (hne : t ≠ e) : some B ≠ v.ownBlock := by
  intro e'
  rcases ho.2 with ⟨rfl, -⟩ | ⟨g, cap, cur, rfl, hb, hg, -⟩
  · simp [Value.ownBlock] at e'
  · simp [Value.ownBlock] at e'
    subst e'
    unfold Blk at h
    rw [hg] at h
    injection h with h
    injection h with _ h2
    exact hne h2.symm
theorem LeS.push {w : World} {d : Dat} {vi vm u u' v3 : Value} {T T3 : List (List Stp × Value)} {wr x3 x9 : World} (h : LeS w d vi vm u T wr) (hb : Below wr.heap.size wr x3)
    (h3 : x3.ownsRow wr.heap.size 40 1 v3 T3.length (T3.map fun t => t.2)) (hs3 : ∀ t ∈ T3, SlK x3 (fun B => wr.heap.size ≤ B) t.2 t.1)
    (h9 : x9.ownsRow w.heap.size 40 1 u' (T ++ T3).length ((T ++ T3).map fun t => t.2)) (hg : x3.grownBy x9 u.ownBlock) (hat : u'.ownBlock = u.ownBlock ∨ u'.ownBlock = some x3.heap.size) : LeS w d vi vm u' (T ++ T3) x9 := by
  have ho3 := own_under h.own hb
  have hbx := h.box.below hb
  have hlt : ∀ B, u.ownBlock = some B → B < wr.heap.size := fun B hB => (h.own.lt B hB).2
  have hne : ∀ B, B < x3.heap.size → some B ≠ u.ownBlock → some B ≠ u'.ownBlock := by
    intro B hB h1
    rcases hat with e | e
    · rw [e]; exact h1
    · rw [e]; intro e'; injection e' with e'; omega
  refine ⟨⟨hbx.1.kept hg (blk_own2 hbx.1 ho3 (by decide)), below_own hbx.2 ho3 hg (Nat.le_refl _) hbx.2.size⟩, h9, fun t ht => ?_⟩
  rcases List.mem_append.1 ht with ht | ht
  · exact ((h.paths t ht).under hb).kept hg.size fun B hB hk => ⟨⟨hk.1, hne B hB hk.2⟩, fun o => grown_cell hg hB hk.2 o⟩
  · refine (hs3 t ht).kept hg.size fun B hB hk => ?_
    have h1 : some B ≠ u.ownBlock := fun e => by have := hlt B e.symm; omega
    exact ⟨⟨Nat.le_trans h.bel.size hk, hne B hB h1⟩, fun o => grown_cell hg hB h1 o⟩
/-- at a leaf -/
theorem leaves_one {w W w4 : World} {d : Dat} {P : List Stp} {vp : Option Addr} {vc : Nat} (hl : lvD d = [[]]) (hb : Below w.heap.size w W) (ho : w4.ownsRow W.heap.size 44 2 (.slice vp P.length vc) P.length (flatC P)) (hb4 : Below W.heap.size W w4) :
    LeavP w ((lvD d).map (P ++ ·)) (.returned (.slice (some ⟨w4.heap.size, 0, none⟩) 1 1)) (w4.alloc (.cells #[.slice vp P.length vc] 40)) := by
  have hw4 : Below w.heap.size w w4 := hb.trans (hb4.mono hb.size)
  refine ⟨_, [(P, .slice vp P.length vc)], rfl, ?_, by rw [hl]; simp, fun t ht => ?_, hw4.alloc hw4.size _⟩
  · exact World.ownsRow_lit w4 #[.slice vp P.length vc] 1 hw4.size (by decide) rfl
  · obtain rfl := List.mem_singleton.1 ht
    exact (own_SlK ho fun B h1 _ _ => Nat.le_trans hb.size h1).under ((Below.refl _ _).alloc (Nat.le_refl _) _)
theorem leaf_tests {d : Dat} (h : ¬ (d.its = [] ∧ d.mem = [])) : (((d.its.length : Int) == 0) = false ∧ (d.its.length == 0) = false) ∨ (((d.its.length : Int) == 0) = true ∧ (d.its.length == 0) = true ∧ ((d.mem.length : Int) == 0) = false ∧ (d.mem.length == 0) = false) := by
  by_cases h1 : d.its = []
  · right
    have h2 : d.mem ≠ [] := fun e => h ⟨h1, e⟩
    have h3 := List.length_pos_iff.2 h2
    rw [h1]
    refine ⟨rfl, rfl, ?_, ?_⟩ <;> rw [beq_eq_false_iff_ne] <;> omega
  · left
    have h3 := List.length_pos_iff.2 h1
    refine ⟨?_, ?_⟩ <;> rw [beq_eq_false_iff_ne] <;> omega
end
section
open Go.RowKit

set_option maxRecDepth 100000 in
set_option maxHeartbeats 8000000 in
theorem refLeaves_any (m : Nat) : ∀ (d : Dat), SizeOf.sizeOf d < m → ∀ (vi vm pv : Value) (P : List Stp) (ok ok' : Nat → Prop) (w : World), Rep w ok d vi vm → SlK w ok' pv P → limD d = true → (lvD d).length ≤ 1000000 → chk d (P.length + 1) = 0 →
    Calls Tryz.prog 78 #[.agg #[.int .i64 d.k, .int .i64 d.n, .string (S d.s), vi, vm], pv] w (LeavP w ((lvD d).map (P ++ ·))) := by
  induction m with
  | zero => intro d h; exact absurd h (Nat.not_lt_zero _)
  | succ m ih =>
    intro d hd vi vm pv P ok ok' w hr hp hlim hlv hck
    obtain ⟨p, cap, rfl, -, hit⟩ := hr.items
    obtain ⟨q, caq, rfl, -, hme⟩ := hr.members
    obtain ⟨hl1, hl2, -⟩ := lim_len hlim
    obtain ⟨hlv2, -, hc1, hc2⟩ := chk_zero.1 hck
    have hPl : P.length ≤ 16 := by omega
    obtain ⟨pp, pc, rfl⟩ := slk_form hp
    obtain ⟨i0, hi, hz0, hz1, hz2⟩ := info_parts infoStp
    have HP := Lib.hid hp
    have hS : CkS w.heap.size w d (.slice p d.its.length cap) (.slice q d.mem.length caq) (w.alloc (.cells #[.int .i64 d.k, .int .i64 d.n, .string (S d.s), .slice p d.its.length cap, .slice q d.mem.length caq] 26)) := CkS.new w d _ _
    by_cases hnone : d.its = [] ∧ d.mem = []
    · have HLV := Lib.hid (show lvD d = [[]] by rw [lvD_eq, hnone.1, hnone.2]; rfl)
      have t1 : ((d.its.length : Int) == 0) = true := by rw [hnone.1]; rfl
      have t2 : ((d.mem.length : Int) == 0) = true := by rw [hnone.2]; rfl
      have t3 : (d.its.length == 0) = true := by rw [hnone.1]; rfl
      have t4 : (d.mem.length == 0) = true := by rw [hnone.2]; rfl
      clear hnone hit hme hr hp hlim hlv hck hc1 hc2 hlv2 ih hd
      go_enter Tryz.func78, Tryz.ntmps78
      go_upto_region 1 with fail
      generalize w.alloc (.cells #[.int .i64 d.k, .int .i64 d.n, .string (S d.s), .slice p d.its.length cap, .slice q d.mem.length caq] 26) = W at hS ⊢
      obtain ⟨c0, c1, c2, c3, c4, hlw⟩ := hS.cells
      have HS := Lib.hid hS
      clear hS
      have HSRC := Lib.hid (HP.out.under (HS.out.2.alloc HS.out.2.size (.cells #[] 44))).sourc
      have HBD := Lib.hid (And.intro (show 0 + P.length ≤ maxLen by unfold maxLen; omega) (And.intro (show (0 + P.length) * 24 ≤ 140737488355328 by omega) (show W.heap.size ≤ (W.alloc (.cells #[] 44)).heap.size by simp)))
      go_wp2_with (at_builtin; refine wpList_app _ rfl _ _ _ rfl W.heap.size 44 i0 (.agg #[.string ⟨#[]⟩, .int .i64 0]) 2 24 Tryz.underlying40 hi hz0 hz1 hz2 rfl (by decide) (.slice (some ⟨W.heap.size, 0, none⟩) 0 0) 0 [] rfl (own_empty W) pp P.length pc (flatC P) rfl HSRC.out HBD.out.1 HBD.out.2.1 HBD.out.2.2 ?_; intro v4 w4 hown4 hgrow4 hat4; simp only [Nat.zero_add, List.nil_append] at hown4; obtain ⟨v4p, v4c, rfl⟩ := own_form5 hown4; have HO4 := Lib.hid hown4; have HB4 := Lib.hid (below_own ((Below.refl W.heap.size W).alloc (Nat.le_refl _) (.cells #[] 44)) (own_empty W (size := 2)) hgrow4 (Nat.le_refl _) HBD.out.2.2); clear hown4 hgrow4 hat4)
      go_ret
      exact leaves_one HLV.out HS.out.2 HO4.out HB4.out
    · have hlvE : lvD d = lvI d.its 0 ++ lvM d.mem := by
        rw [lvD_eq, if_neg]
        intro e
        simp at e
        exact hnone e
      rcases leaf_tests hnone with ⟨t1, t3⟩ | ⟨t1, t3, t2, t4⟩
      all_goals
        have HLV := Lib.hid hlvE
        have HLN := Lib.hid (show (lvI d.its 0).length + (lvM d.mem).length ≤ 1000000 by rw [hlvE, List.length_append] at hlv; exact hlv)
        have HIT := Lib.hid hit
        have HME := Lib.hid hme
        have HC1 := Lib.hid hc1
        have HC2 := Lib.hid hc2
        have HLIM := Lib.hid hlim
        have IH := Lib.hid ih
        have HD := Lib.hid hd
        clear hnone hit hme hr hp hlim hlv hck hc1 hc2 hlv2 ih hd hlvE
        go_enter Tryz.func78, Tryz.ntmps78
        go_upto_region 1 with fail
        generalize w.alloc (.cells #[.int .i64 d.k, .int .i64 d.n, .string (S d.s), .slice p d.its.length cap, .slice q d.mem.length caq] 26) = W at hS ⊢
        obtain ⟨c0, c1, c2, c3, c4, hlw⟩ := hS.cells
        have HS0 := Lib.hid (LeS.start hS)
        clear hS
        go_wp2_with fail
        clear c0 c1 c2 c3 c4 hlw t1 t3
        try clear t2 t4
        go_loopw [5, 6] (fun x y wr => ∃ (i : Nat) (up : Option Addr) (uc : Nat) (T : List (List Stp × Value)), x = .slice up T.length uc ∧ y = .int .i64 (i : Int) ∧ i ≤ d.its.length ∧ Hid (LeS w d (.slice p d.its.length cap) (.slice q d.mem.length caq) (.slice up T.length uc) T wr) ∧ Hid (T.map (fun t => t.1) = (lvI (d.its.take i) 0).map (P ++ ·))) (fun _ y _ => d.its.length - (intOf y).toNat)
        case atStart => exact ⟨0, none, 0, [], rfl, rfl, Nat.zero_le _, HS0, Lib.hid (by simp [lvI])⟩
        case round =>
          clear HS0
          obtain ⟨i, up, uc, T, rfl, rfl, hi', HS, HU⟩ := hrel
          by_cases hlt : i < d.its.length
          · obtain ⟨B, o, xi, xm, rfl, hcap, hB, hc, hx⟩ := HIT.out i hlt
            obtain ⟨p1, cap1, rfl, -, -⟩ := hx.items
            obtain ⟨q1, caq1, rfl, -, -⟩ := hx.members
            obtain ⟨k0, k1, k2, k3, k4⟩ := hc.below HS.out.bel hB
            have HX := Lib.hid (hx.under HS.out.bel)
            have HL := Lib.hid (show lvI (d.its.take (i + 1)) 0 = lvI (d.its.take i) 0 ++ (lvD d.its[i]).map (fun p => ⟨[], (i : Int)⟩ :: p) by have h := lvI_at d.its 0 i hlt; rwa [Nat.zero_add] at h)
            have HSZ := Lib.hid (Nat.lt_of_lt_of_le (dat_it (List.getElem_mem hlt)) (Nat.le_of_lt_succ HD.out))
            have HCX := Lib.hid (HC1.out _ (List.getElem_mem hlt))
            have HLX := Lib.hid (kid_lim HLIM.out (List.mem_append_left _ (List.getElem_mem hlt)))
            have hUl : T.length + (lvD d.its[i]).length ≤ 1000000 := by
              have h1 : T.length = (lvI (d.its.take i) 0).length := by
                have := congrArg List.length HU.out
                simpa using this
              have h2 := lvI_take d.its (i + 1)
              rw [HL.out, List.length_append, List.length_map] at h2
              have := HLN.out
              omega
            have HKO := Lib.hid (fun w' (hb : Below w.heap.size w w') => (let c := hc.below hb hB; And.intro c.c0 (And.intro c.c1 (And.intro c.c2 (And.intro c.c3 c.c4)))))
            clear hc hx
            generalize d.its[i] = x at k0 k1 k2 k3 k4 HX HL HSZ HCX HLX hUl HKO
            obtain ⟨c0, c1, c2, c3, c4, hlw⟩ := HS.out.box.cells
            have HKE := Lib.hid (fun w' (hb : Below wr.heap.size wr w') => And.intro ((hb.cell (p := ⟨w.heap.size, 3, none⟩) hlw).trans c3) (And.intro ((hb.cell (p := ⟨B, o + i * 5, none⟩) (Nat.lt_of_lt_of_le hB HS.out.bel.size)).trans k0) (And.intro ((hb.cell (p := ⟨B, o + i * 5 + 1, none⟩) (Nat.lt_of_lt_of_le hB HS.out.bel.size)).trans k1) (And.intro ((hb.cell (p := ⟨B, o + i * 5 + 2, none⟩) (Nat.lt_of_lt_of_le hB HS.out.bel.size)).trans k2) (And.intro ((hb.cell (p := ⟨B, o + i * 5 + 3, none⟩) (Nat.lt_of_lt_of_le hB HS.out.bel.size)).trans k3) ((hb.cell (p := ⟨B, o + i * 5 + 4, none⟩) (Nat.lt_of_lt_of_le hB HS.out.bel.size)).trans k4))))))
            have HSRC := Lib.hid (fun w' (hb : Below wr.heap.size wr w') => (HP.out.under (HS.out.bel.trans (hb.mono HS.out.bel.size))).sourc)
            have HBD := Lib.hid (And.intro (show 0 + P.length ≤ maxLen by unfold maxLen; omega) (And.intro (show (0 + P.length) * 24 ≤ 140737488355328 by omega) (And.intro (show P.length + 1 ≤ maxLen by unfold maxLen; omega) (And.intro (show (P.length + 1) * 24 ≤ 140737488355328 by omega) trivial))))
            have HB0 := Lib.hid (below_drew (Below.refl wr.heap.size wr))
            obtain ⟨j0, hj, hy0, hy1, hy2⟩ := info_parts infoStps
            go_upto_region 7 with fail
            clear c0 c1 c2 c3 c4 k0 k1 k2 k3 k4 hlw
            go_region_held3 (fun w' => w'.cell? ⟨w.heap.size, 3, none⟩ = some (.slice (some ⟨B, o, none⟩) d.its.length cap) ∧ w'.cell? ⟨B, o + i * 5, none⟩ = some (.int .i64 x.k) ∧ w'.cell? ⟨B, o + i * 5 + 1, none⟩ = some (.int .i64 x.n) ∧ w'.cell? ⟨B, o + i * 5 + 2, none⟩ = some (.string (S x.s)) ∧ w'.cell? ⟨B, o + i * 5 + 3, none⟩ = some (.slice p1 x.its.length cap1) ∧ w'.cell? ⟨B, o + i * 5 + 4, none⟩ = some (.slice q1 x.mem.length caq1))
              (first
                | with_reducible exact HKE.out _ HB0.out
                | with_reducible exact HKE.out _ (below_drew ((Below.refl wr.heap.size wr).alloc (by first | exact Nat.le_refl _ | (simp; done) | (simp; omega)) _))
                | with_reducible exact HKE.out _ ((Below.refl wr.heap.size wr).alloc (by first | exact Nat.le_refl _ | (simp; done) | (simp; omega)) _)
                | with_reducible exact HKE.out _ (below_drew (((Below.refl wr.heap.size wr).alloc (by first | exact Nat.le_refl _ | (simp; done) | (simp; omega)) _).alloc (by first | exact Nat.le_refl _ | (simp; done) | (simp; omega)) _))
                | with_reducible exact HKE.out _ (((Below.refl wr.heap.size wr).alloc (by first | exact Nat.le_refl _ | (simp; done) | (simp; omega)) _).alloc (by first | exact Nat.le_refl _ | (simp; done) | (simp; omega)) _)
                | with_reducible exact HKE.out _ HB1.out
                | with_reducible exact HKE.out _ (HB1.out.alloc HB1.out.size _)
                | with_reducible exact HKE.out _ HB2.out
                | with_reducible exact HKE.out _ HB3.out
                | with_reducible exact HK9.out
                | go_keep)
              (first
                | (refine step_app _ (by rfl) _ _ _ (by rfl) wr.heap.size 44 i0 (.agg #[.string ⟨#[]⟩, .int .i64 0]) 2 24 Tryz.underlying40 hi hz0 hz1 hz2 rfl (by decide) (.slice (some ⟨wr.heap.size, 0, none⟩) 0 0) 0 [] (by rfl) (own_empty wr (size := 2)) pp P.length pc (flatC P) (by rfl) (HSRC.out _ (below_drew ((Below.refl wr.heap.size wr).alloc (by first | exact Nat.le_refl _ | (simp; done) | (simp; omega)) _))) HBD.out.1 HBD.out.2.1 (below_drew ((Below.refl wr.heap.size wr).alloc (by first | exact Nat.le_refl _ | (simp; done) | (simp; omega)) _)).size ?_; intro v1 x1 hown1 hgrow1 hat1; simp only [Nat.zero_add, List.nil_append] at hown1; obtain ⟨v1p, v1c, rfl⟩ := own_form5 hown1; have HB1 := Lib.hid (below_own (below_drew ((Below.refl wr.heap.size wr).alloc (by first | exact Nat.le_refl _ | (simp; done) | (simp; omega)) _)) (own_empty wr (size := 2)) hgrow1 (Nat.le_refl _) (below_drew ((Below.refl wr.heap.size wr).alloc (by first | exact Nat.le_refl _ | (simp; done) | (simp; omega)) _)).size); have HO1 := Lib.hid hown1; clear hown1 hgrow1 hat1)
                | (refine step_app _ (by rfl) _ _ _ (by rfl) wr.heap.size 44 i0 (.agg #[.string ⟨#[]⟩, .int .i64 0]) 2 24 Tryz.underlying40 hi hz0 hz1 hz2 rfl (by decide) (.slice (some ⟨wr.heap.size, 0, none⟩) 0 0) 0 [] (by rfl) ((own_empty wr (size := 2)).alloc _) pp P.length pc (flatC P) (by rfl) (HSRC.out _ (below_drew (((Below.refl wr.heap.size wr).alloc (by first | exact Nat.le_refl _ | (simp; done) | (simp; omega)) _).alloc (by first | exact Nat.le_refl _ | (simp; done) | (simp; omega)) _))) HBD.out.1 HBD.out.2.1 (below_drew (((Below.refl wr.heap.size wr).alloc (by first | exact Nat.le_refl _ | (simp; done) | (simp; omega)) _).alloc (by first | exact Nat.le_refl _ | (simp; done) | (simp; omega)) _)).size ?_; intro v1 x1 hown1 hgrow1 hat1; simp only [Nat.zero_add, List.nil_append] at hown1; obtain ⟨v1p, v1c, rfl⟩ := own_form5 hown1; have HB1 := Lib.hid (below_own (below_drew (((Below.refl wr.heap.size wr).alloc (by first | exact Nat.le_refl _ | (simp; done) | (simp; omega)) _).alloc (by first | exact Nat.le_refl _ | (simp; done) | (simp; omega)) _)) ((own_empty wr (size := 2)).alloc _) hgrow1 (Nat.le_refl _) (below_drew (((Below.refl wr.heap.size wr).alloc (by first | exact Nat.le_refl _ | (simp; done) | (simp; omega)) _).alloc (by first | exact Nat.le_refl _ | (simp; done) | (simp; omega)) _)).size); have HO1 := Lib.hid hown1; have HNS : Hid (Src x1 2 (some ⟨wr.heap.size + 1, 0, none⟩) 1 [.string ⟨#[]⟩, .int .i64 (i : Int)]) := Lib.hid (kept_srcD2 (blk_twoN wr _ _) hgrow1 (by first | (simp [Value.ownBlock]; done) | (simp [Value.ownBlock]; omega))); clear hown1 hgrow1 hat1)
                | (refine step_app _ (by rfl) _ _ _ (by rfl) wr.heap.size 44 i0 (.agg #[.string ⟨#[]⟩, .int .i64 0]) 2 24 Tryz.underlying40 hi hz0 hz1 hz2 rfl (by decide) (.slice (some ⟨wr.heap.size + 1, 0, none⟩) 0 0) 0 [] (by rfl) (own_secondN wr _ (size := 2)) pp P.length pc (flatC P) (by rfl) (HSRC.out _ (below_drew (((Below.refl wr.heap.size wr).alloc (by first | exact Nat.le_refl _ | (simp; done) | (simp; omega)) _).alloc (by first | exact Nat.le_refl _ | (simp; done) | (simp; omega)) _))) HBD.out.1 HBD.out.2.1 (below_drew (((Below.refl wr.heap.size wr).alloc (by first | exact Nat.le_refl _ | (simp; done) | (simp; omega)) _).alloc (by first | exact Nat.le_refl _ | (simp; done) | (simp; omega)) _)).size ?_; intro v1 x1 hown1 hgrow1 hat1; simp only [Nat.zero_add, List.nil_append] at hown1; obtain ⟨v1p, v1c, rfl⟩ := own_form5 hown1; have HB1 := Lib.hid (below_own (below_drew (((Below.refl wr.heap.size wr).alloc (by first | exact Nat.le_refl _ | (simp; done) | (simp; omega)) _).alloc (by first | exact Nat.le_refl _ | (simp; done) | (simp; omega)) _)) (own_secondN wr _ (size := 2)) hgrow1 (Nat.le_refl _) (below_drew (((Below.refl wr.heap.size wr).alloc (by first | exact Nat.le_refl _ | (simp; done) | (simp; omega)) _).alloc (by first | exact Nat.le_refl _ | (simp; done) | (simp; omega)) _)).size); have HO1 := Lib.hid hown1; have HNS : Hid (Src x1 2 (some ⟨wr.heap.size, 0, none⟩) 1 [.string ⟨#[]⟩, .int .i64 (i : Int)]) := Lib.hid (kept_srcD2 ((Blk.new wr _ _).alloc _) hgrow1 (by first | (simp [Value.ownBlock]; done) | (simp [Value.ownBlock]; omega))); clear hown1 hgrow1 hat1)
                | (refine step_app _ (by rfl) _ _ _ (by rfl) wr.heap.size 44 i0 (.agg #[.string ⟨#[]⟩, .int .i64 0]) 2 24 Tryz.underlying40 hi hz0 hz1 hz2 rfl (by decide) (.slice v1p P.length v1c) P.length (flatC P) (by rfl) HO1.out _ 1 1 [.string ⟨#[]⟩, .int .i64 (i : Int)] (by rfl) HNS.out HBD.out.2.2.1 HBD.out.2.2.2.1 HB1.out.size ?_; intro v2 x2 hown2 hgrow2 hat2; obtain ⟨v2p, v2c, rfl⟩ := own_form5 hown2; have HB2 := Lib.hid (below_own HB1.out HO1.out hgrow2 (Nat.le_refl _) HB1.out.size); have HP2 := Lib.hid (path_snoc (s := ⟨[], (i : Int)⟩) hown2); clear hown2 hgrow2 hat2)
                | (refine step_app _ (by rfl) _ _ _ (by rfl) wr.heap.size 44 i0 (.agg #[.string ⟨#[]⟩, .int .i64 0]) 2 24 Tryz.underlying40 hi hz0 hz1 hz2 rfl (by decide) (.slice v1p P.length v1c) P.length (flatC P) (by rfl) (HO1.out.alloc _) (some ⟨x1.heap.size, 0, none⟩) 1 1 [.string ⟨#[]⟩, .int .i64 (i : Int)] (by rfl) (new_srcN x1 _ _) HBD.out.2.2.1 HBD.out.2.2.2.1 (HB1.out.alloc HB1.out.size _).size ?_; intro v2 x2 hown2 hgrow2 hat2; obtain ⟨v2p, v2c, rfl⟩ := own_form5 hown2; have HB2 := Lib.hid (below_own (HB1.out.alloc HB1.out.size _) (HO1.out.alloc _) hgrow2 (Nat.le_refl _) (HB1.out.alloc HB1.out.size _).size); have HP2 := Lib.hid (path_snoc (s := ⟨[], (i : Int)⟩) hown2); clear hown2 hgrow2 hat2)
                | (go_at_call 78; refine (IH.out x HSZ.out _ _ _ (P ++ [⟨[], (i : Int)⟩]) ok (fun _ => True) _ (HX.out.under HB2.out) HP2.out HLX.out (by omega) (by rw [List.length_append]; exact HCX.out)).mono ?_; rintro e x3 ⟨v3, T3, rfl, hown3, hT3, hsl3, hb3⟩; obtain ⟨v3p, v3c, rfl⟩ := own_form5 hown3; have HB3 := Lib.hid (HB2.out.trans (hb3.mono HB2.out.size)); have HL3 := Lib.hid (And.intro (own_less hown3 HB2.out.size) (And.intro hT3 (fun t ht => (hsl3 t ht).mono (ok' := fun B => wr.heap.size ≤ B) fun B _ hB => Nat.le_trans HB2.out.size hB))); have HT3 := Lib.hid (show T3.length = (lvD x).length by have h := congrArg List.length hT3; simpa using h); clear hown3 hT3 hsl3 hb3)
                | (refine step_app _ (by rfl) _ _ _ (by rfl) w.heap.size 40 j0 (.slice none 0 0) 1 24 Tryz.underlying68 hj hy0 hy1 hy2 rfl (by decide) (.slice up T.length uc) T.length (T.map fun t => t.2) (by rfl) (own_under HS.out.own HB3.out) v3p T3.length v3c (T3.map fun t => t.2) (by rfl) (paths_src HL3.out.1 HL3.out.2.2) (by rw [HT3.out]; unfold maxLen; omega) (by rw [HT3.out]; omega) (Nat.le_trans HS.out.bel.size HB3.out.size) ?_; intro v9 x9 hown9 hgrow9 hat9; rw [← List.map_append, ← List.length_append] at hown9; obtain ⟨u9p, u9c, rfl⟩ := own_form5 hown9; have HS9 := Lib.hid (HS.out.push HB3.out HL3.out.1 HL3.out.2.2 hown9 hgrow9 hat9); have HT9 := Lib.hid HL3.out.2.1; have HK9 := Lib.hid (And.intro HS9.out.box.cells.2.2.2.1 (HKO.out _ HS9.out.bel)); clear hown9 hgrow9 hat9))
            all_goals
              go_wp2_with fail
              go_roundw
              case rel => exact ⟨i + 1, u9p, u9c, _, by simp, by go_num, hlt, HS9, Lib.hid (by rw [List.map_append, HU.out, HT9.out, path_map, HL.out, List.map_append])⟩
              case measure => simp [intOf]; omega
          · have hil : d.its.take i = d.its := List.take_of_length_le (by omega)
            have HU0 := Lib.hid (show T.map (fun t => t.1) = (lvI d.its 0).map (P ++ ·) ++ (lvM (d.mem.take 0)).map (P ++ ·) by rw [HU.out, hil]; simp [lvM])
            obtain ⟨c0, c1, c2, c3, c4, hlw⟩ := HS.out.box.cells
            clear hil
            go_wp2_with fail
            clear c0 c1 c2 c3 c4 hlw hlt hi'
            go_loopw [5, 7] (fun x y wr => ∃ (i : Nat) (up : Option Addr) (uc : Nat) (T : List (List Stp × Value)), x = .slice up T.length uc ∧ y = .int .i64 (i : Int) ∧ i ≤ d.mem.length ∧ Hid (LeS w d (.slice p d.its.length cap) (.slice q d.mem.length caq) (.slice up T.length uc) T wr) ∧ Hid (T.map (fun t => t.1) = (lvI d.its 0).map (P ++ ·) ++ (lvM (d.mem.take i)).map (P ++ ·))) (fun _ y _ => d.mem.length - (intOf y).toNat)
            case atStart => exact ⟨0, up, uc, T, rfl, rfl, Nat.zero_le _, HS, HU0⟩
            case round =>
              clear HS HU HU0
              obtain ⟨i, up, uc, T, rfl, rfl, hi', HS, HU⟩ := hrel
              by_cases hlt : i < d.mem.length
              · obtain ⟨B, o, xi, xm, rfl, hcap, hB, hlab, hc, hx⟩ := HME.out i hlt
                obtain ⟨p1, cap1, rfl, -, -⟩ := hx.items
                obtain ⟨q1, caq1, rfl, -, -⟩ := hx.members
                obtain ⟨k1, k2, k3, k4, k5⟩ := hc.below HS.out.bel hB
                have k0 := (HS.out.bel.cell (p := ⟨B, o + i * 6, none⟩) hB).trans hlab
                have HX := Lib.hid (hx.under HS.out.bel)
                have HL := Lib.hid (lvM_at d.mem i hlt)
                have HSZ := Lib.hid (Nat.lt_of_lt_of_le (dat_mg (List.getElem_mem hlt)) (Nat.le_of_lt_succ HD.out))
                have HCX := Lib.hid (HC2.out _ (List.getElem_mem hlt))
                have HLX := Lib.hid ((lim_iff.1 HLIM.out).2.2.2.2 _ (List.getElem_mem hlt)).2
                have hUl : T.length + (lvD d.mem[i].2).length ≤ 1000000 := by
                  have h1 : T.length = (lvI d.its 0).length + (lvM (d.mem.take i)).length := by
                    have := congrArg List.length HU.out
                    simpa using this
                  have h2 := lvM_take d.mem (i + 1)
                  rw [HL.out, List.length_append, List.length_map] at h2
                  have := HLN.out
                  omega
                have HKO := Lib.hid (fun w' (hb : Below w.heap.size w w') => (let c := hc.below hb hB; And.intro ((hb.cell (p := ⟨B, o + i * 6, none⟩) hB).trans hlab) (And.intro c.c0 (And.intro c.c1 (And.intro c.c2 (And.intro c.c3 c.c4))))))
                clear hc hx hlab
                generalize d.mem[i] = t0 at k0 k1 k2 k3 k4 k5 HX HL HSZ HCX HLX hUl HKO
                obtain ⟨l, x⟩ := t0
                simp only at k0 k1 k2 k3 k4 k5 HX HL HSZ HCX HLX hUl HKO
                obtain ⟨c0, c1, c2, c3, c4, hlw⟩ := HS.out.box.cells
                have HKE := Lib.hid (fun w' (hb : Below wr.heap.size wr w') => And.intro ((hb.cell (p := ⟨w.heap.size, 4, none⟩) hlw).trans c4) (And.intro ((hb.cell (p := ⟨B, o + i * 6, none⟩) (Nat.lt_of_lt_of_le hB HS.out.bel.size)).trans k0) (And.intro ((hb.cell (p := ⟨B, o + i * 6 + 1, none⟩) (Nat.lt_of_lt_of_le hB HS.out.bel.size)).trans k1) (And.intro ((hb.cell (p := ⟨B, o + i * 6 + 2, none⟩) (Nat.lt_of_lt_of_le hB HS.out.bel.size)).trans k2) (And.intro ((hb.cell (p := ⟨B, o + i * 6 + 3, none⟩) (Nat.lt_of_lt_of_le hB HS.out.bel.size)).trans k3) (And.intro ((hb.cell (p := ⟨B, o + i * 6 + 4, none⟩) (Nat.lt_of_lt_of_le hB HS.out.bel.size)).trans k4) ((hb.cell (p := ⟨B, o + i * 6 + 5, none⟩) (Nat.lt_of_lt_of_le hB HS.out.bel.size)).trans k5)))))))
                have HSRC := Lib.hid (fun w' (hb : Below wr.heap.size wr w') => (HP.out.under (HS.out.bel.trans (hb.mono HS.out.bel.size))).sourc)
                have HBD := Lib.hid (And.intro (show 0 + P.length ≤ maxLen by unfold maxLen; omega) (And.intro (show (0 + P.length) * 24 ≤ 140737488355328 by omega) (And.intro (show P.length + 1 ≤ maxLen by unfold maxLen; omega) (And.intro (show (P.length + 1) * 24 ≤ 140737488355328 by omega) trivial))))
                have HB0 := Lib.hid (below_drew (Below.refl wr.heap.size wr))
                obtain ⟨j0, hj, hy0, hy1, hy2⟩ := info_parts infoStps
                go_upto_region 11 with fail
                clear c0 c1 c2 c3 c4 k0 k1 k2 k3 k4 k5 hlw
                go_region_held3 (fun w' => w'.cell? ⟨w.heap.size, 4, none⟩ = some (.slice (some ⟨B, o, none⟩) d.mem.length caq) ∧ w'.cell? ⟨B, o + i * 6, none⟩ = some (.string (S l)) ∧ w'.cell? ⟨B, o + i * 6 + 1, none⟩ = some (.int .i64 x.k) ∧ w'.cell? ⟨B, o + i * 6 + 2, none⟩ = some (.int .i64 x.n) ∧ w'.cell? ⟨B, o + i * 6 + 3, none⟩ = some (.string (S x.s)) ∧ w'.cell? ⟨B, o + i * 6 + 4, none⟩ = some (.slice p1 x.its.length cap1) ∧ w'.cell? ⟨B, o + i * 6 + 5, none⟩ = some (.slice q1 x.mem.length caq1))
                  (first
                    | with_reducible exact HKE.out _ HB0.out
                    | with_reducible exact HKE.out _ (below_drew ((Below.refl wr.heap.size wr).alloc (by first | exact Nat.le_refl _ | (simp; done) | (simp; omega)) _))
                    | with_reducible exact HKE.out _ ((Below.refl wr.heap.size wr).alloc (by first | exact Nat.le_refl _ | (simp; done) | (simp; omega)) _)
                    | with_reducible exact HKE.out _ (below_drew (((Below.refl wr.heap.size wr).alloc (by first | exact Nat.le_refl _ | (simp; done) | (simp; omega)) _).alloc (by first | exact Nat.le_refl _ | (simp; done) | (simp; omega)) _))
                    | with_reducible exact HKE.out _ (((Below.refl wr.heap.size wr).alloc (by first | exact Nat.le_refl _ | (simp; done) | (simp; omega)) _).alloc (by first | exact Nat.le_refl _ | (simp; done) | (simp; omega)) _)
                    | with_reducible exact HKE.out _ HB1.out
                    | with_reducible exact HKE.out _ (HB1.out.alloc HB1.out.size _)
                    | with_reducible exact HKE.out _ HB2.out
                    | with_reducible exact HKE.out _ HB3.out
                    | with_reducible exact HK9.out
                    | go_keep)
                  (first
                    | (refine step_app _ (by rfl) _ _ _ (by rfl) wr.heap.size 44 i0 (.agg #[.string ⟨#[]⟩, .int .i64 0]) 2 24 Tryz.underlying40 hi hz0 hz1 hz2 rfl (by decide) (.slice (some ⟨wr.heap.size, 0, none⟩) 0 0) 0 [] (by rfl) (own_empty wr (size := 2)) pp P.length pc (flatC P) (by rfl) (HSRC.out _ (below_drew ((Below.refl wr.heap.size wr).alloc (by first | exact Nat.le_refl _ | (simp; done) | (simp; omega)) _))) HBD.out.1 HBD.out.2.1 (below_drew ((Below.refl wr.heap.size wr).alloc (by first | exact Nat.le_refl _ | (simp; done) | (simp; omega)) _)).size ?_; intro v1 x1 hown1 hgrow1 hat1; simp only [Nat.zero_add, List.nil_append] at hown1; obtain ⟨v1p, v1c, rfl⟩ := own_form5 hown1; have HB1 := Lib.hid (below_own (below_drew ((Below.refl wr.heap.size wr).alloc (by first | exact Nat.le_refl _ | (simp; done) | (simp; omega)) _)) (own_empty wr (size := 2)) hgrow1 (Nat.le_refl _) (below_drew ((Below.refl wr.heap.size wr).alloc (by first | exact Nat.le_refl _ | (simp; done) | (simp; omega)) _)).size); have HO1 := Lib.hid hown1; clear hown1 hgrow1 hat1)
                    | (refine step_app _ (by rfl) _ _ _ (by rfl) wr.heap.size 44 i0 (.agg #[.string ⟨#[]⟩, .int .i64 0]) 2 24 Tryz.underlying40 hi hz0 hz1 hz2 rfl (by decide) (.slice (some ⟨wr.heap.size, 0, none⟩) 0 0) 0 [] (by rfl) ((own_empty wr (size := 2)).alloc _) pp P.length pc (flatC P) (by rfl) (HSRC.out _ (below_drew (((Below.refl wr.heap.size wr).alloc (by first | exact Nat.le_refl _ | (simp; done) | (simp; omega)) _).alloc (by first | exact Nat.le_refl _ | (simp; done) | (simp; omega)) _))) HBD.out.1 HBD.out.2.1 (below_drew (((Below.refl wr.heap.size wr).alloc (by first | exact Nat.le_refl _ | (simp; done) | (simp; omega)) _).alloc (by first | exact Nat.le_refl _ | (simp; done) | (simp; omega)) _)).size ?_; intro v1 x1 hown1 hgrow1 hat1; simp only [Nat.zero_add, List.nil_append] at hown1; obtain ⟨v1p, v1c, rfl⟩ := own_form5 hown1; have HB1 := Lib.hid (below_own (below_drew (((Below.refl wr.heap.size wr).alloc (by first | exact Nat.le_refl _ | (simp; done) | (simp; omega)) _).alloc (by first | exact Nat.le_refl _ | (simp; done) | (simp; omega)) _)) ((own_empty wr (size := 2)).alloc _) hgrow1 (Nat.le_refl _) (below_drew (((Below.refl wr.heap.size wr).alloc (by first | exact Nat.le_refl _ | (simp; done) | (simp; omega)) _).alloc (by first | exact Nat.le_refl _ | (simp; done) | (simp; omega)) _)).size); have HO1 := Lib.hid hown1; have HNS : Hid (Src x1 2 (some ⟨wr.heap.size + 1, 0, none⟩) 1 [.string (S l), .int .i64 0]) := Lib.hid (kept_srcD2 (blk_twoN wr _ _) hgrow1 (by first | (simp [Value.ownBlock]; done) | (simp [Value.ownBlock]; omega))); clear hown1 hgrow1 hat1)
                    | (refine step_app _ (by rfl) _ _ _ (by rfl) wr.heap.size 44 i0 (.agg #[.string ⟨#[]⟩, .int .i64 0]) 2 24 Tryz.underlying40 hi hz0 hz1 hz2 rfl (by decide) (.slice (some ⟨wr.heap.size + 1, 0, none⟩) 0 0) 0 [] (by rfl) (own_secondN wr _ (size := 2)) pp P.length pc (flatC P) (by rfl) (HSRC.out _ (below_drew (((Below.refl wr.heap.size wr).alloc (by first | exact Nat.le_refl _ | (simp; done) | (simp; omega)) _).alloc (by first | exact Nat.le_refl _ | (simp; done) | (simp; omega)) _))) HBD.out.1 HBD.out.2.1 (below_drew (((Below.refl wr.heap.size wr).alloc (by first | exact Nat.le_refl _ | (simp; done) | (simp; omega)) _).alloc (by first | exact Nat.le_refl _ | (simp; done) | (simp; omega)) _)).size ?_; intro v1 x1 hown1 hgrow1 hat1; simp only [Nat.zero_add, List.nil_append] at hown1; obtain ⟨v1p, v1c, rfl⟩ := own_form5 hown1; have HB1 := Lib.hid (below_own (below_drew (((Below.refl wr.heap.size wr).alloc (by first | exact Nat.le_refl _ | (simp; done) | (simp; omega)) _).alloc (by first | exact Nat.le_refl _ | (simp; done) | (simp; omega)) _)) (own_secondN wr _ (size := 2)) hgrow1 (Nat.le_refl _) (below_drew (((Below.refl wr.heap.size wr).alloc (by first | exact Nat.le_refl _ | (simp; done) | (simp; omega)) _).alloc (by first | exact Nat.le_refl _ | (simp; done) | (simp; omega)) _)).size); have HO1 := Lib.hid hown1; have HNS : Hid (Src x1 2 (some ⟨wr.heap.size, 0, none⟩) 1 [.string (S l), .int .i64 0]) := Lib.hid (kept_srcD2 ((Blk.new wr _ _).alloc _) hgrow1 (by first | (simp [Value.ownBlock]; done) | (simp [Value.ownBlock]; omega))); clear hown1 hgrow1 hat1)
                    | (refine step_app _ (by rfl) _ _ _ (by rfl) wr.heap.size 44 i0 (.agg #[.string ⟨#[]⟩, .int .i64 0]) 2 24 Tryz.underlying40 hi hz0 hz1 hz2 rfl (by decide) (.slice v1p P.length v1c) P.length (flatC P) (by rfl) HO1.out _ 1 1 [.string (S l), .int .i64 0] (by rfl) HNS.out HBD.out.2.2.1 HBD.out.2.2.2.1 HB1.out.size ?_; intro v2 x2 hown2 hgrow2 hat2; obtain ⟨v2p, v2c, rfl⟩ := own_form5 hown2; have HB2 := Lib.hid (below_own HB1.out HO1.out hgrow2 (Nat.le_refl _) HB1.out.size); have HP2 := Lib.hid (path_snoc (s := ⟨l, 0⟩) hown2); clear hown2 hgrow2 hat2)
                    | (refine step_app _ (by rfl) _ _ _ (by rfl) wr.heap.size 44 i0 (.agg #[.string ⟨#[]⟩, .int .i64 0]) 2 24 Tryz.underlying40 hi hz0 hz1 hz2 rfl (by decide) (.slice v1p P.length v1c) P.length (flatC P) (by rfl) (HO1.out.alloc _) (some ⟨x1.heap.size, 0, none⟩) 1 1 [.string (S l), .int .i64 0] (by rfl) (new_srcN x1 _ _) HBD.out.2.2.1 HBD.out.2.2.2.1 (HB1.out.alloc HB1.out.size _).size ?_; intro v2 x2 hown2 hgrow2 hat2; obtain ⟨v2p, v2c, rfl⟩ := own_form5 hown2; have HB2 := Lib.hid (below_own (HB1.out.alloc HB1.out.size _) (HO1.out.alloc _) hgrow2 (Nat.le_refl _) (HB1.out.alloc HB1.out.size _).size); have HP2 := Lib.hid (path_snoc (s := ⟨l, 0⟩) hown2); clear hown2 hgrow2 hat2)
                    | (go_at_call 78; refine (IH.out x HSZ.out _ _ _ (P ++ [⟨l, 0⟩]) ok (fun _ => True) _ (HX.out.under HB2.out) HP2.out HLX.out (by omega) (by rw [List.length_append]; exact HCX.out)).mono ?_; rintro e x3 ⟨v3, T3, rfl, hown3, hT3, hsl3, hb3⟩; obtain ⟨v3p, v3c, rfl⟩ := own_form5 hown3; have HB3 := Lib.hid (HB2.out.trans (hb3.mono HB2.out.size)); have HL3 := Lib.hid (And.intro (own_less hown3 HB2.out.size) (And.intro hT3 (fun t ht => (hsl3 t ht).mono (ok' := fun B => wr.heap.size ≤ B) fun B _ hB => Nat.le_trans HB2.out.size hB))); have HT3 := Lib.hid (show T3.length = (lvD x).length by have h := congrArg List.length hT3; simpa using h); clear hown3 hT3 hsl3 hb3)
                    | (refine step_app _ (by rfl) _ _ _ (by rfl) w.heap.size 40 j0 (.slice none 0 0) 1 24 Tryz.underlying68 hj hy0 hy1 hy2 rfl (by decide) (.slice up T.length uc) T.length (T.map fun t => t.2) (by rfl) (own_under HS.out.own HB3.out) v3p T3.length v3c (T3.map fun t => t.2) (by rfl) (paths_src HL3.out.1 HL3.out.2.2) (by rw [HT3.out]; unfold maxLen; omega) (by rw [HT3.out]; omega) (Nat.le_trans HS.out.bel.size HB3.out.size) ?_; intro v9 x9 hown9 hgrow9 hat9; rw [← List.map_append, ← List.length_append] at hown9; obtain ⟨u9p, u9c, rfl⟩ := own_form5 hown9; have HS9 := Lib.hid (HS.out.push HB3.out HL3.out.1 HL3.out.2.2 hown9 hgrow9 hat9); have HT9 := Lib.hid HL3.out.2.1; have HK9 := Lib.hid (And.intro HS9.out.box.cells.2.2.2.2.1 (HKO.out _ HS9.out.bel)); clear hown9 hgrow9 hat9))
                all_goals
                  go_wp2_with fail
                  go_roundw
                  case rel => exact ⟨i + 1, u9p, u9c, _, by simp, by go_num, hlt, HS9, Lib.hid (by rw [List.map_append, HU.out, HT9.out, path_map, HL.out, List.map_append, List.append_assoc])⟩
                  case measure => simp [intOf]; omega
              · have hil : d.mem.take i = d.mem := List.take_of_length_le (by omega)
                have HU1 := Lib.hid (show T.map (fun t => t.1) = (lvD d).map (P ++ ·) by rw [HU.out, hil, HLV.out, List.map_append])
                obtain ⟨c0, c1, c2, c3, c4, hlw⟩ := HS.out.box.cells
                clear hil
                go_wp2_with fail
                go_ret
                exact ⟨_, T, rfl, HS.out.own, HU1.out, fun t ht => (HS.out.paths t ht).mono fun B _ hB => hB.1, HS.out.bel⟩
end
section
open Go.RowKit

set_option maxRecDepth 100000 in
theorem refLeavs_any {d : Dat} {vi vm : Value} {ok : Nat → Prop} {w : World} (hr : Rep w ok d vi vm) (hlim : limD d = true) (hc : chk d 1 = 0) (hn : (lvD d).length ≤ 1000000) :
    Calls Tryz.prog 41 #[.agg #[.int .i64 d.k, .int .i64 d.n, .string (S d.s), vi, vm]] w (LeavP w (lvD d)) := by
  have HCK := Lib.hid (fun w' (hb : Below w.heap.size w w') => refVal_any (hr.under hb))
  simp only [hc, decide_true] at HCK
  have HLV := Lib.hid (fun w' (hb : Below w.heap.size w w') => refLeaves_any (SizeOf.sizeOf d + 1) d (Nat.lt_succ_self _) vi vm (.slice none 0 0) [] ok (fun _ => True) w' (hr.under hb) ⟨none, 0, 0, 0, rfl, by simp, by simp⟩ hlim hn hc)
  have e : (lvD d).map (fun x => ([] : List Stp) ++ x) = lvD d := by simp
  rw [e] at HLV
  clear hr hlim hc hn e
  go_enter Tryz.func41, Tryz.ntmps41
  go_upto_region 1 with fail
  have hS : CkS w.heap.size w d vi vm (w.alloc (.cells #[.int .i64 d.k, .int .i64 d.n, .string (S d.s), vi, vm] 26)) := CkS.new w d _ _
  generalize w.alloc (.cells #[.int .i64 d.k, .int .i64 d.n, .string (S d.s), vi, vm] 26) = W at hS ⊢
  obtain ⟨c0, c1, c2, c3, c4, hlw⟩ := hS.cells
  have HS := Lib.hid hS
  clear hS
  go_wp2_with fail
  refine (HCK.out _ HS.out.2).mono ?_
  rintro e w1 ⟨rfl, hb⟩
  have hS1 := HS.out.below hb
  clear hb HS c0 c1 c2 c3 c4 hlw HCK
  obtain ⟨c0, c1, c2, c3, c4, hlw⟩ := hS1.cells
  have HB := Lib.hid hS1.2
  clear hS1
  go_wp2_with fail
  refine (HLV.out _ HB.out).mono ?_
  rintro e w2 ⟨v, T, rfl, ho, hT, hs, hb⟩
  have HF := Lib.hid (show LeavP w (lvD d) (.returned v) w2 from ⟨v, T, rfl, own_less ho HB.out.size, hT, fun t ht => (hs t ht).mono fun B _ hB => Nat.le_trans HB.out.size hB, HB.out.trans (hb.mono HB.out.size)⟩)
  clear ho hT hs hb c0 c1 c2 c3 c4 hlw
  go_wp2_with fail
  go_ret
  exact HF.out
end
section
open Go.RowKit

theorem infoREnt : (Tryz.prog.info? 74).map (fun i => (i.zero, i.size, i.bytes)) = some (some (.agg #[.slice none 0 0, .int .i64 0, .int .i64 0, .string ⟨#[]⟩, .slice none 0 0, .slice none 0 0]), 6, 104) := by kernel_rfl
/-- what the reference's Flatten hands back -/
def FlatQ (w : World) (r : List Ent × Nat) (e : Ending) (w' : World) : Prop :=
  ∃ (v : Value) (T : List Env), e = .returned (.tuple #[v, .int .i64 (r.2 : Int)]) ∧ w'.ownsRow w.heap.size 74 6 v T.length (flatE T) ∧ T.map Env.e = r.1 ∧ (∀ t ∈ T, t.good w' (fun B => w.heap.size ≤ B)) ∧ Below w.heap.size w w'
theorem FlatQ.nil {w w' : World} {n : Nat} (hb : Below w.heap.size w w') : FlatQ w ([], n) (.returned (.tuple #[.slice none 0 0, .int .i64 (n : Int)])) w' :=
  ⟨_, [], rfl, World.ownsRow_nil _ _ _ _, rfl, by simp, hb⟩
/-- an entry of a leaf: its data has no parts, wherever its slices point -/
def leafV (t : Env) : Prop := ∃ p c q c', t.vi = .slice p 0 c ∧ t.vm = .slice q 0 c' ∧ t.data.its = [] ∧ t.data.mem = []
/-- the state: the entries so far -/
def FqS (w w3 : World) (T : List (List Stp × Value)) (d : Dat) (u : Value) (i : Nat) (wr : World) : Prop :=
  ∃ U : List Env, U.length = i ∧ U.map Env.e = (T.take i).map (fun t => (t.1, (getD d t.1).getD dat0)) ∧ wr.ownsRow w3.heap.size 74 6 u i (flatE U) ∧ Below w3.heap.size w3 wr ∧ ∀ t ∈ U, SlK w3 (fun B => w.heap.size ≤ B) t.pv t.path ∧ leafV t
theorem FqS.add {w w3 wg : World} {T : List (List Stp × Value)} {d : Dat} {u' : Value} {i : Nat} {t : Env} {U : List Env} (h1 : U.length = i) (h2 : U.map Env.e = (T.take i).map (fun t => (t.1, (getD d t.1).getD dat0))) (h5 : ∀ t ∈ U, SlK w3 (fun B => w.heap.size ≤ B) t.pv t.path ∧ leafV t)
    (hi : i < T.length) (ht : t.e = (T[i].1, (getD d T[i].1).getD dat0)) (hs : SlK w3 (fun B => w.heap.size ≤ B) t.pv t.path) (hl : leafV t) (ho : wg.ownsRow w3.heap.size 74 6 u' (i + 1) (flatE U ++ cellsE t)) (hb : Below w3.heap.size w3 wg) : FqS w w3 T d u' (i + 1) wg := by
  refine ⟨U ++ [t], by simp [h1], ?_, by rw [flatE_snoc]; exact ho, hb, fun s hs' => ?_⟩
  · rw [List.map_append, h2, List.take_succ_eq_append_getElem hi, List.map_append, List.map_singleton, List.map_singleton, ht]
  · rcases List.mem_append.1 hs' with hs' | hs'
    · exact h5 s hs'
    · obtain rfl := List.mem_singleton.1 hs'; exact ⟨hs, hl⟩
theorem FqS.done {w w3 wr : World} {T : List (List Stp × Value)} {d : Dat} {u : Value} (h : FqS w w3 T d u T.length wr) (hT : T.map (fun t => t.1) = lvD d) (hw : Below w.heap.size w w3) : FlatQ w (entsD d, 0) (.returned (.tuple #[u, .int .i64 0])) wr := by
  obtain ⟨U, h1, h2, h3, h4, h5⟩ := h
  rw [List.take_length] at h2
  refine ⟨u, U, rfl, by rw [h1]; exact own_less h3 hw.size, ?_, fun t ht => ?_, hw.trans (h4.mono hw.size)⟩
  · unfold entsD
    rw [h2, ← hT, List.map_map]; rfl
  · obtain ⟨k1, p, c, q, c', e1, e2, e3, e4⟩ := h5 t ht
    refine ⟨k1.under h4, ?_⟩
    rw [e1, e2]
    exact rep_leaf _ _ e3 e4 _ _ _ _
theorem far_cell {W x : World} {o : Obj} {b s n : Nat} {e : TypeId} {v : Value} {xs : List Value} (ho : W.ownsRow b e s v n xs) (hg : (W.alloc o).drew.grownBy x v.ownBlock) {B i : Nat} (hB : B < b) (hlt : B < W.heap.size) : x.cell? ⟨B, i, none⟩ = W.cell? ⟨B, i, none⟩ := by
  have h1 : x.cell? ⟨B, i, none⟩ = (W.alloc o).drew.cell? ⟨B, i, none⟩ := grown_cell hg (by show B < (W.alloc o).heap.size; simp; omega) (fun e' => by have := (ho.lt B e'.symm).1; omega) i
  exact h1.trans (((Below.refl W.heap.size W).alloc (Nat.le_refl _) o).cell (p := ⟨B, i, none⟩) hlt)
theorem far_box {W x : World} {o : Obj} {b s n K : Nat} {v : Value} {xs : List Value} {cs : Array Value} (hK : Blk W K cs 26) (ho : W.ownsRow b 74 s v n xs) (hg : (W.alloc o).drew.grownBy x v.ownBlock) : Blk x K cs 26 :=
  Blk.kept (W := (W.alloc o).drew) (hK.alloc o) hg (blk_own2 hK ho (by decide))
end
section
open Go.RowKit

theorem box_at {w x : World} {cs : Array Value} {t : TypeId} (hb : Below (w.alloc (.cells cs t)).drew.heap.size (w.alloc (.cells cs t)).drew x) : Blk x w.heap.size cs t :=
  Blk.below (W := (w.alloc (.cells cs t)).drew) (Blk.new w cs t) hb
theorem box_bel {w x : World} {o : Obj} (hb : Below (w.alloc o).drew.heap.size (w.alloc o).drew x) : Below w.heap.size w x :=
  (below_drew ((Below.refl w.heap.size w).alloc (Nat.le_refl _) o)).trans (hb.mono (below_drew ((Below.refl w.heap.size w).alloc (Nat.le_refl _) o)).size)
set_option maxRecDepth 100000 in
set_option maxHeartbeats 8000000 in
theorem refFlatten_any {d : Dat} {vi vm : Value} {ok : Nat → Prop} {w : World} (hr : Rep w ok d vi vm) (hlim : limD d = true) (hn : (lvD d).length ≤ 1000000) :
    Calls Tryz.prog 17 #[.agg #[.int .i64 d.k, .int .i64 d.n, .string (S d.s), vi, vm]] w (FlatQ w (flatD d)) := by
  obtain ⟨i0, hi, hz0, hz1, hz2⟩ := info_parts infoREnt
  obtain ⟨r, hrr⟩ : ∃ r, flatD d = r := ⟨_, rfl⟩
  rw [hrr]
  have HR := Lib.hid hrr
  have HREP := Lib.hid hr
  have HLIM := Lib.hid hlim
  have HNL := Lib.hid hn
  have HCK := Lib.hid (fun w' (hb : Below w.heap.size w w') => (refChk_any (hr.under hb)))
  clear hrr hr hlim hn
  go_enter Tryz.func17, Tryz.ntmps17
  go_upto_region 1 with fail
  have hS : CkS w.heap.size w d vi vm (w.alloc (.cells #[.int .i64 d.k, .int .i64 d.n, .string (S d.s), vi, vm] 26)) := CkS.new w d _ _
  generalize w.alloc (.cells #[.int .i64 d.k, .int .i64 d.n, .string (S d.s), vi, vm] 26) = W at hS ⊢
  obtain ⟨c0, c1, c2, c3, c4, hlw⟩ := hS.cells
  have HS := Lib.hid hS
  clear hS
  go_wp2_with fail
  refine (HCK.out _ HS.out.2).mono ?_
  rintro e w1 ⟨rfl, hb⟩
  have hS1 := HS.out.below hb
  clear hb HS c0 c1 c2 c3 c4 hlw HCK
  obtain ⟨c0, c1, c2, c3, c4, hlw⟩ := hS1.cells
  have HS1 := Lib.hid hS1
  clear hS1
  rcases Nat.eq_zero_or_pos (chk d 1) with hc | hc
  case inr =>
    have HV := Lib.hid (show r = ([], chk d 1) by rw [← HR.out]; unfold flatD; rw [if_pos (by omega)])
    generalize chk d 1 = z at hc HV ⊢
    have ez : ((z : Int) == 0) = false := beq_eq_false_iff_ne.2 (by omega)
    have ez' : ((z : Int) != 0) = true := by simpa using (by omega : ¬ z = 0)
    go_wp2_with fail
    go_ret2
    rw [HV.out]
    exact FlatQ.nil HS1.out.2
  rw [hc]
  have HC := Lib.hid hc
  clear hc
  go_wp2_with fail
  refine (refLabeled_any (SizeOf.sizeOf d + 1) d (Nat.lt_succ_self _) vi vm ok _ (HREP.out.under HS1.out.2)).mono ?_
  rintro e w2 ⟨rfl, hb⟩
  have hS2 := HS1.out.below hb
  clear hb HS1 c0 c1 c2 c3 c4 hlw
  obtain ⟨c0, c1, c2, c3, c4, hlw⟩ := hS2.cells
  have HS2 := Lib.hid hS2
  clear hS2
  rcases Bool.eq_false_or_eq_true (lbD d) with hlb | hlb
  case inr =>
    rw [hlb]
    have HV := Lib.hid (show r = ([], 5) by rw [← HR.out]; unfold flatD; rw [if_neg (by rw [HC.out]; decide), if_pos hlb])
    clear hlb
    go_wp2_with fail
    go_ret2
    rw [HV.out]
    exact FlatQ.nil HS2.out.2
  rw [hlb]
  have HV := Lib.hid (show r = (entsD d, 0) by rw [← HR.out]; unfold flatD; rw [if_neg (by rw [HC.out]; decide), if_neg (by rw [hlb]; decide)])
  have HLA := Lib.hid (fun (p : List Stp) (hp : p ∈ lvD d) => leaf_at HC.out hlb HLIM.out hp)
  clear hlb HR
  go_wp2_with fail
  refine (refLeavs_any (HREP.out.under HS2.out.2) HLIM.out HC.out HNL.out).mono ?_
  rintro e w3 ⟨v, T, rfl, hown, hT, hsl, hb⟩
  have hS3 := HS2.out.below hb
  obtain ⟨p, cap, B, rfl, hcell⟩ := own1 hown
  have hTl : T.length ≤ 1000000 := by have := HNL.out; rw [← hT] at this; simpa using this
  have HT := Lib.hid hT
  have HSL := Lib.hid hsl
  have HCE := Lib.hid hcell
  have HSZ := Lib.hid (Nat.le_trans HS2.out.2.size hb.size)
  have HSZ2 := Lib.hid HS2.out.2.size
  clear c0 c1 c2 c3 c4 hlw hown hT hsl hb hcell HS2
  have HS3 := Lib.hid hS3
  clear hS3
  have HS0 := Lib.hid (show FqS w w3 T d (.slice none 0 0) 0 w3 from ⟨[], rfl, rfl, World.ownsRow_nil _ _ _ _, Below.refl _ _, by simp⟩)
  obtain ⟨dp, dc, rfl, -, -⟩ := HREP.out.items
  obtain ⟨dq, dcq, rfl, -, -⟩ := HREP.out.members
  go_wp2_with fail
  go_loopw [5, 7] (fun u x wr => ∃ (i : Nat) (up : Option Addr) (uc : Nat), u = .slice up i uc ∧ x = .int .i64 (i : Int) ∧ i ≤ T.length ∧ Hid (FqS w w3 T d (.slice up i uc) i wr)) (fun _ x _ => T.length - (intOf x).toNat)
  case atStart => exact ⟨0, none, 0, rfl, rfl, Nat.zero_le _, HS0⟩
  case round =>
    clear HS0
    obtain ⟨i, up, uc, rfl, rfl, hi', HS⟩ := hrel
    have HB : Hid (Below w3.heap.size w3 wr) := Lib.hid (by obtain ⟨U, -, -, -, h4, -⟩ := HS.out; exact h4)
    by_cases hlt : i < T.length
    · obtain ⟨rfl, hcap, hB0, hB, hc⟩ := HCE.out i hlt
      have k0 := (HB.out.cell (p := ⟨B, i, none⟩) hB).trans hc
      have hmem : T[i].1 ∈ lvD d := by rw [← HT.out]; exact List.mem_map_of_mem (List.getElem_mem hlt)
      obtain ⟨x, hx1, hx2, -⟩ := HLA.out _ hmem
      have HX1 := Lib.hid hx1
      have HX2 := Lib.hid hx2
      have HSi := Lib.hid (HSL.out _ (List.getElem_mem hlt))
      have HPL : Hid (T[i].1.length ≤ 1000000) := Lib.hid (by
        have := path_len (SizeOf.sizeOf d + 1) d 1 (Nat.lt_succ_self _) HC.out _ hmem
        omega)
      have HTI := Lib.hid (fun (t : Env) (h : t.e = (T[i].1, x)) => (show t.e = (T[i].1, (getD d T[i].1).getD dat0) by rw [h, hx1]; rfl))
      clear hc hmem hx1 hx2
      generalize hti : T[i] = t at k0 HX1 HX2 HSi HPL
      have HTE := Lib.hid hti
      clear hti
      obtain ⟨P, pv⟩ := t
      simp only at k0 HX1 HX2 HSi HPL
      obtain ⟨pp, pc, rfl⟩ := slk_form HSi.out
      obtain ⟨c0, c1, c2, c3, c4, hlw⟩ := (show CkS w.heap.size w d (.slice dp d.its.length dc) (.slice dq d.mem.length dcq) wr from ⟨HS3.out.1.underB HB.out HS3.out.1.lt, HS3.out.2.trans (HB.out.mono HS3.out.2.size)⟩).cells
      have HBW := Lib.hid (HS3.out.2.trans (HB.out.mono HS3.out.2.size))
      have HLX := Lib.hid (leaf_iff.1 HX2.out).2
      have hBl : B < wr.heap.size := Nat.lt_of_lt_of_le hB HB.out.size
      have HKE := Lib.hid (fun w' (hb : Below wr.heap.size wr w') => And.intro ((hb.cell (p := ⟨w.heap.size, 0, none⟩) hlw).trans c0) (And.intro ((hb.cell (p := ⟨w.heap.size, 1, none⟩) hlw).trans c1) (And.intro ((hb.cell (p := ⟨w.heap.size, 2, none⟩) hlw).trans c2) (And.intro ((hb.cell (p := ⟨w.heap.size, 3, none⟩) hlw).trans c3) (And.intro ((hb.cell (p := ⟨w.heap.size, 4, none⟩) hlw).trans c4) ((hb.cell (p := ⟨B, i, none⟩) hBl).trans k0))))))
      have HB0 := Lib.hid (below_drew (Below.refl wr.heap.size wr))
      have HGT := Lib.hid (fun w' (hb : Below wr.heap.size wr w') => refGet_any (HREP.out.under (HBW.out.trans (hb.mono HBW.out.size))) (HSi.out.under (HB.out.trans (hb.mono HB.out.size))) HPL.out HC.out HX1.out)
      go_upto_region 11 with fail
      go_cut [8] (fun v wx => ∃ (K : Nat) (xp : Option Addr) (xc : Nat) (xq : Option Addr) (xcq : Nat), v = .pointer (some ⟨K, 0, none⟩) ∧ Hid (Blk wx K #[.int .i64 x.k, .int .i64 x.n, .string (S x.s), .slice xp x.its.length xc, .slice xq x.mem.length xcq] 26) ∧ Hid (Below wr.heap.size wr wx))
      case first =>
        clear c0 c1 c2 c3 c4 hlw k0
        go_region_held3 (fun w' => w'.cell? ⟨w.heap.size, 0, none⟩ = some (.int .i64 d.k) ∧ w'.cell? ⟨w.heap.size, 1, none⟩ = some (.int .i64 d.n) ∧ w'.cell? ⟨w.heap.size, 2, none⟩ = some (.string (S d.s)) ∧ w'.cell? ⟨w.heap.size, 3, none⟩ = some (.slice dp d.its.length dc) ∧ w'.cell? ⟨w.heap.size, 4, none⟩ = some (.slice dq d.mem.length dcq) ∧ w'.cell? ⟨B, i, none⟩ = some (.slice pp P.length pc))
          (first
            | with_reducible exact HKE.out _ HB0.out
            | with_reducible exact HKE.out _ (below_drew ((Below.refl _ _).alloc (Nat.le_refl _) _))
            | with_reducible exact HKE.out _ HB4.out
            | with_reducible exact HKE.out _ (HB4.out.alloc HB4.out.size _)
            | with_reducible exact HKE.out _ (((((HB4.out.setCell HLE.out _).setCell HLE.out _).setCell HLE.out _).setCell HLE.out _).setCell HLE.out _)
            | go_keep)
          (first
            | (go_at_call 42; refine (HGT.out _ (by first | with_reducible exact HB0.out)).mono ?_; rintro e x4 ⟨⟨xi, xm, rfl, hx⟩, hb⟩; obtain ⟨xp, xc, rfl, -, -⟩ := hx.items; obtain ⟨xq, xcq, rfl, -, -⟩ := hx.members; have HB4 := Lib.hid (HB0.out.trans (hb.mono HB0.out.size)); simp only [dv]; clear hx hb)
            | (go_at_call 42; refine (HGT.out _ (by first | with_reducible exact below_drew ((Below.refl _ _).alloc (Nat.le_refl _) _))).mono ?_; rintro e x4 ⟨⟨xi, xm, rfl, hx⟩, hb⟩; obtain ⟨xp, xc, rfl, -, -⟩ := hx.items; obtain ⟨xq, xcq, rfl, -, -⟩ := hx.members; have hz := box_at hb; have z0 := hz.cell 0; have z1 := hz.cell 1; have z2 := hz.cell 2; have z3 := hz.cell 3; have z4 := hz.cell 4; have y0 := hz.frozen 0; have y1 := hz.frozen 1; have y2 := hz.frozen 2; have y3 := hz.frozen 3; have y4 := hz.frozen 4; simp at z0 z1 z2 z3 z4; have hlz := hz.lt; have HZ := Lib.hid hz; have HLE := Lib.hid (Nat.le_refl wr.heap.size); have HB4 := Lib.hid (box_bel hb); simp only [dv]; clear hx hb hz))
        · go_wp2_with fail
          go_meet
          exact ⟨_, xp, xc, xq, xcq, rfl, Lib.hid (Blk.new x4 _ _), Lib.hid (HB4.out.alloc HB4.out.size _)⟩
        · go_wp2_with fail
          go_meet
          exact ⟨_, xp, xc, xq, xcq, rfl, Lib.hid (((((HZ.out.set 0 _).set 1 _).set 2 _).set 3 _).set 4 _), Lib.hid (((((HB4.out.setCell HLE.out _).setCell HLE.out _).setCell HLE.out _).setCell HLE.out _).setCell HLE.out _)⟩
      case rest =>
        obtain ⟨K, xp, xc, xq, xcq, rfl, HK, HB5⟩ := hcut
        clear HKE HB0 HGT
        have HEQ := Lib.hid (HTI.out ⟨P, x, .slice pp P.length pc, .slice xp x.its.length xc, .slice xq x.mem.length xcq⟩ (by rw [HTE.out]; rfl))
        obtain ⟨U, hU1, hU2, hU3, hU4, hU5⟩ := HS.out
        have HU := Lib.hid (And.intro hU1 (And.intro hU2 hU5))
        have HOW := Lib.hid (own_under hU3 HB5.out)
        have HBW5 := Lib.hid (hU4.trans (HB5.out.mono hU4.size))
        have hBl : B < wc.heap.size := Nat.lt_of_lt_of_le hB (HB.out.trans (HB5.out.mono HB.out.size)).size
        have k0 := (HB5.out.cell (p := ⟨B, i, none⟩) (Nat.lt_of_lt_of_le hB HB.out.size)).trans k0
        have hKl := HK.out.lt
        have q0 := HK.out.cell 0
        have q1 := HK.out.cell 1
        have q2 := HK.out.cell 2
        have q3 := HK.out.cell 3
        have q4 := HK.out.cell 4
        simp at q0 q1 q2 q3 q4
        clear hU1 hU2 hU3 hU4 hU5 c0 c1 c2 c3 c4 hlw
        have HKE := Lib.hid (fun w' (hb : Below wc.heap.size wc w') => And.intro ((hb.cell (p := ⟨B, i, none⟩) hBl).trans k0) (And.intro ((hb.cell (p := ⟨K, 0, none⟩) hKl).trans q0) (And.intro ((hb.cell (p := ⟨K, 1, none⟩) hKl).trans q1) (And.intro ((hb.cell (p := ⟨K, 2, none⟩) hKl).trans q2) (And.intro ((hb.cell (p := ⟨K, 3, none⟩) hKl).trans q3) ((hb.cell (p := ⟨K, 4, none⟩) hKl).trans q4))))))
        have HB0 := Lib.hid (below_drew (Below.refl wc.heap.size wc))
        have HBD := Lib.hid (And.intro (show i + 1 ≤ maxLen by unfold maxLen; omega) (show (i + 1) * 104 ≤ 140737488355328 by omega))
        go_wp2_with fail
        go_region_held3 (fun w' => w'.cell? ⟨B, i, none⟩ = some (.slice pp P.length pc) ∧ w'.cell? ⟨K, 0, none⟩ = some (.int .i64 x.k) ∧ w'.cell? ⟨K, 1, none⟩ = some (.int .i64 x.n) ∧ w'.cell? ⟨K, 2, none⟩ = some (.string (S x.s)) ∧ w'.cell? ⟨K, 3, none⟩ = some (.slice xp x.its.length xc) ∧ w'.cell? ⟨K, 4, none⟩ = some (.slice xq x.mem.length xcq))
          (first
            | with_reducible exact HKE.out _ HB0.out
            | with_reducible exact HKE.out _ (below_drew ((Below.refl wc.heap.size wc).alloc (Nat.le_refl _) _))
            | with_reducible exact HK9.out
            | go_keep)
          (first
            | (refine step_app _ (by rfl) _ _ _ (by rfl) w3.heap.size 74 i0 (.agg #[.slice none 0 0, .int .i64 0, .int .i64 0, .string ⟨#[]⟩, .slice none 0 0, .slice none 0 0]) 6 104 Tryz.underlying48 hi hz0 hz1 hz2 rfl (by decide) (.slice up i uc) i (flatE U) (by rfl) (HOW.out.alloc _) (some ⟨wc.heap.size, 0, none⟩) 1 1 [.slice pp P.length pc, .int .i64 x.k, .int .i64 x.n, .string (S x.s), .slice xp x.its.length xc, .slice xq x.mem.length xcq] (by rfl) (new_srcN wc _ _) HBD.out.1 HBD.out.2 (HBW5.out.alloc HBW5.out.size _).size ?_; intro v9 x9 hown9 hgrow9 hat9; obtain ⟨u9p, u9c, rfl⟩ := own_form5 hown9; have HS9 := Lib.hid (FqS.add (w := w) (t := ⟨P, x, .slice pp P.length pc, .slice xp x.its.length xc, .slice xq x.mem.length xcq⟩) HU.out.1 HU.out.2.1 HU.out.2.2 hlt HEQ.out (HSi.out.mono fun B _ hB => Nat.le_trans HSZ2.out hB) (by rw [leafV, HLX.out.1, HLX.out.2]; exact ⟨_, _, _, _, rfl, rfl, rfl, rfl⟩) hown9 (below_own (below_drew (HBW5.out.alloc HBW5.out.size _)) (HOW.out.alloc _) hgrow9 (Nat.le_refl _) (HBW5.out.alloc HBW5.out.size _).size)); have hk9 := far_box HK.out HOW.out hgrow9; have HK9 := Lib.hid (And.intro ((far_cell HOW.out hgrow9 hB hBl).trans k0) (And.intro (hk9.cell 0) (And.intro (hk9.cell 1) (And.intro (hk9.cell 2) (And.intro (hk9.cell 3) (hk9.cell 4)))))); simp at HK9; clear hown9 hgrow9 hat9 hk9))
        all_goals
          go_wp2_with fail
          go_roundw
          case rel => exact ⟨i + 1, u9p, u9c, by simp, by go_num, hlt, HS9⟩
          case measure => simp [intOf]; omega
    · obtain rfl : i = T.length := by omega
      have HF := Lib.hid (HS.out.done HT.out HS3.out.2)
      clear HS HB
      go_wp2_with fail
      go_ret2
      rw [HV.out]
      exact HF.out
end
end Go.Proofs.YtoahmganodehkaaGreatDoor
