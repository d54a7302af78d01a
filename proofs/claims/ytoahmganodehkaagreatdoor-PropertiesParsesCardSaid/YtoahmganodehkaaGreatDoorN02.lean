import Derived.Handy
import Derived.LoopTactic
import Derived.Outline
import Derived.BigQuiet
import Derived.Laws.Cover1
import Derived.Deep.RegionHeld3
import Derived.Deep.DeepCutAuto
import Derived.Deep.CutBlock
import Derived.Deep.QuietTactic
import Derived.Test.YtoahmganodehkaaGreatDoorN01
import Derived.Test.YtoahmganodehkaaGreatDoorChecked
import Derived.Laws.AppendOwn
import Derived.Maps.AppendAt
import Derived.WalkSpells
import Derived.RangeFuncNested
import Derived.RangeFuncBound
import Derived.RangeFuncCalls
import Derived.RangeFuncLeaves
import Derived.RangeFuncBox
import Derived.Shelf.Abstract
import Derived.Shelf.RegionOpen
import Derived.OwnWalkIn
import Derived.TacticsInMore
import Derived.LoopNIn
import Derived.LoopIn
import Derived.Lib.AppendIntMem
import Derived.Lib.SmallJoins
import Derived.Test.YtoahmganodehkaaGreatDoorProg
namespace Go.Proofs.YtoahmganodehkaaGreatDoor
set_option linter.unusedSimpArgs false
set_option linter.unusedVariables false
section
open Go.RowKit
abbrev dval (k n : Int) (s : List UInt8) (p : Option Addr) (a cap : Nat) (q : Option Addr) (b caq : Nat) : Value := .agg #[.int .i64 k, .int .i64 n, .string (S s), .slice p a cap, .slice q b caq]
def onlyV (k n : Int) (s : List UInt8) (a b : Nat) : Bool :=
 decide (1 ≤ k) && decide (k ≤ 6) && (decide (k = 2) || decide (k = 3) || decide (n = 0)) && (decide (k = 4) || decide (s = [])) && (decide (k = 5) || decide (a = 0)) && (decide (k = 6) || decide (b = 0))
theorem plain_only (d : Dat) : plainB d = onlyV d.k d.n d.s d.its.length d.mem.length := by
 unfold plainB onlyV
 have h1 : d.its.isEmpty = decide (d.its.length = 0) := by cases d.its <;> simp
 have h2 : d.mem.isEmpty = decide (d.mem.length = 0) := by cases d.mem <;> simp
 first | rw [h1, h2]
theorem six_ways (k : Int) : k = 1 ∨ k = 2 ∨ k = 3 ∨ k = 4 ∨ k = 5 ∨ k = 6 ∨ ((k == 1) = false ∧ (k == 2) = false ∧ (k == 3) = false ∧ (k == 4) = false ∧ (k == 5) = false ∧ (k == 6) = false) := by
 simp only [beq_eq_false_iff_ne]; omega
theorem onlyV_none {k : Int} (h : (k == 1) = false ∧ (k == 2) = false ∧ (k == 3) = false ∧ (k == 4) = false ∧ (k == 5) = false ∧ (k == 6) = false) (n : Int) (s : List UInt8) (a b : Nat) : onlyV k n s a b = false := by
 simp only [beq_eq_false_iff_ne] at h
 unfold onlyV
 by_cases h1 : 1 ≤ k
 · rw [decide_eq_false (show ¬ k ≤ 6 by omega)]; simp only [Bool.and_false, Bool.false_and]
 · rw [decide_eq_false h1]; simp
theorem onlyV_eq (k n : Int) (s : List UInt8) (a b : Nat) (h : 1 ≤ k ∧ k ≤ 6) : onlyV k n s a b = ((decide (k = 2) || decide (k = 3) || (n == 0)) && (decide (k = 4) || s.isEmpty) && (decide (k = 5) || ((a : Int) == 0)) && (decide (k = 6) || ((b : Int) == 0))) := by
 unfold onlyV
 rw [decide_eq_true h.1, decide_eq_true h.2]
 have e1 : decide (n = 0) = (n == 0) := by rw [Bool.eq_iff_iff]; simp
 have e2 : decide (s = []) = s.isEmpty := by cases s <;> simp
 have e3 : decide (a = 0) = ((a : Int) == 0) := by rw [Bool.eq_iff_iff]; simp
 have e4 : decide (b = 0) = ((b : Int) == 0) := by rw [Bool.eq_iff_iff]; simp
 rw [e1, e2, e3, e4]; simp only [Bool.true_and]
theorem three_ways (a b c : Bool) : a = false ∨ (a = true ∧ b = false) ∨ (a = true ∧ b = true ∧ c = false) ∨ (a = true ∧ b = true ∧ c = true) := by
 cases a <;> cases b <;> cases c <;> simp
theorem four_ways (a b c d : Bool) : a = false ∨ (a = true ∧ b = false) ∨ (a = true ∧ b = true ∧ c = false) ∨ (a = true ∧ b = true ∧ c = true ∧ d = false) ∨ (a = true ∧ b = true ∧ c = true ∧ d = true) := by
 cases a <;> cases b <;> cases c <;> cases d <;> simp
set_option maxRecDepth 100000 in
set_option maxHeartbeats 2000000 in
theorem only_none (k n : Int) (s : List UInt8) (p q : Option Addr) (a cap b caq : Nat) (w : World) (h : (k == 1) = false ∧ (k == 2) = false ∧ (k == 3) = false ∧ (k == 4) = false ∧ (k == 5) = false ∧ (k == 6) = false) : Calls Tryz.prog 147 #[dval k n s p a cap q b caq] w fun e w' => e = .returned (.bool (onlyV k n s a b)) ∧ Below w.heap.size w w' := by
 obtain ⟨r, hr⟩ : ∃ r, onlyV k n s a b = r := ⟨_, rfl⟩
 rw [hr]
 have HR := Lib.hid (hr.symm.trans (onlyV_none h n s a b))
 clear hr
 obtain ⟨h1, h2, h3, h4, h5, h6⟩ := h
 all_goals
   go_enter Tryz.func147, Tryz.ntmps147
   go_upto_region 1 with fail
   go_quiet (fail)
   go_wp2_with fail
   go_ret
   exact ⟨by rw [HR.out]; rfl, below_drewN ((Below.refl _ _).alloc (Nat.le_refl _) _) _⟩
set_option maxRecDepth 100000 in
set_option maxHeartbeats 2000000 in
theorem only_1 (n : Int) (s : List UInt8) (p q : Option Addr) (a cap b caq : Nat) (w : World) : Calls Tryz.prog 147 #[dval 1 n s p a cap q b caq] w fun e w' => e = .returned (.bool (onlyV 1 n s a b)) ∧ Below w.heap.size w w' := by
 obtain ⟨r, hr⟩ : ∃ r, onlyV 1 n s a b = r := ⟨_, rfl⟩
 rw [hr]
 rw [onlyV_eq _ _ _ _ _ (by omega)] at hr
 have HR := Lib.hid hr
 clear hr
 rcases four_ways (n == 0) s.isEmpty ((a : Int) == 0) ((b : Int) == 0) with t1 | ⟨t1, t2⟩ | ⟨t1, t2, t3⟩ | ⟨t1, t2, t3, t4⟩ | ⟨t1, t2, t3, t4⟩
 all_goals
   go_enter Tryz.func147, Tryz.ntmps147
   go_upto_region 1 with fail
   go_quiet (fail)
   go_wp2_with fail
   go_ret
   exact ⟨by rw [← HR.out]; (try rw [t1]); (try rw [t2]); (try rw [t3]); (try rw [t4]); rfl, below_drewN ((Below.refl _ _).alloc (Nat.le_refl _) _) _⟩
set_option maxRecDepth 100000 in
set_option maxHeartbeats 2000000 in
theorem only_2 (n : Int) (s : List UInt8) (p q : Option Addr) (a cap b caq : Nat) (w : World) : Calls Tryz.prog 147 #[dval 2 n s p a cap q b caq] w fun e w' => e = .returned (.bool (onlyV 2 n s a b)) ∧ Below w.heap.size w w' := by
 obtain ⟨r, hr⟩ : ∃ r, onlyV 2 n s a b = r := ⟨_, rfl⟩
 rw [hr]
 rw [onlyV_eq _ _ _ _ _ (by omega)] at hr
 have HR := Lib.hid hr
 clear hr
 rcases three_ways s.isEmpty ((a : Int) == 0) ((b : Int) == 0) with t1 | ⟨t1, t2⟩ | ⟨t1, t2, t3⟩ | ⟨t1, t2, t3⟩
 all_goals
   go_enter Tryz.func147, Tryz.ntmps147
   go_upto_region 1 with fail
   go_quiet (fail)
   go_wp2_with fail
   go_ret
   exact ⟨by rw [← HR.out]; (try rw [t1]); (try rw [t2]); (try rw [t3]); (try rw [t4]); rfl, below_drewN ((Below.refl _ _).alloc (Nat.le_refl _) _) _⟩
set_option maxRecDepth 100000 in
set_option maxHeartbeats 2000000 in
theorem only_3 (n : Int) (s : List UInt8) (p q : Option Addr) (a cap b caq : Nat) (w : World) : Calls Tryz.prog 147 #[dval 3 n s p a cap q b caq] w fun e w' => e = .returned (.bool (onlyV 3 n s a b)) ∧ Below w.heap.size w w' := by
 obtain ⟨r, hr⟩ : ∃ r, onlyV 3 n s a b = r := ⟨_, rfl⟩
 rw [hr]
 rw [onlyV_eq _ _ _ _ _ (by omega)] at hr
 have HR := Lib.hid hr
 clear hr
 rcases three_ways s.isEmpty ((a : Int) == 0) ((b : Int) == 0) with t1 | ⟨t1, t2⟩ | ⟨t1, t2, t3⟩ | ⟨t1, t2, t3⟩
 all_goals
   go_enter Tryz.func147, Tryz.ntmps147
   go_upto_region 1 with fail
   go_quiet (fail)
   go_wp2_with fail
   go_ret
   exact ⟨by rw [← HR.out]; (try rw [t1]); (try rw [t2]); (try rw [t3]); (try rw [t4]); rfl, below_drewN ((Below.refl _ _).alloc (Nat.le_refl _) _) _⟩
set_option maxRecDepth 100000 in
set_option maxHeartbeats 2000000 in
theorem only_4 (n : Int) (s : List UInt8) (p q : Option Addr) (a cap b caq : Nat) (w : World) : Calls Tryz.prog 147 #[dval 4 n s p a cap q b caq] w fun e w' => e = .returned (.bool (onlyV 4 n s a b)) ∧ Below w.heap.size w w' := by
 obtain ⟨r, hr⟩ : ∃ r, onlyV 4 n s a b = r := ⟨_, rfl⟩
 rw [hr]
 rw [onlyV_eq _ _ _ _ _ (by omega)] at hr
 have HR := Lib.hid hr
 clear hr
 rcases three_ways (n == 0) ((a : Int) == 0) ((b : Int) == 0) with t1 | ⟨t1, t2⟩ | ⟨t1, t2, t3⟩ | ⟨t1, t2, t3⟩
 all_goals
   go_enter Tryz.func147, Tryz.ntmps147
   go_upto_region 1 with fail
   go_quiet (fail)
   go_wp2_with fail
   go_ret
   exact ⟨by rw [← HR.out]; (try rw [t1]); (try rw [t2]); (try rw [t3]); (try rw [t4]); rfl, below_drewN ((Below.refl _ _).alloc (Nat.le_refl _) _) _⟩
set_option maxRecDepth 100000 in
set_option maxHeartbeats 2000000 in
theorem only_5 (n : Int) (s : List UInt8) (p q : Option Addr) (a cap b caq : Nat) (w : World) : Calls Tryz.prog 147 #[dval 5 n s p a cap q b caq] w fun e w' => e = .returned (.bool (onlyV 5 n s a b)) ∧ Below w.heap.size w w' := by
 obtain ⟨r, hr⟩ : ∃ r, onlyV 5 n s a b = r := ⟨_, rfl⟩
 rw [hr]
 rw [onlyV_eq _ _ _ _ _ (by omega)] at hr
 have HR := Lib.hid hr
 clear hr
 rcases three_ways (n == 0) s.isEmpty ((b : Int) == 0) with t1 | ⟨t1, t2⟩ | ⟨t1, t2, t3⟩ | ⟨t1, t2, t3⟩
 all_goals
   go_enter Tryz.func147, Tryz.ntmps147
   go_upto_region 1 with fail
   go_quiet (fail)
   go_wp2_with fail
   go_ret
   exact ⟨by rw [← HR.out]; (try rw [t1]); (try rw [t2]); (try rw [t3]); (try rw [t4]); rfl, below_drewN ((Below.refl _ _).alloc (Nat.le_refl _) _) _⟩
set_option maxRecDepth 100000 in
set_option maxHeartbeats 2000000 in
theorem only_6 (n : Int) (s : List UInt8) (p q : Option Addr) (a cap b caq : Nat) (w : World) : Calls Tryz.prog 147 #[dval 6 n s p a cap q b caq] w fun e w' => e = .returned (.bool (onlyV 6 n s a b)) ∧ Below w.heap.size w w' := by
 obtain ⟨r, hr⟩ : ∃ r, onlyV 6 n s a b = r := ⟨_, rfl⟩
 rw [hr]
 rw [onlyV_eq _ _ _ _ _ (by omega)] at hr
 have HR := Lib.hid hr
 clear hr
 rcases three_ways (n == 0) s.isEmpty ((a : Int) == 0) with t1 | ⟨t1, t2⟩ | ⟨t1, t2, t3⟩ | ⟨t1, t2, t3⟩
 all_goals
   go_enter Tryz.func147, Tryz.ntmps147
   go_upto_region 1 with fail
   go_quiet (fail)
   go_wp2_with fail
   go_ret
   exact ⟨by rw [← HR.out]; (try rw [t1]); (try rw [t2]); (try rw [t3]); (try rw [t4]); rfl, below_drewN ((Below.refl _ _).alloc (Nat.le_refl _) _) _⟩
theorem only_any (k n : Int) (s : List UInt8) (p q : Option Addr) (a cap b caq : Nat) (w : World) : Calls Tryz.prog 147 #[dval k n s p a cap q b caq] w fun e w' => e = .returned (.bool (onlyV k n s a b)) ∧ Below w.heap.size w w' := by
 rcases six_ways k with rfl | rfl | rfl | rfl | rfl | rfl | h
 · exact only_1 n s p q a cap b caq w
 · exact only_2 n s p q a cap b caq w
 · exact only_3 n s p q a cap b caq w
 · exact only_4 n s p q a cap b caq w
 · exact only_5 n s p q a cap b caq w
 · exact only_6 n s p q a cap b caq w
 · exact only_none k n s p q a cap b caq w h
end
section
open Go.RowKit
theorem dVld_any (u : Int) (w : World) : Calls Tryz.prog 132 #[.int .i64 u] w fun e w' => e = .returned (.bool (vld u)) ∧ w = w' := by
 have HN := Lib.hid (show vld u = (decide (-1000000000000000 ≤ u) && decide (u ≤ 1000000000000000)) from rfl)
 generalize vld u = b at HN
 by_cases h1 : -1000000000000000 ≤ u
 all_goals
   go_enter Tryz.func132, Tryz.ntmps132
   go_wp2_with fail
   go_ret
   exact ⟨congrArg (fun b => Ending.returned (.bool b)) (by rw [HN.out, Bool.eq_iff_iff]; simp; omega), rfl⟩
theorem dRefVld_any (u : Int) (w : World) : Calls Tryz.prog 118 #[.int .i64 u] w fun e w' => e = .returned (.bool (vld u)) ∧ w = w' := by
 have HN := Lib.hid (show vld u = (decide (-1000000000000000 ≤ u) && decide (u ≤ 1000000000000000)) from rfl)
 generalize vld u = b at HN
 by_cases h1 : -1000000000000000 ≤ u
 all_goals
   go_enter Tryz.func118, Tryz.ntmps118
   go_wp2_with fail
   go_ret
   exact ⟨congrArg (fun b => Ending.returned (.bool b)) (by rw [HN.out, Bool.eq_iff_iff]; simp; omega), rfl⟩
def boxD (d : Dat) (vi vm : Value) : Array Value := #[.int .i64 d.k, .int .i64 d.n, .string (S d.s), vi, vm]
def ascF (m : List (List UInt8 × Dat)) (i : Nat) : Bool := ascM (m.drop i)
theorem ascM_two (x y : List UInt8 × Dat) (r : List (List UInt8 × Dat)) : ascM (x :: y :: r) = (Op.bytesLess x.1 y.1 && ascM (y :: r)) := by rw [ascM]
theorem ascF_step {m : List (List UInt8 × Dat)} {i : Nat} (h : i + 1 < m.length) : ascF m i = (Op.bytesLess (m[i]'(by omega)).1 m[i + 1].1 && ascF m (i + 1)) := by
 unfold ascF
 rw [List.drop_eq_getElem_cons (show i < m.length by omega), List.drop_eq_getElem_cons h, ascM_two]
theorem ascF_end {m : List (List UInt8 × Dat)} {i : Nat} (h : m.length ≤ i + 1) : ascF m i = true := by
 unfold ascF
 rcases Nat.lt_or_ge i m.length with h1 | h1
 · rw [List.drop_eq_getElem_cons h1, List.drop_of_length_le h]; simp [ascM]
 · rw [List.drop_of_length_le h1]; rfl
def badV (k n : Int) : Bool := ((k == 2) && !(n == 0) && !(n == 1)) || ((k == 3) && !vld n)
theorem badNum_eq (d : Dat) : badNum d = badV d.k d.n := by
 unfold badNum badV
 have e (a b : Int) : decide (a = b) = (a == b) := by rw [Bool.eq_iff_iff]; simp
 rw [e, e, e, e]
theorem bad_ways (k n : Int) : ((k == 2) = true ∧ (n != 0) = false ∧ (k == 3) = false ∧ badV k n = false) ∨ ((k == 2) = true ∧ (n != 0) = true ∧ (n != 1) = false ∧ (k == 3) = false ∧ badV k n = false) ∨ ((k == 2) = true ∧ (n != 0) = true ∧ (n != 1) = true ∧ badV k n = true) ∨ ((k == 2) = false ∧ (k == 3) = true ∧ badV k n = !vld n) ∨ ((k == 2) = false ∧ (k == 3) = false ∧ badV k n = false) := by
 unfold badV
 by_cases h2 : k = 2
 · subst h2
   by_cases h0 : n = 0
   · subst h0; simp
   · by_cases h1 : n = 1
     · subst h1; simp
     · simp [h0, h1]
 · by_cases h3 : k = 3
   · subst h3; simp
   · simp [h2, h3]
def CkS (N : Nat) (w : World) (d : Dat) (vi vm : Value) (W : World) : Prop := Blk W N (boxD d vi vm) 26 ∧ Below N w W
theorem CkS.cells {N : Nat} {w W : World} {d : Dat} {vi vm : Value} (h : CkS N w d vi vm W) :
   W.cell? ⟨N, 0, none⟩ = some (.int .i64 d.k) ∧ W.cell? ⟨N, 1, none⟩ = some (.int .i64 d.n) ∧ W.cell? ⟨N, 2, none⟩ = some (.string (S d.s)) ∧ W.cell? ⟨N, 3, none⟩ = some vi ∧ W.cell? ⟨N, 4, none⟩ = some vm ∧ N < W.heap.size :=
 ⟨h.1.cell 0, h.1.cell 1, h.1.cell 2, h.1.cell 3, h.1.cell 4, h.1.lt⟩
theorem CkS.below {N : Nat} {w W W' : World} {d : Dat} {vi vm : Value} (h : CkS N w d vi vm W) (hb : Below W.heap.size W W') : CkS N w d vi vm W' :=
 ⟨h.1.below hb, h.2.trans (hb.mono (Nat.le_of_lt h.1.lt))⟩
theorem CkS.new (w : World) (d : Dat) (vi vm : Value) : CkS w.heap.size w d vi vm (w.alloc (.cells (boxD d vi vm) 26)) := ⟨Blk.new w _ _, (Below.refl _ _).alloc (Nat.le_refl _) _⟩
theorem CkS.drewN {N : Nat} {w W : World} {d : Dat} {vi vm : Value} (h : CkS N w d vi vm W) (n : Nat) : CkS N w d vi vm (W.drewN n) := ⟨h.1, below_drewN h.2 n⟩
end
section
def kids (d : Dat) : List Dat := d.its ++ d.mem.map fun p => p.2
theorem chkI_app : ∀ (a b : List Dat) (lv : Nat), chkI (a ++ b) lv = if chkI a lv = 0 then chkI b lv else chkI a lv
 | [], b, lv => by rw [List.nil_append, chkI, if_pos rfl]
 | x :: a, b, lv => by
   rw [List.cons_append, chkI, chkI, chkI_app a b lv]
   by_cases h : chk x lv = 0
   · rw [if_pos h, if_pos h]
   · rw [if_neg h, if_neg h, if_neg h]
theorem chkM_map : ∀ (m : List (List UInt8 × Dat)) (lv : Nat), chkM m lv = chkI (m.map fun p => p.2) lv
 | [], lv => by rw [chkM, List.map_nil, chkI]
 | (l, x) :: m, lv => by rw [chkM, List.map_cons, chkI, chkM_map m lv]
theorem chk_kids (d : Dat) (lv : Nat) : chk d lv = if 16 < lv then 9 else if ownE d = 0 then chkI (kids d) (lv + 1) else ownE d := by
 rw [chk_eq, kids, chkI_app, chkM_map]
theorem kid_lt {d x : Dat} (h : x ∈ kids d) : SizeOf.sizeOf x < SizeOf.sizeOf d := by
 rcases List.mem_append.1 h with h | h
 · exact dat_it h
 · obtain ⟨p, hp, rfl⟩ := List.mem_map.1 h
   exact dat_mg hp
theorem kids_len (d : Dat) : (kids d).length = d.its.length + d.mem.length := by unfold kids; simp
theorem kid_lim {d x : Dat} (hl : limD d = true) (h : x ∈ kids d) : limD x = true := by
 obtain ⟨-, -, -, h1, h2⟩ := lim_iff.1 hl
 rcases List.mem_append.1 h with h | h
 · exact h1 x h
 · obtain ⟨p, hp, rfl⟩ := List.mem_map.1 h
   exact (h2 p hp).2
theorem lim_len {d : Dat} (hl : limD d = true) : d.its.length ≤ 1000000 ∧ d.mem.length ≤ 1000000 ∧ d.s.length ≤ 1000000 := by
 obtain ⟨h0, h1, h2, -, -⟩ := lim_iff.1 hl
 exact ⟨h1, h2, h0⟩
theorem chkI_step {L : List Dat} {lv i : Nat} (h : i < L.length) : chkI (L.drop i) lv = if chk L[i] lv = 0 then chkI (L.drop (i + 1)) lv else chk L[i] lv := by
 rw [List.drop_eq_getElem_cons h, chkI]
theorem chkI_done {L : List Dat} {lv i : Nat} (h : L.length ≤ i) : chkI (L.drop i) lv = 0 := by
 rw [List.drop_of_length_le h, chkI]
end
section
open Go.RowKit
theorem own5 {W : World} {base : Nat} {e : TypeId} {v : Value} {T : List (Dat × Value × Value)} (h : W.ownsRow base e 5 v T.length (flat5 T)) :
   ∃ p cap B, v = .slice p T.length cap ∧ ∀ (j : Nat) (_ : j < T.length), p = some ⟨B, 0, none⟩ ∧ T.length ≤ cap ∧ base ≤ B ∧ B < W.heap.size ∧ DCell W B (j * 5) T[j].1 T[j].2.1 T[j].2.2 := by
 rcases own_head h with ⟨rfl, h0⟩ | ⟨g, cap, rfl, hb, hc, hg, -⟩
 · exact ⟨none, 0, 0, by rw [h0], fun j h => by omega⟩
 · refine ⟨_, cap, g, rfl, fun j h' => ⟨rfl, hc, hb, hg, ?_⟩⟩
   have c0 := h.cells (g := g) rfl (j * 5 + 0) _ (flat5_get T j h' 0 (by omega))
   have c1 := h.cells (g := g) rfl (j * 5 + 1) _ (flat5_get T j h' 1 (by omega))
   have c2 := h.cells (g := g) rfl (j * 5 + 2) _ (flat5_get T j h' 2 (by omega))
   have c3 := h.cells (g := g) rfl (j * 5 + 3) _ (flat5_get T j h' 3 (by omega))
   have c4 := h.cells (g := g) rfl (j * 5 + 4) _ (flat5_get T j h' 4 (by omega))
   rw [Lib.add_plain, Nat.zero_add] at c0 c1 c2 c3 c4
   exact ⟨c0, c1, c2, c3, c4⟩
def SlK (W : World) (ok : Nat → Prop) (v : Value) (L : List Stp) : Prop :=
 ∃ p cap B o, v = .slice p L.length cap ∧ (0 < L.length → p = some ⟨B, o, none⟩ ∧ L.length ≤ cap ∧ B < W.heap.size ∧ ok B) ∧
   ∀ (j : Nat) (h : j < L.length), W.cell? ⟨B, o + j * 2, none⟩ = some (.string (S L[j].lab)) ∧ W.cell? ⟨B, o + j * 2 + 1, none⟩ = some (.int .i64 L[j].idx)
theorem SlK.kept {W W' : World} {ok ok' : Nat → Prop} {v : Value} {L : List Stp} (h : SlK W ok v L) (hs : W.heap.size ≤ W'.heap.size) (hk : ∀ B, B < W.heap.size → ok B → ok' B ∧ ∀ o, W'.cell? ⟨B, o, none⟩ = W.cell? ⟨B, o, none⟩) : SlK W' ok' v L := by
 obtain ⟨p, cap, B, o, rfl, hp, hc⟩ := h
 refine ⟨p, cap, B, o, rfl, fun h0 => ?_, fun j h => ?_⟩
 · obtain ⟨h1, h2, h3, h4⟩ := hp h0
   exact ⟨h1, h2, Nat.lt_of_lt_of_le h3 hs, (hk B h3 h4).1⟩
 · obtain ⟨h1, h2, h3, h4⟩ := hp (by omega)
   have k := (hk B h3 h4).2
   exact ⟨(k _).trans (hc j h).1, (k _).trans (hc j h).2⟩
theorem SlK.under {W W' : World} {ok : Nat → Prop} {v : Value} {L : List Stp} (h : SlK W ok v L) (hb : Below W.heap.size W W') : SlK W' ok v L :=
 h.kept hb.size fun B hB hk => ⟨hk, fun o => hb.cell (p := ⟨B, o, none⟩) hB⟩
theorem SlK.mono {W : World} {ok ok' : Nat → Prop} {v : Value} {L : List Stp} (h : SlK W ok v L) (hk : ∀ B, B < W.heap.size → ok B → ok' B) : SlK W ok' v L :=
 h.kept (Nat.le_refl _) fun B hB h => ⟨hk B hB h, fun _ => rfl⟩
theorem SlK.grown {W W' : World} {row : Option Nat} {ok : Nat → Prop} {v : Value} {L : List Stp} (h : SlK W ok v L) (hg : W.grownBy W' row) (hk : ∀ B, ok B → some B ≠ row) : SlK W' ok v L :=
 h.kept hg.size fun B hB h => ⟨h, fun o => grown_cell hg hB (hk B h) o⟩
theorem SlK.tail {W : World} {ok : Nat → Prop} {p : Option Addr} {cap : Nat} {x : Stp} {L : List Stp} (h : SlK W ok (.slice p (L.length + 1) cap) (x :: L)) :
   ∃ B o, p = some ⟨B, o, none⟩ ∧ L.length + 1 ≤ cap ∧ B < W.heap.size ∧ ok B ∧ W.cell? ⟨B, o, none⟩ = some (.string (S x.lab)) ∧ W.cell? ⟨B, o + 1, none⟩ = some (.int .i64 x.idx) ∧
     (∀ cap', L.length ≤ cap' → SlK W ok (.slice (some ⟨B, o + 2, none⟩) L.length cap') L) := by
 obtain ⟨p', cap', B, o, e, hp, hc⟩ := h
 injection e with e1 e2 e3
 subst e1; subst e3
 obtain ⟨h1, h2, h3, h4⟩ := hp (by simp)
 have h0 := hc 0 (by simp)
 rw [Nat.zero_mul, Nat.add_zero] at h0
 refine ⟨B, o, h1, h2, h3, h4, h0.1, h0.2, fun cap' hcap => ⟨_, _, B, o + 2, rfl, fun _ => ⟨rfl, hcap, h3, h4⟩, fun j h => ?_⟩⟩
 have := hc (j + 1) (by simp; omega)
 rw [show o + (j + 1) * 2 = o + 2 + j * 2 by omega] at this
 exact this
def EntR (W : World) (ok : Nat → Prop) (v : Value) (L : List Ent) : Prop :=
 ∃ p cap B o, v = .slice p L.length cap ∧ (0 < L.length → p = some ⟨B, o, none⟩ ∧ L.length ≤ cap ∧ B < W.heap.size ∧ ok B) ∧
   ∀ (j : Nat) (h : j < L.length), ∃ pv vi vm, W.cell? ⟨B, o + j * 6, none⟩ = some pv ∧ DCell W B (o + j * 6 + 1) L[j].2 vi vm ∧ SlK W ok pv L[j].1 ∧ Rep W ok L[j].2 vi vm
theorem DCell.kept {W W' : World} {B o : Nat} {d : Dat} {vi vm : Value} (h : DCell W B o d vi vm) (k : ∀ o, W'.cell? ⟨B, o, none⟩ = W.cell? ⟨B, o, none⟩) : DCell W' B o d vi vm :=
 ⟨(k _).trans h.c0, (k _).trans h.c1, (k _).trans h.c2, (k _).trans h.c3, (k _).trans h.c4⟩
theorem Rep.kept {W W' : World} {ok ok' : Nat → Prop} (hs : W.heap.size ≤ W'.heap.size) (hk : ∀ B, B < W.heap.size → ok B → ok' B ∧ ∀ o, W'.cell? ⟨B, o, none⟩ = W.cell? ⟨B, o, none⟩) {d : Dat} {vi vm : Value} (h : Rep W ok d vi vm) : Rep W' ok' d vi vm := by
 induction h with
 | mk p q cap caq B o B' o' vi vm ui um hl hp hc hr hq hd hs' ihr ihs =>
   refine .mk p q cap caq B o B' o' vi vm ui um hl (fun h => ?_) (fun j h => ?_) ihr (fun h => ?_) (fun j h => ?_) ihs
   · obtain ⟨h1, h2, h3, h4⟩ := hp h; exact ⟨h1, h2, Nat.lt_of_lt_of_le h3 hs, (hk B h3 h4).1⟩
   · obtain ⟨-, -, h3, h4⟩ := hp (by omega)
     exact (hc j h).kept (hk B h3 h4).2
   · obtain ⟨h1, h2, h3, h4⟩ := hq h; exact ⟨h1, h2, Nat.lt_of_lt_of_le h3 hs, (hk B' h3 h4).1⟩
   · obtain ⟨-, -, h3, h4⟩ := hq (by omega)
     have k := (hk B' h3 h4).2
     exact ⟨(k _).trans (hd j h).1, (hd j h).2.kept k⟩
theorem EntR.kept {W W' : World} {ok ok' : Nat → Prop} {v : Value} {L : List Ent} (h : EntR W ok v L) (hs : W.heap.size ≤ W'.heap.size) (hk : ∀ B, B < W.heap.size → ok B → ok' B ∧ ∀ o, W'.cell? ⟨B, o, none⟩ = W.cell? ⟨B, o, none⟩) : EntR W' ok' v L := by
 obtain ⟨p, cap, B, o, rfl, hp, hc⟩ := h
 refine ⟨p, cap, B, o, rfl, fun h0 => ?_, fun j h => ?_⟩
 · obtain ⟨h1, h2, h3, h4⟩ := hp h0
   exact ⟨h1, h2, Nat.lt_of_lt_of_le h3 hs, (hk B h3 h4).1⟩
 · obtain ⟨h1, h2, h3, h4⟩ := hp (by omega)
   have k := (hk B h3 h4).2
   obtain ⟨pv, vi, vm, c0, c1, c2, c3⟩ := hc j h
   exact ⟨pv, vi, vm, (k _).trans c0, c1.kept k, c2.kept hs hk, c3.kept hs hk⟩
theorem EntR.under {W W' : World} {ok : Nat → Prop} {v : Value} {L : List Ent} (h : EntR W ok v L) (hb : Below W.heap.size W W') : EntR W' ok v L :=
 h.kept hb.size fun B hB hk => ⟨hk, fun o => hb.cell (p := ⟨B, o, none⟩) hB⟩
theorem EntR.mono {W : World} {ok ok' : Nat → Prop} {v : Value} {L : List Ent} (h : EntR W ok v L) (hk : ∀ B, B < W.heap.size → ok B → ok' B) : EntR W ok' v L :=
 h.kept (Nat.le_refl _) fun B hB h => ⟨hk B hB h, fun _ => rfl⟩
theorem EntR.grown {W W' : World} {row : Option Nat} {ok : Nat → Prop} {v : Value} {L : List Ent} (h : EntR W ok v L) (hg : W.grownBy W' row) (hk : ∀ B, ok B → some B ≠ row) : EntR W' ok v L :=
 h.kept hg.size fun B hB h => ⟨h, fun o => grown_cell hg hB (hk B h) o⟩
structure Env where
 path : List Stp
 data : Dat
 pv : Value
 vi : Value
 vm : Value
def Env.e (t : Env) : Ent := (t.path, t.data)
def cellsE (t : Env) : List Value := [t.pv, .int .i64 t.data.k, .int .i64 t.data.n, .string (S t.data.s), t.vi, t.vm]
def flatE (T : List Env) : List Value := T.flatMap cellsE
def Env.good (W : World) (ok : Nat → Prop) (t : Env) : Prop := SlK W ok t.pv t.path ∧ Rep W ok t.data t.vi t.vm
theorem flatE_snoc (T : List Env) (t : Env) : flatE (T ++ [t]) = flatE T ++ cellsE t := by unfold flatE; simp
theorem flatE_len (T : List Env) : (flatE T).length = T.length * 6 := by
 induction T with
 | nil => rfl
 | cons t r ih => unfold flatE at *; rw [List.flatMap_cons, List.length_append, ih]; simp [cellsE]; omega
theorem flatE_get : ∀ (T : List Env) (j : Nat) (h : j < T.length) (i : Nat), i < 6 → (flatE T)[j * 6 + i]? = (cellsE T[j])[i]?
 | t :: r, 0, _, i, hi => by
   unfold flatE
   rw [List.flatMap_cons, Nat.zero_mul, Nat.zero_add, List.getElem?_append_left (by simp [cellsE]; omega)]; rfl
 | t :: r, j + 1, h, i, hi => by
   have := flatE_get r j (by simpa using h) i hi
   unfold flatE at *
   rw [List.flatMap_cons, List.getElem?_append_right (by simp [cellsE]; omega), show (j + 1) * 6 + i - (cellsE t).length = j * 6 + i by simp [cellsE]; omega, this]; rfl
theorem own_ents {W : World} {base : Nat} {e : TypeId} {ok : Nat → Prop} {v : Value} {T : List Env} (h : W.ownsRow base e 6 v T.length (flatE T)) (hok : ∀ B, base ≤ B → ok B) (ht : ∀ t ∈ T, t.good W ok) : EntR W ok v (T.map Env.e) := by
 rcases own_head h with ⟨rfl, h0⟩ | ⟨g, cap, rfl, hb, hc, hg, -⟩
 · exact ⟨none, 0, 0, 0, by simp [h0], fun h => by simp at h; omega, fun j h => by simp at h; omega⟩
 · refine ⟨_, cap, g, 0, by simp, fun _ => ⟨rfl, by simpa using hc, hg, hok g hb⟩, fun j h' => ?_⟩
   simp only [List.length_map] at h'
   have c0 := h.cells (g := g) rfl (j * 6 + 0) _ (flatE_get T j h' 0 (by omega))
   have c1 := h.cells (g := g) rfl (j * 6 + 1) _ (flatE_get T j h' 1 (by omega))
   have c2 := h.cells (g := g) rfl (j * 6 + 2) _ (flatE_get T j h' 2 (by omega))
   have c3 := h.cells (g := g) rfl (j * 6 + 3) _ (flatE_get T j h' 3 (by omega))
   have c4 := h.cells (g := g) rfl (j * 6 + 4) _ (flatE_get T j h' 4 (by omega))
   have c5 := h.cells (g := g) rfl (j * 6 + 5) _ (flatE_get T j h' 5 (by omega))
   rw [Lib.add_plain, Nat.zero_add] at c0 c1 c2 c3 c4 c5
   have hg := ht _ (List.getElem_mem h')
   refine ⟨T[j].pv, T[j].vi, T[j].vm, ?_, ?_, ?_, ?_⟩
   · rw [Nat.zero_add]; exact c0
   · rw [Nat.zero_add, List.getElem_map]; exact ⟨c1, c2, c3, c4, c5⟩
   · rw [List.getElem_map]; exact hg.1
   · rw [List.getElem_map]; exact hg.2
theorem EntR.open {W : World} {ok : Nat → Prop} {v : Value} {L : List Ent} (h : EntR W ok v L) : ∃ p cap B o, v = .slice p L.length cap ∧
   ∀ (j : Nat) (_ : j < L.length), ∃ pv vi vm, p = some ⟨B, o, none⟩ ∧ L.length ≤ cap ∧ B < W.heap.size ∧ ok B ∧ W.cell? ⟨B, o + j * 6, none⟩ = some pv ∧ DCell W B (o + j * 6 + 1) L[j].2 vi vm ∧ SlK W ok pv L[j].1 ∧ Rep W ok L[j].2 vi vm := by
 obtain ⟨p, cap, B, o, rfl, hp, hc⟩ := h
 refine ⟨p, cap, B, o, rfl, fun j h => ?_⟩
 obtain ⟨h1, h2, h3, h4⟩ := hp (by omega)
 obtain ⟨pv, vi, vm, c⟩ := hc j h
 exact ⟨pv, vi, vm, h1, h2, h3, h4, c⟩
theorem EntR.envs {W : World} {ok : Nat → Prop} {v : Value} {L : List Ent} (h : EntR W ok v L) : ∃ (T : List Env) (p : Option Addr) (cap B o : Nat), T.map Env.e = L ∧ v = .slice p T.length cap ∧ (0 < T.length → p = some ⟨B, o, none⟩ ∧ T.length ≤ cap ∧ B < W.heap.size ∧ ok B) ∧
   (∀ t ∈ T, t.good W ok) ∧ (∀ (i : Nat) (u : Value), (flatE T)[i]? = some u → W.cell? ⟨B, o + i, none⟩ = some u) := by
 obtain ⟨p, cap, B, o, rfl, hp, hc⟩ := h
 let F : Nat → Env := fun j => if h : j < L.length then ⟨L[j].1, L[j].2, (hc j h).choose, (hc j h).choose_spec.choose, (hc j h).choose_spec.choose_spec.choose⟩ else ⟨[], dat0, .nilFunc, .nilFunc, .nilFunc⟩
 have hF : ∀ j (h : j < L.length), (F j).e = L[j] ∧ W.cell? ⟨B, o + j * 6, none⟩ = some (F j).pv ∧ DCell W B (o + j * 6 + 1) (F j).data (F j).vi (F j).vm ∧ SlK W ok (F j).pv (F j).path ∧ Rep W ok (F j).data (F j).vi (F j).vm := by
   intro j h
   have e : F j = ⟨L[j].1, L[j].2, (hc j h).choose, (hc j h).choose_spec.choose, (hc j h).choose_spec.choose_spec.choose⟩ := dif_pos h
   rw [e]
   exact ⟨rfl, (hc j h).choose_spec.choose_spec.choose_spec⟩
 have hT : ((List.range L.length).map F).length = L.length := by simp
 refine ⟨(List.range L.length).map F, p, cap, B, o, ?_, by rw [hT], by rw [hT]; exact hp, ?_, ?_⟩
 · apply List.ext_getElem (by simp)
   intro j h1 h2
   simp only [List.getElem_map, List.getElem_range]
   exact (hF j h2).1
 · intro t ht
   obtain ⟨j, hj, rfl⟩ := List.mem_map.1 ht
   exact (hF j (List.mem_range.1 hj)).2.2.2
 · intro i u hu
   have hi : i < L.length * 6 := by
     have := (List.getElem?_eq_some_iff.1 hu).1
     rw [flatE_len, hT] at this; exact this
   have hj : i / 6 < L.length := by omega
   have hm : i % 6 < 6 := Nat.mod_lt _ (by decide)
   have e : i = i / 6 * 6 + i % 6 := by omega
   have hg := flatE_get ((List.range L.length).map F) (i / 6) (by rw [hT]; exact hj) (i % 6) hm
   rw [← e, hu] at hg
   simp only [List.getElem_map, List.getElem_range] at hg
   obtain ⟨-, q0, q1, -, -⟩ := hF (i / 6) hj
   generalize hr : i % 6 = r at hg hm
   rw [hr] at e
   generalize i / 6 = k at *
   subst e
   match r, hm, hg with
   | 0, _, hg => injection hg with hg; rw [hg]; exact q0
   | 1, _, hg => injection hg with hg; rw [hg]; exact q1.c0
   | 2, _, hg => injection hg with hg; rw [hg]; exact q1.c1
   | 3, _, hg => injection hg with hg; rw [hg]; exact q1.c2
   | 4, _, hg => injection hg with hg; rw [hg]; exact q1.c3
   | 5, _, hg => injection hg with hg; rw [hg]; exact q1.c4
end
section
open Go.RowKit
theorem infoDat : (Tryz.prog.info? 26).map (fun i => (i.zero, i.size, i.bytes)) = some (some (.agg #[.int .i64 0, .int .i64 0, .string ⟨#[]⟩, .slice none 0 0, .slice none 0 0]), 5, 80) := by kernel_rfl
set_option maxHeartbeats 1000000 in
theorem cloneDat_any (p : Option Addr) (n c : Nat) (news : List Value) (w : World) (hl : news.length = n * 5) (hn : n ≤ 10000000) (hp : ∀ a, p = some a → ∀ j u, news[j]? = some u → w.cell? (a.add j) = some u) (h0 : p = none → n = 0) (h1 : ∀ u ∈ news, u.oneCell' = true) :
   Calls Tryz.prog 148 #[.slice p n c] w fun e w' => ∃ v', e = .returned v' ∧ w'.ownsRow w.heap.size 26 5 v' n news ∧ Below w.heap.size w w' := by
 obtain ⟨i0, hi, hz0, hz1, hz2⟩ := info_parts infoDat
 have q22 := fun (w : World) (a : Option Addr) (n c n' c' : Nat) => Lib.run_eql_slice_nil (P := Tryz.prog) w _ _ a n c n' c' Tryz.underlying23
 cases p with
 | none =>
   obtain rfl := h0 rfl
   obtain rfl : news = [] := List.length_eq_zero_iff.1 (by omega)
   clear hp h0 h1 hl
   go_enter Tryz.func148, Tryz.ntmps148
   go_wp2_with fail
   go_ret
   exact ⟨_, rfl, World.ownsRow_nil _ _ _ _, Below.refl _ _⟩
 | some a =>
   have HA := Lib.hid (hp a rfl)
   have H1 := Lib.hid h1
   have HL := Lib.hid hl
   clear hp h0 h1 hl
   go_enter Tryz.func148, Tryz.ntmps148
   go_wp2_with (at_builtin; refine wpList_append_own _ rfl _ _ 23 rfl w.heap.size 26 i0 (.agg #[.int .i64 0, .int .i64 0, .string ⟨#[]⟩, .slice none 0 0, .slice none 0 0]) 5 80 Tryz.underlying23 hi hz0 hz1 hz2 rfl (by decide) (.slice (some ⟨w.heap.size, 0, none⟩) 0 0) 0 [] rfl (World.ownsRow_made w #[] 0 (Nat.le_refl _) (Nat.zero_le _) (by simp)) a n c news rfl HL.out (fun j u hj => by obtain ⟨b, o, s⟩ := a; exact Lib.cell?_alloc_some _ (HA.out j u hj)) H1.out (by unfold maxLen; omega) (by omega) (by simp) ?_; intro v' w1 hown hgrow _)
   have HO := Lib.hid hown
   have HG := Lib.hid hgrow
   clear hown hgrow
   go_wp2_with fail
   go_ret
   refine ⟨v', rfl, by simpa using HO.out, ?_⟩
   refine ((Below.refl _ w).alloc (Nat.le_refl _) _).grown HG.out (by simp) ?_
   intro k hk
   simp [Value.ownBlock] at hk
   omega
theorem infoStpA : (Tryz.prog.info? 44).map (fun i => (i.zero, i.size, i.bytes)) = some (some (.agg #[.string ⟨#[]⟩, .int .i64 0]), 2, 24) := by kernel_rfl
set_option maxHeartbeats 1000000 in
theorem cloneStp_any (p : Option Addr) (n c : Nat) (news : List Value) (w : World) (hl : news.length = n * 2) (hn : n ≤ 10000000) (hp : ∀ a, p = some a → ∀ j u, news[j]? = some u → w.cell? (a.add j) = some u) (h0 : p = none → n = 0) (h1 : ∀ u ∈ news, u.oneCell' = true) :
   Calls Tryz.prog 64 #[.slice p n c] w fun e w' => ∃ v', e = .returned v' ∧ w'.ownsRow w.heap.size 44 2 v' n news ∧ Below w.heap.size w w' := by
 obtain ⟨i0, hi, hz0, hz1, hz2⟩ := info_parts infoStpA
 have q22 := fun (w : World) (a : Option Addr) (n c n' c' : Nat) => Lib.run_eql_slice_nil (P := Tryz.prog) w _ _ a n c n' c' Tryz.underlying40
 cases p with
 | none =>
   obtain rfl := h0 rfl
   obtain rfl : news = [] := List.length_eq_zero_iff.1 (by omega)
   clear hp h0 h1 hl
   go_enter Tryz.func64, Tryz.ntmps64
   go_wp2_with fail
   go_ret
   exact ⟨_, rfl, World.ownsRow_nil _ _ _ _, Below.refl _ _⟩
 | some a =>
   have HA := Lib.hid (hp a rfl)
   have H1 := Lib.hid h1
   have HL := Lib.hid hl
   clear hp h0 h1 hl
   go_enter Tryz.func64, Tryz.ntmps64
   go_wp2_with (at_builtin; refine wpList_append_own _ rfl _ _ 40 rfl w.heap.size 44 i0 (.agg #[.string ⟨#[]⟩, .int .i64 0]) 2 24 Tryz.underlying40 hi hz0 hz1 hz2 rfl (by decide) (.slice (some ⟨w.heap.size, 0, none⟩) 0 0) 0 [] rfl (World.ownsRow_made w #[] 0 (Nat.le_refl _) (Nat.zero_le _) (by simp)) a n c news rfl HL.out (fun j u hj => by obtain ⟨b, o, s⟩ := a; exact Lib.cell?_alloc_some _ (HA.out j u hj)) H1.out (by unfold maxLen; omega) (by omega) (by simp) ?_; intro v' w1 hown hgrow _)
   have HO := Lib.hid hown
   have HG := Lib.hid hgrow
   clear hown hgrow
   go_wp2_with fail
   go_ret
   refine ⟨v', rfl, by simpa using HO.out, ?_⟩
   refine ((Below.refl _ w).alloc (Nat.le_refl _) _).grown HG.out (by simp) ?_
   intro k hk
   simp [Value.ownBlock] at hk
   omega
theorem infoEnt : (Tryz.prog.info? 42).map (fun i => (i.zero, i.size, i.bytes)) = some (some (.agg #[.slice none 0 0, .int .i64 0, .int .i64 0, .string ⟨#[]⟩, .slice none 0 0, .slice none 0 0]), 6, 104) := by kernel_rfl
set_option maxHeartbeats 1000000 in
theorem cloneEnt_any (p : Option Addr) (n c : Nat) (news : List Value) (w : World) (hl : news.length = n * 6) (hn : n ≤ 10000000) (hp : ∀ a, p = some a → ∀ j u, news[j]? = some u → w.cell? (a.add j) = some u) (h0 : p = none → n = 0) (h1 : ∀ u ∈ news, u.oneCell' = true) :
   Calls Tryz.prog 68 #[.slice p n c] w fun e w' => ∃ v', e = .returned v' ∧ w'.ownsRow w.heap.size 42 6 v' n news ∧ Below w.heap.size w w' := by
 obtain ⟨i0, hi, hz0, hz1, hz2⟩ := info_parts infoEnt
 have q22 := fun (w : World) (a : Option Addr) (n c n' c' : Nat) => Lib.run_eql_slice_nil (P := Tryz.prog) w _ _ a n c n' c' Tryz.underlying37
 cases p with
 | none =>
   obtain rfl := h0 rfl
   obtain rfl : news = [] := List.length_eq_zero_iff.1 (by omega)
   clear hp h0 h1 hl
   go_enter Tryz.func68, Tryz.ntmps68
   go_wp2_with fail
   go_ret
   exact ⟨_, rfl, World.ownsRow_nil _ _ _ _, Below.refl _ _⟩
 | some a =>
   have HA := Lib.hid (hp a rfl)
   have H1 := Lib.hid h1
   have HL := Lib.hid hl
   clear hp h0 h1 hl
   go_enter Tryz.func68, Tryz.ntmps68
   go_wp2_with (at_builtin; refine wpList_append_own _ rfl _ _ 37 rfl w.heap.size 42 i0 (.agg #[.slice none 0 0, .int .i64 0, .int .i64 0, .string ⟨#[]⟩, .slice none 0 0, .slice none 0 0]) 6 104 Tryz.underlying37 hi hz0 hz1 hz2 rfl (by decide) (.slice (some ⟨w.heap.size, 0, none⟩) 0 0) 0 [] rfl (World.ownsRow_made w #[] 0 (Nat.le_refl _) (Nat.zero_le _) (by simp)) a n c news rfl HL.out (fun j u hj => by obtain ⟨b, o, s⟩ := a; exact Lib.cell?_alloc_some _ (HA.out j u hj)) H1.out (by unfold maxLen; omega) (by omega) (by simp) ?_; intro v' w1 hown hgrow _)
   have HO := Lib.hid hown
   have HG := Lib.hid hgrow
   clear hown hgrow
   go_wp2_with fail
   go_ret
   refine ⟨v', rfl, by simpa using HO.out, ?_⟩
   refine ((Below.refl _ w).alloc (Nat.le_refl _) _).grown HG.out (by simp) ?_
   intro k hk
   simp [Value.ownBlock] at hk
   omega
end
section
open Go.RowKit
theorem own_kind {d : Dat} (h1 : plainB d = false) : ownE d = 11 := by unfold ownE; rw [if_pos h1]
theorem own_range {d : Dat} (h1 : plainB d = true) (h2 : badNum d = true) : ownE d = 1 := by unfold ownE; rw [if_neg (by rw [h1]; decide), if_pos h2]
theorem own_twice {d : Dat} (h1 : plainB d = true) (h2 : badNum d = false) (h3 : ascM d.mem = false) : ownE d = 6 := by unfold ownE; rw [if_neg (by rw [h1]; decide), if_neg (by rw [h2]; decide), if_pos h3]
theorem own_none {d : Dat} (h1 : plainB d = true) (h2 : badNum d = false) (h3 : ascM d.mem = true) : ownE d = 0 := by unfold ownE; rw [if_neg (by rw [h1]; decide), if_neg (by rw [h2]; decide), if_neg (by rw [h3]; decide)]
set_option maxRecDepth 100000 in
set_option maxHeartbeats 4000000 in
theorem ownD_any {d : Dat} {vi vm : Value} {ok : Nat → Prop} {w : World} (hr : Rep w ok d vi vm) :
   Calls Tryz.prog 104 #[.agg #[.int .i64 d.k, .int .i64 d.n, .string (S d.s), vi, vm]] w fun e w' => e = .returned (.int .i64 (ownE d : Int)) ∧ Below w.heap.size w w' := by
   obtain ⟨r, hrr⟩ : ∃ r, ownE d = r := ⟨_, rfl⟩
   rw [hrr]
   have HR := Lib.hid hrr
   clear hrr
   obtain ⟨p, cap, rfl, hil, -⟩ := hr.items
   obtain ⟨q, caq, rfl, hml, hme⟩ := hr.members
   clear hr
   unfold maxLen at hil hml
   have HM := Lib.hid hme
   clear hme
   have hS : CkS w.heap.size w d (.slice p d.its.length cap) (.slice q d.mem.length caq) (w.alloc (.cells #[.int .i64 d.k, .int .i64 d.n, .string (S d.s), .slice p d.its.length cap, .slice q d.mem.length caq] 26)) := CkS.new w d _ _
   go_enter Tryz.func104, Tryz.ntmps104
   go_upto_region 1 with fail
   generalize w.alloc (.cells #[.int .i64 d.k, .int .i64 d.n, .string (S d.s), .slice p d.its.length cap, .slice q d.mem.length caq] 26) = W at hS ⊢
   obtain ⟨c0, c1, c2, c3, c4, hlw⟩ := hS.cells
   have HS := Lib.hid hS
   clear hS
   have HP := Lib.hid (plain_only d)
   go_wp2_with fail
   refine (only_any d.k d.n d.s p q d.its.length cap d.mem.length caq _).mono ?_
   rintro e w1 ⟨rfl, hb⟩
   have HS1 := Lib.hid (HS.out.below hb)
   rw [← HP.out]
   clear hb HS c0 c1 c2 c3 c4 hlw
   obtain ⟨c0, c1, c2, c3, c4, hlw⟩ := HS1.out.cells
   rcases Bool.eq_false_or_eq_true (plainB d) with hpl | hpl
   case inr =>
     rw [hpl]
     have HV := Lib.hid ((own_kind hpl).symm.trans HR.out)
     go_wp2_with fail
     go_ret
     exact ⟨by rw [← HV.out]; rfl, HS1.out.2⟩
   rw [hpl]
   have HPL := Lib.hid hpl
   clear hpl
   go_upto_region 3 with fail
   go_cut [8] (fun v wx => v = .bool (badV d.k d.n) ∧ Hid (CkS w.heap.size w d (.slice p d.its.length cap) (.slice q d.mem.length caq) wx))
   case first =>
     rcases bad_ways d.k d.n with ⟨t1, t2, t3, tv⟩ | ⟨t1, t2, t3, t4, tv⟩ | ⟨t1, t2, t3, tv⟩ | ⟨t1, t2, tv⟩ | ⟨t1, t2, tv⟩
     all_goals
       have TV := Lib.hid tv
       clear tv
       go_wp2_with (go_at_call 132; refine (dVld_any _ _).mono ?_; rintro e w' ⟨rfl, rfl⟩)
       go_meet
       exact ⟨by rw [TV.out], HS1⟩
   case rest =>
     obtain ⟨rfl, HS2⟩ := hcut
     have HB0 := Lib.hid (badNum_eq d)
     clear c0 c1 c2 c3 c4 hlw HS1
     rcases Bool.eq_false_or_eq_true (badV d.k d.n) with hbv | hbv
     · rw [hbv]
       have HV := Lib.hid ((own_range HPL.out (HB0.out.trans hbv)).symm.trans HR.out)
       go_wp2_with fail
       go_ret
       exact ⟨by rw [← HV.out]; rfl, HS2.out.2⟩
     rw [hbv]
     have HBV := Lib.hid (HB0.out.trans hbv)
     clear hbv HB0
     obtain ⟨-, -, -, c3, c4, hlw⟩ := HS2.out.cells
     go_wp2_with fail
     go_loopw [3] (fun x wr => ∃ i : Nat, x = .int .i64 ((i + 1 : Nat) : Int) ∧ (i = 0 ∨ i + 1 ≤ d.mem.length) ∧ Hid (CkS w.heap.size w d (.slice p d.its.length cap) (.slice q d.mem.length caq) wr) ∧ Hid (ascM d.mem = ascF d.mem i)) (fun x _ => d.mem.length + 1 - (intOf x).toNat)
     case atStart => exact ⟨0, rfl, .inl rfl, HS2, Lib.hid rfl⟩
     case round =>
       obtain ⟨i, rfl, hi, HC, HV⟩ := hrel
       by_cases hlt : i + 1 < d.mem.length
       · obtain ⟨B, o, xi, xm, hqq, hcap, hB, hlab, -, -⟩ := HM.out i (by omega)
         obtain ⟨B', o', ui, um, hqq', -, -, hlab', -, -⟩ := HM.out (i + 1) hlt
         have hae : B' = B ∧ o' = o := by rw [hqq] at hqq'; injection hqq' with h; injection h with h1 h2; exact ⟨h1.symm, h2.symm⟩
         obtain ⟨rfl, rfl⟩ := hae
         subst hqq
         have k0 := (HC.out.2.cell (p := ⟨B', o' + i * 6, none⟩) hB).trans hlab
         have k1 := (HC.out.2.cell (p := ⟨B', o' + (i + 1) * 6, none⟩) hB).trans hlab'
         have HV1 := Lib.hid (HV.out.trans (ascF_step hlt))
         clear hqq' hlab hlab' HV
         generalize (d.mem[i]'(by omega)).1 = x at k0 HV1
         generalize d.mem[i + 1].1 = y at k1 HV1
         obtain ⟨-, -, -, c3, c4, hlw⟩ := HC.out.cells
         have b0 : (0 : Int) ≤ ((i + 1 : Nat) : Int) - 1 := by omega
         have b1 : ((i + 1 : Nat) : Int) - 1 < (d.mem.length : Int) := by omega
         have b2 : (((i + 1 : Nat) : Int) - 1).toNat = i := by omega
         go_wp2_with fail
         go_quiet (fail)
         have HC2 := Lib.hid (HC.out.drewN nq)
         rcases Bool.eq_false_or_eq_true (Op.bytesLess x y) with hxy | hxy
         · have HV2 := Lib.hid (show ascM d.mem = ascF d.mem (i + 1) by rw [HV1.out, hxy]; rfl)
           rw [hxy, Bool.not_true]
           go_wp2_with fail
           go_roundw
           case rel => exact ⟨i + 1, by go_num, .inr hlt, HC2, HV2⟩
           case measure => simp [intOf]; omega
         · have HV2 := Lib.hid (show ascM d.mem = false by rw [HV1.out, hxy]; rfl)
           rw [hxy, Bool.not_false]
           have HV3 := Lib.hid ((own_twice HPL.out HBV.out HV2.out).symm.trans HR.out)
           go_wp2_with fail
           go_ret
           exact ⟨by rw [← HV3.out]; rfl, HC2.out.2⟩
       · have HV1 := Lib.hid (HV.out.trans (ascF_end (by omega)))
         clear HV
         have HV2 := Lib.hid ((own_none HPL.out HBV.out HV1.out).symm.trans HR.out)
         obtain ⟨-, -, -, c3, c4, hlw⟩ := HC.out.cells
         go_wp2_with fail
         go_ret
         exact ⟨by rw [← HV2.out]; rfl, HC.out.2⟩
end
section
open Go.RowKit
theorem cells_new5 (w : World) (vs : List Value) (t : TypeId) : ∀ j u, vs[j]? = some u → (w.alloc (.cells vs.toArray t)).cell? ((⟨w.heap.size, 0, none⟩ : Addr).add j) = some u := by
 intro j u h
 rw [Addr.add_lit, Nat.zero_add, (Blk.new w vs.toArray t).cell j]
 simpa using h
theorem cells_new_at {W : World} {arr : Array Value} {vs : List Value} {t : TypeId} {N : Nat} (hN : W.heap.size = N) (ha : arr.toList = vs) : ∀ j u, vs[j]? = some u → (W.alloc (.cells arr t)).cell? ((⟨N, 0, none⟩ : Addr).add j) = some u := by
 subst hN; subst ha
 exact cells_new5 W arr.toList t
theorem own_form5 {W : World} {base : Nat} {e : TypeId} {size : Nat} {v : Value} {n : Nat} {xs : List Value} (h : W.ownsRow base e size v n xs) : ∃ p cap, v = .slice p n cap := by
 rcases h.2 with ⟨hv, h0⟩ | ⟨g, cap, cur, hv, -⟩
 · exact ⟨none, 0, by rw [hv, h0]⟩
 · exact ⟨_, cap, hv⟩
theorem flat5_len (T : List (Dat × Value × Value)) : (flat5 T).length = T.length * 5 := by
 induction T with
 | nil => rfl
 | cons t r ih => unfold flat5 at *; rw [List.flatMap_cons, List.length_append, ih]; simp [cells5]; omega
theorem Rep.one {W : World} {ok : Nat → Prop} {d : Dat} {vi vm : Value} (h : Rep W ok d vi vm) : vi.oneCell' = true ∧ vm.oneCell' = true := by
 cases h with
 | mk => exact ⟨rfl, rfl⟩
theorem flat5_one {W : World} {ok : Nat → Prop} {T : List (Dat × Value × Value)} (h : ∀ t ∈ T, Rep W ok t.1 t.2.1 t.2.2) : ∀ u ∈ flat5 T, u.oneCell' = true := by
 intro u hu
 obtain ⟨t, ht, hu⟩ := List.mem_flatMap.1 hu
 obtain ⟨h1, h2⟩ := (h t ht).one
 simp only [cells5, List.mem_cons, List.not_mem_nil, or_false] at hu
 rcases hu with rfl | rfl | rfl | rfl | rfl
 · rfl
 · rfl
 · rfl
 · exact h1
 · exact h2
theorem Rep.itemsT {W : World} {ok : Nat → Prop} {d : Dat} {vi vm : Value} (h : Rep W ok d vi vm) : ∃ (p : Option Addr) (cap : Nat) (T : List (Dat × Value × Value)), vi = .slice p T.length cap ∧ T.map (fun t => t.1) = d.its ∧ (∀ t ∈ T, Rep W ok t.1 t.2.1 t.2.2) ∧
   (p = none → T.length = 0) ∧ ∀ a, p = some a → ∀ j u, (flat5 T)[j]? = some u → W.cell? (a.add j) = some u := by
 cases h with
 | mk p q cap caq B o B' o' vi vm ui um hl hp hc hr hq hd hs =>
   have hT : (List.ofFn fun j : Fin d.its.length => (d.its[j], vi j, vm j)).length = d.its.length := by simp
   refine ⟨p, cap, List.ofFn fun j : Fin d.its.length => (d.its[j], vi j, vm j), by rw [hT], ?_, ?_, ?_, ?_⟩
   · apply List.ext_getElem (by simp)
     intro j h1 h2
     simp
   · intro t ht
     obtain ⟨j, rfl⟩ := List.mem_ofFn.1 ht
     exact hr j j.2
   · intro hp0
     rw [hT]
     rcases Nat.eq_zero_or_pos d.its.length with h | h
     · exact h
     · obtain ⟨h1, -⟩ := hp h
       rw [hp0] at h1; cases h1
   · intro a ha i u hu
     have hi : i < d.its.length * 5 := by
       have := (List.getElem?_eq_some_iff.1 hu).1
       rw [flat5_len, hT] at this; exact this
     have hj : i / 5 < d.its.length := by omega
     have hm : i % 5 < 5 := Nat.mod_lt _ (by decide)
     have e : i = i / 5 * 5 + i % 5 := by omega
     have hg := flat5_get (List.ofFn fun j : Fin d.its.length => (d.its[j], vi j, vm j)) (i / 5) (by rw [hT]; exact hj) (i % 5) hm
     rw [← e, hu] at hg
     simp only [List.getElem_ofFn] at hg
     obtain ⟨h1, -, -, -⟩ := hp (by omega)
     rw [ha] at h1
     injection h1 with h1
     subst h1
     rw [Lib.add_plain, e]
     have q1 := hc (i / 5) hj
     generalize i % 5 = r at hg hm
     generalize i / 5 = k at *
     rw [← Nat.add_assoc]
     match r, hm, hg with
     | 0, _, hg => injection hg with hg; rw [hg]; exact q1.c0
     | 1, _, hg => injection hg with hg; rw [hg]; exact q1.c1
     | 2, _, hg => injection hg with hg; rw [hg]; exact q1.c2
     | 3, _, hg => injection hg with hg; rw [hg]; exact q1.c3
     | 4, _, hg => injection hg with hg; rw [hg]; exact q1.c4
def KidS (w : World) (ok : Nat → Prop) (d : Dat) (e : Ending) (w' : World) : Prop :=
 ∃ v T, e = .returned v ∧ w'.ownsRow (w.heap.size + 1) 26 5 v T.length (flat5 T) ∧ T.map (fun t => t.1) = kids d ∧ (∀ t ∈ T, Rep w ok t.1 t.2.1 t.2.2) ∧ Below w.heap.size w w'
theorem below_own {N B : Nat} {w a b : World} {e : TypeId} {s n : Nat} {v : Value} {xs : List Value} (h : Below N w a) (ho : a.ownsRow B e s v n xs) (hg : a.grownBy b v.ownBlock) (hB : N ≤ B) (ha : N ≤ a.heap.size) : Below N w b := by
 refine h.grown hg ha ?_
 intro k hk
 rcases own_head ho with ⟨rfl, -⟩ | ⟨g, cap, rfl, hb, -, -, ek⟩
 · simp [Value.ownBlock] at hk
 · rw [ek] at hk; injection hk with hk; omega
theorem ck_own {N B : Nat} {w a b : World} {d : Dat} {vi vm : Value} {e : TypeId} {s n : Nat} {v : Value} {xs : List Value} (h : CkS N w d vi vm a) (ho : a.ownsRow B e s v n xs) (hg : a.grownBy b v.ownBlock) (hB : N < B) : CkS N w d vi vm b := by
 refine ⟨h.1.kept hg ?_, below_own h.2 ho hg (by omega) (Nat.le_of_lt h.1.lt)⟩
 intro hk
 rcases own_head ho with ⟨rfl, -⟩ | ⟨g, cap, rfl, hb, -, -, ek⟩
 · simp [Value.ownBlock] at hk
 · rw [ek] at hk; injection hk with hk; omega
theorem CkS.alloc {N : Nat} {w W : World} {d : Dat} {vi vm : Value} (h : CkS N w d vi vm W) (o : Obj) : CkS N w d vi vm (W.alloc o) := h.below ((Below.refl _ _).alloc (Nat.le_refl _) _)
theorem take_kid {d : Dat} {i : Nat} (h : i < d.mem.length) : (d.mem.take (i + 1)).map (fun p => p.2) = (d.mem.take i).map (fun p => p.2) ++ [d.mem[i].2] := by
 rw [List.take_succ_eq_append_getElem h, List.map_append]; rfl
set_option maxRecDepth 100000 in
set_option maxHeartbeats 4000000 in
theorem children_any {d : Dat} {vi vm : Value} {ok : Nat → Prop} {w : World} (hr : Rep w ok d vi vm) (hlim : limD d = true) :
   Calls Tryz.prog 105 #[.agg #[.int .i64 d.k, .int .i64 d.n, .string (S d.s), vi, vm]] w (KidS w ok d) := by
 obtain ⟨i0, hi, hz0, hz1, hz2⟩ := info_parts infoDat
 obtain ⟨hl1, hl2, -⟩ := lim_len hlim
 obtain ⟨q, caq, rfl, -, hme⟩ := hr.members
 obtain ⟨p, cap, T, rfl, hT, hrep, h0, hcell⟩ := hr.itemsT
 clear hr hlim
 have hTl : T.length = d.its.length := by rw [← hT]; simp
 have hT1 : T.length ≤ 1000000 := by omega
 have HM := Lib.hid hme
 have HT := Lib.hid (And.intro hT hrep)
 have HC := Lib.hid (And.intro h0 hcell)
 clear hme hT hrep h0 hcell hTl hl1
 go_enter Tryz.func105, Tryz.ntmps105
 go_upto_region 1 with fail
 have hS : CkS w.heap.size w d (.slice p T.length cap) (.slice q d.mem.length caq) (w.alloc (.cells #[.int .i64 d.k, .int .i64 d.n, .string (S d.s), .slice p T.length cap, .slice q d.mem.length caq] 26)) := CkS.new w d _ _
 have HCl := Lib.hid (cloneDat_any p T.length cap (flat5 T) (w.alloc (.cells #[.int .i64 d.k, .int .i64 d.n, .string (S d.s), .slice p T.length cap, .slice q d.mem.length caq] 26)) (flat5_len T) (by omega) (fun a ha j u hu => by obtain ⟨b, o, s⟩ := a; exact Lib.cell?_alloc_some _ (HC.out.2 _ ha j u hu)) HC.out.1 (flat5_one HT.out.2))
 have hsz : (w.alloc (.cells #[.int .i64 d.k, .int .i64 d.n, .string (S d.s), .slice p T.length cap, .slice q d.mem.length caq] 26)).heap.size = w.heap.size + 1 := by simp
 have HZ := Lib.hid hsz
 clear hsz
 generalize w.alloc (.cells #[.int .i64 d.k, .int .i64 d.n, .string (S d.s), .slice p T.length cap, .slice q d.mem.length caq] 26) = W at hS HCl HZ ⊢
 obtain ⟨c0, c1, c2, c3, c4, hlw⟩ := hS.cells
 have HS := Lib.hid hS
 clear hS
 go_wp2_with fail
 refine HCl.out.mono ?_
 rintro e w1 ⟨v, rfl, hown, hb⟩
 have HO := hown
 rw [HZ.out] at HO
 have HO := Lib.hid HO
 have HS1 := Lib.hid (HS.out.below hb)
 clear hown hb HCl
 obtain ⟨d0, d1, d2, d3, d4, dlw⟩ := HS1.out.cells
 clear c0 c1 c2 c3 c4 hlw
 go_wp2_with fail
 obtain ⟨d0, d1, d2, d3, d4, dlw⟩ := HS1.out.cells
 clear HS HC
 go_loopw [3, 12] (fun v x wr => ∃ (i : Nat) (U : List (Dat × Value × Value)), x = .int .i64 (i : Int) ∧ i ≤ d.mem.length ∧ U.length ≤ 1000000 + i ∧ Hid (CkS w.heap.size w d (.slice p T.length cap) (.slice q d.mem.length caq) wr) ∧ Hid (wr.ownsRow (w.heap.size + 1) 26 5 v U.length (flat5 U)) ∧ Hid (U.map (fun t => t.1) = d.its ++ (d.mem.take i).map (fun p => p.2) ∧ ∀ t ∈ U, Rep w ok t.1 t.2.1 t.2.2)) (fun _ x _ => d.mem.length - (intOf x).toNat)
 case atStart => exact ⟨0, T, rfl, Nat.zero_le _, by omega, HS1, HO, Lib.hid ⟨by rw [HT.out.1]; simp, HT.out.2⟩⟩
 case round =>
   clear HO HS1 HT hT1 d0 d1 d2 d3 d4 dlw
   obtain ⟨i, U, rfl, hi', hU, HC, HO, HT⟩ := hrel
   obtain ⟨vp, vc, rfl⟩ := own_form5 HO.out
   by_cases hlt : i < d.mem.length
   · obtain ⟨B, o, xi, xm, rfl, hcap, hB, hlab, hc, hx⟩ := HM.out i hlt
     obtain ⟨k0, k1, k2, k3, k4⟩ := hc.below HC.out.2 hB
     have k5 := (HC.out.2.cell (p := ⟨B, o + i * 6, none⟩) hB).trans hlab
     obtain ⟨p1, cap1, rfl, -, -⟩ := hx.items
     obtain ⟨q1, caq1, rfl, -, -⟩ := hx.members
     have HX := Lib.hid hx
     have HK := Lib.hid (take_kid hlt)
     obtain ⟨-, -, -, -, c4, hlw⟩ := HC.out.cells
     clear hc hx hlab
     generalize d.mem[i] = y at k0 k1 k2 k3 k4 k5 HX HK
     obtain ⟨l, x⟩ := y
     simp only at k0 k1 k2 k3 k4 k5 HX HK
     go_wp2_with (at_builtin; refine wpList_append_own _ rfl _ _ 23 rfl (w.heap.size + 1) 26 i0 (.agg #[.int .i64 0, .int .i64 0, .string ⟨#[]⟩, .slice none 0 0, .slice none 0 0]) 5 80 Tryz.underlying23 hi hz0 hz1 hz2 rfl (by decide) (.slice vp U.length vc) U.length (flat5 U) rfl ((HO.out.alloc _).alloc _) ⟨wr.heap.size + 1, 0, none⟩ 1 1 (cells5 (x, .slice p1 x.its.length cap1, .slice q1 x.mem.length caq1)) rfl rfl (cells_new_at (by simp) rfl) (by simp [cells5, Value.oneCell']) (by unfold maxLen; omega) (by omega) (by simp; omega) ?_; intro v' w2 hown2 hgrow _)
     have HC3 := Lib.hid (ck_own ((HC.out.alloc _).alloc _) ((HO.out.alloc _).alloc _) hgrow (Nat.lt_succ_self _))
     have HO3 := hown2
     rw [← flat5_snoc, show U.length + 1 = (U ++ [(x, Value.slice p1 x.its.length cap1, Value.slice q1 x.mem.length caq1)]).length by simp] at HO3
     have HO3 := Lib.hid HO3
     clear hown2 hgrow
     go_wp2_with fail
     go_roundw
     case rel =>
       · refine ⟨i + 1, U ++ [(x, Value.slice p1 x.its.length cap1, Value.slice q1 x.mem.length caq1)], by go_num, hlt, by simp; omega, HC3, HO3, Lib.hid ⟨?_, ?_⟩⟩
         · rw [HK.out, List.map_append, HT.out.1, List.append_assoc]; rfl
         · intro t ht
           rcases List.mem_append.1 ht with ht | ht
           · exact HT.out.2 t ht
           · rw [List.mem_singleton.1 ht]; exact HX.out
     case measure => simp [intOf]; omega
   · have hil : i = d.mem.length := by omega
     have HK := Lib.hid (show U.map (fun t => t.1) = kids d by rw [HT.out.1, hil, List.take_length]; rfl)
     clear hil
     go_wp2_with fail
     go_ret
     exact ⟨_, U, rfl, HO.out, HK.out, HT.out.2, HC.out.2⟩
set_option maxRecDepth 100000 in
set_option maxHeartbeats 4000000 in
theorem check_any (m : Nat) : ∀ (d : Dat), SizeOf.sizeOf d < m → ∀ (lv : Nat), lv ≤ 17 → ∀ (vi vm : Value) (ok : Nat → Prop) (w : World), limD d = true → Rep w ok d vi vm →
   Calls Tryz.prog 59 #[.agg #[.int .i64 d.k, .int .i64 d.n, .string (S d.s), vi, vm], .int .i64 (lv : Int)] w fun e w' => e = .returned (.int .i64 (chk d lv : Int)) ∧ Below w.heap.size w w' := by
 induction m with
 | zero => intro d h; exact absurd h (Nat.not_lt_zero _)
 | succ m ih =>
   intro d hd lv hlv vi vm ok w hlim hr
   obtain ⟨r, hrr⟩ : ∃ r, chk d lv = r := ⟨_, rfl⟩
   rw [hrr]
   have HR := Lib.hid ((chk_kids d lv).symm.trans hrr)
   have IH := Lib.hid ih
   have HREP := Lib.hid hr
   have HLIM := Lib.hid hlim
   have HD := Lib.hid hd
   clear hrr ih hr hlim hd
   have hS : CkS w.heap.size w d vi vm (w.alloc (.cells #[.int .i64 d.k, .int .i64 d.n, .string (S d.s), vi, vm] 26)) := CkS.new w d _ _
   by_cases h16 : 16 < lv
   · have HV := Lib.hid (show 9 = r by rw [← HR.out, if_pos h16])
     have HS := Lib.hid hS
     clear hS
     go_enter Tryz.func59, Tryz.ntmps59
     go_wp2_with fail
     go_ret
     exact ⟨by rw [← HV.out]; rfl, HS.out.2⟩
   have HR0 := HR.out
   rw [if_neg h16] at HR0
   have HR1 := Lib.hid HR0
   clear HR HR0
   go_enter Tryz.func59, Tryz.ntmps59
   go_upto_region 1 with fail
   generalize w.alloc (.cells #[.int .i64 d.k, .int .i64 d.n, .string (S d.s), vi, vm] 26) = W at hS ⊢
   obtain ⟨c0, c1, c2, c3, c4, hlw⟩ := hS.cells
   have HS := Lib.hid hS
   clear hS
   go_wp2_with fail
   refine (ownD_any (HREP.out.under HS.out.2)).mono ?_
   rintro e w1 ⟨rfl, hb⟩
   have HS1 := Lib.hid (HS.out.below hb)
   clear hb HS c0 c1 c2 c3 c4 hlw
   obtain ⟨c0, c1, c2, c3, c4, hlw⟩ := HS1.out.cells
   rcases Nat.eq_zero_or_pos (ownE d) with ho | ho
   case inr =>
     have HV0 := HR1.out
     rw [if_neg (by omega : ¬ ownE d = 0)] at HV0
     have HV := Lib.hid HV0
     clear HV0
     generalize ownE d = z at ho HV HR1 ⊢
     have ez : ((z : Int) == 0) = false := beq_eq_false_iff_ne.2 (by omega)
     have ez' : ((z : Int) != 0) = true := by simpa using (by omega : ¬ z = 0)
     go_wp2_with fail
     go_ret
     exact ⟨by rw [HV.out]; rfl, HS1.out.2⟩
   have HV0 := HR1.out
   rw [if_pos ho] at HV0
   have HV := Lib.hid (show chkI ((kids d).drop 0) (lv + 1) = r from HV0)
   clear HV0
   rw [ho]
   clear ho HR1
   go_wp2_with fail
   refine (children_any (HREP.out.under HS1.out.2) HLIM.out).mono ?_
   rintro e w2 ⟨v, T, rfl, hown, hT, hrep, hb⟩
   have HS2 := Lib.hid (HS1.out.below hb)
   clear c0 c1 c2 c3 c4 hlw
   obtain ⟨p, cap, B, rfl, hcell⟩ := own5 hown
   have HCE := Lib.hid hcell
   have HT := Lib.hid hT
   have HRP := Lib.hid (fun t ht => (hrep t ht).under hb)
   have hTl : T.length = (kids d).length := by rw [← hT]; simp
   have hTm : T.length ≤ 2000000 := by
     have := lim_len HLIM.out
     rw [hTl, kids_len]; omega
   have HTL := Lib.hid hTl
   clear hown hT hrep hcell hb hTl
   go_wp2_with fail
   go_loopw [19] (fun x wr => ∃ i : Nat, x = .int .i64 (i : Int) ∧ i ≤ T.length ∧ Hid (Below w.heap.size w wr) ∧ Hid (Below w2.heap.size w2 wr) ∧ Hid (chkI ((kids d).drop i) (lv + 1) = r)) (fun x _ => T.length - (intOf x).toNat)
   case atStart => exact ⟨0, rfl, Nat.zero_le _, Lib.hid HS2.out.2, Lib.hid (Below.refl _ _), HV⟩
   case round =>
     obtain ⟨i, rfl, hi, HB, HB2, HV⟩ := hrel
     by_cases hlt : i < T.length
     · obtain ⟨rfl, hcap, hB0, hB, hc⟩ := HCE.out i hlt
       have hik : i < (kids d).length := by have := HTL.out; omega
       have hTi : T[i].1 = (kids d)[i] := by
         have := HT.out
         have h2 : (T.map fun t => t.1)[i]'(by simpa using hlt) = (kids d)[i] := by congr 1
         simpa using h2
       have HV0 := HV.out
       rw [chkI_step hik, ← hTi] at HV0
       have HV1 := Lib.hid HV0
       clear HV0
       have hsz := Nat.lt_of_lt_of_le (kid_lt (List.getElem_mem hik)) (Nat.le_of_lt_succ HD.out)
       rw [← hTi] at hsz
       have HL := Lib.hid hsz
       have hkl := kid_lim HLIM.out (List.getElem_mem hik)
       rw [← hTi] at hkl
       have HKL := Lib.hid hkl
       have HX := Lib.hid ((HRP.out T[i] (List.getElem_mem hlt)).under HB2.out)
       obtain ⟨k0, k1, k2, k3, k4⟩ := hc.below HB2.out hB
       clear hc hTi hsz hkl hik HV
       generalize T[i] = t at k0 k1 k2 k3 k4 HV1 HL HX HKL
       obtain ⟨x, xi, xm⟩ := t
       simp only at k0 k1 k2 k3 k4 HV1 HL HX HKL
       obtain ⟨p1, cap1, rfl, -, -⟩ := HX.out.items
       obtain ⟨q1, caq1, rfl, -, -⟩ := HX.out.members
       go_wp2_with fail
       refine (IH.out x HL.out (lv + 1) (by omega) _ _ ok _ HKL.out (HX.out.under ((Below.refl _ wr).alloc (Nat.le_refl _) _))).mono ?_
       rintro e w3 ⟨rfl, hb⟩
       have HB3 := Lib.hid ((((HB.out.alloc HB.out.size _)).trans (hb.mono (by have := HB.out.size; simp; omega))))
       have HB4 := Lib.hid ((((HB2.out.alloc HB2.out.size _)).trans (hb.mono (by have := HB2.out.size; simp; omega))))
       clear hb
       rcases Nat.eq_zero_or_pos (chk x (lv + 1)) with hl | hl
       · have HV0 := HV1.out
         rw [if_pos hl] at HV0
         have HV2 := Lib.hid HV0
         clear HV0
         rw [hl]
         clear hl
         go_wp2_with fail
         go_roundw
         case rel => exact ⟨i + 1, by go_num, hlt, HB3, HB4, HV2⟩
         case measure => simp [intOf]; omega
       · have HV0 := HV1.out
         rw [if_neg (by omega : ¬ chk x (lv + 1) = 0)] at HV0
         have HV2 := Lib.hid HV0
         clear HV0
         generalize chk x (lv + 1) = z at hl HV2 HV1 ⊢
         have ez : ((z : Int) == 0) = false := beq_eq_false_iff_ne.2 (by omega)
         have ez' : ((z : Int) != 0) = true := by simpa using (by omega : ¬ z = 0)
         go_wp2_with fail
         go_ret
         exact ⟨by rw [HV2.out]; rfl, HB3.out⟩
     · have HV1 := Lib.hid (show 0 = r by rw [← HV.out, chkI_done (by have := HTL.out; omega)])
       clear HV
       go_wp2_with fail
       go_ret
       exact ⟨by rw [← HV1.out]; rfl, HB.out⟩
theorem Check_any {d : Dat} {vi vm : Value} {ok : Nat → Prop} {w : World} (hr : Rep w ok d vi vm) (hlim : limD d = true) : Calls Tryz.prog 33 #[.agg #[.int .i64 d.k, .int .i64 d.n, .string (S d.s), vi, vm]] w fun e w' => e = .returned (.int .i64 (chk d 1 : Int)) ∧ Below w.heap.size w w' := by
 have HW := Lib.hid (fun w' (hb : Below w.heap.size w w') => check_any (SizeOf.sizeOf d + 1) d (Nat.lt_succ_self _) 1 (by omega) vi vm ok w' hlim (hr.under hb))
 clear hr hlim
 have e1 : ((1 : Nat) : Int) = 1 := rfl
 simp only [e1] at HW
 generalize chk d 1 = r at HW ⊢
 go_enter Tryz.func33, Tryz.ntmps33
 go_upto_region 1 with fail
 have hS : CkS w.heap.size w d vi vm (w.alloc (.cells #[.int .i64 d.k, .int .i64 d.n, .string (S d.s), vi, vm] 26)) := CkS.new w d _ _
 generalize w.alloc (.cells #[.int .i64 d.k, .int .i64 d.n, .string (S d.s), vi, vm] 26) = W at hS ⊢
 obtain ⟨c0, c1, c2, c3, c4, hlw⟩ := hS.cells
 have HS0 := Lib.hid hS
 clear hS
 go_wp2_with fail
 refine (HW.out _ HS0.out.2).mono ?_
 rintro e w1 ⟨rfl, hb⟩
 have HB := Lib.hid (HS0.out.below hb).2
 clear hb HS0 c0 c1 c2 c3 c4 hlw
 go_wp2_with fail
 go_ret
 exact ⟨rfl, HB.out⟩
end
section
open Go.RowKit
def dz : Value := .agg #[.int .i64 0, .int .i64 0, .string (S []), .slice none 0 0, .slice none 0 0]
def FindE (w : World) (ok : Nat → Prop) (e : Ending) : Option Dat → Prop
 | none => e = .returned (.tuple #[dz, .bool false])
 | some x => ∃ xi xm, e = .returned (.tuple #[dv x xi xm, .bool true]) ∧ Rep w ok x xi xm
theorem findM_drop {lab : List UInt8} {mem : List (List UInt8 × Dat)} {i : Nat} (h : i < mem.length) : findM lab (mem.drop i) = if mem[i].1 = lab then some mem[i].2 else findM lab (mem.drop (i + 1)) := by
 rw [List.drop_eq_getElem_cons h]
 obtain ⟨l, x⟩ := mem[i]
 rw [findM]
theorem findM_over {lab : List UInt8} {mem : List (List UInt8 × Dat)} {i : Nat} (h : mem.length ≤ i) : findM lab (mem.drop i) = none := by
 rw [List.drop_of_length_le h, findM]
end
section
open Go.RowKit
theorem insNone_any (p : Option Addr) (cap : Nat) (f : Value) (w : World) : Calls Tryz.prog 195 #[.slice p 0 cap, .int .i64 0, .int .i64 0, f] w fun e w' => e = .returned (.tuple #[]) ∧ w = w' := by
 go_enter Tryz.func195, Tryz.ntmps195
 go_wp2_with fail
 refine wp_loop_rounds 1 ?_
 rw [rounds_succ]
 go_wp2_with fail
 go_end0
 exact ⟨rfl, rfl⟩
theorem stableNone_any (p : Option Addr) (cap : Nat) (f : Value) (w : World) : Calls Tryz.prog 149 #[.slice p 0 cap, .int .i64 0, f] w fun e w' => e = .returned (.tuple #[]) ∧ w = w' := by
 go_enter Tryz.func149, Tryz.ntmps149
 go_wp2_with fail
 refine wp_loop_rounds 1 ?_
 rw [rounds_succ]
 go_wp2_with (go_at_call 195; refine (insNone_any _ _ _ _).mono ?_; rintro e w' ⟨rfl, rfl⟩)
 refine wp_loop_rounds 1 ?_
 rw [rounds_succ]
 go_wp2_with fail
 go_end0
 exact ⟨rfl, rfl⟩
theorem sortNone_any (p : Option Addr) (cap : Nat) (f : Value) (w : World) : Calls Tryz.prog 108 #[.slice p 0 cap, f] w fun e w' => e = .returned (.tuple #[]) ∧ w = w' := by
 go_enter Tryz.func108, Tryz.ntmps108
 go_wp2_with (go_at_call 149; refine (stableNone_any _ _ _ _).mono ?_; rintro e w' ⟨rfl, rfl⟩)
 go_end0
 exact ⟨rfl, rfl⟩
def ClnE (w : World) (d : Dat) (e : Ending) (w' : World) : Prop := e = .returned (dv d (.slice none 0 0) (.slice none 0 0)) ∧ Below w.heap.size w w'
theorem dat_leaf {d : Dat} (hi : d.its = []) (hm : d.mem = []) : d = .mk d.k d.n d.s [] [] := by
 obtain ⟨k, n, s, its, mem⟩ := d
 have h1 : its = [] := hi
 have h2 : mem = [] := hm
 subst h1; subst h2; rfl
theorem clean_1 (p q : Option Addr) (cap caq : Nat) (w : World) :
   Calls Tryz.prog 66 #[.agg #[.int .i64 1, .int .i64 0, .string (S []), .slice p 0 cap, .slice q 0 caq], .int .i64 1] w (ClnE w (.mk 1 0 [] [] [])) := by
 go_enter Tryz.func66, Tryz.ntmps66
 go_wp2_with fail
 refine bodyPost_ret (v := dv (.mk 1 0 [] [] []) (.slice none 0 0) (.slice none 0 0)) (by simp [results, Tryz.results66, go_sem, dv, Dat.k, Dat.n, Dat.s, show S [] = ⟨#[]⟩ from rfl]) rfl ⟨rfl, ?_⟩
 go_grown
theorem clean_2 (n : Int) (p q : Option Addr) (cap caq : Nat) (w : World) :
   Calls Tryz.prog 66 #[.agg #[.int .i64 2, .int .i64 n, .string (S []), .slice p 0 cap, .slice q 0 caq], .int .i64 1] w (ClnE w (.mk 2 n [] [] [])) := by
 go_enter Tryz.func66, Tryz.ntmps66
 go_wp2_with fail
 refine bodyPost_ret (v := dv (.mk 2 n [] [] []) (.slice none 0 0) (.slice none 0 0)) (by simp [results, Tryz.results66, go_sem, dv, Dat.k, Dat.n, Dat.s, show S [] = ⟨#[]⟩ from rfl]) rfl ⟨rfl, ?_⟩
 go_grown
theorem clean_3 (n : Int) (p q : Option Addr) (cap caq : Nat) (w : World) :
   Calls Tryz.prog 66 #[.agg #[.int .i64 3, .int .i64 n, .string (S []), .slice p 0 cap, .slice q 0 caq], .int .i64 1] w (ClnE w (.mk 3 n [] [] [])) := by
 go_enter Tryz.func66, Tryz.ntmps66
 go_wp2_with fail
 refine bodyPost_ret (v := dv (.mk 3 n [] [] []) (.slice none 0 0) (.slice none 0 0)) (by simp [results, Tryz.results66, go_sem, dv, Dat.k, Dat.n, Dat.s, show S [] = ⟨#[]⟩ from rfl]) rfl ⟨rfl, ?_⟩
 go_grown
theorem clean_4 (s : List UInt8) (p q : Option Addr) (cap caq : Nat) (w : World) :
   Calls Tryz.prog 66 #[.agg #[.int .i64 4, .int .i64 0, .string (S s), .slice p 0 cap, .slice q 0 caq], .int .i64 1] w (ClnE w (.mk 4 0 s [] [])) := by
 go_enter Tryz.func66, Tryz.ntmps66
 go_wp2_with fail
 refine bodyPost_ret (v := dv (.mk 4 0 s [] []) (.slice none 0 0) (.slice none 0 0)) (by simp [results, Tryz.results66, go_sem, dv, Dat.k, Dat.n, Dat.s, show S [] = ⟨#[]⟩ from rfl]) rfl ⟨rfl, ?_⟩
 go_grown
theorem clean_5 (p q : Option Addr) (cap caq : Nat) (w : World) :
   Calls Tryz.prog 66 #[.agg #[.int .i64 5, .int .i64 0, .string (S []), .slice p 0 cap, .slice q 0 caq], .int .i64 1] w (ClnE w (.mk 5 0 [] [] [])) := by
 go_enter Tryz.func66, Tryz.ntmps66
 go_wp2_with fail
 refine wp_loop_rounds 1 ?_
 rw [rounds_succ]
 go_wp2_with fail
 refine bodyPost_ret (v := dv (.mk 5 0 [] [] []) (.slice none 0 0) (.slice none 0 0)) (by simp [results, Tryz.results66, go_sem, dv, Dat.k, Dat.n, Dat.s, show S [] = ⟨#[]⟩ from rfl]) rfl ⟨rfl, ?_⟩
 go_grown
theorem clean_6 (p q : Option Addr) (cap caq : Nat) (w : World) :
   Calls Tryz.prog 66 #[.agg #[.int .i64 6, .int .i64 0, .string (S []), .slice p 0 cap, .slice q 0 caq], .int .i64 1] w (ClnE w (.mk 6 0 [] [] [])) := by
 go_enter Tryz.func66, Tryz.ntmps66
 go_wp2_with fail
 refine wp_loop_rounds 1 ?_
 rw [rounds_succ]
 go_wp2_with (go_at_call 108; refine (sortNone_any _ _ _ _).mono ?_; rintro e w' ⟨rfl, rfl⟩)
 refine bodyPost_ret (v := dv (.mk 6 0 [] [] []) (.slice none 0 0) (.slice none 0 0)) (by simp [results, Tryz.results66, go_sem, dv, Dat.k, Dat.n, Dat.s, show S [] = ⟨#[]⟩ from rfl]) rfl ⟨rfl, ?_⟩
 go_grown
theorem cleanLeaf_any {d : Dat} {vi vm : Value} {ok : Nat → Prop} {w : World} (hr : Rep w ok d vi vm) (hp : plainB d = true) (hi : d.its = []) (hm : d.mem = []) :
   Calls Tryz.prog 66 #[.agg #[.int .i64 d.k, .int .i64 d.n, .string (S d.s), vi, vm], .int .i64 1] w (ClnE w d) := by
 obtain ⟨p, cap, rfl, -, -⟩ := hr.items
 obtain ⟨q, caq, rfl, -, -⟩ := hr.members
 obtain ⟨⟨h1, h6⟩, h2, h4, -, -⟩ := plain_iff.1 hp
 rw [hi, hm]
 clear hr hp
 have hd := dat_leaf hi hm
 generalize d.k = k at *
 generalize d.n = n at *
 generalize d.s = s at *
 subst hd
 have hk : k = 1 ∨ k = 2 ∨ k = 3 ∨ k = 4 ∨ k = 5 ∨ k = 6 := by omega
 rcases hk with rfl | rfl | rfl | rfl | rfl | rfl
 · obtain rfl : n = 0 := by simpa using h2
   obtain rfl : s = [] := by simpa using h4
   exact clean_1 _ _ _ _ _
 · obtain rfl : s = [] := by simpa using h4
   exact clean_2 _ _ _ _ _ _
 · obtain rfl : s = [] := by simpa using h4
   exact clean_3 _ _ _ _ _ _
 · obtain rfl : n = 0 := by simpa using h2
   exact clean_4 _ _ _ _ _ _
 · obtain rfl : n = 0 := by simpa using h2
   obtain rfl : s = [] := by simpa using h4
   exact clean_5 _ _ _ _ _
 · obtain rfl : n = 0 := by simpa using h2
   obtain rfl : s = [] := by simpa using h4
   exact clean_6 _ _ _ _ _
theorem three_new (w : World) (a b c : Array Value) (t1 t2 t3 : TypeId) : Blk (((w.alloc (.cells a t1)).alloc (.cells b t2)).alloc (.cells c t3)) w.heap.size a t1 ∧ Blk (((w.alloc (.cells a t1)).alloc (.cells b t2)).alloc (.cells c t3)) (w.heap.size + 1) b t2 ∧
   Blk (((w.alloc (.cells a t1)).alloc (.cells b t2)).alloc (.cells c t3)) (w.heap.size + 1 + 1) c t3 ∧ Below w.heap.size w (((w.alloc (.cells a t1)).alloc (.cells b t2)).alloc (.cells c t3)) := by
 refine ⟨((Blk.new w a t1).alloc _).alloc _, ?_, ?_, (((Below.refl _ _).alloc (Nat.le_refl _) _).alloc (by simp) _).alloc (by simp; omega) _⟩
 · have h := (Blk.new (w.alloc (.cells a t1)) b t2).alloc (.cells c t3)
   simpa using h
 · have h := Blk.new ((w.alloc (.cells a t1)).alloc (.cells b t2)) c t3
   simpa using h
def Thr (w : World) (a b c : Array Value) (t1 t2 t3 : TypeId) (W : World) : Prop := Blk W w.heap.size a t1 ∧ Blk W (w.heap.size + 1) b t2 ∧ Blk W (w.heap.size + 1 + 1) c t3 ∧ Below w.heap.size w W
theorem Thr.below {w W W' : World} {a b c : Array Value} {t1 t2 t3 : TypeId} (h : Thr w a b c t1 t2 t3 W) (hb : Below W.heap.size W W') : Thr w a b c t1 t2 t3 W' :=
 ⟨h.1.below hb, h.2.1.below hb, h.2.2.1.below hb, h.2.2.2.trans (hb.mono h.2.2.2.size)⟩
set_option maxRecDepth 100000 in
set_option maxHeartbeats 4000000 in
theorem step_idx {d x : Dat} {vi vm : Value} {ok : Nat → Prop} {w0 w : World} (hb0 : Below w0.heap.size w0 w) (hr : Rep w0 ok d vi vm) (j : Nat) (hj : d.its[j]? = some x) :
   Calls Tryz.prog 65 #[.agg #[.int .i64 d.k, .int .i64 d.n, .string (S d.s), vi, vm], .agg #[.string (S []), .int .i64 (j : Int)]] w fun e w' => FindE w0 ok e (some x) ∧ Below w.heap.size w w' := by
 obtain ⟨p, cap, rfl, hil, hit⟩ := hr.items
 obtain ⟨q, caq, rfl, -, -⟩ := hr.members
 obtain ⟨hlt, hx⟩ := List.getElem?_eq_some_iff.1 hj
 obtain ⟨B, o, xi, xm, rfl, hcap, hB, hc, hrx⟩ := hit j hlt
 rw [hx] at hc hrx
 have hc := hc.below hb0 hB
 have hB := Nat.lt_of_lt_of_le hB hb0.size
 clear hb0
 unfold maxLen at hil
 obtain ⟨p1, cap1, rfl, -, -⟩ := hrx.items
 obtain ⟨q1, caq1, rfl, -, -⟩ := hrx.members
 have HX := Lib.hid hrx
 have hj0 : (j : Int) < (d.its.length : Int) := by omega
 clear hr hit hj hx hrx
 go_enter Tryz.func65, Tryz.ntmps65
 go_upto_region 1 with fail
 have hS := three_new w #[.int .i64 d.k, .int .i64 d.n, .string (S d.s), .slice (some ⟨B, o, none⟩) d.its.length cap, .slice q d.mem.length caq] #[.string (S []), .int .i64 (j : Int)] #[.int .i64 0, .int .i64 0, .string ⟨#[]⟩, .slice none 0 0, .slice none 0 0] 26 44 26
 change Thr w _ _ _ _ _ _ _ at hS
 generalize hW : ((w.alloc (.cells #[.int .i64 d.k, .int .i64 d.n, .string (S d.s), .slice (some ⟨B, o, none⟩) d.its.length cap, .slice q d.mem.length caq] 26)).alloc (.cells #[.string (S []), .int .i64 (j : Int)] 44)).alloc (.cells #[.int .i64 0, .int .i64 0, .string ⟨#[]⟩, .slice none 0 0, .slice none 0 0] 26) = W at hS
 clear hW
 obtain ⟨b0, b1, b2, hb⟩ := hS
 obtain ⟨k0, k1, k2, k3, k4⟩ := hc.below hb hB
 have c3 := b0.cell 3
 have s0 := b1.cell 0
 have s1 := b1.cell 1
 have z0 := b2.cell 0
 have z1 := b2.cell 1
 have z2 := b2.cell 2
 have z3 := b2.cell 3
 have z4 := b2.cell 4
 have y0 := b2.frozen 0
 have y1 := b2.frozen 1
 have y2 := b2.frozen 2
 have y3 := b2.frozen 3
 have y4 := b2.frozen 4
 simp at c3 s0 s1 z0 z1 z2 z3 z4
 have hlw := b2.lt
 have HB := Lib.hid hb
 clear b0 b1 b2 hb hc
 go_wp2_with fail
 refine bodyPost_ret (v := .tuple #[dv x (.slice p1 x.its.length cap1) (.slice q1 x.mem.length caq1), .bool true]) (by simp [results, Tryz.results65, go_sem, dv, show S [] = ⟨#[]⟩ from rfl, z0, z1, z2, z3, z4, y0, y1, y2, y3, y4, hlw]) rfl ⟨⟨_, _, rfl, HX.out⟩, ?_⟩
 exact ((((HB.out.setCell (Nat.le_add_right _ 2) _).setCell (Nat.le_add_right _ 2) _).setCell (Nat.le_add_right _ 2) _).setCell (Nat.le_add_right _ 2) _).setCell (Nat.le_add_right _ 2) _
set_option maxRecDepth 100000 in
set_option maxHeartbeats 4000000 in
theorem step_lab {d x : Dat} {vi vm : Value} {ok : Nat → Prop} {w0 w : World} (hb0 : Below w0.heap.size w0 w) (hr : Rep w0 ok d vi vm) (lab : List UInt8) (idx : Int) (hl : lab.isEmpty = false) (hj : findM lab d.mem = some x) :
   Calls Tryz.prog 65 #[.agg #[.int .i64 d.k, .int .i64 d.n, .string (S d.s), vi, vm], .agg #[.string (S lab), .int .i64 idx]] w fun e w' => FindE w0 ok e (some x) ∧ Below w.heap.size w w' := by
 obtain ⟨p, cap, rfl, -, -⟩ := hr.items
 obtain ⟨q, caq, rfl, hml, hme⟩ := hr.members
 have HR := Lib.hid (show findM lab (d.mem.drop 0) = some x from hj)
 have HM := Lib.hid hme
 have HB0 := Lib.hid hb0
 clear hb0
 unfold maxLen at hml
 clear hr hj hme
 go_enter Tryz.func65, Tryz.ntmps65
 go_upto_region 1 with fail
 have hS := three_new w #[.int .i64 d.k, .int .i64 d.n, .string (S d.s), .slice p d.its.length cap, .slice q d.mem.length caq] #[.string (S lab), .int .i64 idx] #[.int .i64 0, .int .i64 0, .string ⟨#[]⟩, .slice none 0 0, .slice none 0 0] 26 44 26
 change Thr w _ _ _ _ _ _ _ at hS
 generalize hW : ((w.alloc (.cells #[.int .i64 d.k, .int .i64 d.n, .string (S d.s), .slice p d.its.length cap, .slice q d.mem.length caq] 26)).alloc (.cells #[.string (S lab), .int .i64 idx] 44)).alloc (.cells #[.int .i64 0, .int .i64 0, .string ⟨#[]⟩, .slice none 0 0, .slice none 0 0] 26) = W at hS
 clear hW
 obtain ⟨b0, b1, b2, hb⟩ := hS
 have c4 := b0.cell 4
 have s0 := b1.cell 0
 have s1 := b1.cell 1
 simp at c4 s0 s1
 have hlw := b2.lt
 have HS := Lib.hid (show Thr w _ _ _ _ _ _ W from ⟨b0, b1, b2, hb⟩)
 clear b0 b1 b2 hb
 go_wp2_with fail
 go_loopw [39] (fun y wr => ∃ i : Nat, y = .int .i64 (i : Int) ∧ i ≤ d.mem.length ∧ Hid (Thr w #[.int .i64 d.k, .int .i64 d.n, .string (S d.s), .slice p d.its.length cap, .slice q d.mem.length caq] #[.string (S lab), .int .i64 idx] #[.int .i64 0, .int .i64 0, .string ⟨#[]⟩, .slice none 0 0, .slice none 0 0] 26 44 26 wr) ∧ Hid (findM lab (d.mem.drop i) = some x)) (fun y _ => d.mem.length - (intOf y).toNat)
 case atStart => exact ⟨0, rfl, Nat.zero_le _, HS, HR⟩
 case round =>
   clear HS c4 s0 s1 hlw
   obtain ⟨i, rfl, hi, HS, HV⟩ := hrel
   obtain ⟨b0, b1, b2, hb⟩ := HS.out
   have s0 := b1.cell 0
   have z0 := b2.cell 0
   have z1 := b2.cell 1
   have z2 := b2.cell 2
   have z3 := b2.cell 3
   have z4 := b2.cell 4
   have y0 := b2.frozen 0
   have y1 := b2.frozen 1
   have y2 := b2.frozen 2
   have y3 := b2.frozen 3
   have y4 := b2.frozen 4
   simp at s0 z0 z1 z2 z3 z4
   have hlw := b2.lt
   clear b0 b1 b2
   have HB := Lib.hid hb
   clear hb
   by_cases hlt : i < d.mem.length
   · obtain ⟨B, o, xi, xm, rfl, hcap, hB, hlab, hc, hx⟩ := HM.out i hlt
     obtain ⟨p1, cap1, rfl, -, -⟩ := hx.items
     obtain ⟨q1, caq1, rfl, -, -⟩ := hx.members
     obtain ⟨k0, k1, k2, k3, k4⟩ := hc.below (HB0.out.trans (HB.out.mono HB0.out.size)) hB
     have k5 := ((HB0.out.trans (HB.out.mono HB0.out.size)).cell (p := ⟨B, o + i * 6, none⟩) hB).trans hlab
     have hB := Nat.lt_of_lt_of_le hB HB0.out.size
     have HX := Lib.hid hx
     have HV1 := Lib.hid ((findM_drop hlt).symm.trans HV.out)
     clear hc hx HV hlab
     generalize d.mem[i] = y at k0 k1 k2 k3 k4 k5 HX HV1
     obtain ⟨l, y⟩ := y
     simp only at k0 k1 k2 k3 k4 k5 HX HV1
     have hN : Blk (wr.alloc (.cells #[.string (S l), .int .i64 y.k, .int .i64 y.n, .string (S y.s), .slice p1 y.its.length cap1, .slice q1 y.mem.length caq1] 64)) wr.heap.size #[.string (S l), .int .i64 y.k, .int .i64 y.n, .string (S y.s), .slice p1 y.its.length cap1, .slice q1 y.mem.length caq1] 64 := Blk.new wr _ _
     have hS2 := HS.out.below ((Below.refl _ _).alloc (Nat.le_refl _) (.cells #[.string (S l), .int .i64 y.k, .int .i64 y.n, .string (S y.s), .slice p1 y.its.length cap1, .slice q1 y.mem.length caq1] 64))
     clear HS
     go_upto_region 8 with fail
     generalize wr.alloc (.cells #[.string (S l), .int .i64 y.k, .int .i64 y.n, .string (S y.s), .slice p1 y.its.length cap1, .slice q1 y.mem.length caq1] 64) = w9 at hN hS2 ⊢
     clear k0 k1 k2 k3 k4 k5 s0 z0 z1 z2 z3 z4 y0 y1 y2 y3 y4 hlw HB
     have HS2 := Lib.hid hS2
     obtain ⟨b0, b1, b2, hb⟩ := hS2
     have s0 := b1.cell 0
     have z0 := b2.cell 0
     have z1 := b2.cell 1
     have z2 := b2.cell 2
     have z3 := b2.cell 3
     have z4 := b2.cell 4
     have y0 := b2.frozen 0
     have y1 := b2.frozen 1
     have y2 := b2.frozen 2
     have y3 := b2.frozen 3
     have y4 := b2.frozen 4
     have k0 := hN.cell 0
     have k1 := hN.cell 1
     have k2 := hN.cell 2
     have k3 := hN.cell 3
     have k4 := hN.cell 4
     have k5 := hN.cell 5
     simp at s0 z0 z1 z2 z3 z4 k0 k1 k2 k3 k4 k5
     have hlw := b2.lt
     have hNl := hN.lt
     have HB := Lib.hid hb
     clear b0 b1 b2 hN hb
     by_cases hl' : l = lab
     · have t1 : (l == lab) = true := by simpa using hl'
       have HV2 := Lib.hid (show some y = some x by rw [← HV1.out, if_pos hl'])
       clear hl'
       go_wp2_with fail
       refine bodyPost_ret (v := .tuple #[dv y (.slice p1 y.its.length cap1) (.slice q1 y.mem.length caq1), .bool true]) (by simp [results, Tryz.results65, go_sem, dv, show S [] = ⟨#[]⟩ from rfl, z0, z1, z2, z3, z4, y0, y1, y2, y3, y4, hlw]) rfl ⟨?_, ?_⟩
       · rw [← HV2.out]; exact ⟨_, _, rfl, HX.out⟩
       · exact ((((HB.out.setCell (Nat.le_add_right _ 2) _).setCell (Nat.le_add_right _ 2) _).setCell (Nat.le_add_right _ 2) _).setCell (Nat.le_add_right _ 2) _).setCell (Nat.le_add_right _ 2) _
     · have t1 : (l == lab) = false := by simpa using hl'
       have HV2 := Lib.hid (show findM lab (d.mem.drop (i + 1)) = some x by rw [← HV1.out, if_neg hl'])
       clear hl'
       go_wp2_with fail
       go_roundw
       case rel => exact ⟨i + 1, by go_num, hlt, HS2, HV2⟩
       case measure => simp [intOf]; omega
   · exfalso
     have h := HV.out
     rw [findM_over (by omega)] at h
     cases h
end
section
open Go.RowKit
theorem stepD_any {d x : Dat} {vi vm : Value} {ok : Nat → Prop} {w0 w : World} (hb0 : Below w0.heap.size w0 w) (hr : Rep w0 ok d vi vm) (s : Stp) (hs : stpD d s = some x) :
   Calls Tryz.prog 65 #[.agg #[.int .i64 d.k, .int .i64 d.n, .string (S d.s), vi, vm], .agg #[.string (S s.lab), .int .i64 s.idx]] w fun e w' => FindE w0 ok e (some x) ∧ Below w.heap.size w w' := by
 obtain ⟨lab, idx⟩ := s
 unfold stpD at hs
 simp only at hs
 by_cases h1 : lab = []
 · subst h1
   rw [if_pos rfl] at hs
   by_cases h2 : 0 ≤ idx
   · rw [if_pos h2] at hs
     obtain ⟨j, rfl⟩ := Int.eq_ofNat_of_zero_le h2
     exact step_idx hb0 hr j hs
   · rw [if_neg h2] at hs; cases hs
 · rw [if_neg h1] at hs
   exact step_lab hb0 hr lab idx (by simpa using h1) hs
theorem SlK.open {W : World} {ok : Nat → Prop} {v : Value} {L : List Stp} (h : SlK W ok v L) : ∃ p cap, v = .slice p L.length cap ∧ ∀ (j : Nat) (_ : j < L.length), ∃ B o, p = some ⟨B, o, none⟩ ∧ L.length ≤ cap ∧ B < W.heap.size ∧ ok B ∧ W.cell? ⟨B, o + j * 2, none⟩ = some (.string (S L[j].lab)) ∧ W.cell? ⟨B, o + j * 2 + 1, none⟩ = some (.int .i64 L[j].idx) := by
 obtain ⟨p, cap, B, o, rfl, hp, hc⟩ := h
 refine ⟨p, cap, rfl, fun j h => ?_⟩
 obtain ⟨h1, h2, h3, h4⟩ := hp (by omega)
 exact ⟨B, o, h1, h2, h3, h4, hc j h⟩
theorem getD_step {d x : Dat} {L : List Stp} {i : Nat} (h : i < L.length) (hg : getD d (L.drop i) = some x) : ∃ y, stpD d L[i] = some y ∧ getD y (L.drop (i + 1)) = some x := by
 rw [List.drop_eq_getElem_cons h, getD] at hg
 exact Option.bind_eq_some_iff.1 hg
theorem getD_over {d x : Dat} {L : List Stp} {i : Nat} (h : L.length ≤ i) (hg : getD d (L.drop i) = some x) : d = x := by
 rw [List.drop_of_length_le h, getD] at hg
 exact Option.some.inj hg
def GetS (w : World) (d : Dat) (vi vm : Value) (W : World) : Prop :=
 Blk W w.heap.size (boxD d vi vm) 26 ∧ Blk W (w.heap.size + 1) #[.int .i64 0, .int .i64 0, .string ⟨#[]⟩, .slice none 0 0, .slice none 0 0] 26 ∧ Below w.heap.size w W
theorem GetS.below {w W W' : World} {d : Dat} {vi vm : Value} (h : GetS w d vi vm W) (hb : Below W.heap.size W W') : GetS w d vi vm W' :=
 ⟨h.1.below hb, h.2.1.below hb, h.2.2.trans (hb.mono h.2.2.size)⟩
theorem GetS.put {w W : World} {d : Dat} {vi vm : Value} (h : GetS w d vi vm W) (x : Dat) (xi xm : Value) :
   GetS w x xi xm (((((W.setCell ⟨w.heap.size, 0, none⟩ (.int .i64 x.k)).setCell ⟨w.heap.size, 1, none⟩ (.int .i64 x.n)).setCell ⟨w.heap.size, 2, none⟩ (.string (S x.s))).setCell ⟨w.heap.size, 3, none⟩ xi).setCell ⟨w.heap.size, 4, none⟩ xm) := by
 obtain ⟨h1, h2, h3⟩ := h
 refine ⟨((((h1.set 0 _).set 1 _).set 2 _).set 3 _).set 4 _, ((((h2.set_other 0 _ (by omega)).set_other 1 _ (by omega)).set_other 2 _ (by omega)).set_other 3 _ (by omega)).set_other 4 _ (by omega), ?_⟩
 exact ((((h3.setCell (Nat.le_refl _) _).setCell (Nat.le_refl _) _).setCell (Nat.le_refl _) _).setCell (Nat.le_refl _) _).setCell (Nat.le_refl _) _
theorem GetS.facts {w W : World} {d : Dat} {vi vm : Value} (h : GetS w d vi vm W) :
   (W.cell? ⟨w.heap.size, 0, none⟩ = some (.int .i64 d.k) ∧ W.cell? ⟨w.heap.size, 1, none⟩ = some (.int .i64 d.n) ∧ W.cell? ⟨w.heap.size, 2, none⟩ = some (.string (S d.s)) ∧ W.cell? ⟨w.heap.size, 3, none⟩ = some vi ∧ W.cell? ⟨w.heap.size, 4, none⟩ = some vm) ∧
   (W.frozen? ⟨w.heap.size, 0, none⟩ = false ∧ W.frozen? ⟨w.heap.size, 1, none⟩ = false ∧ W.frozen? ⟨w.heap.size, 2, none⟩ = false ∧ W.frozen? ⟨w.heap.size, 3, none⟩ = false ∧ W.frozen? ⟨w.heap.size, 4, none⟩ = false) ∧ w.heap.size + 1 < W.heap.size :=
 ⟨⟨h.1.cell 0, h.1.cell 1, h.1.cell 2, h.1.cell 3, h.1.cell 4⟩, ⟨h.1.frozen 0, h.1.frozen 1, h.1.frozen 2, h.1.frozen 3, h.1.frozen 4⟩, h.2.1.lt⟩
theorem two_new (w : World) (a b : Array Value) (t1 t2 : TypeId) : Blk ((w.alloc (.cells a t1)).alloc (.cells b t2)) w.heap.size a t1 ∧ Blk ((w.alloc (.cells a t1)).alloc (.cells b t2)) (w.heap.size + 1) b t2 ∧ Below w.heap.size w ((w.alloc (.cells a t1)).alloc (.cells b t2)) := by
 refine ⟨(Blk.new w a t1).alloc _, ?_, ((Below.refl _ _).alloc (Nat.le_refl _) _).alloc (by simp) _⟩
 have h := Blk.new (w.alloc (.cells a t1)) b t2
 simpa using h
set_option maxRecDepth 100000 in
set_option maxHeartbeats 4000000 in
theorem Get_any {d x : Dat} {vi vm pv : Value} {L : List Stp} {ok ok' : Nat → Prop} {w : World} (hr : Rep w ok d vi vm) (hv : SlK w ok' pv L) (hL : L.length ≤ 1000000) (hc : chk d 1 = 0) (hl : limD d = true) (hg : getD d L = some x) (hx : plainB x = true ∧ x.its = [] ∧ x.mem = []) :
   Calls Tryz.prog 36 #[.agg #[.int .i64 d.k, .int .i64 d.n, .string (S d.s), vi, vm], pv] w fun e w' => e = .returned (.tuple #[dv x (.slice none 0 0) (.slice none 0 0), .bool true]) ∧ Below w.heap.size w w' := by
 obtain ⟨p, cap, rfl, hst⟩ := hv.open
 have HST := Lib.hid hst
 have HREP := Lib.hid hr
 have HG := Lib.hid (show getD d (L.drop 0) = some x from hg)
 have HX := Lib.hid hx
 have HCK := Lib.hid (fun w' (hb : Below w.heap.size w w') => (Check_any (hr.under hb) hl))
 simp only [hc] at HCK
 clear hv hst hr hg hx hc hl
 go_enter Tryz.func36, Tryz.ntmps36
 go_upto_region 1 with fail
 have hS : GetS w d vi vm ((w.alloc (.cells #[.int .i64 d.k, .int .i64 d.n, .string (S d.s), vi, vm] 26)).alloc (.cells #[.int .i64 0, .int .i64 0, .string ⟨#[]⟩, .slice none 0 0, .slice none 0 0] 26)) := two_new w _ _ _ _
 generalize (w.alloc (.cells #[.int .i64 d.k, .int .i64 d.n, .string (S d.s), vi, vm] 26)).alloc (.cells #[.int .i64 0, .int .i64 0, .string ⟨#[]⟩, .slice none 0 0, .slice none 0 0] 26) = W at hS ⊢
 obtain ⟨⟨c0, c1, c2, c3, c4⟩, -, hlw⟩ := hS.facts
 have HS := Lib.hid hS
 clear hS
 go_wp2_with fail
 refine (HCK.out _ HS.out.2.2).mono ?_
 rintro e w1 ⟨rfl, hb⟩
 have HS1 := Lib.hid (HS.out.below hb)
 clear hb HS c0 c1 c2 c3 c4 hlw HCK
 go_wp2_with fail
 go_loopw [16] (fun y wr => ∃ (i : Nat) (z : Dat) (zi zm : Value), y = .int .i64 (i : Int) ∧ i ≤ L.length ∧ Hid (GetS w z zi zm wr) ∧ Hid (Rep w ok z zi zm) ∧ Hid (getD z (L.drop i) = some x)) (fun y _ => L.length - (intOf y).toNat)
 case atStart => exact ⟨0, d, vi, vm, rfl, Nat.zero_le _, HS1, HREP, HG⟩
 case round =>
   clear HS1 HREP HG
   obtain ⟨i, z, zi, zm, rfl, hi, HS, HREP, HG⟩ := hrel
   obtain ⟨p1, cap1, rfl, -, -⟩ := HREP.out.items
   obtain ⟨q1, caq1, rfl, -, -⟩ := HREP.out.members
   by_cases hlt : i < L.length
   · obtain ⟨B, o, rfl, hcap, hB, -, s0, s1⟩ := HST.out i hlt
     obtain ⟨y, hy1, hy2⟩ := getD_step hlt HG.out
     have HY1 := Lib.hid hy1
     have HG2 := Lib.hid hy2
     have m0 := (HS.out.2.2.cell (p := ⟨B, o + i * 2, none⟩) hB).trans s0
     have m1 := (HS.out.2.2.cell (p := ⟨B, o + i * 2 + 1, none⟩) hB).trans s1
     clear hy1 hy2 HG s0 s1
     generalize L[i] = s at m0 m1 HY1
     have hN : Blk (wr.alloc (.cells #[.string (S s.lab), .int .i64 s.idx] 44)) wr.heap.size #[.string (S s.lab), .int .i64 s.idx] 44 := Blk.new wr _ _
     have hS := HS.out.below ((Below.refl _ _).alloc (Nat.le_refl _) (.cells #[.string (S s.lab), .int .i64 s.idx] 44))
     clear HS
     go_upto_region 6 with fail
     generalize wr.alloc (.cells #[.string (S s.lab), .int .i64 s.idx] 44) = w5 at hN hS ⊢
     clear m0 m1
     obtain ⟨⟨c0, c1, c2, c3, c4⟩, -, hlw⟩ := hS.facts
     have n0 := hN.cell 0
     have n1 := hN.cell 1
     simp at n0 n1
     have hNl := hN.lt
     have HS5 := Lib.hid hS
     clear hS hN
     go_wp2_with fail
     refine (stepD_any HS5.out.2.2 HREP.out s HY1.out).mono ?_
     rintro e w6 ⟨⟨yi, ym, rfl, hrep6⟩, hb⟩
     have hS6 := HS5.out.below hb
     obtain ⟨p2, cap2, rfl, -, -⟩ := hrep6.items
     obtain ⟨q2, caq2, rfl, -, -⟩ := hrep6.members
     have hN : Blk (w6.alloc (.cells #[.int .i64 y.k, .int .i64 y.n, .string (S y.s), .slice p2 y.its.length cap2, .slice q2 y.mem.length caq2] 26)) w6.heap.size #[.int .i64 y.k, .int .i64 y.n, .string (S y.s), .slice p2 y.its.length cap2, .slice q2 y.mem.length caq2] 26 := Blk.new w6 _ _
     have hS7 := hS6.below ((Below.refl _ _).alloc (Nat.le_refl _) (.cells #[.int .i64 y.k, .int .i64 y.n, .string (S y.s), .slice p2 y.its.length cap2, .slice q2 y.mem.length caq2] 26))
     have HR7 := Lib.hid hrep6
     clear c0 c1 c2 c3 c4 n0 n1 hNl hrep6 HREP HS5 hS6 hb hlw
     simp only [dv]
     go_upto_region 7 with fail
     generalize w6.alloc (.cells #[.int .i64 y.k, .int .i64 y.n, .string (S y.s), .slice p2 y.its.length cap2, .slice q2 y.mem.length caq2] 26) = w7 at hN hS7 ⊢
     have HS8 := Lib.hid (hS7.put y (.slice p2 y.its.length cap2) (.slice q2 y.mem.length caq2))
     obtain ⟨⟨c0, c1, c2, c3, c4⟩, ⟨f0, f1, f2, f3, f4⟩, hlw⟩ := hS7.facts
     have n0 := hN.cell 0
     have n1 := hN.cell 1
     have n2 := hN.cell 2
     have n3 := hN.cell 3
     have n4 := hN.cell 4
     simp at n0 n1 n2 n3 n4
     have hNl := hN.lt
     clear hN hS7
     go_wp2_with fail
     go_roundw
     case rel => exact ⟨i + 1, y, _, _, by go_num, hlt, HS8, HR7, HG2⟩
     case measure => simp [intOf]; omega
   · obtain rfl := getD_over (by omega) HG.out
     obtain ⟨⟨c0, c1, c2, c3, c4⟩, -, hlw⟩ := HS.out.facts
     have HB := Lib.hid HS.out.2.2
     have b2 := HS.out.2.1
     go_wp2_with fail
     refine (cleanLeaf_any (HREP.out.under HB.out) HX.out.1 HX.out.2.1 HX.out.2.2).mono ?_
     rintro e w8 ⟨rfl, hb⟩
     have HB8 := Lib.hid (HB.out.trans (hb.mono HB.out.size))
     have b8 := b2.below hb
     clear b2 c0 c1 c2 c3 c4 hlw hb HS HREP HG
     have z0 := b8.cell 0
     have z1 := b8.cell 1
     have z2 := b8.cell 2
     have z3 := b8.cell 3
     have z4 := b8.cell 4
     have y0 := b8.frozen 0
     have y1 := b8.frozen 1
     have y2 := b8.frozen 2
     have y3 := b8.frozen 3
     have y4 := b8.frozen 4
     simp at z0 z1 z2 z3 z4
     have hlw := b8.lt
     clear b8
     simp only [dv]
     go_wp2_with fail
     refine bodyPost_ret (v := .tuple #[dv z (.slice none 0 0) (.slice none 0 0), .bool true]) (by simp [results, Tryz.results36, go_sem, dv, show S [] = ⟨#[]⟩ from rfl, z0, z1, z2, z3, z4, y0, y1, y2, y3, y4, hlw]) rfl ⟨rfl, ?_⟩
     exact ((((HB8.out.setCell (Nat.le_add_right _ 1) _).setCell (Nat.le_add_right _ 1) _).setCell (Nat.le_add_right _ 1) _).setCell (Nat.le_add_right _ 1) _).setCell (Nat.le_add_right _ 1) _
end
section
open Go.RowKit
theorem infoU8 : (Tryz.prog.info? 5).map (fun i => (i.zero, i.size, i.bytes)) = some (some (.int .u8 0), 1, 1) := by kernel_rfl
set_option maxHeartbeats 400000 in
theorem escape_any (c : UInt8) (w : World) : Calls Tryz.prog 180 #[.int .u8 (c.toNat : Int)] w fun e w' => e = .returned (.string (S (escB c))) ∧ ∃ n, w' = w.drewN n := by
 have hlt := c.toNat_lt
 by_cases h34 : c = 34
 · subst h34
   go_enter Tryz.func180, Tryz.ntmps180
   go_wp2
   go_ret
   exact ⟨rfl, 0, rfl⟩
 by_cases h92 : c = 92
 · subst h92
   go_enter Tryz.func180, Tryz.ntmps180
   go_wp2
   go_ret
   exact ⟨rfl, 0, rfl⟩
 by_cases h10 : c = 10
 · subst h10
   go_enter Tryz.func180, Tryz.ntmps180
   go_wp2
   go_ret
   exact ⟨rfl, 0, rfl⟩
 by_cases h9 : c = 9
 · subst h9
   go_enter Tryz.func180, Tryz.ntmps180
   go_wp2
   go_ret
   exact ⟨rfl, 0, rfl⟩
 by_cases h13 : c = 13
 · subst h13
   go_enter Tryz.func180, Tryz.ntmps180
   go_wp2
   go_ret
   exact ⟨rfl, 0, rfl⟩
 have e34 : ((c.toNat : Int) == 34) = false := u8_ne h34
 have e92 : ((c.toNat : Int) == 92) = false := u8_ne h92
 have e10 : ((c.toNat : Int) == 10) = false := u8_ne h10
 have e9 : ((c.toNat : Int) == 9) = false := u8_ne h9
 have e13 : ((c.toNat : Int) == 13) = false := u8_ne h13
 by_cases hp : c < 32 ∨ 126 < c
 · have hb : ¬ (32 ≤ c.toNat ∧ c.toNat ≤ 126) := by
     rcases hp with h | h <;> rw [UInt8.lt_iff_toNat_lt] at h <;> simp at h <;> omega
   have hd : (decide ((c.toNat : Int) < 32) || decide (126 < (c.toNat : Int))) = true := by simp; omega
   have hx : escB c = [92, 120, hexDig (c >>> 4), hexDig (c &&& 15)] := by simp [escB, h34, h92, h10, h9, h13, hp]
   rw [hx]
   have HX := Lib.hid hx
   clear hx hp h34 h92 h10 h9 h13
   have q2 : (0 : Int) ≤ (c.toNat : Int) / 16 := by omega
   have q3 : (c.toNat : Int) / 16 + 1 ≤ 16 := by omega
   have q6 : (0 : Int) ≤ (c.toNat : Int) % 16 := by omega
   have q7 : (c.toNat : Int) % 16 + 1 ≤ 16 := by omega
   have l1 : (sl [48, 49, 50, 51, 52, 53, 54, 55, 56, 57, 97, 98, 99, 100, 101, 102] (c.toNat / 16) (c.toNat / 16 + 1)).length ≤ 1 := by have := sl_le [48, 49, 50, 51, 52, 53, 54, 55, 56, 57, 97, 98, 99, 100, 101, 102] (c.toNat / 16) (c.toNat / 16 + 1); omega
   have l2 : (sl [48, 49, 50, 51, 52, 53, 54, 55, 56, 57, 97, 98, 99, 100, 101, 102] (c.toNat % 16) (c.toNat % 16 + 1)).length ≤ 1 := by have := sl_le [48, 49, 50, 51, 52, 53, 54, 55, 56, 57, 97, 98, 99, 100, 101, 102] (c.toNat % 16) (c.toNat % 16 + 1); omega
   have hfin : ct (ct [92, 120] (sl [48, 49, 50, 51, 52, 53, 54, 55, 56, 57, 97, 98, 99, 100, 101, 102] (c.toNat / 16) (c.toNat / 16 + 1))) (sl [48, 49, 50, 51, 52, 53, 54, 55, 56, 57, 97, 98, 99, 100, 101, 102] (c.toNat % 16) (c.toNat % 16 + 1)) = [92, 120, hexDig (c >>> 4), hexDig (c &&& 15)] :=
     forall_u8 (P := fun c => ct (ct [92, 120] (sl [48, 49, 50, 51, 52, 53, 54, 55, 56, 57, 97, 98, 99, 100, 101, 102] (c.toNat / 16) (c.toNat / 16 + 1))) (sl [48, 49, 50, 51, 52, 53, 54, 55, 56, 57, 97, 98, 99, 100, 101, 102] (c.toNat % 16) (c.toNat % 16 + 1)) = [92, 120, hexDig (c >>> 4), hexDig (c &&& 15)]) (by decide +kernel) c
   have HF := Lib.hid hfin
   clear hfin
   have q1 : IntKind.u8.wrap ((c.toNat : Int) / 16 + 1) = (c.toNat : Int) / 16 + 1 := IntWalk.u8_in _ (by omega)
   have q4 : bits .and .u8 (c.toNat : Int) 15 = (c.toNat : Int) % 16 := u8_and15 _ (by omega) (by omega)
   have q5 : IntKind.u8.wrap ((c.toNat : Int) % 16 + 1) = (c.toNat : Int) % 16 + 1 := IntWalk.u8_in _ (by omega)
   rcases Nat.lt_or_ge c.toNat 32 with h32 | h32
   · go_enter Tryz.func180, Tryz.ntmps180
     go_wp2
     go_quiet (fail)
     clear q1 q4 q5
     go_wp2
     go_ret
     exact ⟨congrArg (fun x => Ending.returned (.string (S x))) HF.out, _, rfl⟩
   · have h126 : 126 < c.toNat := by omega
     go_enter Tryz.func180, Tryz.ntmps180
     go_wp2
     go_quiet (fail)
     clear q1 q4 q5
     go_wp2
     go_ret
     exact ⟨congrArg (fun x => Ending.returned (.string (S x))) HF.out, _, rfl⟩
 · have hp1 : 32 ≤ c.toNat := by
     have := fun h => hp (.inl h); rw [UInt8.lt_iff_toNat_lt] at this; simp at this; exact this
   have hp2 : c.toNat ≤ 126 := by
     have := fun h => hp (.inr h); rw [UInt8.lt_iff_toNat_lt] at this; simp at this; exact this
   have hx : escB c = [c] := by simp [escB, h34, h92, h10, h9, h13, hp]
   rw [hx]
   have HX := Lib.hid hx
   clear hx hp h34 h92 h10 h9 h13
   go_enter Tryz.func180, Tryz.ntmps180
   go_wp2
   go_ret
   exact ⟨congrArg (fun x => Ending.returned (.string x)) (encode_S c (by omega)), 0, rfl⟩
end
section
open Go.RowKit
set_option maxHeartbeats 400000 in
set_option maxRecDepth 100000 in
theorem written_any (c : UInt8) (w : World) : Calls Tryz.prog 165 #[.int .u8 (c.toNat : Int)] w fun e w' => e = .returned (.string (S (escB c))) ∧ Below w.heap.size w w' := by
 have hlt := c.toNat_lt
 by_cases h34 : c = 34
 · subst h34
   go_enter Tryz.func165, Tryz.ntmps165
   go_wp2
   go_ret
   exact ⟨rfl, Below.refl _ _⟩
 by_cases h92 : c = 92
 · subst h92
   go_enter Tryz.func165, Tryz.ntmps165
   go_wp2
   go_ret
   exact ⟨rfl, Below.refl _ _⟩
 by_cases h10 : c = 10
 · subst h10
   go_enter Tryz.func165, Tryz.ntmps165
   go_wp2
   go_ret
   exact ⟨rfl, Below.refl _ _⟩
 by_cases h9 : c = 9
 · subst h9
   go_enter Tryz.func165, Tryz.ntmps165
   go_wp2
   go_ret
   exact ⟨rfl, Below.refl _ _⟩
 by_cases h13 : c = 13
 · subst h13
   go_enter Tryz.func165, Tryz.ntmps165
   go_wp2
   go_ret
   exact ⟨rfl, Below.refl _ _⟩
 have e34 : ((c.toNat : Int) == 34) = false := u8_ne h34
 have e92 : ((c.toNat : Int) == 92) = false := u8_ne h92
 have e10 : ((c.toNat : Int) == 10) = false := u8_ne h10
 have e9 : ((c.toNat : Int) == 9) = false := u8_ne h9
 have e13 : ((c.toNat : Int) == 13) = false := u8_ne h13
 by_cases hp : c < 32 ∨ 126 < c
 · have hb : ¬ (32 ≤ c.toNat ∧ c.toNat ≤ 126) := by
     rcases hp with h | h <;> rw [UInt8.lt_iff_toNat_lt] at h <;> simp at h <;> omega
   have hd : (decide ((c.toNat : Int) < 32) || decide (126 < (c.toNat : Int))) = true := by simp; omega
   have hx : escB c = [92, 120, hexDig (c >>> 4), hexDig (c &&& 15)] := by simp [escB, h34, h92, h10, h9, h13, hp]
   rw [hx]
   have HX := Lib.hid hx
   clear hx hp h34 h92 h10 h9 h13
   have q2 : (0 : Int) ≤ (c.toNat : Int) / 16 := by omega
   have q3 : (c.toNat : Int) / 16 + 1 ≤ 16 := by omega
   have q6 : (0 : Int) ≤ (c.toNat : Int) % 16 := by omega
   have q7 : (c.toNat : Int) % 16 + 1 ≤ 16 := by omega
   have l1 : (sl [48, 49, 50, 51, 52, 53, 54, 55, 56, 57, 97, 98, 99, 100, 101, 102] (c.toNat / 16) (c.toNat / 16 + 1)).length ≤ 1 := by have := sl_le [48, 49, 50, 51, 52, 53, 54, 55, 56, 57, 97, 98, 99, 100, 101, 102] (c.toNat / 16) (c.toNat / 16 + 1); omega
   have l2 : (sl [48, 49, 50, 51, 52, 53, 54, 55, 56, 57, 97, 98, 99, 100, 101, 102] (c.toNat % 16) (c.toNat % 16 + 1)).length ≤ 1 := by have := sl_le [48, 49, 50, 51, 52, 53, 54, 55, 56, 57, 97, 98, 99, 100, 101, 102] (c.toNat % 16) (c.toNat % 16 + 1); omega
   have hfin : ct (ct [92, 120] (sl [48, 49, 50, 51, 52, 53, 54, 55, 56, 57, 97, 98, 99, 100, 101, 102] (c.toNat / 16) (c.toNat / 16 + 1))) (sl [48, 49, 50, 51, 52, 53, 54, 55, 56, 57, 97, 98, 99, 100, 101, 102] (c.toNat % 16) (c.toNat % 16 + 1)) = [92, 120, hexDig (c >>> 4), hexDig (c &&& 15)] :=
     forall_u8 (P := fun c => ct (ct [92, 120] (sl [48, 49, 50, 51, 52, 53, 54, 55, 56, 57, 97, 98, 99, 100, 101, 102] (c.toNat / 16) (c.toNat / 16 + 1))) (sl [48, 49, 50, 51, 52, 53, 54, 55, 56, 57, 97, 98, 99, 100, 101, 102] (c.toNat % 16) (c.toNat % 16 + 1)) = [92, 120, hexDig (c >>> 4), hexDig (c &&& 15)]) (by decide +kernel) c
   have HF := Lib.hid hfin
   clear hfin
   rcases Nat.lt_or_ge c.toNat 32 with h32 | h32
   · go_enter Tryz.func165, Tryz.ntmps165
     go_wp2
     go_quiet (fail)
     go_wp2
     go_ret
     exact ⟨congrArg (fun x => Ending.returned (.string (S x))) HF.out, below_drewN (Below.refl _ _) _⟩
   · have h126 : 126 < c.toNat := by omega
     go_enter Tryz.func165, Tryz.ntmps165
     go_wp2
     go_quiet (fail)
     go_wp2
     go_ret
     exact ⟨congrArg (fun x => Ending.returned (.string (S x))) HF.out, below_drewN (Below.refl _ _) _⟩
 · have hp1 : 32 ≤ c.toNat := by
     have := fun h => hp (.inl h); rw [UInt8.lt_iff_toNat_lt] at this; simp at this; exact this
   have hp2 : c.toNat ≤ 126 := by
     have := fun h => hp (.inr h); rw [UInt8.lt_iff_toNat_lt] at this; simp at this; exact this
   have hx : escB c = [c] := by simp [escB, h34, h92, h10, h9, h13, hp]
   rw [hx]
   have HX := Lib.hid hx
   clear hx hp h34 h92 h10 h9 h13
   have hc := conv_one (P := Tryz.prog) w 138 9 5 5 c 1 Tryz.underlying138 Tryz.underlying5 Tryz.underlying9
   go_enter Tryz.func165, Tryz.ntmps165
   go_wp2
   go_ret
   exact ⟨rfl, (Below.refl _ _).alloc (Nat.le_refl _) _⟩
end
section
open Go.RowKit
theorem flat_take (l : List UInt8) (k : Nat) (h : k < l.length) : (l.take (k + 1)).flatMap escB = (l.take k).flatMap escB ++ escB (byt l k) := by
 rw [take_byt l k h, List.flatMap_append]; simp
set_option maxHeartbeats 400000 in
theorem refQuote_any (l : List UInt8) (hl : l.length ≤ 1000000) (w : World) : Calls Tryz.prog 122 #[.string (S l)] w fun e w' => e = .returned (.string (S (quoteL l))) ∧ Below w.heap.size w w' := by
 go_enter Tryz.func122, Tryz.ntmps122
 go_wp2_with fail
 go_loopw [3, 4] (fun o i wr => ∃ (k : Nat) (acc : List UInt8), k ≤ l.length ∧ i = .int .i64 k ∧ o = .string (S acc) ∧ acc.length ≤ 4 * k + 1 ∧ Hid (acc = 34 :: (l.take k).flatMap escB) ∧ Below w.heap.size w wr)
   (fun _ i _ => l.length - (intOf i).toNat)
 case atStart => exact ⟨0, [34], by omega, rfl, rfl, by simp, rfl, Below.refl _ _⟩
 case round =>
   obtain ⟨k, acc, hk, rfl, rfl, hacc, hh, hB⟩ := hrel
   by_cases hlt : k < l.length
   · have he := esc_len (byt l k)
     go_wp2_with (go_at_call 165; refine (written_any _ _).mono ?_; rintro e w' ⟨rfl, hb1⟩)
     go_roundw
     case rel => exact ⟨k + 1, ct acc (escB (byt l k)), by omega, by go_num, rfl, by rw [ct_len]; omega, by show ct acc _ = _; rw [hh.out, flat_take l k hlt, ct_eq]; rfl, hB.trans (hb1.mono hB.size)⟩
     case measure => simp [intOf]; omega
   · go_wp2_with fail
     go_ret
     exact ⟨ret_S (by rw [ct_eq, hh.out, List.take_of_length_le (by omega)]; rfl), hB⟩
end
section
open Go.RowKit Go.Shelf
attribute [local go_sem] Oper.semAt_some
theorem drewN_abides {β : Type} {B : Nat} {J : β → World → Prop} (h : AbidesFrom B J) {s : β} {W : World} (hs : J s W) (n : Nat) : J s (W.drewN n) :=
 h s W (W.drewN n) none hs ⟨rfl, rfl, rfl, Nat.le_refl _, fun _ _ _ => rfl⟩ (fun r e => by cases e)
set_option maxRecDepth 100000 in
set_option maxHeartbeats 1000000 in
theorem pieces1_in (n : Nat) (hn : 1 ≤ n) (y Bn : Nat) (l : List UInt8) (hl : l.length ≤ 1000000) (J Jx : List UInt8 → World → Prop) (W : World) (hJ : AbidesFrom W.heap.size J)
   (hY : ∀ pre x W1, J pre W1 → pre.length < l.length → YieldAt Fence.wide (n - 1) Tryz.prog y #[.string (S (escB x))] W1 fun e W' =>
     (e = .returned (.bool true) ∧ J (pre ++ [x]) W' ∧ W'.heap[Bn]? = W1.heap[Bn]?) ∨ (e = .returned (.bool false) ∧ Jx (pre ++ [x]) W'))
   (hBn : Boxed W Bn 9 (.string (S l))) (h0 : J [] W) :
   CallsIn Fence.wide n Tryz.prog 179 #[.func (.yield y) #[] #[], .pointer (some ⟨Bn, 0, none⟩)] W fun e W' => (∃ v, e = .returned v) ∧
     ((∃ xs, xs = l ∧ J xs W') ∨ (∃ pre, pre <+: l ∧ Jx pre W')) := by
 have hc := hBn.cell
 refine callsIn_of_wp Tryz.func179 rfl trivial ?_ rfl
 simp only [Tryz.ntmps179, List.size_toArray, List.length_cons, List.length_nil, Nat.reduceAdd, Nat.reduceSub, Array.replicate_succ, Array.replicate_zero, List.push_toArray, List.append_toArray, List.nil_append, List.cons_append]
 gi_wp2
 clear hc
 gi_loopw [6] (fun i wr => ∃ k : Nat, k ≤ l.length ∧ i = .int .i64 k ∧ J (l.take k) wr ∧ Boxed wr Bn 9 (.string (S l)))
   (fun i _ => l.length - (intOf i).toNat)
 case atStart => exact ⟨0, by omega, rfl, h0, hBn⟩
 case round =>
   obtain ⟨k, hk, rfl, hJk, hbx⟩ := hrel
   by_cases hlt : k < l.length
   · have hc := hbx.cell
     gi_wp2_with fail
     refine ⟨trivial, ?_⟩
     refine (callsIn_wide.2 (escape_any _ _)).mono ?_
     rintro e w' ⟨rfl, q, rfl⟩
     obtain ⟨fn, tmps, assign, body, hy, hR⟩ := hY (l.take k) (byt l k) (wr.drewN q) (drewN_abides hJ hJk q) (by rw [List.length_take]; omega)
     gi_wp2_with fail
     refine hR.mono ?_
     rintro e W3 (⟨rfl, hJ3, hk3⟩ | ⟨rfl, hJx3⟩)
     · gi_wp2
       go_roundw
       case rel => exact ⟨k + 1, by omega, by go_num, by rw [take_byt l k hlt]; exact hJ3, hk3.trans hbx⟩
       case measure => simp [intOf]; omega
     · gi_wp2
       refine bodyPost_ret (results_none rfl _ _ _) rfl ?_
       exact ⟨⟨_, rfl⟩, .inr ⟨l.take k ++ [byt l k], by rw [← take_byt l k hlt]; exact List.take_prefix _ _, hJx3⟩⟩
   · gi_wp2
     go_end0
     exact ⟨⟨_, rfl⟩, .inl ⟨l, rfl, by rw [List.take_of_length_le (by omega)] at hJk; exact hJk⟩⟩
theorem pieces_in (n : Nat) (l : List UInt8) (w : World) :
   CallsIn Fence.wide n Tryz.prog 134 #[.string (S l)] w fun e w' => e = .returned (.func (.func 179) #[] #[.pointer (some ⟨w.heap.size, 0, none⟩)]) ∧ w' = w.alloc (.cells #[.string (S l)] 9) := by
 refine callsIn_of_wp Tryz.func134 rfl trivial ?_ rfl
 simp only [Tryz.ntmps134, List.size_toArray, List.length_cons, List.length_nil, Nat.reduceAdd, Nat.reduceSub, Array.replicate_succ, Array.replicate_zero, List.push_toArray, List.append_toArray, List.nil_append, List.cons_append]
 gi_wp2
 go_ret
 exact ⟨rfl, rfl⟩
theorem pieces_stops (n : Nat) (hn : 1 ≤ n) (Bn : Nat) (l : List UInt8) (hl : l.length ≤ 1000000) (w : World) (hBn : Boxed w Bn 9 (.string (S l))) :
   SeqStopsK Fence.wide n Tryz.prog 179 #[.pointer (some ⟨Bn, 0, none⟩)] (fun x : UInt8 => #[Value.string (S (escB x))]) (fun A B => B.heap[Bn]? = A.heap[Bn]?) (fun ys => ys = l) (fun pre => pre <+: l) l.length w := fun y J Jx W hW hJ _ hY h0 =>
 pieces1_in n hn y Bn l hl J Jx W hJ hY ((hW.block Bn hBn.lt).trans hBn) h0
section
variable {F : Fence} {n' : Nat} {P : Program}
theorem wpListIn_append_own_string {ops : Array Oper} {rest : List Oper} {o : Oper} {a : Act} {Q : Exit → Act → World → Prop} (w : World) (hgd : o.guard = none) (sl x : Operand) (t u : TypeId)
   (ho : o.op = .call { callee := .builtin .append, args := #[sl, x], argTypes := #[t, u] })
   (base : Nat) (e : TypeId) (i : TypeInfo) (ht : P.underlying t = some (.slice e)) (hu : P.underlying u = some .string) (hi : P.info? e = some i) (hz : i.zero = some (.int .u8 0))
   (hsize : i.size = 1) (hby : i.bytes = 1)
   (v : Value) (n : Nat) (xs : List Value) (hs : a.eval sl = v) (hown : w.ownsRow base e 1 v n xs) (s : ByteArray) (hx : a.eval x = .string s)
   (h63 : n + s.size ≤ maxLen) (hbytes : n + s.size ≤ 140737488355328) (hbase : base ≤ w.heap.size)
   (h : ∀ v' w', w'.ownsRow base e 1 v' (n + s.size) (xs ++ Lib.strCells s) → w.grownBy w' v.ownBlock → (v' = .slice none 0 0 ↔ v = .slice none 0 0 ∧ s.size = 0) → wpListIn F n' P ops Q rest (a.put o.dst v') w') : wpListIn F n' P ops Q (o :: rest) a w := by
 refine wpListIn_plain hgd fun K hK => ?_
 obtain ⟨v', w', hr, h2, h3, h4⟩ := Lib.run_append_own_string (P := P) w base t u o.type e i ht hu hi hz hsize hby v n xs hown s h63 hbytes hbase
 unfold Oper.wpIn
 refine ⟨?_, ?_⟩
 · simp [Oper.about, ho, resolve, Target.leads, Sem.run_pure]
 · rw [Oper.semAt_plain F _ _ (by rw [ho]; intro c hc'; cases hc')]
   simp [execOp, ho, resolve, invoke, builtin, hs, hx, hr, Result.andThen]
   exact hK _ _ (h v' w' h2 h3 h4)
end
theorem boxed_appended {W w1 : World} {n₀ B : Nat} {t e : TypeId} {size : Nat} {v v' : Value} {k m : Nat} {xs ys : List Value}
   (hv : Boxed W B t v) (hte : t ≠ e) (hrow : W.ownsRow n₀ e size v k xs) (hn₀ : n₀ ≤ W.heap.size) (hB : n₀ ≤ B)
   (hown' : w1.ownsRow n₀ e size v' m ys) (hgrow : W.grownBy w1 v.ownBlock) :
   Boxed w1 B t v ∧ Boxed (w1.setCell ⟨B, 0, none⟩ v') B t v' ∧ (w1.setCell ⟨B, 0, none⟩ v').ownsRow n₀ e size v' m ys ∧ KeepsOthers W (w1.setCell ⟨B, 0, none⟩ v') ∧ Below n₀ W (w1.setCell ⟨B, 0, none⟩ v') := by
 have hv1 : Boxed w1 B t v := hv.kept hgrow (hv.not_row hte hrow)
 refine ⟨hv1, hv1.set v', hown'.kept (grownBy_setCell' w1 B v') (.inr (hv1.not_row hte hown').symm), ?_, ?_⟩
 · refine (KeepsOthers.of_grownBy hgrow fun j o ej hj => ?_).trans (KeepsOthers.setCell _ _ _)
   rcases hrow.2 with ⟨rfl, _⟩ | ⟨g, cap, cur, rfl, _, hgb, _⟩
   · simp [Value.ownBlock] at ej
   · obtain rfl : g = j := by simpa [Value.ownBlock] using ej
     rw [hgb] at hj; cases hj; rfl
 · refine ((Below.refl n₀ W).grown hgrow hn₀ fun j ej => ?_).setCell (p := ⟨B, 0, none⟩) hB v'
   rcases hrow.2 with ⟨rfl, _⟩ | ⟨g, cap, cur, rfl, hb, _, _⟩
   · simp [Value.ownBlock] at ej
   · obtain rfl : g = j := by simpa [Value.ownBlock] using ej
     exact hb
def qpre (pre : List UInt8) : List UInt8 := 34 :: pre.flatMap escB
theorem qpre_len (pre : List UInt8) : 1 ≤ (qpre pre).length ∧ (qpre pre).length ≤ 4 * pre.length + 1 := by
 have := flat_len pre
 unfold qpre; rw [List.length_cons]; omega
theorem qpre_snoc (pre : List UInt8) (x : UInt8) : qpre (pre ++ [x]) = qpre pre ++ escB x := by
 unfold qpre; rw [List.flatMap_append]; simp
theorem own_keeps_block {W w1 : World} {base : Nat} {e : TypeId} {size : Nat} {v : Value} {k : Nat} {xs : List Value} {o ob : Obj} {D : Nat} (h : W.ownsRow base e size v k xs) (hgrow : (W.alloc o).grownBy w1 v.ownBlock)
   (hK : W.heap[D]? = some ob) (ho : ob.isCells = false) : w1.heap[D]? = some ob := by
 have hlt := (Array.getElem?_eq_some_iff.1 hK).1
 refine (hgrow.block D (by simp; omega) fun ej => ?_).trans ((Below.heap_alloc W _ D hlt).trans hK)
 obtain ⟨_, cur, hc⟩ := own_base h D ej.symm
 rw [hK] at hc; cases hc; cases ho
set_option maxRecDepth 100000 in
set_option maxHeartbeats 2000000 in
theorem Quote_in (l : List UInt8) (hl : l.length ≤ 1000000) (w : World) :
   CallsIn Fence.wide 6 Tryz.prog 94 #[.string (S l)] w fun e W' => e = .returned (.string (S (quoteL l))) ∧ Below w.heap.size w W' := by
 have h1 : 1 ≤ 6 := by omega
 obtain ⟨i0, hi, hz0, hz1, hz2⟩ := info_parts infoU8
 refine callsIn_of_wp_marks Tryz.func94 rfl trivial ?_ rfl
 simp only [Tryz.ntmps94, List.size_toArray, List.length_cons, List.length_nil, Nat.reduceAdd, Nat.reduceSub, Array.replicate_succ, Array.replicate_zero, List.push_toArray, List.append_toArray, List.nil_append, List.cons_append]
 gi_wp2_with fail
 refine ⟨trivial, ?_⟩
 refine (pieces_in _ _ _).mono ?_
 rintro e w' ⟨rfl, rfl⟩
 gi_wp2_with fail
 have bO := Boxed.new (w.alloc (.cells #[.int .u8 34] 5)) 138 (.slice (some ⟨w.heap.size, 0, none⟩) 1 1)
 have bS := Boxed.new ((w.alloc (.cells #[.int .u8 34] 5)).alloc (.cells #[.slice (some ⟨w.heap.size, 0, none⟩) 1 1] 138)) 9 (.string (S l))
 rw [World.size_alloc] at bO bS
 rw [World.size_alloc] at bS
 have bO' := bO.alloc (.cells #[.string (S l)] 9)
 have hB0 : Below w.heap.size w (((w.alloc (.cells #[.int .u8 34] 5)).alloc (.cells #[.slice (some ⟨w.heap.size, 0, none⟩) 1 1] 138)).alloc (.cells #[.string (S l)] 9)) :=
   (((Below.refl _ w).alloc (Nat.le_refl _) _).alloc (by simp) _).alloc (by simp; omega) _
 have hrow0 : (((w.alloc (.cells #[.int .u8 34] 5)).alloc (.cells #[.slice (some ⟨w.heap.size, 0, none⟩) 1 1] 138)).alloc (.cells #[.string (S l)] 9)).ownsRow w.heap.size 5 1 (.slice (some ⟨w.heap.size, 0, none⟩) 1 1) 1 [.int .u8 34] :=
   ⟨rfl, .inr ⟨w.heap.size, 1, #[.int .u8 34], rfl, Nat.le_refl _, ((Boxed.new w 5 (.int .u8 34)).alloc _).alloc _, Nat.le_refl _, by decide, rfl, rfl⟩⟩
 refine wpIn_rangeFunc_ownG rfl h1 (gf := 179) (lb := #[.pointer (some ⟨w.heap.size + 1 + 1, 0, none⟩)]) rfl trivial (enters_of Tryz.func179 (by kernel_rfl) rfl)
   (pieces_stops _ (by omega) (w.heap.size + 1 + 1) l hl _ bS) (fun h k => k.trans h) (fun W y o o' hl' hy _ _ => World.putObj_heap_other (by simp at hl'; omega)) (Below.refl _ _) (fun _ => rfl)
   (fun pre W => (∃ v, Boxed W (w.heap.size + 1) 138 v ∧ W.ownsRow w.heap.size 5 1 v (qpre pre).length (bcells (qpre pre)) ∧ True) ∧ Boxed W (w.heap.size + 1 + 1) 9 (.string (S l)) ∧ Below w.heap.size w W)
   (fun _ _ _ => False)
   (OwnFrom.and (Own.from (holdsRow_own w.heap.size (w.heap.size + 1) 138 5 1 (fun pre => (qpre pre).length) (fun pre => bcells (qpre pre)) (fun _ _ => True)) _) (OwnFrom.and (Own.from (boxed_own _ _ _) _) (ownFrom_below (Nat.le_refl _) (by simp; omega))))
   (fun _ _ _ _ _ hs _ _ => hs)
   ⟨⟨_, bO', hrow0, trivial⟩, bS, hB0⟩
   (fun x => { tmps := #[.string (S l), undef, .string ⟨#[]⟩, .pointer (some ⟨w.heap.size + 1, 0, none⟩), .string (S (escB x)), .slice (some ⟨w.heap.size, 0, none⟩) 1 1, .string (S l), .func (.func 179) #[] #[.pointer (some ⟨w.heap.size + 1 + 1, 0, none⟩)], .string (S (escB x)), undef, undef, undef, undef, undef, undef, undef], defers := [] }) ?assign ?body ?done ?stop
 case assign =>
   intro y x W K hK
   gi_wp2
   exact hK
 case body =>
   rintro y pre x W ⟨⟨v, hv, hrow, _⟩, hs, hB⟩ hlt
   have hc := hv.cell
   have hq := qpre_len pre
   have hx := esc_len x
   have hx' : (S (escB x)).size ≤ 4 := hx.2
   gi_wp2_with (gi_at_builtin; refine wpListIn_append_own_string _ rfl _ _ 138 9 rfl w.heap.size 5 i0 Tryz.underlying138 Tryz.underlying9 hi hz0 hz1 hz2 _ _ _ rfl hrow (S (escB x)) rfl (by unfold maxLen; omega) (by omega) hB.size ?_; intro v' w1 hown' hgrow _; obtain ⟨g', cap', rfl⟩ := ownsRow_pos hown' (by omega); obtain ⟨hv1, hv2, hr2, hk2, hb2⟩ := boxed_appended hv (by decide) hrow hB.size (by omega) hown' hgrow; have hc1 := hv1.cell; have hf1 := hv1.frozen)
   have hs2 : Boxed (w1.setCell ⟨w.heap.size + 1, 0, none⟩ (.slice (some ⟨g', 0, none⟩) ((qpre pre).length + (S (escB x)).size) cap')) (w.heap.size + 1 + 1) 9 (.string (S l)) :=
     (hs.kept hgrow (hs.not_row (by decide) hrow)).kept (grownBy_setCell' _ _ _) (by simp)
   refine ⟨hk2.from _, hs2.trans hs.symm, ⟨_, hv2, ?_, trivial⟩, hs2, hB.trans hb2⟩
   rw [qpre_snoc, ← bcells_append, List.length_append]
   exact hr2
 case done =>
   rintro D ys W hD rfl ⟨⟨v, hv, hrow, _⟩, hs, hB⟩ hK
   have hc := hv.cell
   have hq := qpre_len ys
   have hq2 : qpre ys ++ [34] = quoteL ys := rfl
   gi_wp2_with (gi_at_builtin; refine wpListIn_append_own _ rfl _ _ 138 rfl w.heap.size 5 i0 (.int .u8 0) 1 1 Tryz.underlying138 hi hz0 hz1 hz2 rfl (by decide) _ _ _ rfl (hrow.alloc _) ⟨W.heap.size, 0, none⟩ 1 1 [.int .u8 34] rfl rfl (cell_one_new _ _ _) (by simp [Value.oneCell']) (by unfold maxLen; omega) (by omega) (by have := hB.size; simp; omega) ?_; intro v' w1 hown' hgrow _; have hK1 := own_keeps_block hrow hgrow hK rfl; have hcv := conv_own (P := Tryz.prog) w1 138 9 5 w.heap.size v' (qpre ys ++ [34]) Tryz.underlying138 Tryz.underlying5 Tryz.underlying9 (by rw [List.length_append, ← bcells_append]; exact hown'); rw [hq2] at hcv; have hB1 := own_below1 hB hrow hgrow hB.size; clear hgrow hown' hq2)
   refine ⟨by simp, .inl ⟨_, _, rfl, run_takeDeferred hK1, ?_⟩⟩
   exact ⟨_, results_tmp rfl _ _ _, rfl, hB1.trans (belowK_b (w := w) (Nat.le_refl _) w1 D _ _ (by simp at hD; omega) hK1 rfl rfl)⟩
 case stop =>
   rintro D c pre W _ _ h _
   exact h.elim
theorem quote_any (l : List UInt8) (hl : l.length ≤ 1000000) (w : World) :
   Calls Tryz.prog 94 #[.string (S l)] w fun e w' => e = .returned (.string (S (quoteL l))) ∧ Below w.heap.size w w' :=
 callsIn_wide.1 (Quote_in l hl w)
end
section
open Go.RowKit
structure NumOk (w : World) : Prop where
 tab : Lib.TabIs Tryz.prog w "internal/strconv.uint64pow10" .u64 Lib.pow10Tab
 es : ∃ tp p, w.var? Tryz.prog "strconv.ErrSyntax" = some #[.iface tp p]
 er : ∃ tp p, w.var? Tryz.prog "strconv.ErrRange" = some #[.iface tp p]
theorem var_on {w w' : World} {n : String} {cs : Array Value} (h : w.var? Tryz.prog n = some cs) (hb : Below w.heap.size w w') : w'.var? Tryz.prog n = some cs := by
 cases hg : Tryz.prog.globalNamed n with
 | none => unfold World.var? at h; rw [hg] at h; cases h
 | some g => exact Go.Joins.var_stays hg h hb (Nat.le_refl _)
theorem NumOk.below {w w' : World} (h : NumOk w) (hb : Below w.heap.size w w') : NumOk w' := by
 obtain ⟨t, ⟨a, b, hs⟩, ⟨c, d, hr⟩⟩ := h
 exact ⟨var_on t hb, ⟨a, b, var_on hs hb⟩, ⟨c, d, var_on hr hb⟩⟩
end
end Go.Proofs.YtoahmganodehkaaGreatDoor
