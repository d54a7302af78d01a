/- The reference's Reader: more, is. -/
import Derived.Deep.RegionHeld3
import Derived.Deep.DeepCutAuto
import Derived.Deep.CutBlock
import Derived.Test.YtpekkdgaeadepaaDoorStQ
import Derived.IntWalk
namespace Go.Proofs.YtpekkdgaeadepaaDoor
open Go.RowKit

/-- the reader's cells -/
def rdC (s : List UInt8) (a : Nat) (F : Bool) : Array Value := #[.string (S s), .int .i64 (a : Int), .bool F]
def RdAt (W : World) (B : Nat) (s : List UInt8) (a : Nat) (F : Bool) : Prop := Blk W B (rdC s a F) 47
theorem RdAt.cells {W : World} {B : Nat} {s : List UInt8} {a : Nat} {F : Bool} (h : RdAt W B s a F) : W.cell? ⟨B, 0, none⟩ = some (.string (S s)) ∧ W.cell? ⟨B, 1, none⟩ = some (.int .i64 (a : Int)) ∧ W.cell? ⟨B, 2, none⟩ = some (.bool F) :=
  ⟨Blk.cell h 0, Blk.cell h 1, Blk.cell h 2⟩
/-- what holds in a region -/
def RdIn (W0 : World) (B : Nat) (s : List UInt8) (a : Nat) (F : Bool) (W : World) : Prop := W.cell? ⟨B, 0, none⟩ = some (.string (S s)) ∧ W.cell? ⟨B, 1, none⟩ = some (.int .i64 (a : Int)) ∧ W.cell? ⟨B, 2, none⟩ = some (.bool F) ∧ Below W0.heap.size W0 W
theorem RdIn.below {W0 W W' : World} {B : Nat} {s : List UInt8} {a : Nat} {F : Bool} (hB : B < W0.heap.size) (h : RdIn W0 B s a F W) (hb : Below W.heap.size W W') : RdIn W0 B s a F W' := by
  have hs := h.2.2.2.size
  exact ⟨(hb.cell (p := ⟨B, 0, none⟩) (show B < _ by omega)).trans h.1, (hb.cell (p := ⟨B, 1, none⟩) (show B < _ by omega)).trans h.2.1, (hb.cell (p := ⟨B, 2, none⟩) (show B < _ by omega)).trans h.2.2.1, h.2.2.2.trans (hb.mono hs)⟩
set_option maxRecDepth 100000 in
set_option maxHeartbeats 2000000 in
theorem more_any (s : List UInt8) (a : Nat) (F : Bool) (B : Nat) (w : World) (hR : RdAt w B s a F) : Calls Tryd.prog 66 #[.pointer (some ⟨B, 0, none⟩)] w fun e w' => e = .returned (.bool (!F && decide (a < s.length))) ∧ Below w.heap.size w w' := by
  have hB : B < w.heap.size := Blk.lt hR
  obtain ⟨x0, x1, x2⟩ := hR.cells
  have HI : Hid (w.drew.cell? ⟨B, 0, none⟩ = some (.string (S s)) ∧ w.drew.cell? ⟨B, 1, none⟩ = some (.int .i64 (a : Int)) ∧ w.drew.cell? ⟨B, 2, none⟩ = some (.bool F) ∧ Below w.heap.size w w.drew) := Lib.hid ⟨x0, x1, x2, below_drew (Below.refl _ _)⟩
  clear hR
  rcases bool_two F with rfl | rfl
  · obtain ⟨b, hb⟩ : ∃ b, decide ((a : Int) < (s.length : Int)) = b := ⟨_, rfl⟩
    have hb' : decide (a < s.length) = b := by rw [← hb]; simp
    rw [hb']
    clear hb'
    go_enter Tryd.func66, Tryd.ntmps66
    go_upto_region 1 with fail
    go_region_held3 (fun w' => w'.cell? ⟨B, 0, none⟩ = some (.string (S s)) ∧ w'.cell? ⟨B, 1, none⟩ = some (.int .i64 (a : Int)) ∧ w'.cell? ⟨B, 2, none⟩ = some (.bool false) ∧ Below w.heap.size w w')
      (first | with_reducible exact HI.out | go_keep) (fail)
    all_goals
      go_wp2_with fail
      go_ret
      exact ⟨by rw [← hb]; simp, below_drew (Below.refl _ _)⟩
  · go_enter Tryd.func66, Tryd.ntmps66
    go_upto_region 1 with fail
    refine wp_region_noPanic ?_
    refine wp_region_held_drew (S := fun w' => w'.cell? ⟨B, 0, none⟩ = some (.string (S s)) ∧ w'.cell? ⟨B, 1, none⟩ = some (.int .i64 (a : Int)) ∧ w'.cell? ⟨B, 2, none⟩ = some (.bool true) ∧ Below w.heap.size w w') (by kernel_rfl) (HI.out) (fun hS => ?_)
    generalize hV0 : w.drew = V0 at hS ⊢
    refine wpAnyH_take (i := 0) (v := ?vm_0) rfl (by kernel_rfl) (by kernel_rfl) (by kernel_rfl) (fun _ _ _ h => h) (Or.inl ⟨by rfl, ?hym_0⟩) hS ?restm_0
    case hym_0 => (intro v hSw; (try dsimp only at hSw); try simp only [List.getElem_toArray, List.getElem_cons_zero, List.getElem_cons_succ]; go_simp; (try with_reducible rfl))
    try simp only [List.getElem_toArray, List.getElem_cons_zero, List.getElem_cons_succ]
    try simp only [Act.put, List.setIfInBounds_toArray, List.set_cons_zero, List.set_cons_succ]
    refine wpAnyH_take (i := 1) (v := ?vm_1) rfl (by kernel_rfl) (by kernel_rfl) (by kernel_rfl) (fun _ _ _ h => h) (Or.inl ⟨by rfl, ?hym_1⟩) hS ?restm_1
    case hym_1 => (intro v hSw; (try dsimp only at hSw); try simp only [List.getElem_toArray, List.getElem_cons_zero, List.getElem_cons_succ]; go_simp; (try with_reducible rfl))
    try simp only [List.getElem_toArray, List.getElem_cons_zero, List.getElem_cons_succ]
    try simp only [Act.put, List.setIfInBounds_toArray, List.set_cons_zero, List.set_cons_succ]
    refine wpAnyH_take (i := 2) (v := ?vm_2) rfl (by kernel_rfl) (by kernel_rfl) (by kernel_rfl) (fun _ _ _ h => h) (Or.inl ⟨by rfl, ?hym_2⟩) hS ?restm_2
    case hym_2 => (intro v hSw; (try dsimp only at hSw); try simp only [List.getElem_toArray, List.getElem_cons_zero, List.getElem_cons_succ]; go_simp; (try with_reducible rfl))
    try simp only [List.getElem_toArray, List.getElem_cons_zero, List.getElem_cons_succ]
    try simp only [Act.put, List.setIfInBounds_toArray, List.set_cons_zero, List.set_cons_succ]
    refine wpAnyH_take (i := 3) (v := ?vm_3) rfl (by kernel_rfl) (by kernel_rfl) (by kernel_rfl) (fun _ _ _ h => h) (Or.inl ⟨by rfl, ?hym_3⟩) hS ?restm_3
    case hym_3 => (intro v hSw; (try dsimp only at hSw); try simp only [List.getElem_toArray, List.getElem_cons_zero, List.getElem_cons_succ]; go_simp; (try with_reducible rfl))
    try simp only [List.getElem_toArray, List.getElem_cons_zero, List.getElem_cons_succ]
    try simp only [Act.put, List.setIfInBounds_toArray, List.set_cons_zero, List.set_cons_succ]
    refine wpAnyH_take (i := 4) (v := ?vm_4) rfl (by kernel_rfl) (by kernel_rfl) (by kernel_rfl) (fun _ _ _ h => h) (Or.inl ⟨by rfl, ?hym_4⟩) hS ?restm_4
    case hym_4 => (intro v hSw; (try dsimp only at hSw); try simp only [List.getElem_toArray, List.getElem_cons_zero, List.getElem_cons_succ]; go_simp; (try with_reducible rfl))
    try simp only [List.getElem_toArray, List.getElem_cons_zero, List.getElem_cons_succ]
    try simp only [Act.put, List.setIfInBounds_toArray, List.set_cons_zero, List.set_cons_succ]
    refine wpAnyH_take (i := 5) (v := ?vm_5) rfl (by kernel_rfl) (by kernel_rfl) (by kernel_rfl) (fun _ _ _ h => h) (Or.inl ⟨by rfl, ?hym_5⟩) hS ?restm_5
    case hym_5 => (intro v hSw; (try dsimp only at hSw); try simp only [List.getElem_toArray, List.getElem_cons_zero, List.getElem_cons_succ]; go_simp; (try with_reducible rfl))
    try simp only [List.getElem_toArray, List.getElem_cons_zero, List.getElem_cons_succ]
    try simp only [Act.put, List.setIfInBounds_toArray, List.set_cons_zero, List.set_cons_succ]
    refine wpAnyH_take (i := 6) rfl (by kernel_rfl) (by kernel_rfl) (by kernel_rfl) (fun _ _ _ h => h) (Or.inr ⟨by rfl, rfl⟩) hS ?_
    try simp only [List.getElem_toArray, List.getElem_cons_zero, List.getElem_cons_succ]
    try simp only [Act.put, List.setIfInBounds_toArray, List.set_cons_zero, List.set_cons_succ]
    refine wpAnyH_take (i := 7) rfl (by kernel_rfl) (by kernel_rfl) (by kernel_rfl) (fun _ _ _ h => h) (Or.inr ⟨by rfl, rfl⟩) hS ?_
    try simp only [List.getElem_toArray, List.getElem_cons_zero, List.getElem_cons_succ]
    try simp only [Act.put, List.setIfInBounds_toArray, List.set_cons_zero, List.set_cons_succ]
    refine wpAnyH_take (i := 8) rfl (by kernel_rfl) (by kernel_rfl) (by kernel_rfl) (fun _ _ _ h => h) (Or.inr ⟨by rfl, rfl⟩) hS ?_
    try simp only [List.getElem_toArray, List.getElem_cons_zero, List.getElem_cons_succ]
    try simp only [Act.put, List.setIfInBounds_toArray, List.set_cons_zero, List.set_cons_succ]
    refine wpAnyH_take (i := 9) rfl (by kernel_rfl) (by kernel_rfl) (by kernel_rfl) (fun _ _ _ h => h) (Or.inr ⟨by rfl, rfl⟩) hS ?_
    try simp only [List.getElem_toArray, List.getElem_cons_zero, List.getElem_cons_succ]
    try simp only [Act.put, List.setIfInBounds_toArray, List.set_cons_zero, List.set_cons_succ]
    refine wpAnyH_take (i := 10) rfl (by kernel_rfl) (by kernel_rfl) (by kernel_rfl) (fun _ _ _ h => h) (Or.inr ⟨by rfl, rfl⟩) hS ?_
    try simp only [List.getElem_toArray, List.getElem_cons_zero, List.getElem_cons_succ]
    try simp only [Act.put, List.setIfInBounds_toArray, List.set_cons_zero, List.set_cons_succ]
    refine wpAnyH_take (i := 11) rfl (by kernel_rfl) (by kernel_rfl) (by kernel_rfl) (fun _ _ _ h => h) (Or.inr ⟨by rfl, rfl⟩) hS ?_
    try simp only [List.getElem_toArray, List.getElem_cons_zero, List.getElem_cons_succ]
    try simp only [Act.put, List.setIfInBounds_toArray, List.set_cons_zero, List.set_cons_succ]
    refine wpAnyH_take (i := 12) rfl (by kernel_rfl) (by kernel_rfl) (by kernel_rfl) (fun _ _ _ h => h) (Or.inr ⟨by rfl, rfl⟩) hS ?_
    try simp only [List.getElem_toArray, List.getElem_cons_zero, List.getElem_cons_succ]
    try simp only [Act.put, List.setIfInBounds_toArray, List.set_cons_zero, List.set_cons_succ]
    refine wpAnyH_take (i := 13) rfl (by kernel_rfl) (by kernel_rfl) (by kernel_rfl) (fun _ _ _ h => h) (Or.inr ⟨by rfl, rfl⟩) hS ?_
    try simp only [List.getElem_toArray, List.getElem_cons_zero, List.getElem_cons_succ]
    try simp only [Act.put, List.setIfInBounds_toArray, List.set_cons_zero, List.set_cons_succ]
    refine wpAnyH_take (i := 14) rfl (by kernel_rfl) (by kernel_rfl) (by kernel_rfl) (fun _ _ _ h => h) (Or.inr ⟨by rfl, rfl⟩) hS ?_
    try simp only [List.getElem_toArray, List.getElem_cons_zero, List.getElem_cons_succ]
    try simp only [Act.put, List.setIfInBounds_toArray, List.set_cons_zero, List.set_cons_succ]
    refine wpAnyH_take (i := 15) rfl (by kernel_rfl) (by kernel_rfl) (by kernel_rfl) (fun _ _ _ h => h) (Or.inr ⟨by rfl, rfl⟩) hS ?_
    try simp only [List.getElem_toArray, List.getElem_cons_zero, List.getElem_cons_succ]
    try simp only [Act.put, List.setIfInBounds_toArray, List.set_cons_zero, List.set_cons_succ]
    refine wpAnyH_take (i := 16) (v := ?vm_16) rfl (by kernel_rfl) (by kernel_rfl) (by kernel_rfl) (fun _ _ _ h => h) (Or.inl ⟨by rfl, ?hym_16⟩) hS ?restm_16
    case hym_16 => (intro v hSw; (try dsimp only at hSw); try simp only [List.getElem_toArray, List.getElem_cons_zero, List.getElem_cons_succ]; go_simp; (try with_reducible rfl))
    try simp only [List.getElem_toArray, List.getElem_cons_zero, List.getElem_cons_succ]
    try simp only [Act.put, List.setIfInBounds_toArray, List.set_cons_zero, List.set_cons_succ]
    refine wpAnyH_take (i := 17) (v := ?vm_17) rfl (by kernel_rfl) (by kernel_rfl) (by kernel_rfl) (fun _ _ _ h => h) (Or.inl ⟨by rfl, ?hym_17⟩) hS ?restm_17
    case hym_17 => (intro v hSw; (try dsimp only at hSw); try simp only [List.getElem_toArray, List.getElem_cons_zero, List.getElem_cons_succ]; go_simp; (try with_reducible rfl))
    try simp only [List.getElem_toArray, List.getElem_cons_zero, List.getElem_cons_succ]
    try simp only [Act.put, List.setIfInBounds_toArray, List.set_cons_zero, List.set_cons_succ]
    refine wpAnyH_done (by kernel_rfl) ?_ _
    refine NoPanic.normal ?_
    go_wp2_with fail
    go_ret
    exact ⟨rfl, hS.2.2.2⟩


theorem RdAt.below {W W' : World} {B : Nat} {s : List UInt8} {a : Nat} {F : Bool} (h : RdAt W B s a F) (hb : Below W.heap.size W W') : RdAt W' B s a F := Blk.below h hb
theorem RdAt.kept {W W' : World} {B : Nat} {s : List UInt8} {a : Nat} {F : Bool} (h : RdAt W B s a F) {row : Option Nat} (hg : W.grownBy W' row) (hne : some B ≠ row) : RdAt W' B s a F := Blk.kept h hg hne
theorem rdS {w W : World} {B : Nat} {s : List UInt8} {a : Nat} {F : Bool} (h : RdAt W B s a F) (hb : Below w.heap.size w W) : W.cell? ⟨B, 0, none⟩ = some (.string (S s)) ∧ W.cell? ⟨B, 1, none⟩ = some (.int .i64 (a : Int)) ∧ W.cell? ⟨B, 2, none⟩ = some (.bool F) ∧ RdAt W B s a F ∧ Below w.heap.size w W :=
  ⟨h.cells.1, h.cells.2.1, h.cells.2.2, h, hb⟩
theorem rdS_on {w W W' : World} {B : Nat} {s : List UInt8} {a : Nat} {F : Bool} (hS : W.cell? ⟨B, 0, none⟩ = some (.string (S s)) ∧ W.cell? ⟨B, 1, none⟩ = some (.int .i64 (a : Int)) ∧ W.cell? ⟨B, 2, none⟩ = some (.bool F) ∧ RdAt W B s a F ∧ Below w.heap.size w W) (hb : Below W.heap.size W W') :
    W'.cell? ⟨B, 0, none⟩ = some (.string (S s)) ∧ W'.cell? ⟨B, 1, none⟩ = some (.int .i64 (a : Int)) ∧ W'.cell? ⟨B, 2, none⟩ = some (.bool F) ∧ RdAt W' B s a F ∧ Below w.heap.size w W' :=
  rdS (hS.2.2.2.1.below hb) (hS.2.2.2.2.trans (hb.mono hS.2.2.2.2.size))
theorem RdAt.setAt {W : World} {B : Nat} {s : List UInt8} {a : Nat} {F : Bool} (h : RdAt W B s a F) (n : Nat) : RdAt (W.setCell ⟨B, 1, none⟩ (.int .i64 (n : Int))) B s n F := Blk.set h 1 _
theorem RdAt.fail {W : World} {B : Nat} {s : List UInt8} {a : Nat} {F : Bool} (h : RdAt W B s a F) : RdAt (W.setCell ⟨B, 2, none⟩ (.bool true)) B s a true := Blk.set h 2 _
theorem below_grown {W W' : World} (h : Below W.heap.size W W') (row : Option Nat) : W.grownBy W' row := ⟨h.os, h.tape, h.output, h.size, fun k hk _ => h.block k hk⟩
theorem grown_trans {a b c : World} {row : Option Nat} (h : a.grownBy b row) (k : b.grownBy c row) : a.grownBy c row :=
  ⟨k.os.trans h.os, k.tape.trans h.tape, k.output.trans h.output, Nat.le_trans h.size k.size, fun i hi hn => (k.block i (Nat.lt_of_lt_of_le hi h.size) hn).trans (h.block i hi hn)⟩
theorem grown_set (W : World) (B i : Nat) (v : Value) : W.grownBy (W.setCell ⟨B, i, none⟩ v) (some B) := by
  refine ⟨rfl, rfl, rfl, by simp [World.setCell], fun k _ hn => ?_⟩
  simp only [World.setCell, Array.getElem?_modify]
  rw [if_neg (fun e => hn (by rw [e]))]
set_option maxRecDepth 100000 in
set_option maxHeartbeats 2000000 in
theorem is_no (s : List UInt8) (a : Nat) (b : UInt8) (B : Nat) (w : World) (hl : s.length ≤ 100000) (hR : RdAt w B s a false) (hno : s.length ≤ a ∨ byt s a ≠ b) : Calls Tryd.prog 47 #[.pointer (some ⟨B, 0, none⟩), .int .u8 (b.toNat : Int)] w fun e w' => e = .returned (.bool false) ∧ Below w.heap.size w w' := by
  have hB : B < w.heap.size := Blk.lt hR
  have HI := Lib.hid (rdS (w := w) (Blk.drew hR) (below_drew (Below.refl _ _)))
  clear hR
  by_cases hlt : a < s.length
  · have hne : byt s a ≠ b := by rcases hno with h | h; (omega); exact h
    have HM : Hid ((!false && decide (a < s.length)) = true) := Lib.hid (by rw [decide_eq_true hlt]; rfl)
    have a0 : (0 : Int) ≤ (a : Int) := by omega
    have a1 : (a : Int) < (s.length : Int) := by omega
    have e1 : (((byt s a).toNat : Int) != (b.toNat : Int)) = true := by
      rw [bne_iff_ne]; intro e; exact hne (UInt8.toNat_inj.1 (Int.ofNat_inj.1 e))
    clear hno hne hlt
    go_enter Tryd.func47, Tryd.ntmps47
    go_upto_region 1 with fail
    refine wp_region_noPanic ?_
    refine wp_region_held_drew (S := fun w' => w'.cell? ⟨B, 0, none⟩ = some (.string (S s)) ∧ w'.cell? ⟨B, 1, none⟩ = some (.int .i64 (a : Int)) ∧ w'.cell? ⟨B, 2, none⟩ = some (.bool false) ∧ RdAt w' B s a false ∧ Below w.heap.size w w') (by kernel_rfl) (HI.out) (fun hS => ?_)
    generalize hV0 : w.drew = V0 at hS ⊢
    refine wpAnyH_take (i := 0) (v := ?vp_0) rfl (by kernel_rfl) (by kernel_rfl) (by kernel_rfl) (fun _ _ _ h => h) (Or.inl ⟨by rfl, ?hyp_0⟩) hS ?restp_0
    case hyp_0 => (intro v hSw; (try dsimp only at hSw); try simp only [List.getElem_toArray, List.getElem_cons_zero, List.getElem_cons_succ]; go_simp; (try with_reducible rfl))
    try simp only [List.getElem_toArray, List.getElem_cons_zero, List.getElem_cons_succ]
    try simp only [Act.put, List.setIfInBounds_toArray, List.set_cons_zero, List.set_cons_succ]
    refine wpAnyH_ready (rs := [1]) (by kernel_rfl) (by simp) ?_
    refine AllReadyH.cons rfl (fun K hK => ?_) AllReadyH.nil
    try simp only [List.getElem_toArray, List.getElem_cons_zero, List.getElem_cons_succ]
    go_simp
    refine (more_any s a false B _ hS.2.2.2.1).mono ?_
    rintro e w9 ⟨rfl, hb9⟩
    rw [HM.out]
    try go_wp2_with fail
    refine hK.out _ _ (rdS_on hS hb9) (fun hS' => ?_)
    clear hK K hS hb9
    have hS := hS'
    clear hS'
    try simp only [Act.put, List.setIfInBounds_toArray, List.set_cons_zero, List.set_cons_succ]
    refine wpAnyH_take (i := 2) (v := ?vp_2) rfl (by kernel_rfl) (by kernel_rfl) (by kernel_rfl) (fun _ _ _ h => h) (Or.inl ⟨by rfl, ?hyp_2⟩) hS ?restp_2
    case hyp_2 => (intro v hSw; (try dsimp only at hSw); try simp only [List.getElem_toArray, List.getElem_cons_zero, List.getElem_cons_succ]; go_simp; (try with_reducible rfl))
    try simp only [List.getElem_toArray, List.getElem_cons_zero, List.getElem_cons_succ]
    try simp only [Act.put, List.setIfInBounds_toArray, List.set_cons_zero, List.set_cons_succ]
    refine wpAnyH_take (i := 3) (v := ?vp_3) rfl (by kernel_rfl) (by kernel_rfl) (by kernel_rfl) (fun _ _ _ h => h) (Or.inl ⟨by rfl, ?hyp_3⟩) hS ?restp_3
    case hyp_3 => (intro v hSw; (try dsimp only at hSw); try simp only [List.getElem_toArray, List.getElem_cons_zero, List.getElem_cons_succ]; go_simp; (try with_reducible rfl))
    try simp only [List.getElem_toArray, List.getElem_cons_zero, List.getElem_cons_succ]
    try simp only [Act.put, List.setIfInBounds_toArray, List.set_cons_zero, List.set_cons_succ]
    refine wpAnyH_take (i := 4) (v := ?vp_4) rfl (by kernel_rfl) (by kernel_rfl) (by kernel_rfl) (fun _ _ _ h => h) (Or.inl ⟨by rfl, ?hyp_4⟩) hS ?restp_4
    case hyp_4 => (intro v hSw; (try dsimp only at hSw); try simp only [List.getElem_toArray, List.getElem_cons_zero, List.getElem_cons_succ]; go_simp; (try with_reducible rfl))
    try simp only [List.getElem_toArray, List.getElem_cons_zero, List.getElem_cons_succ]
    try simp only [Act.put, List.setIfInBounds_toArray, List.set_cons_zero, List.set_cons_succ]
    refine wpAnyH_take (i := 5) (v := ?vp_5) rfl (by kernel_rfl) (by kernel_rfl) (by kernel_rfl) (fun _ _ _ h => h) (Or.inl ⟨by rfl, ?hyp_5⟩) hS ?restp_5
    case hyp_5 => (intro v hSw; (try dsimp only at hSw); try simp only [List.getElem_toArray, List.getElem_cons_zero, List.getElem_cons_succ]; go_simp; (try with_reducible rfl))
    try simp only [List.getElem_toArray, List.getElem_cons_zero, List.getElem_cons_succ]
    try simp only [Act.put, List.setIfInBounds_toArray, List.set_cons_zero, List.set_cons_succ]
    refine wpAnyH_take (i := 6) (v := ?vp_6) rfl (by kernel_rfl) (by kernel_rfl) (by kernel_rfl) (fun _ _ _ h => h) (Or.inl ⟨by rfl, ?hyp_6⟩) hS ?restp_6
    case hyp_6 => (intro v hSw; (try dsimp only at hSw); try simp only [List.getElem_toArray, List.getElem_cons_zero, List.getElem_cons_succ]; go_simp; (try with_reducible rfl))
    try simp only [List.getElem_toArray, List.getElem_cons_zero, List.getElem_cons_succ]
    try simp only [Act.put, List.setIfInBounds_toArray, List.set_cons_zero, List.set_cons_succ]
    refine wpAnyH_take (i := 7) (v := ?vp_7) rfl (by kernel_rfl) (by kernel_rfl) (by kernel_rfl) (fun _ _ _ h => h) (Or.inl ⟨by rfl, ?hyp_7⟩) hS ?restp_7
    case hyp_7 => (intro v hSw; (try dsimp only at hSw); try simp only [List.getElem_toArray, List.getElem_cons_zero, List.getElem_cons_succ]; go_simp; (try with_reducible rfl))
    try simp only [List.getElem_toArray, List.getElem_cons_zero, List.getElem_cons_succ]
    try simp only [Act.put, List.setIfInBounds_toArray, List.set_cons_zero, List.set_cons_succ]
    refine wpAnyH_take (i := 8) (v := ?vp_8) rfl (by kernel_rfl) (by kernel_rfl) (by kernel_rfl) (fun _ _ _ h => h) (Or.inl ⟨by rfl, ?hyp_8⟩) hS ?restp_8
    case hyp_8 => (intro v hSw; (try dsimp only at hSw); try simp only [List.getElem_toArray, List.getElem_cons_zero, List.getElem_cons_succ]; go_simp; (try with_reducible rfl))
    try simp only [List.getElem_toArray, List.getElem_cons_zero, List.getElem_cons_succ]
    try simp only [Act.put, List.setIfInBounds_toArray, List.set_cons_zero, List.set_cons_succ]
    refine wpAnyH_take (i := 9) (v := ?vp_9) rfl (by kernel_rfl) (by kernel_rfl) (by kernel_rfl) (fun _ _ _ h => h) (Or.inl ⟨by rfl, ?hyp_9⟩) hS ?restp_9
    case hyp_9 => (intro v hSw; (try dsimp only at hSw); try simp only [List.getElem_toArray, List.getElem_cons_zero, List.getElem_cons_succ]; go_simp; (try with_reducible rfl))
    try simp only [List.getElem_toArray, List.getElem_cons_zero, List.getElem_cons_succ]
    try simp only [Act.put, List.setIfInBounds_toArray, List.set_cons_zero, List.set_cons_succ]
    refine wpAnyH_take (i := 10) (v := ?vp_10) rfl (by kernel_rfl) (by kernel_rfl) (by kernel_rfl) (fun _ _ _ h => h) (Or.inl ⟨by rfl, ?hyp_10⟩) hS ?restp_10
    case hyp_10 => (intro v hSw; (try dsimp only at hSw); try simp only [List.getElem_toArray, List.getElem_cons_zero, List.getElem_cons_succ]; go_simp; (try with_reducible rfl))
    try simp only [List.getElem_toArray, List.getElem_cons_zero, List.getElem_cons_succ]
    try simp only [Act.put, List.setIfInBounds_toArray, List.set_cons_zero, List.set_cons_succ]
    refine wpAnyH_take (i := 11) (v := ?vp_11) rfl (by kernel_rfl) (by kernel_rfl) (by kernel_rfl) (fun _ _ _ h => h) (Or.inl ⟨by rfl, ?hyp_11⟩) hS ?restp_11
    case hyp_11 => (intro v hSw; (try dsimp only at hSw); try simp only [List.getElem_toArray, List.getElem_cons_zero, List.getElem_cons_succ]; go_simp; (try with_reducible rfl))
    try simp only [List.getElem_toArray, List.getElem_cons_zero, List.getElem_cons_succ]
    try simp only [Act.put, List.setIfInBounds_toArray, List.set_cons_zero, List.set_cons_succ]
    refine wpAnyH_take (i := 12) (v := ?vp_12) rfl (by kernel_rfl) (by kernel_rfl) (by kernel_rfl) (fun _ _ _ h => h) (Or.inl ⟨by rfl, ?hyp_12⟩) hS ?restp_12
    case hyp_12 => (intro v hSw; (try dsimp only at hSw); try simp only [List.getElem_toArray, List.getElem_cons_zero, List.getElem_cons_succ]; go_simp; (try with_reducible rfl))
    try simp only [List.getElem_toArray, List.getElem_cons_zero, List.getElem_cons_succ]
    try simp only [Act.put, List.setIfInBounds_toArray, List.set_cons_zero, List.set_cons_succ]
    refine wpAnyH_take (i := 13) (v := ?vp_13) rfl (by kernel_rfl) (by kernel_rfl) (by kernel_rfl) (fun _ _ _ h => h) (Or.inl ⟨by rfl, ?hyp_13⟩) hS ?restp_13
    case hyp_13 => (intro v hSw; (try dsimp only at hSw); try simp only [List.getElem_toArray, List.getElem_cons_zero, List.getElem_cons_succ]; go_simp; (try with_reducible rfl))
    try simp only [List.getElem_toArray, List.getElem_cons_zero, List.getElem_cons_succ]
    try simp only [Act.put, List.setIfInBounds_toArray, List.set_cons_zero, List.set_cons_succ]
    refine wpAnyH_take (i := 14) (v := ?vp_14) rfl (by kernel_rfl) (by kernel_rfl) (by kernel_rfl) (fun _ _ _ h => h) (Or.inl ⟨by rfl, ?hyp_14⟩) hS ?restp_14
    case hyp_14 => (intro v hSw; (try dsimp only at hSw); try simp only [List.getElem_toArray, List.getElem_cons_zero, List.getElem_cons_succ]; go_simp; (try with_reducible rfl))
    try simp only [List.getElem_toArray, List.getElem_cons_zero, List.getElem_cons_succ]
    try simp only [Act.put, List.setIfInBounds_toArray, List.set_cons_zero, List.set_cons_succ]
    refine wpAnyH_take (i := 15) (v := ?vp_15) rfl (by kernel_rfl) (by kernel_rfl) (by kernel_rfl) (fun _ _ _ h => h) (Or.inl ⟨by rfl, ?hyp_15⟩) hS ?restp_15
    case hyp_15 => (intro v hSw; (try dsimp only at hSw); try simp only [List.getElem_toArray, List.getElem_cons_zero, List.getElem_cons_succ]; go_simp; (try with_reducible rfl))
    try simp only [List.getElem_toArray, List.getElem_cons_zero, List.getElem_cons_succ]
    try simp only [Act.put, List.setIfInBounds_toArray, List.set_cons_zero, List.set_cons_succ]
    refine wpAnyH_done (by kernel_rfl) ?_ _
    refine NoPanic.normal ?_
    go_wp2_with fail
    go_ret
    exact ⟨rfl, hS.2.2.2.2⟩
  · have HM : Hid ((!false && decide (a < s.length)) = false) := Lib.hid (by rw [decide_eq_false hlt]; rfl)
    clear hno hlt
    go_enter Tryd.func47, Tryd.ntmps47
    go_upto_region 1 with fail
    refine wp_region_noPanic ?_
    refine wp_region_held_drew (S := fun w' => w'.cell? ⟨B, 0, none⟩ = some (.string (S s)) ∧ w'.cell? ⟨B, 1, none⟩ = some (.int .i64 (a : Int)) ∧ w'.cell? ⟨B, 2, none⟩ = some (.bool false) ∧ RdAt w' B s a false ∧ Below w.heap.size w w') (by kernel_rfl) (HI.out) (fun hS => ?_)
    generalize hV0 : w.drew = V0 at hS ⊢
    refine wpAnyH_take (i := 0) (v := ?vq_0) rfl (by kernel_rfl) (by kernel_rfl) (by kernel_rfl) (fun _ _ _ h => h) (Or.inl ⟨by rfl, ?hyq_0⟩) hS ?restq_0
    case hyq_0 => (intro v hSw; (try dsimp only at hSw); try simp only [List.getElem_toArray, List.getElem_cons_zero, List.getElem_cons_succ]; go_simp; (try with_reducible rfl))
    try simp only [List.getElem_toArray, List.getElem_cons_zero, List.getElem_cons_succ]
    try simp only [Act.put, List.setIfInBounds_toArray, List.set_cons_zero, List.set_cons_succ]
    refine wpAnyH_ready (rs := [1]) (by kernel_rfl) (by simp) ?_
    refine AllReadyH.cons rfl (fun K hK => ?_) AllReadyH.nil
    try simp only [List.getElem_toArray, List.getElem_cons_zero, List.getElem_cons_succ]
    go_simp
    refine (more_any s a false B _ hS.2.2.2.1).mono ?_
    rintro e w9 ⟨rfl, hb9⟩
    rw [HM.out]
    try go_wp2_with fail
    refine hK.out _ _ (rdS_on hS hb9) (fun hS' => ?_)
    clear hK K hS hb9
    have hS := hS'
    clear hS'
    try simp only [Act.put, List.setIfInBounds_toArray, List.set_cons_zero, List.set_cons_succ]
    refine wpAnyH_take (i := 2) (v := ?vq_2) rfl (by kernel_rfl) (by kernel_rfl) (by kernel_rfl) (fun _ _ _ h => h) (Or.inl ⟨by rfl, ?hyq_2⟩) hS ?restq_2
    case hyq_2 => (intro v hSw; (try dsimp only at hSw); try simp only [List.getElem_toArray, List.getElem_cons_zero, List.getElem_cons_succ]; go_simp; (try with_reducible rfl))
    try simp only [List.getElem_toArray, List.getElem_cons_zero, List.getElem_cons_succ]
    try simp only [Act.put, List.setIfInBounds_toArray, List.set_cons_zero, List.set_cons_succ]
    refine wpAnyH_take (i := 3) (v := ?vq_3) rfl (by kernel_rfl) (by kernel_rfl) (by kernel_rfl) (fun _ _ _ h => h) (Or.inl ⟨by rfl, ?hyq_3⟩) hS ?restq_3
    case hyq_3 => (intro v hSw; (try dsimp only at hSw); try simp only [List.getElem_toArray, List.getElem_cons_zero, List.getElem_cons_succ]; go_simp; (try with_reducible rfl))
    try simp only [List.getElem_toArray, List.getElem_cons_zero, List.getElem_cons_succ]
    try simp only [Act.put, List.setIfInBounds_toArray, List.set_cons_zero, List.set_cons_succ]
    refine wpAnyH_take (i := 4) rfl (by kernel_rfl) (by kernel_rfl) (by kernel_rfl) (fun _ _ _ h => h) (Or.inr ⟨by rfl, rfl⟩) hS ?_
    try simp only [List.getElem_toArray, List.getElem_cons_zero, List.getElem_cons_succ]
    try simp only [Act.put, List.setIfInBounds_toArray, List.set_cons_zero, List.set_cons_succ]
    refine wpAnyH_take (i := 5) rfl (by kernel_rfl) (by kernel_rfl) (by kernel_rfl) (fun _ _ _ h => h) (Or.inr ⟨by rfl, rfl⟩) hS ?_
    try simp only [List.getElem_toArray, List.getElem_cons_zero, List.getElem_cons_succ]
    try simp only [Act.put, List.setIfInBounds_toArray, List.set_cons_zero, List.set_cons_succ]
    refine wpAnyH_take (i := 6) rfl (by kernel_rfl) (by kernel_rfl) (by kernel_rfl) (fun _ _ _ h => h) (Or.inr ⟨by rfl, rfl⟩) hS ?_
    try simp only [List.getElem_toArray, List.getElem_cons_zero, List.getElem_cons_succ]
    try simp only [Act.put, List.setIfInBounds_toArray, List.set_cons_zero, List.set_cons_succ]
    refine wpAnyH_take (i := 7) rfl (by kernel_rfl) (by kernel_rfl) (by kernel_rfl) (fun _ _ _ h => h) (Or.inr ⟨by rfl, rfl⟩) hS ?_
    try simp only [List.getElem_toArray, List.getElem_cons_zero, List.getElem_cons_succ]
    try simp only [Act.put, List.setIfInBounds_toArray, List.set_cons_zero, List.set_cons_succ]
    refine wpAnyH_take (i := 8) rfl (by kernel_rfl) (by kernel_rfl) (by kernel_rfl) (fun _ _ _ h => h) (Or.inr ⟨by rfl, rfl⟩) hS ?_
    try simp only [List.getElem_toArray, List.getElem_cons_zero, List.getElem_cons_succ]
    try simp only [Act.put, List.setIfInBounds_toArray, List.set_cons_zero, List.set_cons_succ]
    refine wpAnyH_take (i := 9) rfl (by kernel_rfl) (by kernel_rfl) (by kernel_rfl) (fun _ _ _ h => h) (Or.inr ⟨by rfl, rfl⟩) hS ?_
    try simp only [List.getElem_toArray, List.getElem_cons_zero, List.getElem_cons_succ]
    try simp only [Act.put, List.setIfInBounds_toArray, List.set_cons_zero, List.set_cons_succ]
    refine wpAnyH_take (i := 10) rfl (by kernel_rfl) (by kernel_rfl) (by kernel_rfl) (fun _ _ _ h => h) (Or.inr ⟨by rfl, rfl⟩) hS ?_
    try simp only [List.getElem_toArray, List.getElem_cons_zero, List.getElem_cons_succ]
    try simp only [Act.put, List.setIfInBounds_toArray, List.set_cons_zero, List.set_cons_succ]
    refine wpAnyH_take (i := 11) rfl (by kernel_rfl) (by kernel_rfl) (by kernel_rfl) (fun _ _ _ h => h) (Or.inr ⟨by rfl, rfl⟩) hS ?_
    try simp only [List.getElem_toArray, List.getElem_cons_zero, List.getElem_cons_succ]
    try simp only [Act.put, List.setIfInBounds_toArray, List.set_cons_zero, List.set_cons_succ]
    refine wpAnyH_take (i := 12) rfl (by kernel_rfl) (by kernel_rfl) (by kernel_rfl) (fun _ _ _ h => h) (Or.inr ⟨by rfl, rfl⟩) hS ?_
    try simp only [List.getElem_toArray, List.getElem_cons_zero, List.getElem_cons_succ]
    try simp only [Act.put, List.setIfInBounds_toArray, List.set_cons_zero, List.set_cons_succ]
    refine wpAnyH_take (i := 13) rfl (by kernel_rfl) (by kernel_rfl) (by kernel_rfl) (fun _ _ _ h => h) (Or.inr ⟨by rfl, rfl⟩) hS ?_
    try simp only [List.getElem_toArray, List.getElem_cons_zero, List.getElem_cons_succ]
    try simp only [Act.put, List.setIfInBounds_toArray, List.set_cons_zero, List.set_cons_succ]
    refine wpAnyH_take (i := 14) rfl (by kernel_rfl) (by kernel_rfl) (by kernel_rfl) (fun _ _ _ h => h) (Or.inr ⟨by rfl, rfl⟩) hS ?_
    try simp only [List.getElem_toArray, List.getElem_cons_zero, List.getElem_cons_succ]
    try simp only [Act.put, List.setIfInBounds_toArray, List.set_cons_zero, List.set_cons_succ]
    refine wpAnyH_take (i := 15) (v := ?vq_15) rfl (by kernel_rfl) (by kernel_rfl) (by kernel_rfl) (fun _ _ _ h => h) (Or.inl ⟨by rfl, ?hyq_15⟩) hS ?restq_15
    case hyq_15 => (intro v hSw; (try dsimp only at hSw); try simp only [List.getElem_toArray, List.getElem_cons_zero, List.getElem_cons_succ]; go_simp; (try with_reducible rfl))
    try simp only [List.getElem_toArray, List.getElem_cons_zero, List.getElem_cons_succ]
    try simp only [Act.put, List.setIfInBounds_toArray, List.set_cons_zero, List.set_cons_succ]
    refine wpAnyH_done (by kernel_rfl) ?_ _
    refine NoPanic.normal ?_
    go_wp2_with fail
    go_ret
    exact ⟨rfl, hS.2.2.2.2⟩
set_option maxRecDepth 100000 in
set_option maxHeartbeats 2000000 in
theorem is_yes (s : List UInt8) (a : Nat) (b : UInt8) (B : Nat) (w : World) (hl : s.length ≤ 100000) (hR : RdAt w B s a false) (hlt : a < s.length) (hb : byt s a = b) : Calls Tryd.prog 47 #[.pointer (some ⟨B, 0, none⟩), .int .u8 (b.toNat : Int)] w fun e w' => e = .returned (.bool true) ∧ w.grownBy w' (some B) ∧ RdAt w' B s (a + 1) false := by
  have hB : B < w.heap.size := Blk.lt hR
  have HI := Lib.hid (rdS (w := w) (Blk.drew hR) (below_drew (Below.refl _ _)))
  clear hR
  have HM : Hid ((!false && decide (a < s.length)) = true) := Lib.hid (by rw [decide_eq_true hlt]; rfl)
  have a0 : (0 : Int) ≤ (a : Int) := by omega
  have a1 : (a : Int) < (s.length : Int) := by omega
  have e1 : (((byt s a).toNat : Int) != (b.toNat : Int)) = false := by rw [hb]; simp
  clear hb hlt
  go_enter Tryd.func47, Tryd.ntmps47
  go_upto_region 1 with fail
  refine wp_region_noPanic ?_
  refine wp_region_held_drew (S := fun w' => w'.cell? ⟨B, 0, none⟩ = some (.string (S s)) ∧ w'.cell? ⟨B, 1, none⟩ = some (.int .i64 (a : Int)) ∧ w'.cell? ⟨B, 2, none⟩ = some (.bool false) ∧ RdAt w' B s a false ∧ Below w.heap.size w w') (by kernel_rfl) (HI.out) (fun hS => ?_)
  generalize hV0 : w.drew = V0 at hS ⊢
  refine wpAnyH_take (i := 0) (v := ?vr_0) rfl (by kernel_rfl) (by kernel_rfl) (by kernel_rfl) (fun _ _ _ h => h) (Or.inl ⟨by rfl, ?hyr_0⟩) hS ?restr_0
  case hyr_0 => (intro v hSw; (try dsimp only at hSw); try simp only [List.getElem_toArray, List.getElem_cons_zero, List.getElem_cons_succ]; go_simp; (try with_reducible rfl))
  try simp only [List.getElem_toArray, List.getElem_cons_zero, List.getElem_cons_succ]
  try simp only [Act.put, List.setIfInBounds_toArray, List.set_cons_zero, List.set_cons_succ]
  refine wpAnyH_ready (rs := [1]) (by kernel_rfl) (by simp) ?_
  refine AllReadyH.cons rfl (fun K hK => ?_) AllReadyH.nil
  try simp only [List.getElem_toArray, List.getElem_cons_zero, List.getElem_cons_succ]
  go_simp
  refine (more_any s a false B _ hS.2.2.2.1).mono ?_
  rintro e w9 ⟨rfl, hb9⟩
  rw [HM.out]
  try go_wp2_with fail
  refine hK.out _ _ (rdS_on hS hb9) (fun hS' => ?_)
  clear hK K hS hb9
  have hS := hS'
  clear hS'
  try simp only [Act.put, List.setIfInBounds_toArray, List.set_cons_zero, List.set_cons_succ]
  refine wpAnyH_take (i := 2) (v := ?vr_2) rfl (by kernel_rfl) (by kernel_rfl) (by kernel_rfl) (fun _ _ _ h => h) (Or.inl ⟨by rfl, ?hyr_2⟩) hS ?restr_2
  case hyr_2 => (intro v hSw; (try dsimp only at hSw); try simp only [List.getElem_toArray, List.getElem_cons_zero, List.getElem_cons_succ]; go_simp; (try with_reducible rfl))
  try simp only [List.getElem_toArray, List.getElem_cons_zero, List.getElem_cons_succ]
  try simp only [Act.put, List.setIfInBounds_toArray, List.set_cons_zero, List.set_cons_succ]
  refine wpAnyH_take (i := 3) (v := ?vr_3) rfl (by kernel_rfl) (by kernel_rfl) (by kernel_rfl) (fun _ _ _ h => h) (Or.inl ⟨by rfl, ?hyr_3⟩) hS ?restr_3
  case hyr_3 => (intro v hSw; (try dsimp only at hSw); try simp only [List.getElem_toArray, List.getElem_cons_zero, List.getElem_cons_succ]; go_simp; (try with_reducible rfl))
  try simp only [List.getElem_toArray, List.getElem_cons_zero, List.getElem_cons_succ]
  try simp only [Act.put, List.setIfInBounds_toArray, List.set_cons_zero, List.set_cons_succ]
  refine wpAnyH_take (i := 4) (v := ?vr_4) rfl (by kernel_rfl) (by kernel_rfl) (by kernel_rfl) (fun _ _ _ h => h) (Or.inl ⟨by rfl, ?hyr_4⟩) hS ?restr_4
  case hyr_4 => (intro v hSw; (try dsimp only at hSw); try simp only [List.getElem_toArray, List.getElem_cons_zero, List.getElem_cons_succ]; go_simp; (try with_reducible rfl))
  try simp only [List.getElem_toArray, List.getElem_cons_zero, List.getElem_cons_succ]
  try simp only [Act.put, List.setIfInBounds_toArray, List.set_cons_zero, List.set_cons_succ]
  refine wpAnyH_take (i := 5) (v := ?vr_5) rfl (by kernel_rfl) (by kernel_rfl) (by kernel_rfl) (fun _ _ _ h => h) (Or.inl ⟨by rfl, ?hyr_5⟩) hS ?restr_5
  case hyr_5 => (intro v hSw; (try dsimp only at hSw); try simp only [List.getElem_toArray, List.getElem_cons_zero, List.getElem_cons_succ]; go_simp; (try with_reducible rfl))
  try simp only [List.getElem_toArray, List.getElem_cons_zero, List.getElem_cons_succ]
  try simp only [Act.put, List.setIfInBounds_toArray, List.set_cons_zero, List.set_cons_succ]
  refine wpAnyH_take (i := 6) (v := ?vr_6) rfl (by kernel_rfl) (by kernel_rfl) (by kernel_rfl) (fun _ _ _ h => h) (Or.inl ⟨by rfl, ?hyr_6⟩) hS ?restr_6
  case hyr_6 => (intro v hSw; (try dsimp only at hSw); try simp only [List.getElem_toArray, List.getElem_cons_zero, List.getElem_cons_succ]; go_simp; (try with_reducible rfl))
  try simp only [List.getElem_toArray, List.getElem_cons_zero, List.getElem_cons_succ]
  try simp only [Act.put, List.setIfInBounds_toArray, List.set_cons_zero, List.set_cons_succ]
  refine wpAnyH_take (i := 7) (v := ?vr_7) rfl (by kernel_rfl) (by kernel_rfl) (by kernel_rfl) (fun _ _ _ h => h) (Or.inl ⟨by rfl, ?hyr_7⟩) hS ?restr_7
  case hyr_7 => (intro v hSw; (try dsimp only at hSw); try simp only [List.getElem_toArray, List.getElem_cons_zero, List.getElem_cons_succ]; go_simp; (try with_reducible rfl))
  try simp only [List.getElem_toArray, List.getElem_cons_zero, List.getElem_cons_succ]
  try simp only [Act.put, List.setIfInBounds_toArray, List.set_cons_zero, List.set_cons_succ]
  refine wpAnyH_take (i := 8) (v := ?vr_8) rfl (by kernel_rfl) (by kernel_rfl) (by kernel_rfl) (fun _ _ _ h => h) (Or.inl ⟨by rfl, ?hyr_8⟩) hS ?restr_8
  case hyr_8 => (intro v hSw; (try dsimp only at hSw); try simp only [List.getElem_toArray, List.getElem_cons_zero, List.getElem_cons_succ]; go_simp; (try with_reducible rfl))
  try simp only [List.getElem_toArray, List.getElem_cons_zero, List.getElem_cons_succ]
  try simp only [Act.put, List.setIfInBounds_toArray, List.set_cons_zero, List.set_cons_succ]
  refine wpAnyH_take (i := 9) (v := ?vr_9) rfl (by kernel_rfl) (by kernel_rfl) (by kernel_rfl) (fun _ _ _ h => h) (Or.inl ⟨by rfl, ?hyr_9⟩) hS ?restr_9
  case hyr_9 => (intro v hSw; (try dsimp only at hSw); try simp only [List.getElem_toArray, List.getElem_cons_zero, List.getElem_cons_succ]; go_simp; (try with_reducible rfl))
  try simp only [List.getElem_toArray, List.getElem_cons_zero, List.getElem_cons_succ]
  try simp only [Act.put, List.setIfInBounds_toArray, List.set_cons_zero, List.set_cons_succ]
  refine wpAnyH_take (i := 10) (v := ?vr_10) rfl (by kernel_rfl) (by kernel_rfl) (by kernel_rfl) (fun _ _ _ h => h) (Or.inl ⟨by rfl, ?hyr_10⟩) hS ?restr_10
  case hyr_10 => (intro v hSw; (try dsimp only at hSw); try simp only [List.getElem_toArray, List.getElem_cons_zero, List.getElem_cons_succ]; go_simp; (try with_reducible rfl))
  try simp only [List.getElem_toArray, List.getElem_cons_zero, List.getElem_cons_succ]
  try simp only [Act.put, List.setIfInBounds_toArray, List.set_cons_zero, List.set_cons_succ]
  refine wpAnyH_take (i := 11) (v := ?vr_11) rfl (by kernel_rfl) (by kernel_rfl) (by kernel_rfl) (fun _ _ _ h => h) (Or.inl ⟨by rfl, ?hyr_11⟩) hS ?restr_11
  case hyr_11 => (intro v hSw; (try dsimp only at hSw); try simp only [List.getElem_toArray, List.getElem_cons_zero, List.getElem_cons_succ]; go_simp; (try with_reducible rfl))
  try simp only [List.getElem_toArray, List.getElem_cons_zero, List.getElem_cons_succ]
  try simp only [Act.put, List.setIfInBounds_toArray, List.set_cons_zero, List.set_cons_succ]
  refine wpAnyH_take (i := 12) (v := ?vr_12) rfl (by kernel_rfl) (by kernel_rfl) (by kernel_rfl) (fun _ _ _ h => h) (Or.inl ⟨by rfl, ?hyr_12⟩) hS ?restr_12
  case hyr_12 => (intro v hSw; (try dsimp only at hSw); try simp only [List.getElem_toArray, List.getElem_cons_zero, List.getElem_cons_succ]; go_simp; (try with_reducible rfl))
  try simp only [List.getElem_toArray, List.getElem_cons_zero, List.getElem_cons_succ]
  try simp only [Act.put, List.setIfInBounds_toArray, List.set_cons_zero, List.set_cons_succ]
  refine wpAnyH_take (i := 13) (v := ?vr_13) rfl (by kernel_rfl) (by kernel_rfl) (by kernel_rfl) (fun _ _ _ h => h) (Or.inl ⟨by rfl, ?hyr_13⟩) hS ?restr_13
  case hyr_13 => (intro v hSw; (try dsimp only at hSw); try simp only [List.getElem_toArray, List.getElem_cons_zero, List.getElem_cons_succ]; go_simp; (try with_reducible rfl))
  try simp only [List.getElem_toArray, List.getElem_cons_zero, List.getElem_cons_succ]
  try simp only [Act.put, List.setIfInBounds_toArray, List.set_cons_zero, List.set_cons_succ]
  refine wpAnyH_take (i := 14) (v := ?vr_14) rfl (by kernel_rfl) (by kernel_rfl) (by kernel_rfl) (fun _ _ _ h => h) (Or.inl ⟨by rfl, ?hyr_14⟩) hS ?restr_14
  case hyr_14 => (intro v hSw; (try dsimp only at hSw); try simp only [List.getElem_toArray, List.getElem_cons_zero, List.getElem_cons_succ]; go_simp; (try with_reducible rfl))
  try simp only [List.getElem_toArray, List.getElem_cons_zero, List.getElem_cons_succ]
  try simp only [Act.put, List.setIfInBounds_toArray, List.set_cons_zero, List.set_cons_succ]
  refine wpAnyH_take (i := 15) (v := ?vr_15) rfl (by kernel_rfl) (by kernel_rfl) (by kernel_rfl) (fun _ _ _ h => h) (Or.inl ⟨by rfl, ?hyr_15⟩) hS ?restr_15
  case hyr_15 => (intro v hSw; (try dsimp only at hSw); try simp only [List.getElem_toArray, List.getElem_cons_zero, List.getElem_cons_succ]; go_simp; (try with_reducible rfl))
  try simp only [List.getElem_toArray, List.getElem_cons_zero, List.getElem_cons_succ]
  try simp only [Act.put, List.setIfInBounds_toArray, List.set_cons_zero, List.set_cons_succ]
  refine wpAnyH_done (by kernel_rfl) ?_ _
  refine NoPanic.normal ?_
  have HS := Lib.hid hS
  obtain ⟨x0, x1, x2, hr, hb⟩ := hS
  have f1 := Blk.frozen hr 1
  clear hr hb
  go_wp2_with fail
  go_ret
  refine ⟨rfl, grown_trans (below_grown HS.out.2.2.2.2 _) (grown_set _ _ _ _), ?_⟩
  exact HS.out.2.2.2.1.setAt (a + 1)


def dgI (c : UInt8) : Int := if 48 ≤ c.toNat ∧ c.toNat ≤ 57 then (c.toNat : Int) - 48 else if 97 ≤ c.toNat ∧ c.toNat ≤ 102 then (c.toNat : Int) - 87 else -1
def dgAt (s : List UInt8) (a : Nat) : Int := if a < s.length then dgI (byt s a) else -1
set_option maxRecDepth 100000 in
set_option maxHeartbeats 4000000 in
theorem digit_any (s : List UInt8) (a : Nat) (B : Nat) (w : World) (hl : s.length ≤ 100000) (hR : RdAt w B s a false) : Calls Tryd.prog 91 #[.pointer (some ⟨B, 0, none⟩)] w fun e w' => e = .returned (.int .i64 (dgAt s a)) ∧ Below w.heap.size w w' := by
  have HR := Lib.hid hR
  clear hR
  by_cases hlt : a < s.length
  · have HM : Hid ((!false && decide (a < s.length)) = true) := Lib.hid (by rw [decide_eq_true hlt]; rfl)
    have a0 : (0 : Int) ≤ (a : Int) := by omega
    have a1 : (a : Int) < (s.length : Int) := by omega
    have hd : dgAt s a = dgI (byt s a) := by unfold dgAt; rw [if_pos hlt]
    rw [hd]
    obtain ⟨c, hc⟩ : ∃ c, byt s a = c := ⟨_, rfl⟩
    rw [hc]
    have hcl := byt_lt s a
    rw [hc] at hcl
    obtain ⟨r, hr⟩ : ∃ r, dgI c = r := ⟨_, rfl⟩
    rw [hr]
    have HC := Lib.hid hc
    clear hd hlt hc
    have hw : (decide ((48 : Int) ≤ (c.toNat : Int)) = true ∧ decide ((c.toNat : Int) ≤ 57) = true ∧ IntKind.u8.wrap ((c.toNat : Int) - 48) = (c.toNat : Int) - 48 ∧ (0 : Int) ≤ (c.toNat : Int) - 48 ∧ (c.toNat : Int) - 48 < 256 ∧ r = (c.toNat : Int) - 48) ∨
        ((decide ((48 : Int) ≤ (c.toNat : Int)) = false ∨ (decide ((48 : Int) ≤ (c.toNat : Int)) = true ∧ decide ((c.toNat : Int) ≤ 57) = false)) ∧ ((decide ((97 : Int) ≤ (c.toNat : Int)) = true ∧ decide ((c.toNat : Int) ≤ 102) = true ∧ IntKind.u8.wrap ((c.toNat : Int) - 97) = (c.toNat : Int) - 97 ∧ (0 : Int) ≤ (c.toNat : Int) - 97 ∧ (c.toNat : Int) - 97 < 256 ∧ r = (c.toNat : Int) - 97 + 10) ∨
          (decide ((97 : Int) ≤ (c.toNat : Int)) = false ∧ r = -1) ∨ (decide ((97 : Int) ≤ (c.toNat : Int)) = true ∧ decide ((c.toNat : Int) ≤ 102) = false ∧ r = -1))) := by
      unfold dgI at hr
      by_cases h1 : 48 ≤ c.toNat ∧ c.toNat ≤ 57
      · rw [if_pos h1] at hr
        exact .inl ⟨by simp; omega, by simp; omega, IntWalk.u8_in _ (by omega), by omega, by omega, hr.symm⟩
      · rw [if_neg h1] at hr
        refine .inr ⟨?_, ?_⟩
        · by_cases h2 : 48 ≤ c.toNat
          · exact .inr ⟨by simp; omega, by simp; omega⟩
          · exact .inl (by simp; omega)
        · by_cases h3 : 97 ≤ c.toNat
          · by_cases h4 : c.toNat ≤ 102
            · rw [if_pos ⟨h3, h4⟩] at hr
              exact .inl ⟨by simp; omega, by simp; omega, IntWalk.u8_in _ (by omega), by omega, by omega, by omega⟩
            · rw [if_neg (by omega)] at hr
              exact .inr (.inr ⟨by simp; omega, by simp; omega, hr.symm⟩)
          · rw [if_neg (by omega)] at hr
            exact .inr (.inl ⟨by simp; omega, hr.symm⟩)
    clear hr hcl
    rcases hw with ⟨h1, h2, h3, h4, h5, rfl⟩ | ⟨h1 | ⟨h1, h1'⟩, ⟨h2, h3, h4, h5, h6, rfl⟩ | ⟨h2, rfl⟩ | ⟨h2, h3, rfl⟩⟩
    all_goals
      go_enter Tryd.func91, Tryd.ntmps91
      go_wp2_with fail
      refine (more_any s a false B _ HR.out).mono ?_
      rintro e w1 ⟨rfl, hb1⟩
      rw [HM.out]
      have HI := Lib.hid (rdS (w := w) (Blk.drew (HR.out.below hb1)) (below_drew hb1))
      clear hb1
      go_upto_region 3 with fail
      go_region_held3 (fun w' => w'.cell? ⟨B, 0, none⟩ = some (.string (S s)) ∧ w'.cell? ⟨B, 1, none⟩ = some (.int .i64 (a : Int)) ∧ w'.cell? ⟨B, 2, none⟩ = some (.bool false) ∧ RdAt w' B s a false ∧ Below w.heap.size w w')
        (first | with_reducible exact HI.out | go_keep) (fail)
      all_goals
        rw [HC.out]
        go_wp2_with fail
        go_ret
        exact ⟨rfl, HI.out.2.2.2.2⟩
  · have HM : Hid ((!false && decide (a < s.length)) = false) := Lib.hid (by rw [decide_eq_false hlt]; rfl)
    have hd : dgAt s a = -1 := by unfold dgAt; rw [if_neg hlt]
    rw [hd]
    clear hd hlt
    go_enter Tryd.func91, Tryd.ntmps91
    go_wp2_with fail
    refine (more_any s a false B _ HR.out).mono ?_
    rintro e w1 ⟨rfl, hb1⟩
    rw [HM.out]
    go_wp2_with fail
    go_ret
    exact ⟨rfl, hb1⟩
set_option maxRecDepth 100000 in
set_option maxHeartbeats 4000000 in
theorem refWritten_any (n : Nat) (w : World) : Calls Tryd.prog 92 #[.int .i64 (n : Int)] w fun e w' => e = .returned (.bool (wrN n)) ∧ w = w' := by
  have hw : (wrN n = false ∧ decide ((n : Int) < 32) = false ∧ decide ((126 : Int) < (n : Int)) = false) ∨ (wrN n = false ∧ decide ((n : Int) < 32) = true ∧ ((n : Int) != 9) = false ∧ decide ((126 : Int) < (n : Int)) = false) ∨ (wrN n = false ∧ decide ((n : Int) < 32) = true ∧ ((n : Int) != 9) = true ∧ ((n : Int) != 10) = false ∧ decide ((126 : Int) < (n : Int)) = false) ∨
      (wrN n = false ∧ decide ((n : Int) < 32) = true ∧ ((n : Int) != 9) = true ∧ ((n : Int) != 10) = true ∧ ((n : Int) != 13) = false ∧ decide ((126 : Int) < (n : Int)) = false) ∨ (wrN n = true ∧ decide ((n : Int) < 32) = true ∧ ((n : Int) != 9) = true ∧ ((n : Int) != 10) = true ∧ ((n : Int) != 13) = true) ∨ (wrN n = true ∧ decide ((n : Int) < 32) = false ∧ decide ((126 : Int) < (n : Int)) = true) := by
    rcases wrN_ways n with ⟨hw, h1, h2⟩ | ⟨hw, h1, h2⟩ | ⟨hw, h1, h2, h3⟩ | ⟨hw, h1, h2, h3, h4⟩ | ⟨hw, h1, h2, h3, h4⟩ | ⟨hw, h1, h2, h3, h4⟩
    · exact .inl ⟨hw, by simp; omega, by simp; omega⟩
    · exact .inr (.inl ⟨hw, by simp; omega, by rw [bne, h2]; rfl, by simp; omega⟩)
    · exact .inr (.inr (.inl ⟨hw, by simp; omega, by rw [bne, h2]; rfl, by rw [bne, h3]; rfl, by simp; omega⟩))
    · exact .inr (.inr (.inr (.inl ⟨hw, by simp; omega, by rw [bne, h2]; rfl, by rw [bne, h3]; rfl, by rw [bne, h4]; rfl, by simp; omega⟩)))
    · exact .inr (.inr (.inr (.inr (.inl ⟨hw, by simp; omega, by rw [bne, h2]; rfl, by rw [bne, h3]; rfl, by rw [bne, h4]; rfl⟩))))
    · exact .inr (.inr (.inr (.inr (.inr ⟨hw, by simp; omega, by simp; omega⟩))))
  rcases hw with ⟨hw, h1, h2⟩ | ⟨hw, h1, h2, h3⟩ | ⟨hw, h1, h2, h3, h4⟩ | ⟨hw, h1, h2, h3, h4, h5⟩ | ⟨hw, h1, h2, h3, h4⟩ | ⟨hw, h1, h2⟩
  all_goals
    rw [hw]
    clear hw
    go_enter Tryd.func92, Tryd.ntmps92
    go_wp2_with fail
    go_ret
    exact ⟨rfl, rfl⟩
end Go.Proofs.YtpekkdgaeadepaaDoor
