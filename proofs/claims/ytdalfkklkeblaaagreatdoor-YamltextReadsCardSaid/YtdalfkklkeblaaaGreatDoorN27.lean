import Derived.Test.YtdalfkklkeblaaaGreatDoorShelh
import Derived.Test.YtdalfkklkeblaaaGreatDoorN20
import Derived.Test.YtdalfkklkeblaaaGreatDoorN26
import Derived.Test.YtdalfkklkeblaaaGreatDoorN16
namespace Go.Proofs.YtdalfkklkeblaaaGreatDoor
set_option linter.unusedSimpArgs false
set_option linter.unusedVariables false
section
open Go.RowKit
def rdC (lv : Value) (at_ many e p : Nat) : Array Value := #[lv, .int .i64 (at_ : Int), .int .i64 (many : Int), .int .i64 (e : Int), .int .i64 (p : Int)]
def RdB (W : World) (Br : Nat) (lv : Value) (at_ many e p : Nat) : Prop := Blk W Br (rdC lv at_ many e p) 59
theorem RdB.below {W W' : World} {Br : Nat} {lv : Value} {a m e p : Nat} (h : RdB W Br lv a m e p) (hb : Below W.heap.size W W') : RdB W' Br lv a m e p := Blk.below h hb
theorem RdB.facts {W : World} {Br : Nat} {lv : Value} {a m e p : Nat} (h : RdB W Br lv a m e p) :
   (W.cell? ⟨Br, 0, none⟩ = some lv ∧ W.cell? ⟨Br, 1, none⟩ = some (.int .i64 (a : Int)) ∧ W.cell? ⟨Br, 2, none⟩ = some (.int .i64 (m : Int)) ∧ W.cell? ⟨Br, 3, none⟩ = some (.int .i64 (e : Int)) ∧ W.cell? ⟨Br, 4, none⟩ = some (.int .i64 (p : Int))) ∧
   (W.frozen? ⟨Br, 0, none⟩ = false ∧ W.frozen? ⟨Br, 1, none⟩ = false ∧ W.frozen? ⟨Br, 2, none⟩ = false ∧ W.frozen? ⟨Br, 3, none⟩ = false ∧ W.frozen? ⟨Br, 4, none⟩ = false) ∧ Br < W.heap.size :=
 ⟨⟨h.cell 0, h.cell 1, h.cell 2, h.cell 3, h.cell 4⟩, ⟨h.frozen 0, h.frozen 1, h.frozen 2, h.frozen 3, h.frozen 4⟩, h.lt⟩
set_option maxRecDepth 100000 in
set_option maxHeartbeats 4000000 in
theorem fail_any {W : World} {Br : Nat} {lv : Value} {a m e p : Nat} (h : RdB W Br lv a m e p) (e' p' : Nat) :
   Calls Tryz.prog 63 #[.pointer (some ⟨Br, 0, none⟩), .int .i64 (e' : Int), .int .i64 (p' : Int)] W fun e W' => e = .returned (.bool false) ∧ RdB W' Br lv a m e' p' ∧ W.grownBy W' (some Br) := by
 obtain ⟨⟨c0, c1, c2, c3, c4⟩, ⟨f0, f1, f2, f3, f4⟩, hlt⟩ := h.facts
 have H3 := Lib.hid ((Blk.set h 3 (.int .i64 (e' : Int))).set 4 (.int .i64 (p' : Int)))
 have HG := Lib.hid (grown_set (grown_set (World.grownBy.refl W (some Br)) ⟨Br, 3, none⟩ (.int .i64 (e' : Int)) (.inr rfl)) ⟨Br, 4, none⟩ (.int .i64 (p' : Int)) (.inr rfl))
 clear h
 go_enter Tryz.func63, Tryz.ntmps63
 go_wp2_with fail
 go_ret
 exact ⟨rfl, H3.out, HG.out⟩
set_option maxRecDepth 100000 in
set_option maxHeartbeats 4000000 in
theorem same_lab (x : List UInt8 × Dat × Value × Value) (lab : List UInt8) (Bp : Nat) {W : World} (hc : W.cell? ⟨Bp, 2, none⟩ = some (.string (S lab))) (hB : Bp < W.heap.size) :
   Calls Tryz.prog 92 #[.agg (cells6 x).toArray, .pointer (some ⟨Bp, 0, none⟩)] W fun e W' => e = .returned (.bool (x.1 == lab)) ∧ Below W.heap.size W W' := by
 obtain ⟨l, x, xi, xm⟩ := x
 show Calls Tryz.prog 92 #[.agg #[.string (S l), .int .i64 x.k, .int .i64 x.n, .string (S x.s), xi, xm], .pointer (some ⟨Bp, 0, none⟩)] W _
 have hN := Blk.new W #[.string (S l), .int .i64 x.k, .int .i64 x.n, .string (S x.s), xi, xm] 43
 have hbN := (Below.refl W.heap.size W).alloc (Nat.le_refl _) (.cells #[.string (S l), .int .i64 x.k, .int .i64 x.n, .string (S x.s), xi, xm] 43)
 have hc1 := (hbN.cell (p := ⟨Bp, 2, none⟩) hB).trans hc
 clear hc
 go_enter Tryz.func92, Tryz.ntmps92
 go_upto_region 1 with fail
 generalize W.alloc (.cells #[.string (S l), .int .i64 x.k, .int .i64 x.n, .string (S x.s), xi, xm] 43) = W1 at hN hbN hc1 ⊢
 have n0 := hN.cell 0
 simp at n0
 have HB := Lib.hid hbN
 clear hN hbN
 go_wp2_with fail
 go_ret
 exact ⟨rfl, HB.out⟩
theorem has_lab {M : List (List UInt8 × Dat × Value × Value)} {W : World} {base g cap : Nat} (hown : W.ownsRow base 43 6 (.slice (some ⟨g, 0, none⟩) M.length cap) M.length (flat6 M)) (lab : List UInt8) (Bp : Nat) (hc : W.cell? ⟨Bp, 2, none⟩ = some (.string (S lab))) (hB : Bp < W.heap.size) (hM : M.length ≤ 1000000) :
   Calls Tryz.prog 91 #[.slice (some ⟨g, 0, none⟩) M.length cap, .func (.func 92) #[] #[.pointer (some ⟨Bp, 0, none⟩)]] W fun e W' => e = .returned (.bool (decide (lab ∈ M.map fun t => t.1))) ∧ Below W.heap.size W W' := by
 haveI : Inhabited (List UInt8 × Dat × Value × Value) := ⟨([], dat0, .slice none 0 0, .slice none 0 0)⟩
 have hg : g < W.heap.size := by
   rcases own_head hown with ⟨hv, -⟩ | ⟨g', cap', hv, -, -, hg, -⟩
   · cases hv
   · injection hv with hv; injection hv with hv; injection hv with hv; subst hv; exact hg
 have h := AnyQ.slices_ContainsFunc Tryz.conMem 6 Tryz.isAgg43 Tryz.sizeOf43 cells6 (fun _ => rfl) (fun x => x.1 == lab) 92 #[.pointer (some ⟨Bp, 0, none⟩)] (enters_of Tryz.func92 (by kernel_rfl) rfl) g 0 M.length cap M W
   (fun W' x hb => by
     have := same_lab x lab Bp ((hb.cell (p := ⟨Bp, 2, none⟩) hB).trans hc) (Nat.lt_of_lt_of_le hB hb.size)
     exact this.mono fun e w' ⟨h1, h2⟩ => ⟨h1, hb.trans (h2.mono hb.size)⟩) (Nat.le_refl _) (by omega) hg
   (fun j hj i v hv => by
     rw [getElem!_pos M j hj] at hv
     have hi : i < 6 := (List.getElem?_eq_some_iff.1 hv).1
     have h6 := flat6_get M j hj i hi
     rw [hv] at h6
     have := hown.cells (g := g) rfl (j * 6 + i) v h6
     rw [Lib.add_plain, Nat.zero_add] at this
     rw [Nat.zero_add]; exact this)
 refine Calls.mono h ?_
 rintro e w' ⟨rfl, hb⟩
 refine ⟨?_, hb⟩
 congr 2
 rw [List.take_length]
 by_cases hm : lab ∈ M.map fun t => t.1
 · rw [decide_eq_true hm, List.any_eq_true]
   obtain ⟨x, hx, rfl⟩ := List.mem_map.1 hm
   exact ⟨x, hx, by simp⟩
 · rw [decide_eq_false hm, List.any_eq_false]
   intro x hx e
   exact hm (List.mem_map.2 ⟨x, hx, by simpa using e⟩)
end
section
open Go.RowKit
theorem idxNone_any (p : Option Addr) (cap : Nat) (f : Value) (w : World) : Calls Tryz.prog 129 #[.slice p 0 cap, f] w fun e w' => e = .returned (.int .i64 (-1)) ∧ w' = w := by
 go_enter Tryz.func129, Tryz.ntmps129
 go_wp2_with fail
 refine wp_loop_rounds 1 ?_
 rw [rounds_succ]
 go_wp2_with fail
 go_ret
 exact ⟨rfl, rfl⟩
theorem conNone_any (p : Option Addr) (cap : Nat) (f : Value) (w : World) : Calls Tryz.prog 91 #[.slice p 0 cap, f] w fun e w' => e = .returned (.bool false) ∧ w' = w := by
 go_enter Tryz.func91, Tryz.ntmps91
 go_wp2_with fail
 refine (idxNone_any _ _ _ _).mono ?_
 rintro e w' ⟨rfl, rfl⟩
 go_wp2_with fail
 go_ret
 exact ⟨rfl, rfl⟩
theorem has_any {lo Bd N : Nat} {kd : Int} {A : List (Dat × Value × Value)} {M : List (List UInt8 × Dat × Value × Value)} {vi vm : Value} {W : World} (h : DtS lo Bd N kd A M vi vm W) (lab : List UInt8) (Bp : Nat) (hc : W.cell? ⟨Bp, 2, none⟩ = some (.string (S lab))) (hB : Bp < W.heap.size) (hM : M.length ≤ 1000000) :
   Calls Tryz.prog 91 #[vm, .func (.func 92) #[] #[.pointer (some ⟨Bp, 0, none⟩)]] W fun e W' => e = .returned (.bool (decide (lab ∈ M.map fun t => t.1))) ∧ Below W.heap.size W W' := by
 rcases own_head h.mem with ⟨rfl, h0⟩ | ⟨g, cap, rfl, -⟩
 · have e0 : M = [] := List.length_eq_zero_iff.1 h0
   subst e0
   refine (conNone_any _ _ _ W).mono ?_
   rintro e w' ⟨rfl, rfl⟩
   exact ⟨rfl, Below.refl _ _⟩
 · exact has_lab h.mem lab Bp hc hB hM
def RbP (w : World) (Br : Nat) (lv : Value) (n many : Nat) (r : Except (Nat × Nat) (Dat × List Ln)) (e : Ending) (w' : World) : Prop :=
 w.grownBy w' (some Br) ∧
 match r with
 | .error q => ∃ k s ip il ic mp ml mc a, e = .returned (.tuple #[.agg #[.int .i64 k, .int .i64 0, .string (S s), .slice ip il ic, .slice mp ml mc], .bool false]) ∧ RdB w' Br lv a many q.1 q.2
 | .ok (d, rest) => ∃ vi vm, e = .returned (.tuple #[dv d vi vm, .bool true]) ∧ Rep w' (fun B => w.heap.size ≤ B) d vi vm ∧ RdB w' Br lv (n - rest.length) many 0 0
structure RbS (w : World) (Br lo : Nat) (lv : Value) (L : List Ln) (many i : Nat) (R : Except (Nat × Nat) (Dat × List Ln)) (a : Nat) (kd : Int) (A : List (Dat × Value × Value)) (M : List (List UInt8 × Dat × Value × Value)) (vi vm : Value) (W : World) : Prop where
 rd : RdB W Br lv a many 0 0
 dt : DtS (w.heap.size + 1) (w.heap.size + 1) (w.heap.size + 1 + 1) kd A M vi vm W
 res : Blk W w.heap.size #[.int .i64 0, .int .i64 0, .string ⟨#[]⟩, .slice none 0 0, .slice none 0 0] 25
 ln : LnR W lo lv L
 gr : w.grownBy W (some Br)
 eq : R = blkR many i kd (A.map fun t => t.1) (M.map fun t => (t.1, t.2.1)) (L.drop a)
 le : a ≤ L.length
 few : A.length + M.length ≤ a
 zero : kd = 0 → A = [] ∧ M = []
theorem RbS.below {w : World} {Br lo : Nat} {lv : Value} {L : List Ln} {many i : Nat} {R : Except (Nat × Nat) (Dat × List Ln)} {a : Nat} {kd : Int} {A : List (Dat × Value × Value)} {M : List (List UInt8 × Dat × Value × Value)} {vi vm : Value} {W W' : World} (h : RbS w Br lo lv L many i R a kd A M vi vm W) (hb : Below W.heap.size W W') : RbS w Br lo lv L many i R a kd A M vi vm W' :=
 ⟨h.rd.below hb, h.dt.under hb, h.res.below hb, h.ln.under hb, grown_then h.gr hb, h.eq, h.le, h.few, h.zero⟩
theorem RbS.fin {w : World} {Br lo : Nat} {lv : Value} {L : List Ln} {many i : Nat} {R : Except (Nat × Nat) (Dat × List Ln)} {a : Nat} {kd : Int} {A : List (Dat × Value × Value)} {M : List (List UInt8 × Dat × Value × Value)} {vi vm : Value} {W : World} (h : RbS w Br lo lv L many i R a kd A M vi vm W) (hBr : Br < w.heap.size) (hL : L.length ≤ 1000000)
   (hR : ∃ rest : List Ln, rest.length = L.length - a ∧ R = .ok (.mk kd 0 [] (A.map fun t => t.1) (M.map fun t => (t.1, t.2.1)), rest)) (v0 v1 v2 v3 v4 : Value) :
   RbP w Br lv L.length many R (.returned (.tuple #[.agg #[.int .i64 kd, .int .i64 0, .string ⟨#[]⟩, vi, vm], .bool true])) (set5 W w.heap.size v0 v1 v2 v3 v4) := by
 obtain ⟨rest, hrl, rfl⟩ := hR
 have hle := h.le
 have hfew := h.few
 refine ⟨set5_grown h.gr _ (Nat.le_refl _) _ _ _ _ _, vi, vm, rfl, ?_, ?_⟩
 · have hr := h.dt.rep ⟨by omega, by omega⟩
   exact (set5_rep hr w.heap.size (fun C hC => by omega) v0 v1 v2 v3 v4).mono fun B _ hB => by omega
 · rw [hrl, show L.length - (L.length - a) = a by omega]
   exact set5_blk h.rd _ (by omega) _ _ _ _ _
structure RbF (w : World) (Br : Nat) (lv : Value) (a many e p : Nat) (kd : Int) (A : List (Dat × Value × Value)) (M : List (List UInt8 × Dat × Value × Value)) (vi vm : Value) (W : World) : Prop where
 rd : RdB W Br lv a many e p
 dt : DtS (w.heap.size + 1) (w.heap.size + 1) (w.heap.size + 1 + 1) kd A M vi vm W
 res : Blk W w.heap.size #[.int .i64 0, .int .i64 0, .string ⟨#[]⟩, .slice none 0 0, .slice none 0 0] 25
 gr : w.grownBy W (some Br)
theorem RbS.fault {w : World} {Br lo : Nat} {lv : Value} {L : List Ln} {many i : Nat} {R : Except (Nat × Nat) (Dat × List Ln)} {a : Nat} {kd : Int} {A : List (Dat × Value × Value)} {M : List (List UInt8 × Dat × Value × Value)} {vi vm : Value} {W W' : World} (h : RbS w Br lo lv L many i R a kd A M vi vm W) (hBr : Br < w.heap.size) {a' e p : Nat} (hrd : RdB W' Br lv a' many e p) (hg : W.grownBy W' (some Br)) :
   RbF w Br lv a' many e p kd A M vi vm W' :=
 ⟨hrd, h.dt.grown hg (by omega), h.res.kept hg (fun e => by injection e; omega), h.gr.trans hg⟩
theorem RbF.fin {w : World} {Br : Nat} {lv : Value} {a n many e p : Nat} {kd : Int} {A : List (Dat × Value × Value)} {M : List (List UInt8 × Dat × Value × Value)} {ip mp : Option Addr} {il ic ml mc : Nat} {W : World} (h : RbF w Br lv a many e p kd A M (.slice ip il ic) (.slice mp ml mc) W) (hBr : Br < w.heap.size) {R : Except (Nat × Nat) (Dat × List Ln)} (hR : R = .error (e, p)) (v0 v1 v2 v3 v4 : Value) :
   RbP w Br lv n many R (.returned (.tuple #[.agg #[.int .i64 kd, .int .i64 0, .string ⟨#[]⟩, .slice ip il ic, .slice mp ml mc], .bool false])) (set5 W w.heap.size v0 v1 v2 v3 v4) := by
 subst hR
 exact ⟨set5_grown h.gr _ (Nat.le_refl _) _ _ _ _ _, kd, [], ip, il, ic, mp, ml, mc, a, rfl, set5_blk h.rd _ (by omega) _ _ _ _ _⟩
theorem RbS.next {w : World} {Br lo : Nat} {lv : Value} {L : List Ln} {many i : Nat} {R : Except (Nat × Nat) (Dat × List Ln)} {a : Nat} {kd : Int} {A : List (Dat × Value × Value)} {M : List (List UInt8 × Dat × Value × Value)} {vi vm : Value} {W : World} (h : RbS w Br lo lv L many i R a kd A M vi vm W) (hBr : Br < w.heap.size) (hlo : Br < lo) :
   RbF w Br lv (a + 1) many 0 0 kd A M vi vm (W.setCell ⟨Br, 1, none⟩ (.int .i64 ((a : Int) + 1))) ∧ LnR (W.setCell ⟨Br, 1, none⟩ (.int .i64 ((a : Int) + 1))) lo lv L := by
 have hg := grown_set (World.grownBy.refl W (some Br)) ⟨Br, 1, none⟩ (.int .i64 ((a : Int) + 1)) (.inr rfl)
 exact ⟨h.fault hBr (Blk.set h.rd 1 (.int .i64 ((a : Int) + 1))) hg, h.ln.grown hg hlo⟩
theorem RbF.below {w : World} {Br : Nat} {lv : Value} {a many e p : Nat} {kd : Int} {A : List (Dat × Value × Value)} {M : List (List UInt8 × Dat × Value × Value)} {vi vm : Value} {W W' : World} (h : RbF w Br lv a many e p kd A M vi vm W) (hb : Below W.heap.size W W') : RbF w Br lv a many e p kd A M vi vm W' :=
 ⟨h.rd.below hb, h.dt.under hb, h.res.below hb, grown_then h.gr hb⟩
end
section
open Go.RowKit
theorem RbF.kind {w : World} {Br : Nat} {lv : Value} {a many e p : Nat} {kd : Int} {A : List (Dat × Value × Value)} {M : List (List UInt8 × Dat × Value × Value)} {vi vm : Value} {W : World} (h : RbF w Br lv a many e p kd A M vi vm W) (hBr : Br < w.heap.size) (k : Int) : RbF w Br lv a many e p k A M vi vm (W.setCell ⟨w.heap.size + 1, 0, none⟩ (.int .i64 k)) :=
 ⟨Blk.set_other h.rd 0 _ (by omega), h.dt.kind k, Blk.set_other h.res 0 _ (by omega), grown_set h.gr _ _ (.inl (by simp))⟩
theorem RbF.item {w W w5 : World} {Br lo : Nat} {lv : Value} {L : List Ln} {many i : Nat} {R : Except (Nat × Nat) (Dat × List Ln)} {a : Nat} {kd : Int} {A : List (Dat × Value × Value)} {M : List (List UInt8 × Dat × Value × Value)} {vi vm v' : Value} {x : Dat} {xi xm : Value} {o : Obj}
   (h : RbF w Br lv a many 0 0 kd A M vi vm W) (hln : LnR w lo lv L) (hBr : Br < w.heap.size) (hlo : Br < lo) (hx : Rep W (apY (w.heap.size + 1) (w.heap.size + 1) vi vm) x xi xm)
   (ho : w5.ownsRow (w.heap.size + 1 + 1) 25 5 v' (A.length + 1) (flat5 A ++ [.int .i64 x.k, .int .i64 x.n, .string (S x.s), xi, xm]))
   (hg : (W.alloc o).grownBy w5 vi.ownBlock) (ha : v'.ownBlock = vi.ownBlock ∨ v'.ownBlock = some (W.alloc o).heap.size)
   (heq : R = blkR many i kd ((A.map fun t => t.1) ++ [x]) (M.map fun t => (t.1, t.2.1)) (L.drop a)) (hle : a ≤ L.length) (hfew : A.length + M.length + 1 ≤ a) (hk : kd ≠ 0) :
   RbS w Br lo lv L many i R a kd (A ++ [(x, xi, xm)]) M v' vm (w5.setCell ⟨w.heap.size + 1, 3, none⟩ v') := by
 have hgr := grown_push (Bd := w.heap.size + 1) (v' := v') h.gr h.dt.its (by omega) hg 3 (by omega)
 have hne : ∀ B, B < w.heap.size + 1 + 1 → some B ≠ vi.ownBlock := fun B hB e => by have := (own_ge h.dt.its e.symm).1; omega
 refine ⟨?_, h.dt.item_end hx ho hg ha, ?_, hln.grown hgr hlo, hgr, ?_, hle, ?_, fun h0 => absurd h0 hk⟩
 · exact Blk.set_other (Blk.kept (Blk.alloc h.rd _) hg (hne _ (by omega))) 3 _ (by omega)
 · exact Blk.set_other (Blk.kept (Blk.alloc h.res _) hg (hne _ (by omega))) 3 _ (by omega)
 · rw [heq, List.map_append]; rfl
 · rw [List.length_append]; simp; omega
theorem RbF.memb {w W w5 : World} {Br lo : Nat} {lv : Value} {L : List Ln} {many i : Nat} {R : Except (Nat × Nat) (Dat × List Ln)} {a : Nat} {kd : Int} {A : List (Dat × Value × Value)} {M : List (List UInt8 × Dat × Value × Value)} {vi vm v' : Value} {l : List UInt8} {x : Dat} {xi xm : Value} {o : Obj}
   (h : RbF w Br lv a many 0 0 kd A M vi vm W) (hln : LnR w lo lv L) (hBr : Br < w.heap.size) (hlo : Br < lo) (hx : Rep W (apY (w.heap.size + 1) (w.heap.size + 1) vi vm) x xi xm)
   (ho : w5.ownsRow (w.heap.size + 1 + 1) 43 6 v' (M.length + 1) (flat6 M ++ [.string (S l), .int .i64 x.k, .int .i64 x.n, .string (S x.s), xi, xm]))
   (hg : (W.alloc o).grownBy w5 vm.ownBlock) (ha : v'.ownBlock = vm.ownBlock ∨ v'.ownBlock = some (W.alloc o).heap.size)
   (heq : R = blkR many i kd (A.map fun t => t.1) ((M.map fun t => (t.1, t.2.1)) ++ [(l, x)]) (L.drop a)) (hle : a ≤ L.length) (hfew : A.length + M.length + 1 ≤ a) (hk : kd ≠ 0) :
   RbS w Br lo lv L many i R a kd A (M ++ [(l, x, xi, xm)]) vi v' (w5.setCell ⟨w.heap.size + 1, 4, none⟩ v') := by
 have hgr := grown_push (Bd := w.heap.size + 1) (v' := v') h.gr h.dt.mem (by omega) hg 4 (by omega)
 have hne : ∀ B, B < w.heap.size + 1 + 1 → some B ≠ vm.ownBlock := fun B hB e => by have := (own_ge h.dt.mem e.symm).1; omega
 refine ⟨?_, h.dt.memb_end hx ho hg ha, ?_, hln.grown hgr hlo, hgr, ?_, hle, ?_, fun h0 => absurd h0 hk⟩
 · exact Blk.set_other (Blk.kept (Blk.alloc h.rd _) hg (hne _ (by omega))) 4 _ (by omega)
 · exact Blk.set_other (Blk.kept (Blk.alloc h.res _) hg (hne _ (by omega))) 4 _ (by omega)
 · rw [heq, List.map_append]; rfl
 · rw [List.length_append]; simp; omega
def put5 (W : World) (B : Nat) (v0 v1 v2 v3 v4 : Value) : World := ((((W.setCell ⟨B, 3, none⟩ v0).setCell ⟨B, 4, none⟩ v1).setCell ⟨B, 5, none⟩ v2).setCell ⟨B, 6, none⟩ v3).setCell ⟨B, 7, none⟩ v4
theorem put5_grown {w W : World} {br : Option Nat} (h : w.grownBy W br) (B : Nat) (hB : w.heap.size ≤ B) (v0 v1 v2 v3 v4 : Value) : w.grownBy (put5 W B v0 v1 v2 v3 v4) br :=
 grown_set (grown_set (grown_set (grown_set (grown_set h _ _ (.inl hB)) _ _ (.inl hB)) _ _ (.inl hB)) _ _ (.inl hB)) _ _ (.inl hB)
theorem put5_blk {W : World} {C : Nat} {c : Array Value} {t : TypeId} (h : Blk W C c t) (B : Nat) (hB : B ≠ C) (v0 v1 v2 v3 v4 : Value) : Blk (put5 W B v0 v1 v2 v3 v4) C c t :=
 ((((h.set_other 3 v0 hB).set_other 4 v1 hB).set_other 5 v2 hB).set_other 6 v3 hB).set_other 7 v4 hB
theorem put5_rep {W : World} {ok : Nat → Prop} {d : Dat} {vi vm : Value} (h : Rep W ok d vi vm) (B : Nat) (hB : ∀ C, ok C → B ≠ C) (v0 v1 v2 v3 v4 : Value) : Rep (put5 W B v0 v1 v2 v3 v4) ok d vi vm :=
 ((((h.set _ _ hB).set _ _ hB).set _ _ hB).set _ _ hB).set _ _ hB
theorem put5_own {W : World} {B : Nat} {t : TypeId} {u0 u1 u2 u3 u4 u5 u6 u7 : Value} (h : Blk W B #[u0, u1, u2, u3, u4, u5, u6, u7] t) (v0 v1 v2 v3 v4 : Value) : Blk (put5 W B v0 v1 v2 v3 v4) B #[u0, u1, u2, v0, v1, v2, v3, v4] t :=
 ((((h.set 3 v0).set 4 v1).set 5 v2).set 6 v3).set 7 v4
theorem RbS.away {w : World} {Br lo : Nat} {lv : Value} {L : List Ln} {many i : Nat} {R : Except (Nat × Nat) (Dat × List Ln)} {a : Nat} {kd : Int} {A : List (Dat × Value × Value)} {M : List (List UInt8 × Dat × Value × Value)} {vi vm : Value} {W W1 W2 : World} (h : RbS w Br lo lv L many i R a kd A M vi vm W) (hBr : Br < w.heap.size) (h1 : W.grownBy W1 (some Br)) (h2 : W1.grownBy W2 (some Br)) {a' e p : Nat} (hrd : RdB W2 Br lv a' many e p) {B : Nat} (hB : W.heap.size ≤ B) (v0 v1 v2 v3 v4 : Value) :
   RbF w Br lv a' many e p kd A M vi vm (put5 W2 B v0 v1 v2 v3 v4) := by
 have hlt := h.rd.lt
 exact h.fault hBr (put5_blk hrd B (by omega) v0 v1 v2 v3 v4) (put5_grown (h1.trans h2) B hB v0 v1 v2 v3 v4)
theorem suf_drop {α : Type} {L r : List α} {k : Nat} (h : r <:+ L.drop k) (hk : k ≤ L.length) : r = L.drop (L.length - r.length) ∧ k ≤ L.length - r.length ∧ L.length - r.length ≤ L.length := by
 have h1 := List.suffix_iff_eq_drop.1 (h.trans (List.drop_suffix k L))
 have h2 := h.length_le
 rw [List.length_drop] at h2
 exact ⟨h1, by omega, by omega⟩
theorem parts_cells {W : World} {B : Nat} {t : TypeId} {u0 u1 u2 u3 u4 u5 u6 u7 : Value} (h : Blk W B #[u0, u1, u2, u3, u4, u5, u6, u7] t) :
   (W.cell? ⟨B, 0, none⟩ = some u0 ∧ W.cell? ⟨B, 1, none⟩ = some u1 ∧ W.cell? ⟨B, 2, none⟩ = some u2 ∧ W.cell? ⟨B, 3, none⟩ = some u3 ∧ W.cell? ⟨B, 4, none⟩ = some u4 ∧ W.cell? ⟨B, 5, none⟩ = some u5 ∧ W.cell? ⟨B, 6, none⟩ = some u6 ∧ W.cell? ⟨B, 7, none⟩ = some u7) ∧
   (W.frozen? ⟨B, 0, none⟩ = false ∧ W.frozen? ⟨B, 1, none⟩ = false ∧ W.frozen? ⟨B, 2, none⟩ = false ∧ W.frozen? ⟨B, 3, none⟩ = false ∧ W.frozen? ⟨B, 4, none⟩ = false ∧ W.frozen? ⟨B, 5, none⟩ = false ∧ W.frozen? ⟨B, 6, none⟩ = false ∧ W.frozen? ⟨B, 7, none⟩ = false) ∧ B < W.heap.size :=
 ⟨⟨h.cell 0, h.cell 1, h.cell 2, h.cell 3, h.cell 4, h.cell 5, h.cell 6, h.cell 7⟩, ⟨h.frozen 0, h.frozen 1, h.frozen 2, h.frozen 3, h.frozen 4, h.frozen 5, h.frozen 6, h.frozen 7⟩, h.lt⟩
theorem fail_next {W : World} {Br : Nat} {lv : Value} {a m e p : Nat} (h : RdB W Br lv a m e p) (e' p' : Nat) :
   Calls Tryz.prog 63 #[.pointer (some ⟨Br, 0, none⟩), .int .i64 (e' : Int), .int .i64 ((p' : Int) + 1)] W fun e W' => e = .returned (.bool false) ∧ RdB W' Br lv a m e' (p' + 1) ∧ W.grownBy W' (some Br) := fail_any h e' (p' + 1)
end
end Go.Proofs.YtdalfkklkeblaaaGreatDoor
