/- The interpolation's memory: the parts till now, the text that is open; the closure that lays a part down. -/
import Derived.OneCell
import Derived.Test.YtadbilonialjnaaDoorTkC
import Derived.Test.YtadbilonialjnaaDoorBlk
namespace Go.Proofs.YtadbilonialjnaaDoor
open Go.RowKit

theorem infoPrt : (Tryd.prog.info? 33).map (fun i => (i.zero, i.size, i.bytes)) = some (some (.agg #[.string ⟨#[]⟩, .bool false, .int .i64 0]), 3, 32) := by kernel_rfl
theorem cells_new (w : World) (vs : List Value) (t : TypeId) : ∀ j u, vs[j]? = some u → (w.alloc (.cells vs.toArray t)).cell? ((⟨w.heap.size, 0, none⟩ : Addr).add j) = some u := by
  intro j u h
  rw [Addr.add_lit, Nat.zero_add, (Blk.new w vs.toArray t).cell j]
  simpa using h
/-- the cells of the parts -/
def flatP (L : List Prt) : List Value := L.flatMap fun x => [.string (S x.t), .bool x.c, .int .i64 (x.p : Int)]
theorem flatP_snoc (L : List Prt) (x : Prt) : flatP (L ++ [x]) = flatP L ++ [.string (S x.t), .bool x.c, .int .i64 (x.p : Int)] := by unfold flatP; simp
theorem flatP_len (L : List Prt) : (flatP L).length = L.length * 3 := by
  induction L with
  | nil => rfl
  | cons x r ih => unfold flatP at *; simp [ih]; omega
/-- an owned row lies in no block of another type -/
theorem own_not {W : World} {b : Nat} {e : TypeId} {s : Nat} {v : Value} {k : Nat} {xs : List Value} {B : Nat} {cs : Array Value} {t : TypeId} (h : W.ownsRow b e s v k xs) (hB : Blk W B cs t) (ht : e ≠ t) : v.ownBlock ≠ some B := by
  intro ej
  obtain ⟨_, cur, hg⟩ := own_base h B ej
  unfold Blk at hB
  rw [hg] at hB
  simp at hB
  exact ht hB.2
theorem own_apart {W W' : World} {b1 b2 : Nat} {e1 e2 : TypeId} {s1 s2 : Nat} {v1 v2 : Value} {k1 k2 : Nat} {xs1 xs2 : List Value} (h2 : W.ownsRow b2 e2 s2 v2 k2 xs2) (h1 : W.ownsRow b1 e1 s1 v1 k1 xs1) (ht : e1 ≠ e2) (hg : W.grownBy W' v1.ownBlock) : W'.ownsRow b2 e2 s2 v2 k2 xs2 := by
  refine ⟨h2.1, ?_⟩
  rcases h2.2 with hn | ⟨g, cap, cur, rfl, hb0, hgg, hr⟩
  · exact .inl hn
  · refine .inr ⟨g, cap, cur, rfl, hb0, (hg.block g (Array.getElem?_eq_some_iff.1 hgg).1 ?_).trans hgg, hr⟩
    intro e
    obtain ⟨_, cur', hg'⟩ := own_base h1 g e.symm
    rw [hgg] at hg'
    simp at hg'
    exact ht hg'.2.symm
theorem own_shape {W : World} {b : Nat} {e : TypeId} {s : Nat} {v : Value} {k : Nat} {xs : List Value} (h : W.ownsRow b e s v k xs) : (v = .slice none 0 0 ∧ k = 0) ∨ ∃ g cap, v = .slice (some ⟨g, 0, none⟩) k cap := by
  rcases h.2 with h2 | ⟨g, cap, cur, rfl, _⟩
  · exact .inl h2
  · exact .inr ⟨g, cap, rfl⟩
theorem own_nil {W : World} {b : Nat} {e : TypeId} {s : Nat} (hs : W.ownsRow b e s (.slice none 0 0) 0 []) (W' : World) : W'.ownsRow b e s (.slice none 0 0) 0 [] := ⟨hs.1, .inl ⟨rfl, rfl⟩⟩

/-- the four blocks of Interp, from N on: the fault, the parts, the open text, its offset -/
structure InS (N : Nat) (text : List UInt8) (fr : Nat) (out : List Prt) (vo vt : Value) (W : World) : Prop where
  ft : Blk W N #[.int .i64 0, .int .i64 0] 26
  bo : Blk W (N + 1) #[vo] 23
  bt : Blk W (N + 2) #[vt] 43
  bf : Blk W (N + 3) #[.int .i64 (fr : Int)] 3
  oo : W.ownsRow (N + 4) 33 3 vo out.length (flatP out)
  ot : W.ownsRow (N + 4) 5 1 vt text.length (bcells text)
def InA (N : Nat) (text : List UInt8) (fr : Nat) (out : List Prt) (W : World) : Prop := ∃ vo vt, InS N text fr out vo vt W
theorem InS.lt {N : Nat} {text : List UInt8} {fr : Nat} {out : List Prt} {vo vt : Value} {W : World} (h : InS N text fr out vo vt W) : N + 3 < W.heap.size := h.bf.lt
theorem InS.below {N : Nat} {text : List UInt8} {fr : Nat} {out : List Prt} {vo vt : Value} {W W' : World} (h : InS N text fr out vo vt W) (hb : Below W.heap.size W W') : InS N text fr out vo vt W' :=
  ⟨h.ft.below hb, h.bo.below hb, h.bt.below hb, h.bf.below hb, own_under h.oo hb, own_under h.ot hb⟩
theorem InS.alloc {N : Nat} {text : List UInt8} {fr : Nat} {out : List Prt} {vo vt : Value} {W : World} (h : InS N text fr out vo vt W) (o : Obj) : InS N text fr out vo vt (W.alloc o) :=
  h.below ((Below.refl _ _).alloc (Nat.le_refl _) _)
theorem InS.drew {N : Nat} {text : List UInt8} {fr : Nat} {out : List Prt} {vo vt : Value} {W : World} (h : InS N text fr out vo vt W) : InS N text fr out vo vt W.drew :=
  h.below (below_drew (Below.refl _ _))
/-- the offset is written -/
theorem InS.setF {N : Nat} {text : List UInt8} {fr : Nat} {out : List Prt} {vo vt : Value} {W : World} (h : InS N text fr out vo vt W) (n : Nat) : InS N text n out vo vt (W.setCell ⟨N + 3, 0, none⟩ (.int .i64 (n : Int))) :=
  ⟨h.ft.set_other _ _ (by omega), h.bo.set_other _ _ (by omega), h.bt.set_other _ _ (by omega), h.bf.set 0 _, ownsRow_setCell_other h.oo (own_not h.oo h.bf (by decide)) _, ownsRow_setCell_other h.ot (own_not h.ot h.bf (by decide)) _⟩
/-- parts are appended and written back -/
theorem InS.setO {N : Nat} {text : List UInt8} {fr : Nat} {out out' : List Prt} {vo vt vo' : Value} {W W' : World} (h : InS N text fr out vo vt W) (hg : W.grownBy W' vo.ownBlock) (ho : W'.ownsRow (N + 4) 33 3 vo' out'.length (flatP out')) : InS N text fr out' vo' vt (W'.setCell ⟨N + 1, 0, none⟩ vo') := by
  have n0 := own_not h.oo h.ft (by decide)
  have n1 := own_not h.oo h.bo (by decide)
  have n2 := own_not h.oo h.bt (by decide)
  have n3 := own_not h.oo h.bf (by decide)
  have b1 := h.bo.kept hg (fun e => n1 e.symm)
  have ot := own_apart h.ot h.oo (by decide) hg
  exact ⟨(h.ft.kept hg (fun e => n0 e.symm)).set_other _ _ (by omega), b1.set 0 _, (h.bt.kept hg (fun e => n2 e.symm)).set_other _ _ (by omega), (h.bf.kept hg (fun e => n3 e.symm)).set_other _ _ (by omega), ownsRow_setCell_other ho (own_not ho b1 (by decide)) _, ownsRow_setCell_other ot (own_not ot b1 (by decide)) _⟩
/-- the open text grows and is written back -/
theorem InS.setT {N : Nat} {text text' : List UInt8} {fr : Nat} {out : List Prt} {vo vt vt' : Value} {W W' : World} (h : InS N text fr out vo vt W) (hg : W.grownBy W' vt.ownBlock) (ho : W'.ownsRow (N + 4) 5 1 vt' text'.length (bcells text')) : InS N text' fr out vo vt' (W'.setCell ⟨N + 2, 0, none⟩ vt') := by
  have n0 := own_not h.ot h.ft (by decide)
  have n1 := own_not h.ot h.bo (by decide)
  have n2 := own_not h.ot h.bt (by decide)
  have n3 := own_not h.ot h.bf (by decide)
  have b2 := h.bt.kept hg (fun e => n2 e.symm)
  have oo := own_apart h.oo h.ot (by decide) hg
  exact ⟨(h.ft.kept hg (fun e => n0 e.symm)).set_other _ _ (by omega), (h.bo.kept hg (fun e => n1 e.symm)).set_other _ _ (by omega), b2.set 0 _, (h.bf.kept hg (fun e => n3 e.symm)).set_other _ _ (by omega), ownsRow_setCell_other oo (own_not oo b2 (by decide)) _, ownsRow_setCell_other ho (own_not ho b2 (by decide)) _⟩
/-- the open text is done with -/
theorem InS.zeroT {N : Nat} {text : List UInt8} {fr : Nat} {out : List Prt} {vo vt : Value} {W : World} (h : InS N text fr out vo vt W) : InS N [] fr out vo (.slice none 0 0) (W.setCell ⟨N + 2, 0, none⟩ (.slice none 0 0)) :=
  ⟨h.ft.set_other _ _ (by omega), h.bo.set_other _ _ (by omega), h.bt.set 0 _, h.bf.set_other _ _ (by omega), ownsRow_setCell_other h.oo (own_not h.oo h.bt (by decide)) _, ⟨by simp [bcells], .inl ⟨rfl, rfl⟩⟩⟩
/-- what the walk asks of a world -/
theorem InS.cells {N : Nat} {text : List UInt8} {fr : Nat} {out : List Prt} {vo vt : Value} {W : World} (h : InS N text fr out vo vt W) :
    W.cell? ⟨N + 1, 0, none⟩ = some vo ∧ W.frozen? ⟨N + 1, 0, none⟩ = false ∧ W.cell? ⟨N + 2, 0, none⟩ = some vt ∧ W.frozen? ⟨N + 2, 0, none⟩ = false ∧ W.cell? ⟨N + 3, 0, none⟩ = some (.int .i64 (fr : Int)) ∧ W.frozen? ⟨N + 3, 0, none⟩ = false :=
  ⟨h.bo.cell 0, h.bo.frozen 0, h.bt.cell 0, h.bt.frozen 0, h.bf.cell 0, h.bf.frozen 0⟩
theorem flushP_nil (fr : Nat) (out : List Prt) : flushP [] fr out = out := by simp [flushP]
theorem flushP_some {text : List UInt8} (h : 0 < text.length) (fr : Nat) (out : List Prt) : flushP text fr out = out ++ [⟨text, false, fr⟩] := by
  unfold flushP; rw [if_neg (by intro e; rw [e] at h; simp at h)]
/-- blocks from N on may change -/
theorem grown_in {N : Nat} {w W w1 : World} {row : Option Nat} (hB : Below N w W) (hg : W.grownBy w1 row) (hN : N ≤ W.heap.size) (hr : ∀ j, row = some j → N ≤ j) : Below N w w1 := hB.grown hg hN hr

set_option maxRecDepth 100000 in
set_option maxHeartbeats 1000000 in
theorem flush_any (N : Nat) (text : List UInt8) (fr : Nat) (out : List Prt) (vo vt : Value) (w : World) (h : InS N text fr out vo vt w) (hl : out.length ≤ 1000000) (ht : text.length ≤ 1000000) :
    Calls Tryd.prog 19 #[.pointer (some ⟨N + 2, 0, none⟩), .pointer (some ⟨N + 1, 0, none⟩), .pointer (some ⟨N + 3, 0, none⟩)] w fun e w' => e = .returned (.tuple #[]) ∧ (∃ vo', InS N [] fr (flushP text fr out) vo' (.slice none 0 0) w') ∧ Below N w w' := by
  have HS := Lib.hid h
  obtain ⟨c1, f1, c2, f2, c3, f3⟩ := h.cells
  have hsz := h.lt
  rcases own_shape h.ot with ⟨rfl, h0⟩ | ⟨g, cap, rfl⟩
  · obtain rfl := List.eq_nil_of_length_eq_zero h0
    clear h
    go_enter Tryd.func19, Tryd.ntmps19
    go_wp2
    go_end0
    exact ⟨rfl, ⟨vo, by rw [flushP_nil]; exact HS.out.zeroT⟩, (Below.refl _ _).setCell (by show N ≤ N + 2; omega) _⟩
  · by_cases h0 : text.length = 0
    · obtain rfl := List.eq_nil_of_length_eq_zero h0
      clear h
      go_enter Tryd.func19, Tryd.ntmps19
      go_wp2
      go_end0
      exact ⟨rfl, ⟨vo, by rw [flushP_nil]; exact HS.out.zeroT⟩, (Below.refl _ _).setCell (by show N ≤ N + 2; omega) _⟩
    · have hpos : (0 : Int) < (text.length : Int) := by omega
      have hpos' : 0 < text.length := by omega
      obtain ⟨i0, hi, hz0, hz1, hz2⟩ := info_parts infoPrt
      have hcv := conv_own (P := Tryd.prog) w 43 9 5 (N + 4) _ text Tryd.underlying43 Tryd.underlying5 Tryd.underlying9 h.ot
      clear h h0
      go_enter Tryd.func19, Tryd.ntmps19
      go_wp2_with (at_builtin; refine wpList_append_own _ rfl _ _ 23 rfl (N + 4) 33 i0 (.agg #[.string ⟨#[]⟩, .bool false, .int .i64 0]) 3 32 Tryd.underlying23 hi hz0 hz1 hz2 rfl (by decide) vo _ _ rfl (HS.out.alloc _).oo ⟨w.heap.size, 0, none⟩ 1 1 [.string (S text), .bool false, .int .i64 (fr : Int)] rfl rfl (cells_new w _ _) (by simp [Value.oneCell']) (by unfold maxLen; omega) (by omega) (by simp; omega) ?_; intro v' w1 hown' hgrow _; obtain ⟨g', cap', rfl⟩ := ownsRow_pos hown' (by omega); have d1 := ((HS.out.alloc (.cells #[.string (S text), .bool false, .int .i64 (fr : Int)] 33)).bo.kept hgrow (fun e => own_not (HS.out.alloc (.cells #[.string (S text), .bool false, .int .i64 (fr : Int)] 33)).oo (HS.out.alloc (.cells #[.string (S text), .bool false, .int .i64 (fr : Int)] 33)).bo (by decide) e.symm)); obtain ⟨e1, e2, e3, e4, e5, e6⟩ := ((HS.out.alloc _).setO hgrow (out' := out ++ [⟨text, false, fr⟩]) (by rw [flatP_snoc, List.length_append]; exact hown')).cells; have d2 := d1.cell 0; have d3 := d1.frozen 0; have HB := Lib.hid ((((Below.refl N w).alloc (show N ≤ w.heap.size by omega) _).grown hgrow (by simp; omega) (fun j hj => by have := (own_base (HS.out.alloc (.cells #[.string (S text), .bool false, .int .i64 (fr : Int)] 33)).oo j hj).1; omega))); have HW := Lib.hid ((HS.out.alloc _).setO hgrow (out' := out ++ [⟨text, false, fr⟩]) (by rw [flatP_snoc, List.length_append]; exact hown')); clear hgrow hown')
      go_end0
      exact ⟨rfl, ⟨_, by rw [flushP_some hpos']; exact HW.out.zeroT⟩, (HB.out.setCell (by show N ≤ N + 1; omega) _).setCell (by show N ≤ N + 2; omega) _⟩
end Go.Proofs.YtadbilonialjnaaDoor
