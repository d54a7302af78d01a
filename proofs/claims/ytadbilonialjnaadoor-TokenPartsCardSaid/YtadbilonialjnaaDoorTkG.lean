/- The scanner's memory; add: a token is laid down. -/
import Derived.Deep.AppendLies
import Derived.Deep.RegionLaw
import Derived.Test.YtadbilonialjnaaDoorTkD
import Derived.Test.YtadbilonialjnaaDoorTkF
namespace Go.Proofs.YtadbilonialjnaaDoor
open Go.RowKit

theorem infoTok : (Tryd.prog.info? 40).map (fun i => (i.zero, i.size, i.bytes)) = some (some (.agg #[.int .i64 0, .string ⟨#[]⟩, .int .i64 0, .int .i64 0]), 4, 40) := by kernel_rfl
/-- the cells of a token -/
def cellsT (x : Tok) : List Value := [.int .i64 (x.k : Int), .string (S x.t), .int .i64 (x.p : Int), .int .i64 (x.e : Int)]
/-- the cells of the tokens -/
def flatT (L : List Tok) : List Value := L.flatMap cellsT
theorem flatT_snoc (L : List Tok) (x : Tok) : flatT (L ++ [x]) = flatT L ++ cellsT x := by unfold flatT; simp
theorem flatT_len (L : List Tok) : (flatT L).length = L.length * 4 := by
  induction L with
  | nil => rfl
  | cons x r ih => unfold flatT at *; simp [ih, cellsT]; omega
/-- the scanner in block B: the text, the offset, the tokens till now, whether a line feed gives a token -/
structure ScS (N B : Nat) (s : List UInt8) (a : Nat) (L : List Tok) (ln : Bool) (v : Value) (W : World) : Prop where
  hb : N ≤ B
  blk : Blk W B #[.string (S s), .int .i64 (a : Int), v, .bool ln] 58
  own : W.ownsRow N 40 4 v L.length (flatT L)
theorem ScS.lt {N B : Nat} {s : List UInt8} {a : Nat} {L : List Tok} {ln : Bool} {v : Value} {W : World} (h : ScS N B s a L ln v W) : B < W.heap.size := h.blk.lt
theorem ScS.below {N B : Nat} {s : List UInt8} {a : Nat} {L : List Tok} {ln : Bool} {v : Value} {W W' : World} (h : ScS N B s a L ln v W) (hb : Below W.heap.size W W') : ScS N B s a L ln v W' :=
  ⟨h.hb, h.blk.below hb, own_under h.own hb⟩
theorem ScS.alloc {N B : Nat} {s : List UInt8} {a : Nat} {L : List Tok} {ln : Bool} {v : Value} {W : World} (h : ScS N B s a L ln v W) (o : Obj) : ScS N B s a L ln v (W.alloc o) :=
  h.below ((Below.refl _ _).alloc (Nat.le_refl _) _)
theorem ScS.drew {N B : Nat} {s : List UInt8} {a : Nat} {L : List Tok} {ln : Bool} {v : Value} {W : World} (h : ScS N B s a L ln v W) : ScS N B s a L ln v W.drew :=
  h.below (below_drew (Below.refl _ _))
theorem ScS.setA {N B : Nat} {s : List UInt8} {a : Nat} {L : List Tok} {ln : Bool} {v : Value} {W : World} (h : ScS N B s a L ln v W) (n : Nat) : ScS N B s n L ln v (W.setCell ⟨B, 1, none⟩ (.int .i64 (n : Int))) :=
  ⟨h.hb, h.blk.set 1 _, ownsRow_setCell_other h.own (own_not h.own h.blk (by decide)) _⟩
theorem ScS.setL {N B : Nat} {s : List UInt8} {a : Nat} {L : List Tok} {ln : Bool} {v : Value} {W : World} (h : ScS N B s a L ln v W) (b : Bool) : ScS N B s a L b v (W.setCell ⟨B, 3, none⟩ (.bool b)) :=
  ⟨h.hb, h.blk.set 3 _, ownsRow_setCell_other h.own (own_not h.own h.blk (by decide)) _⟩
theorem ScS.setO {N B : Nat} {s : List UInt8} {a : Nat} {L L' : List Tok} {ln : Bool} {v v' : Value} {W W' : World} (h : ScS N B s a L ln v W) (hg : W.grownBy W' v.ownBlock) (ho : W'.ownsRow N 40 4 v' L'.length (flatT L')) : ScS N B s a L' ln v' (W'.setCell ⟨B, 2, none⟩ v') := by
  have b := h.blk.kept hg (fun e => own_not h.own h.blk (by decide) e.symm)
  exact ⟨h.hb, b.set 2 _, ownsRow_setCell_other ho (own_not ho b (by decide)) _⟩
theorem ScS.cells {N B : Nat} {s : List UInt8} {a : Nat} {L : List Tok} {ln : Bool} {v : Value} {W : World} (h : ScS N B s a L ln v W) :
    W.cell? ⟨B, 0, none⟩ = some (.string (S s)) ∧ W.cell? ⟨B, 1, none⟩ = some (.int .i64 (a : Int)) ∧ W.cell? ⟨B, 2, none⟩ = some v ∧ W.cell? ⟨B, 3, none⟩ = some (.bool ln) :=
  ⟨h.blk.cell 0, h.blk.cell 1, h.blk.cell 2, h.blk.cell 3⟩
theorem ScS.free {N B : Nat} {s : List UInt8} {a : Nat} {L : List Tok} {ln : Bool} {v : Value} {W : World} (h : ScS N B s a L ln v W) :
    W.frozen? ⟨B, 0, none⟩ = false ∧ W.frozen? ⟨B, 1, none⟩ = false ∧ W.frozen? ⟨B, 2, none⟩ = false ∧ W.frozen? ⟨B, 3, none⟩ = false :=
  ⟨h.blk.frozen 0, h.blk.frozen 1, h.blk.frozen 2, h.blk.frozen 3⟩
theorem ends_ops : ∀ t ∈ tkOps, Lib.contains [32, 95, 124, 95, 32, 95, 32, 46, 46, 46, 32, 41, 32, 93, 32, 125, 32, 63, 32] (ct (ct [32] t) [32]) = tkEndOps.contains t := by decide
theorem ops_len : ∀ t ∈ tkOps, t.length ≤ 3 := by decide
theorem MaxOk.grownN {N : Nat} {w w' : World} (h : MaxOk w) (hb : Below N w w') (hN : 0 < N) : MaxOk w' := by
  obtain ⟨m, hc⟩ := h
  exact ⟨m, (hb.cell (p := ⟨0, 0, none⟩) hN).trans hc⟩
/-- what add leaves -/
def AddP (N B : Nat) (s : List UInt8) (a : Nat) (L : List Tok) (ln : Bool) (k : Nat) (t : List UInt8) (n : Nat) (W : World) (e : Ending) (w' : World) : Prop :=
  e = .returned (.tuple #[]) ∧ (∃ v', ScS N B s (a + n) (L ++ [⟨k, t, a, a + n⟩]) (tkLn k t ln) v' w') ∧ Below N W w'

set_option maxRecDepth 100000 in
set_option maxHeartbeats 4000000 in
theorem add_any (N B : Nat) (s : List UInt8) (a : Nat) (L : List Tok) (ln : Bool) (v : Value) (k : Nat) (t : List UInt8) (n : Nat) (W : World) (hS : ScS N B s a L ln v W) (hM : MaxOk W) (hG : 0 < N) (hN : N ≤ W.heap.size)
    (hL : L.length ≤ 1000000) (ha : a + n ≤ 1000000) (hk : k ≤ 7) (hop : k = 5 → t ∈ tkOps) :
    Calls Tryd.prog 26 #[.pointer (some ⟨B, 0, none⟩), .int .i64 (k : Int), .string (S t), .int .i64 (n : Int)] W (AddP N B s a L ln k t n W) := by
  obtain ⟨i0, hi, hz0, hz1, hz2⟩ := info_parts infoTok
  have HS := Lib.hid hS
  have HM := Lib.hid hM
  have HOP := Lib.hid hop
  obtain ⟨c0, c1, c2, c3⟩ := hS.cells
  obtain ⟨f0, f1, f2, f3⟩ := hS.free
  have hlt := hS.lt
  have e1 : IntKind.i64.wrap ((a : Int) + (n : Int)) = (a : Int) + (n : Int) := IntWalk.i64_in _ (by omega)
  have HS2 := Lib.hid ((hS.alloc (.cells #[.int .i64 (k : Int), .string (S t), .int .i64 (a : Int), .int .i64 ((a : Int) + (n : Int))] 40)).drew)
  have d2 := (hS.alloc (.cells #[.int .i64 (k : Int), .string (S t), .int .i64 (a : Int), .int .i64 ((a : Int) + (n : Int))] 40)).cells.2.2.1
  have d1 := (hS.alloc (.cells #[.int .i64 (k : Int), .string (S t), .int .i64 (a : Int), .int .i64 ((a : Int) + (n : Int))] 40)).cells.2.1
  have HB := Lib.hid (below_drew ((Below.refl N W).alloc hN (.cells #[.int .i64 (k : Int), .string (S t), .int .i64 (a : Int), .int .i64 ((a : Int) + (n : Int))] 40)))
  clear hS hM hop
  go_enter Tryd.func26, Tryd.ntmps26
  go_upto_region 0 with fail
  go_cut [] (fun wx => ∃ v', Hid (ScS N B s a (L ++ [⟨k, t, a, a + n⟩]) ln v' wx ∧ Below N W wx))
  case first =>
    go_region_law ((refine step_append_lies _ (by rfl) _ _ _ (by rfl) N 40 i0 _ 4 40 Tryd.underlying36 hi hz0 hz1 hz2 rfl (by omega) v _ _ (by rfl) HS2.out.own ⟨W.heap.size, 0, none⟩ 1 1 [.int .i64 (k : Int), .string (S t), .int .i64 (a : Int), .int .i64 ((a : Int) + (n : Int))] (by rfl) (by rfl) (World.news_of_block (cs := #[.int .i64 (k : Int), .string (S t), .int .i64 (a : Int), .int .i64 ((a : Int) + (n : Int))]) (t := 40) (fr := (0, 0)) (heap_alloc_new W _)) (by simp [Value.oneCell']) (by omega) (by unfold maxLen; omega) (by omega) (by simp; omega) (W.heap.size + 1) (by simp) ?_; intro g' cap' w3 hown' hgrow hat hlt1; have k1 := (HS2.out.blk.kept hgrow (fun e => own_not HS2.out.own HS2.out.blk (by decide) e.symm)); have k2 := k1.cell 2; have k3 := k1.frozen 2))
    all_goals
      have HW := Lib.hid (HS2.out.setO hgrow (L' := L ++ [⟨k, t, a, a + n⟩]) (by rw [flatT_snoc, List.length_append]; exact hown'))
      have HBW := Lib.hid ((HB.out.grown hgrow (by simp; omega) (fun j hj => (own_base HS2.out.own j hj).1)).setCell (by show N ≤ B; exact HS.out.hb) (.slice (some ⟨g', 0, none⟩) (L.length + 1) cap') (p := ⟨B, 2, none⟩))
      clear hgrow hown' k1
      go_wp2_with fail
      go_meet
      exact ⟨_, Lib.hid ⟨HW.out, HBW.out⟩⟩
  case rest =>
    obtain ⟨v', hx⟩ := hcut
    obtain ⟨hS1, hB1⟩ := hx.out
    have HS1 := Lib.hid hS1
    have HB1 := Lib.hid hB1
    clear hx HS2 d1 d2 HB c0 c1 c2 c3 f0 f1 f2 f3
    obtain ⟨c0, c1, c2, c3⟩ := hS1.cells
    obtain ⟨f0, f1, f2, f3⟩ := hS1.free
    have hlt1 := hS1.lt
    have HF := Lib.hid (hS1.setA (a + n))
    have HBF := Lib.hid (hB1.setCell (by show N ≤ B; exact hS1.hb) (.int .i64 ((a : Int) + (n : Int))) (p := ⟨B, 1, none⟩))
    have HMF := Lib.hid (HM.out.grownN HBF.out hG)
    clear hS1 hB1
    rcases (show k = 6 ∨ (k = 1 ∨ k = 2 ∨ k = 3 ∨ k = 4) ∨ k = 5 ∨ (k = 0 ∨ k = 7) by omega) with rfl | (rfl | rfl | rfl | rfl) | rfl | (rfl | rfl)
    · go_wp2_with fail
      go_end0
      exact ⟨rfl, ⟨v', HF.out⟩, HBF.out⟩
    · go_wp2_with fail
      go_end0
      exact ⟨rfl, ⟨v', HF.out.setL true⟩, HBF.out.setCell (by show N ≤ B; exact HS.out.hb) _⟩
    · go_wp2_with fail
      go_end0
      exact ⟨rfl, ⟨v', HF.out.setL true⟩, HBF.out.setCell (by show N ≤ B; exact HS.out.hb) _⟩
    · go_wp2_with fail
      go_end0
      exact ⟨rfl, ⟨v', HF.out.setL true⟩, HBF.out.setCell (by show N ≤ B; exact HS.out.hb) _⟩
    · go_wp2_with fail
      go_end0
      exact ⟨rfl, ⟨v', HF.out.setL true⟩, HBF.out.setCell (by show N ≤ B; exact HS.out.hb) _⟩
    · have hmem := HOP.out rfl
      obtain ⟨q, hq⟩ : ∃ q, tkEndOps.contains t = q := ⟨_, rfl⟩
      have HE := Lib.hid ((ends_ops t hmem).trans hq)
      have HQ := Lib.hid (show tkLn 5 t ln = q by rw [← hq]; rfl)
      clear hq
      have htl : t.length ≤ 3 := ops_len t hmem
      have htn : ¬ (9223372036854775807 : Nat) < 1 + t.length := by omega
      have htn2 : ¬ (9223372036854775807 : Nat) < 1 + t.length + 1 := by omega
      obtain ⟨m, hm⟩ := HMF.out
      clear hmem
      go_wp2_with (go_at_call 32; refine (Tryd.strings_Contains _ (S (ct (ct [32] t) [32])) m _ (by decide) hm).mono ?_; rintro e w' ⟨rfl, rfl⟩; rw [S_data, show Lib.contains _ _ = q from HE.out])
      go_end0
      exact ⟨rfl, ⟨v', by rw [HQ.out]; exact HF.out.setL q⟩, HBF.out.setCell (by show N ≤ B; exact HS.out.hb) _⟩
    · go_wp2_with fail
      go_end0
      exact ⟨rfl, ⟨v', HF.out.setL false⟩, HBF.out.setCell (by show N ≤ B; exact HS.out.hb) _⟩
    · go_wp2_with fail
      go_end0
      exact ⟨rfl, ⟨v', HF.out.setL false⟩, HBF.out.setCell (by show N ≤ B; exact HS.out.hb) _⟩
end Go.Proofs.YtadbilonialjnaaDoor
