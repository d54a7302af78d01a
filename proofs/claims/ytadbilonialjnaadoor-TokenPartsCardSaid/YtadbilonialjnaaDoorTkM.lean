/- The chapter's examples of tokens: example returns true. -/
import Derived.Test.YtadbilonialjnaaDoorTkJ
import Derived.Test.YtadbilonialjnaaDoorTkL
namespace Go.Proofs.YtadbilonialjnaaDoor
open Go.RowKit

def exT1 : List Tok := [⟨1, [97], 0, 1⟩, ⟨5, [58], 1, 2⟩, ⟨2, [49], 3, 4⟩, ⟨6, [32, 120], 5, 9⟩, ⟨0, [], 9, 9⟩]
def exT2 : List Tok := [⟨1, [97], 0, 1⟩, ⟨6, [98], 2, 5⟩, ⟨7, [10], 5, 6⟩, ⟨0, [], 6, 6⟩]
def exP1 : List Prt := [⟨[97], false, 0⟩, ⟨[98, 32, 43, 32, 40, 99, 41], true, 3⟩, ⟨[100], false, 11⟩]
theorem ex_s1 : scanT nbOk [97, 58, 32, 49, 32, 47, 47, 32, 120] = (exT1, 0, 0) := by kernel_rfl
theorem ex_s2 : scanT nbOk [97, 32, 47, 47, 98, 10] = (exT2, 0, 0) := by kernel_rfl
theorem ex_s3 : scanT nbOk [97, 32, 126] = ([], 8, 2) := by kernel_rfl
theorem ex_i1 : interpL [97, 92, 40, 98, 32, 43, 32, 40, 99, 41, 41, 100] = .ok exP1 := by kernel_rfl
/-- Scan, with its list as a slice in memory -/
theorem Scan_sl (s : List UInt8) (hl : s.length ≤ 1000000) (w : World) (hE : TkOk w) : Calls Tryd.prog 13 #[.string (S s)] w fun e w' =>
    ∃ v, e = .returned (.tuple #[v, .agg #[.int .i64 ((scanT nbOk s).2.1 : Int), .int .i64 ((scanT nbOk s).2.2 : Int)]]) ∧ SlT w' v (scanT nbOk s).1 ∧ Below w.heap.size w w' := by
  refine (scan_any s hl w hE).mono ?_
  rintro e w' ⟨hb, v, he, ho⟩
  exact ⟨v, he, own_SlT ho, hb⟩
/-- Scan where it is known -/
theorem Scan_at {s : List UInt8} {L : List Tok} {a b : Nat} (h : scanT nbOk s = (L, a, b)) (hl : s.length ≤ 1000000) (w : World) (hE : TkOk w) : Calls Tryd.prog 13 #[.string (S s)] w fun e w' =>
    ∃ p cap, e = .returned (.tuple #[.slice p L.length cap, .agg #[.int .i64 (a : Int), .int .i64 (b : Int)]]) ∧ SlT w' (.slice p L.length cap) L ∧ Below w.heap.size w w' := by
  refine (Scan_sl s hl w hE).mono ?_
  rintro e w' ⟨v, he, hv, hb⟩
  rw [h] at he hv
  obtain ⟨p, cap, rfl⟩ := hv.form
  exact ⟨p, cap, he, hv, hb⟩
theorem Interp_at {l : List UInt8} {ps : List Prt} (h : interpL l = .ok ps) (hl : l.length ≤ 1000000) (w : World) (hE : ErrOk w) : Calls Tryd.prog 11 #[.string (S l)] w fun e w' =>
    ∃ p cap, e = .returned (.tuple #[.slice p ps.length cap, .agg #[.int .i64 0, .int .i64 0]]) ∧ SlP w' (.slice p ps.length cap) ps ∧ Below w.heap.size w w' := by
  refine (interp_ok h hl w hE).mono ?_
  rintro e w' ⟨v, he, ho, hb⟩
  have hs := own_SlP ho
  obtain ⟨p, cap, rfl, -⟩ := hs.open
  exact ⟨p, cap, he, hs, hb⟩
def exC : Array Value := #[.int .i64 1, .string ⟨#[97]⟩, .int .i64 0, .int .i64 1, .int .i64 5, .string ⟨#[58]⟩, .int .i64 1, .int .i64 2, .int .i64 2, .string ⟨#[49]⟩, .int .i64 3, .int .i64 4, .int .i64 6, .string ⟨#[32, 120]⟩, .int .i64 5, .int .i64 9, .int .i64 0, .string ⟨#[]⟩, .int .i64 9, .int .i64 9]
theorem slt_ex {W : World} {B : Nat} (h : Blk W B exC 40) : SlT W (.slice (some ⟨B, 0, none⟩) 5 5) exT1 := by
  refine .inr ⟨B, 5, rfl, by decide, h.lt, ?_⟩
  intro j x hj
  match j, hj with
  | 0, hj => cases hj; exact ⟨h.cell 0, h.cell 1, h.cell 2, h.cell 3⟩
  | 1, hj => cases hj; exact ⟨h.cell 4, h.cell 5, h.cell 6, h.cell 7⟩
  | 2, hj => cases hj; exact ⟨h.cell 8, h.cell 9, h.cell 10, h.cell 11⟩
  | 3, hj => cases hj; exact ⟨h.cell 12, h.cell 13, h.cell 14, h.cell 15⟩
  | 4, hj => cases hj; exact ⟨h.cell 16, h.cell 17, h.cell 18, h.cell 19⟩
theorem two_below {w w1 : World} {c1 c2 : Array Value} {t1 t2 : TypeId} (hb : Below ((w.alloc (.cells c1 t1)).alloc (.cells c2 t2)).heap.size ((w.alloc (.cells c1 t1)).alloc (.cells c2 t2)) w1) : Blk w1 w.heap.size c1 t1 ∧ Blk w1 (w.heap.size + 1) c2 t2 ∧ Below w.heap.size w w1 := by
  obtain ⟨h1, h2⟩ := below_new hb
  obtain ⟨h3, h4⟩ := below_new h2
  rw [World.size_alloc] at h1
  exact ⟨h3, h1, h4⟩
theorem one_below (w : World) (c1 : Array Value) (t1 : TypeId) : Blk (w.alloc (.cells c1 t1)) w.heap.size c1 t1 ∧ Below w.heap.size w (w.alloc (.cells c1 t1)) :=
  ⟨Blk.new w c1 t1, (Below.refl _ _).alloc (Nat.le_refl _) _⟩
theorem exP_len : exP1.length = 3 := rfl
theorem exT1_len : exT1.length = 5 := rfl
theorem exT2_len : exT2.length = 4 := rfl
theorem exP_cells {W : World} {p : Option Addr} {cap : Nat} (h : SlP W (.slice p 3 cap) exP1) : ∃ B, p = some ⟨B, 0, none⟩ ∧ (3 : Int) ≤ (cap : Int) ∧ B < W.heap.size ∧
    W.cell? ⟨B, 0, none⟩ = some (.string (S [97])) ∧ W.cell? ⟨B, 1, none⟩ = some (.bool false) ∧ W.cell? ⟨B, 2, none⟩ = some (.int .i64 0) ∧
    W.cell? ⟨B, 3, none⟩ = some (.string (S [98, 32, 43, 32, 40, 99, 41])) ∧ W.cell? ⟨B, 4, none⟩ = some (.bool true) ∧ W.cell? ⟨B, 5, none⟩ = some (.int .i64 3) ∧
    W.cell? ⟨B, 6, none⟩ = some (.string (S [100])) ∧ W.cell? ⟨B, 7, none⟩ = some (.bool false) ∧ W.cell? ⟨B, 8, none⟩ = some (.int .i64 11) := by
  rcases h with ⟨h1, h2⟩ | ⟨B, cap', h1, h2, h3, h4⟩
  · cases h2
  · injection h1 with e1 e2 e3
    subst e1; subst e3
    have a0 := h4 0 _ rfl
    have a1 := h4 1 _ rfl
    have a2 := h4 2 _ rfl
    rw [exP_len] at h2
    exact ⟨B, rfl, by omega, h3, a0.1, a0.2.1, a0.2.2, a1.1, a1.2.1, a1.2.2, a2.1, a2.2.1, a2.2.2⟩
theorem exT2_cells {W : World} {p : Option Addr} {cap : Nat} (h : SlT W (.slice p 4 cap) exT2) : ∃ B, p = some ⟨B, 0, none⟩ ∧ (4 : Int) ≤ (cap : Int) ∧ B < W.heap.size ∧ W.cell? ⟨B, 8, none⟩ = some (.int .i64 7) := by
  rcases h with ⟨h1, h2⟩ | ⟨B, cap', h1, h2, h3, h4⟩
  · cases h2
  · injection h1 with e1 e2 e3
    subst e1; subst e3
    have a2 := h4 2 _ rfl
    rw [exT2_len] at h2
    exact ⟨B, rfl, by omega, h3, a2.1⟩
theorem fcells {W : World} {B : Nat} {a b : Int} {t : TypeId} (h : Blk W B #[.int .i64 a, .int .i64 b] t) : W.cell? ⟨B, 0, none⟩ = some (.int .i64 a) ∧ W.cell? ⟨B, 1, none⟩ = some (.int .i64 b) := ⟨h.cell 0, h.cell 1⟩
set_option maxRecDepth 100000 in
set_option maxHeartbeats 4000000 in
theorem example_any (w : World) (hE : TkOk w) : Calls Tryd.prog 10 #[] w fun e w' => e = .returned (.bool true) ∧ Below w.heap.size w w' := by
  have HE := Lib.hid hE; clear hE
  go_enter Tryd.func10, Tryd.ntmps10
  go_wp2_with fail
  refine (Scan_at ex_s1 (by decide) _ HE.out).mono ?_
  rintro e w1 ⟨p1, cap1, rfl, hv1, hb1⟩
  rw [exT1_len] at hv1 ⊢
  have V1 := Lib.hid hv1
  have HB1 := Lib.hid hb1
  clear hb1 hv1
  go_wp2_with fail
  refine (Interp_at ex_i1 (by decide) _ (HE.out.below (keepV HB1.out (((Below.refl _ _).alloc (Nat.le_refl _) _).alloc (by simp) _))).er).mono ?_
  rintro e w2 ⟨p2, cap2, rfl, hv2, hb2⟩
  rw [exP_len] at hv2 ⊢
  obtain ⟨f1, q1, hb2⟩ := two_below hb2
  obtain ⟨B2, rfl, hc2, hl2, c0, c1, c2, c3, c4, c5, c6, c7, c8⟩ := exP_cells hv2
  have HB2 := Lib.hid (keepV HB1.out hb2)
  have V2 := Lib.hid (V1.out.below hb2)
  have F1 := Lib.hid f1
  have Q1 := Lib.hid (slt_ex q1)
  clear hv2 hb2 f1 q1 V1 HB1
  go_wp2_with fail
  clear c0 c1 c2 c3 c4 c5 c6 c7 c8 hl2
  refine (Scan_at ex_s2 (by decide) _ (HE.out.below (keepV HB2.out ((Below.refl _ _).alloc (Nat.le_refl _) _)))).mono ?_
  rintro e w3 ⟨p3, cap3, rfl, hv3, hb3⟩
  rw [exT2_len] at hv3 ⊢
  obtain ⟨f2, hb3⟩ := below_new hb3
  have V3 := Lib.hid hv3
  have HB3 := Lib.hid (keepV HB2.out hb3)
  have W2 := Lib.hid (V2.out.below hb3)
  have G1 := Lib.hid (F1.out.below hb3)
  have R1 := Lib.hid (Q1.out.below hb3)
  have F2 := Lib.hid f2
  clear hv3 hb3 f2 V2 F1 Q1 HB2
  go_wp2_with fail
  refine (Scan_at ex_s3 (by decide) _ (HE.out.below (keepV HB3.out ((Below.refl _ _).alloc (Nat.le_refl _) _)))).mono ?_
  rintro e w4 ⟨p4, cap4, rfl, hv4, hb4⟩
  obtain ⟨f3, hb4⟩ := below_new hb4
  obtain ⟨f4, hb5⟩ := one_below w4 #[.int .i64 8, .int .i64 2] 26
  have hb45 := keepV hb4 hb5
  have HB4 := Lib.hid (keepV HB3.out hb45)
  have V2 := Lib.hid (W2.out.below hb45)
  have V4 := Lib.hid (V3.out.below hb45)
  have Q1 := Lib.hid (R1.out.below hb45)
  have g1 := G1.out.below hb45
  have g2 := F2.out.below hb45
  have g3 := f3.below hb5
  clear hv4 hb4 hb5 hb45 f3 V3 W2 HB3 G1 R1 F2 hb2 hb3
  go_upto_region 7 with fail
  generalize w4.alloc (.cells #[.int .i64 8, .int .i64 2] 26) = W5 at *
  obtain ⟨x0, x1⟩ := fcells g1
  have G2 := Lib.hid g2
  have G3 := Lib.hid g3
  have G4 := Lib.hid f4
  clear g1 g2 g3 f4
  go_wp2_with (go_at_call 18; refine (Same_eq _ _ _ _ V2.out Q1.out (by decide)).mono ?_; rintro e w9 ⟨rfl, hb9⟩; obtain ⟨y0, y1⟩ := fcells (G2.out.below hb9); obtain ⟨z0, z1⟩ := fcells (G3.out.below hb9); obtain ⟨u0, u1⟩ := fcells (G4.out.below hb9); obtain ⟨B6, rfl, hc6, hl6, k6⟩ := exT2_cells (V4.out.below hb9); have HB9 := Lib.hid (keepV HB4.out hb9))
  go_ret
  exact ⟨rfl, HB9.out⟩
end Go.Proofs.YtadbilonialjnaaDoor
