/- The reference's Parse. -/
import Derived.RegionTactic
import Derived.ChangeAlike
import Derived.Test.YtpekkdgaeadepaaDoorRdJ
namespace Go.Proofs.YtpekkdgaeadepaaDoor
open Go.RowKit

set_option maxRecDepth 100000 in
set_option maxHeartbeats 8000000 in
theorem refParse_any (s : List UInt8) (hs : s.length ≤ 70000) (w : World) : Calls Tryd.prog 18 #[.string (S s)] w (ParR (rparse s) w) := by
  obtain ⟨r, hr⟩ : ∃ r, rparse s = r := ⟨_, rfl⟩
  rw [hr]
  unfold rparse at hr
  by_cases hbig : 65536 < s.length
  · rw [if_pos hbig] at hr
    subst hr
    go_enter Tryd.func18, Tryd.ntmps18
    go_wp2_with fail
    exact bodyPost_ret (v := .tuple #[.slice none 0 0, .agg #[.int .i64 2, .int .i64 0]]) (by simp [results, Tryd.results18, go_sem]) rfl ⟨_, rfl, .inl ⟨⟨_, _, rfl⟩, rfl⟩, by go_grown⟩
  rw [if_neg hbig] at hr
  have g0 : decide ((65536 : Int) < (s.length : Int)) = false := decide_eq_false (by omega)
  rcases (bool_two (s == [46])).symm with hd | hd
  · rw [if_pos hd] at hr
    subst hr
    go_enter Tryd.func18, Tryd.ntmps18
    go_wp2_with fail
    exact bodyPost_ret (v := .tuple #[.slice none 0 0, .agg #[.int .i64 0, .int .i64 0]]) (by simp [results, Tryd.results18, go_sem]) rfl ⟨_, rfl, .inl ⟨⟨_, _, rfl⟩, rfl⟩, by go_grown⟩
  rw [if_neg (by rw [hd]; decide)] at hr
  have HRR := Lib.hid hr
  clear hr
  have hRd : RdAt ((w.alloc (.cells #[.int .i64 0, .int .i64 0] 28)).alloc (.cells #[.string (S s), .int .i64 0, .bool false] 47)) (w.heap.size + 1) s 0 false := by
    have h := Blk.new (w.alloc (.cells #[.int .i64 0, .int .i64 0] 28)) (rdC s 0 false) 47
    have e : (w.alloc (.cells #[.int .i64 0, .int .i64 0] 28)).heap.size = w.heap.size + 1 := by simp
    rw [e] at h
    exact h
  have hFb : Blk ((w.alloc (.cells #[.int .i64 0, .int .i64 0] 28)).alloc (.cells #[.string (S s), .int .i64 0, .bool false] 47)) w.heap.size #[.int .i64 0, .int .i64 0] 28 := (Blk.new w _ _).alloc _
  have hBl : Below w.heap.size w ((w.alloc (.cells #[.int .i64 0, .int .i64 0] 28)).alloc (.cells #[.string (S s), .int .i64 0, .bool false] 47)) := by go_grown
  have hsz : ((w.alloc (.cells #[.int .i64 0, .int .i64 0] 28)).alloc (.cells #[.string (S s), .int .i64 0, .bool false] 47)).heap.size = w.heap.size + 2 := by simp
  have HRd := Lib.hid hRd
  have HFb := Lib.hid hFb
  have HBl := Lib.hid hBl
  have HSZ := Lib.hid hsz
  clear hRd hFb hBl hsz
  go_enter Tryd.func18, Tryd.ntmps18
  go_wp2_with fail
  refine (path_ref s (by omega) (w.heap.size + 1) _ HRd.out).mono ?_
  rintro e w2 ⟨v, a, F, rfl, ⟨p, n, c, rfl⟩, hG, hres⟩
  rw [HRR.out, HSZ.out] at hres
  have HG := Lib.hid hG
  have HB2 : Hid (Below w.heap.size w w2) := Lib.hid ⟨hG.1.os.trans HBl.out.os, hG.1.tape.trans HBl.out.tape, hG.1.output.trans HBl.out.output, Nat.le_trans HBl.out.size hG.1.size, fun k hk => (hG.1.block k (Nat.lt_of_lt_of_le hk HBl.out.size) (by intro h; injection h; omega)).trans (HBl.out.block k hk)⟩
  have HF2 : Hid (Blk w2 w.heap.size #[.int .i64 0, .int .i64 0] 28) := Lib.hid (HFb.out.kept hG.1 (by intro h; injection h; omega))
  clear hG HFb HBl HSZ HRd HRR
  obtain ⟨x0, x1, x2⟩ := HG.out.2.cells
  have f0 := HF2.out.frozen 0
  have f1 := HF2.out.frozen 1
  have y0 := HF2.out.cell 0
  have y1 := HF2.out.cell 1
  simp at y0 y1
  have hlt := HF2.out.lt
  rcases hres with ⟨rfl, hr⟩ | ⟨rfl, L, hr, hown⟩
  · subst hr
    go_wp2_with fail
    go_region
    all_goals
      go_wp2_with fail
      exact bodyPost_ret (v := .tuple #[.slice none 0 0, .agg #[.int .i64 8, .int .i64 (a : Int)]]) (by simp [results, Tryd.results18, go_sem, hlt, y0, y1]) rfl ⟨_, rfl, .inl ⟨⟨_, _, rfl⟩, rfl⟩, by first | exact ((below_drew HB2.out).setCell (Nat.le_refl _) _).setCell (Nat.le_refl _) _ | exact below_drew ((HB2.out.setCell (Nat.le_refl _) _).setCell (Nat.le_refl _) _)⟩
  · subst hr
    have HO := Lib.hid hown
    obtain ⟨vp, vc, hv⟩ := own_form hown
    injection hv with h1 h2 h3
    subst h1 h2 h3
    clear hown
    go_wp2_with fail
    exact bodyPost_ret (v := .tuple #[.slice p L.length c, .agg #[.int .i64 0, .int .i64 0]]) (by simp [results, Tryd.results18, go_sem, hlt, y0, y1]) rfl ⟨_, rfl, own_SlS HO.out _ (by simp) (set_keeps (by omega) _ _), (HB2.out.setCell (Nat.le_refl _) _).setCell (Nat.le_refl _) _⟩
end Go.Proofs.YtpekkdgaeadepaaDoor
