/- Walks of the versions: the specification's Text. -/
import Derived.Test.YtppbbalojbedpaaDoorSemD
namespace Go.Proofs.YtppbbalojbedpaaDoor
open Go.RowKit

theorem keepB {w W w1 : World} {B : Nat} {v0 v1 v2 : Value} (h0 : W.cell? ⟨B, 0, none⟩ = some v0) (h1 : W.cell? ⟨B, 1, none⟩ = some v1) (h2 : W.cell? ⟨B, 2, none⟩ = some v2)
    (hs : B < W.heap.size) (hB : Below B w W) (hb : Below W.heap.size W w1) :
    w1.cell? ⟨B, 0, none⟩ = some v0 ∧ w1.cell? ⟨B, 1, none⟩ = some v1 ∧ w1.cell? ⟨B, 2, none⟩ = some v2 ∧ B < w1.heap.size ∧ Below B w w1 := by
  obtain ⟨hc, -⟩ := bcell hb
  exact ⟨(hc _ _ hs).trans h0, (hc _ _ hs).trans h1, (hc _ _ hs).trans h2, Nat.lt_of_lt_of_le hs hb.size, hB.trans (hb.mono (by omega))⟩
theorem digits_at (k : Int) (n : Nat) (d : List UInt8) (hk : k = (n : Int)) (hn : n ≤ 9999) (hd : Hid (Lib.decDigits n = d)) (w : World) : Calls Tryd.prog 28 #[.int .i64 k] w fun e w' => e = .returned (.string (S d)) ∧ Below w.heap.size w w' := by
  rw [hk, ← hd.out]; exact digits_any n hn w
set_option maxHeartbeats 2000000 in
theorem refText_any (a b c : Int) (w : World) : Calls Tryd.prog 14 #[.agg #[.int .i64 a, .int .i64 b, .int .i64 c]] w fun e w' => e = .returned (.string (S (textV ⟨a, b, c⟩))) ∧ Below w.heap.size w w' := by
  rcases bool_two (vldV ⟨a, b, c⟩) with hv | hv
  · have HT := Lib.hid (textV_bad _ hv)
    have HV := Lib.hid hv
    clear hv
    go_enter Tryd.func14, Tryd.ntmps14
    go_wp2_with fail
    refine (refValid_any a b c _).mono ?_
    rintro e w1 ⟨rfl, hb1⟩
    rw [HV.out]
    obtain ⟨hB, hb1⟩ := below_new hb1
    go_wp2_with fail
    go_ret
    exact ⟨ret_S HT.out.symm, hb1⟩
  · have HT := Lib.hid (textV_val _ hv)
    have hbd := (vldV_iff _).1 hv
    have HV := Lib.hid hv
    obtain ⟨x, rfl⟩ : ∃ x : Nat, a = x := ⟨a.toNat, by have := hbd.1.1; simp only at this; omega⟩
    obtain ⟨y, rfl⟩ : ∃ y : Nat, b = y := ⟨b.toNat, by have := hbd.2.1.1; simp only at this; omega⟩
    obtain ⟨z, rfl⟩ : ∃ z : Nat, c = z := ⟨c.toNat, by have := hbd.2.2.1; simp only at this; omega⟩
    simp only at hbd HT
    have hx : x ≤ 9999 := by omega
    have hy : y ≤ 9999 := by omega
    have hz : z ≤ 9999 := by omega
    simp only [Int.toNat_natCast] at HT
    clear hv hbd
    obtain ⟨dx, hdx⟩ : ∃ d, Lib.decDigits x = d := ⟨_, rfl⟩
    obtain ⟨dy, hdy⟩ : ∃ d, Lib.decDigits y = d := ⟨_, rfl⟩
    obtain ⟨dz, hdz⟩ : ∃ d, Lib.decDigits z = d := ⟨_, rfl⟩
    have lx : dx.length ≤ 4 := by rw [← hdx]; exact (dec_len x 4 (by omega) (by omega)).2
    have ly : dy.length ≤ 4 := by rw [← hdy]; exact (dec_len y 4 (by omega) (by omega)).2
    have lz : dz.length ≤ 4 := by rw [← hdz]; exact (dec_len z 4 (by omega) (by omega)).2
    rw [hdx, hdy, hdz] at HT
    have HX := Lib.hid hdx
    have HY := Lib.hid hdy
    have HZ := Lib.hid hdz
    clear hdx hdy hdz
    obtain ⟨vx, hvx⟩ : ∃ v : Int, v = (x : Int) := ⟨_, rfl⟩
    obtain ⟨vy, hvy⟩ : ∃ v : Int, v = (y : Int) := ⟨_, rfl⟩
    obtain ⟨vz, hvz⟩ : ∃ v : Int, v = (z : Int) := ⟨_, rfl⟩
    rw [← hvx, ← hvy, ← hvz] at HV ⊢
    have KX := Lib.hid hvx
    have KY := Lib.hid hvy
    have KZ := Lib.hid hvz
    rw [hvx, hvy, hvz]
    rw [← hvx, ← hvy, ← hvz]
    have HG : Hid (textV ⟨vx, vy, vz⟩ = 118 :: (dx ++ 46 :: (dy ++ 46 :: dz))) := by rw [hvx, hvy, hvz]; exact HT
    generalize textV ⟨vx, vy, vz⟩ = T at HG
    clear hvx hvy hvz
    go_enter Tryd.func14, Tryd.ntmps14
    go_wp2_with fail
    refine (refValid_any _ _ _ _).mono ?_
    rintro e w1 ⟨rfl, hb1⟩
    rw [HV.out]
    obtain ⟨hB, hb1⟩ := below_new hb1
    have f0 := hB.cell 0
    have f1 := hB.cell 1
    have f2 := hB.cell 2
    have f6 := hB.lt
    have f8 : Below w.heap.size w w1.drew := below_drewN hb1 1
    have f7 := hb1
    simp at f0 f1 f2
    clear hB hb1
    go_wp2_with fail
    have n1 : ¬ (9223372036854775807 : Nat) < 1 + dx.length := by omega
    have n2 : ¬ (9223372036854775807 : Nat) < 1 + dx.length + 1 := by omega
    have n3 : ¬ (9223372036854775807 : Nat) < 1 + dx.length + 1 + dy.length := by omega
    have n4 : ¬ (9223372036854775807 : Nat) < 1 + dx.length + 1 + dy.length + 1 := by omega
    have n5 : ¬ (9223372036854775807 : Nat) < 1 + dx.length + 1 + dy.length + 1 + dz.length := by omega
    go_region_held3 (fun w' => w'.cell? ⟨w.heap.size, 0, none⟩ = some (.int .i64 vx) ∧ w'.cell? ⟨w.heap.size, 1, none⟩ = some (.int .i64 vy) ∧ w'.cell? ⟨w.heap.size, 2, none⟩ = some (.int .i64 vz) ∧ w.heap.size < w'.heap.size ∧ Below w.heap.size w w')
      (first
        | with_reducible exact keepB (by first | assumption | (simp; done) | (simp [*]; done)) (by first | assumption | (simp; done) | (simp [*]; done)) (by first | assumption | (simp; done) | (simp [*]; done)) (by first | assumption | (simp; done) | (simp [*]; done) | omega) (by first | assumption | (simp [*]; done)) hb2
        | go_keep)
      (first
        | (go_at_call_of 28 (Value.int .i64 vx); refine (digits_at vx x dx KX.out hx HX _).mono ?_; rintro e w2 ⟨rfl, hb2⟩)
        | (go_at_call_of 28 (Value.int .i64 vy); refine (digits_at vy y dy KY.out hy HY _).mono ?_; rintro e w2 ⟨rfl, hb2⟩)
        | (go_at_call_of 28 (Value.int .i64 vz); refine (digits_at vz z dz KZ.out hz HZ _).mono ?_; rintro e w2 ⟨rfl, hb2⟩))
    all_goals
      go_wp2_with fail
      go_ret
      exact ⟨ret_S (by rw [HG.out]; simp [ct]), by first | assumption | (simp_all; done)⟩
end Go.Proofs.YtppbbalojbedpaaDoor
