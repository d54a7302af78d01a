/- The laws of versions (order): what each returns. -/
import Derived.Test.YtppbbalojbedpaaDoorSemC
import Derived.Test.YtppbbalojbedpaaDoorL43a
namespace Go.Proofs.YtppbbalojbedpaaDoor
open Go.RowKit

theorem start_two (w W : World) (a0 a1 a2 b0 b1 b2 : Int) (hW : W = ((w.alloc (.cells #[.int .i64 a0, .int .i64 a1, .int .i64 a2] 23)).alloc (.cells #[.int .i64 b0, .int .i64 b1, .int .i64 b2] 23))) : W.cell? ⟨w.heap.size, 0, none⟩ = some (.int .i64 a0) ∧ W.cell? ⟨w.heap.size, 1, none⟩ = some (.int .i64 a1) ∧ W.cell? ⟨w.heap.size, 2, none⟩ = some (.int .i64 a2) ∧ W.cell? ⟨w.heap.size + 1, 0, none⟩ = some (.int .i64 b0) ∧ W.cell? ⟨w.heap.size + 1, 1, none⟩ = some (.int .i64 b1) ∧ W.cell? ⟨w.heap.size + 1, 2, none⟩ = some (.int .i64 b2) ∧ w.heap.size + 2 ≤ W.heap.size ∧ Below w.heap.size w W := by
  have hB : Below w.heap.size w W := by rw [hW]; go_grown
  exact ⟨(by rw [hW]; first | (simp; done) | (have h := ((Blk.new w #[.int .i64 a0, .int .i64 a1, .int .i64 a2] 23).alloc (.cells #[.int .i64 b0, .int .i64 b1, .int .i64 b2] 23)).cell 0; first | exact h | simpa using h)), (by rw [hW]; first | (simp; done) | (have h := ((Blk.new w #[.int .i64 a0, .int .i64 a1, .int .i64 a2] 23).alloc (.cells #[.int .i64 b0, .int .i64 b1, .int .i64 b2] 23)).cell 1; first | exact h | simpa using h)), (by rw [hW]; first | (simp; done) | (have h := ((Blk.new w #[.int .i64 a0, .int .i64 a1, .int .i64 a2] 23).alloc (.cells #[.int .i64 b0, .int .i64 b1, .int .i64 b2] 23)).cell 2; first | exact h | simpa using h)), (by rw [hW]; first | (simp; done) | (have h := (Blk.new (w.alloc (.cells #[.int .i64 a0, .int .i64 a1, .int .i64 a2] 23)) #[.int .i64 b0, .int .i64 b1, .int .i64 b2] 23).cell 0; first | exact h | simpa using h)), (by rw [hW]; first | (simp; done) | (have h := (Blk.new (w.alloc (.cells #[.int .i64 a0, .int .i64 a1, .int .i64 a2] 23)) #[.int .i64 b0, .int .i64 b1, .int .i64 b2] 23).cell 1; first | exact h | simpa using h)), (by rw [hW]; first | (simp; done) | (have h := (Blk.new (w.alloc (.cells #[.int .i64 a0, .int .i64 a1, .int .i64 a2] 23)) #[.int .i64 b0, .int .i64 b1, .int .i64 b2] 23).cell 2; first | exact h | simpa using h)), by rw [hW]; simp, hB⟩
theorem keep_two {w W w1 : World} {a0 a1 a2 b0 b1 b2 : Int} (hb : Below W.heap.size W w1) (h : W.cell? ⟨w.heap.size, 0, none⟩ = some (.int .i64 a0) ∧ W.cell? ⟨w.heap.size, 1, none⟩ = some (.int .i64 a1) ∧ W.cell? ⟨w.heap.size, 2, none⟩ = some (.int .i64 a2) ∧ W.cell? ⟨w.heap.size + 1, 0, none⟩ = some (.int .i64 b0) ∧ W.cell? ⟨w.heap.size + 1, 1, none⟩ = some (.int .i64 b1) ∧ W.cell? ⟨w.heap.size + 1, 2, none⟩ = some (.int .i64 b2) ∧ w.heap.size + 2 ≤ W.heap.size ∧ Below w.heap.size w W) : w1.cell? ⟨w.heap.size, 0, none⟩ = some (.int .i64 a0) ∧ w1.cell? ⟨w.heap.size, 1, none⟩ = some (.int .i64 a1) ∧ w1.cell? ⟨w.heap.size, 2, none⟩ = some (.int .i64 a2) ∧ w1.cell? ⟨w.heap.size + 1, 0, none⟩ = some (.int .i64 b0) ∧ w1.cell? ⟨w.heap.size + 1, 1, none⟩ = some (.int .i64 b1) ∧ w1.cell? ⟨w.heap.size + 1, 2, none⟩ = some (.int .i64 b2) ∧ w.heap.size + 2 ≤ w1.heap.size ∧ Below w.heap.size w w1 := by
  obtain ⟨h0, h1, h2, h3, h4, h5, hs, hB⟩ := h
  obtain ⟨hc, -⟩ := bcell hb
  exact ⟨(hc _ _ (by omega)).trans h0, (hc _ _ (by omega)).trans h1, (hc _ _ (by omega)).trans h2, (hc _ _ (by omega)).trans h3, (hc _ _ (by omega)).trans h4, (hc _ _ (by omega)).trans h5, Nat.le_trans hs hb.size, hB.trans (hb.mono (by omega))⟩
theorem start_three (w W : World) (a0 a1 a2 b0 b1 b2 c0 c1 c2 : Int) (hW : W = (((w.alloc (.cells #[.int .i64 a0, .int .i64 a1, .int .i64 a2] 23)).alloc (.cells #[.int .i64 b0, .int .i64 b1, .int .i64 b2] 23)).alloc (.cells #[.int .i64 c0, .int .i64 c1, .int .i64 c2] 23))) : W.cell? ⟨w.heap.size, 0, none⟩ = some (.int .i64 a0) ∧ W.cell? ⟨w.heap.size, 1, none⟩ = some (.int .i64 a1) ∧ W.cell? ⟨w.heap.size, 2, none⟩ = some (.int .i64 a2) ∧ W.cell? ⟨w.heap.size + 1, 0, none⟩ = some (.int .i64 b0) ∧ W.cell? ⟨w.heap.size + 1, 1, none⟩ = some (.int .i64 b1) ∧ W.cell? ⟨w.heap.size + 1, 2, none⟩ = some (.int .i64 b2) ∧ W.cell? ⟨w.heap.size + 2, 0, none⟩ = some (.int .i64 c0) ∧ W.cell? ⟨w.heap.size + 2, 1, none⟩ = some (.int .i64 c1) ∧ W.cell? ⟨w.heap.size + 2, 2, none⟩ = some (.int .i64 c2) ∧ w.heap.size + 3 ≤ W.heap.size ∧ Below w.heap.size w W := by
  have hB : Below w.heap.size w W := by rw [hW]; go_grown
  exact ⟨(by rw [hW]; first | (simp; done) | (have h := (((Blk.new w #[.int .i64 a0, .int .i64 a1, .int .i64 a2] 23).alloc (.cells #[.int .i64 b0, .int .i64 b1, .int .i64 b2] 23)).alloc (.cells #[.int .i64 c0, .int .i64 c1, .int .i64 c2] 23)).cell 0; first | exact h | simpa using h)), (by rw [hW]; first | (simp; done) | (have h := (((Blk.new w #[.int .i64 a0, .int .i64 a1, .int .i64 a2] 23).alloc (.cells #[.int .i64 b0, .int .i64 b1, .int .i64 b2] 23)).alloc (.cells #[.int .i64 c0, .int .i64 c1, .int .i64 c2] 23)).cell 1; first | exact h | simpa using h)), (by rw [hW]; first | (simp; done) | (have h := (((Blk.new w #[.int .i64 a0, .int .i64 a1, .int .i64 a2] 23).alloc (.cells #[.int .i64 b0, .int .i64 b1, .int .i64 b2] 23)).alloc (.cells #[.int .i64 c0, .int .i64 c1, .int .i64 c2] 23)).cell 2; first | exact h | simpa using h)), (by rw [hW]; first | (simp; done) | (have h := ((Blk.new (w.alloc (.cells #[.int .i64 a0, .int .i64 a1, .int .i64 a2] 23)) #[.int .i64 b0, .int .i64 b1, .int .i64 b2] 23).alloc (.cells #[.int .i64 c0, .int .i64 c1, .int .i64 c2] 23)).cell 0; first | exact h | simpa using h)), (by rw [hW]; first | (simp; done) | (have h := ((Blk.new (w.alloc (.cells #[.int .i64 a0, .int .i64 a1, .int .i64 a2] 23)) #[.int .i64 b0, .int .i64 b1, .int .i64 b2] 23).alloc (.cells #[.int .i64 c0, .int .i64 c1, .int .i64 c2] 23)).cell 1; first | exact h | simpa using h)), (by rw [hW]; first | (simp; done) | (have h := ((Blk.new (w.alloc (.cells #[.int .i64 a0, .int .i64 a1, .int .i64 a2] 23)) #[.int .i64 b0, .int .i64 b1, .int .i64 b2] 23).alloc (.cells #[.int .i64 c0, .int .i64 c1, .int .i64 c2] 23)).cell 2; first | exact h | simpa using h)), (by rw [hW]; first | (simp; done) | (have h := (Blk.new ((w.alloc (.cells #[.int .i64 a0, .int .i64 a1, .int .i64 a2] 23)).alloc (.cells #[.int .i64 b0, .int .i64 b1, .int .i64 b2] 23)) #[.int .i64 c0, .int .i64 c1, .int .i64 c2] 23).cell 0; first | exact h | simpa using h)), (by rw [hW]; first | (simp; done) | (have h := (Blk.new ((w.alloc (.cells #[.int .i64 a0, .int .i64 a1, .int .i64 a2] 23)).alloc (.cells #[.int .i64 b0, .int .i64 b1, .int .i64 b2] 23)) #[.int .i64 c0, .int .i64 c1, .int .i64 c2] 23).cell 1; first | exact h | simpa using h)), (by rw [hW]; first | (simp; done) | (have h := (Blk.new ((w.alloc (.cells #[.int .i64 a0, .int .i64 a1, .int .i64 a2] 23)).alloc (.cells #[.int .i64 b0, .int .i64 b1, .int .i64 b2] 23)) #[.int .i64 c0, .int .i64 c1, .int .i64 c2] 23).cell 2; first | exact h | simpa using h)), by rw [hW]; simp, hB⟩
theorem keep_three {w W w1 : World} {a0 a1 a2 b0 b1 b2 c0 c1 c2 : Int} (hb : Below W.heap.size W w1) (h : W.cell? ⟨w.heap.size, 0, none⟩ = some (.int .i64 a0) ∧ W.cell? ⟨w.heap.size, 1, none⟩ = some (.int .i64 a1) ∧ W.cell? ⟨w.heap.size, 2, none⟩ = some (.int .i64 a2) ∧ W.cell? ⟨w.heap.size + 1, 0, none⟩ = some (.int .i64 b0) ∧ W.cell? ⟨w.heap.size + 1, 1, none⟩ = some (.int .i64 b1) ∧ W.cell? ⟨w.heap.size + 1, 2, none⟩ = some (.int .i64 b2) ∧ W.cell? ⟨w.heap.size + 2, 0, none⟩ = some (.int .i64 c0) ∧ W.cell? ⟨w.heap.size + 2, 1, none⟩ = some (.int .i64 c1) ∧ W.cell? ⟨w.heap.size + 2, 2, none⟩ = some (.int .i64 c2) ∧ w.heap.size + 3 ≤ W.heap.size ∧ Below w.heap.size w W) : w1.cell? ⟨w.heap.size, 0, none⟩ = some (.int .i64 a0) ∧ w1.cell? ⟨w.heap.size, 1, none⟩ = some (.int .i64 a1) ∧ w1.cell? ⟨w.heap.size, 2, none⟩ = some (.int .i64 a2) ∧ w1.cell? ⟨w.heap.size + 1, 0, none⟩ = some (.int .i64 b0) ∧ w1.cell? ⟨w.heap.size + 1, 1, none⟩ = some (.int .i64 b1) ∧ w1.cell? ⟨w.heap.size + 1, 2, none⟩ = some (.int .i64 b2) ∧ w1.cell? ⟨w.heap.size + 2, 0, none⟩ = some (.int .i64 c0) ∧ w1.cell? ⟨w.heap.size + 2, 1, none⟩ = some (.int .i64 c1) ∧ w1.cell? ⟨w.heap.size + 2, 2, none⟩ = some (.int .i64 c2) ∧ w.heap.size + 3 ≤ w1.heap.size ∧ Below w.heap.size w w1 := by
  obtain ⟨h0, h1, h2, h3, h4, h5, h6, h7, h8, hs, hB⟩ := h
  obtain ⟨hc, -⟩ := bcell hb
  exact ⟨(hc _ _ (by omega)).trans h0, (hc _ _ (by omega)).trans h1, (hc _ _ (by omega)).trans h2, (hc _ _ (by omega)).trans h3, (hc _ _ (by omega)).trans h4, (hc _ _ (by omega)).trans h5, (hc _ _ (by omega)).trans h6, (hc _ _ (by omega)).trans h7, (hc _ _ (by omega)).trans h8, Nat.le_trans hs hb.size, hB.trans (hb.mono (by omega))⟩
theorem cmpV_range (u v : Ver) : cmpV u v = -1 ∨ cmpV u v = 0 ∨ cmpV u v = 1 := by
  unfold cmpV cmpI
  repeat' split
  all_goals first | exact .inl rfl | exact .inr (.inl rfl) | exact .inr (.inr rfl)
theorem cmpV_zero (u v : Ver) : cmpV u v = 0 ↔ u = v := by
  constructor
  · intro h
    unfold cmpV cmpI at h
    apply ver_ext
    all_goals (repeat' split at h) <;> omega
  · rintro rfl
    unfold cmpV cmpI
    simp
theorem cmpV_neg (u v : Ver) : cmpV v u = -cmpV u v := by
  unfold cmpV cmpI
  repeat' split
  all_goals first | rfl | (exfalso; omega)
theorem cmpV_le (u v : Ver) : cmpV u v ≤ 0 ↔ u.a < v.a ∨ (u.a = v.a ∧ (u.b < v.b ∨ (u.b = v.b ∧ u.c ≤ v.c))) := by
  unfold cmpV cmpI
  repeat' split
  all_goals omega
theorem cmpV_lt (u v : Ver) : cmpV u v < 0 ↔ u.a < v.a ∨ (u.a = v.a ∧ (u.b < v.b ∨ (u.b = v.b ∧ u.c < v.c))) := by
  unfold cmpV cmpI
  repeat' split
  all_goals omega
theorem cmpV_eq (u v : Ver) : cmpV u v = 0 ↔ u.a = v.a ∧ u.b = v.b ∧ u.c = v.c := by
  unfold cmpV cmpI
  repeat' split
  all_goals omega
theorem cmpV_trans (u v w : Ver) (h1 : cmpV u v ≤ 0) (h2 : cmpV v w ≤ 0) : cmpV u w ≤ 0 ∧ ((cmpV u v = 0 ∧ cmpV v w = 0) ∨ cmpV u w < 0) := by
  rw [cmpV_le] at h1 h2
  rw [cmpV_le, cmpV_lt, cmpV_eq, cmpV_eq]
  omega
end Go.Proofs.YtppbbalojbedpaaDoor
