/- The laws of versions: comparing, order, chains: what each returns. -/
import Derived.Test.YtppbbalojbedpaaDoorL43q
namespace Go.Proofs.YtppbbalojbedpaaDoor
open Go.RowKit

theorem compV_refl (u : Ver) : compV u u = vldV u := by
  unfold compV cmpV cmpI
  cases vldV u <;> simp
theorem compV_iff (u v : Ver) : compV u v = true ↔ vldV u = true ∧ vldV v = true ∧ cmpV u v ≤ 0 ∧ u.a = v.a ∧ (0 < u.a ∨ u.b = v.b) := by
  unfold compV; simp [Bool.and_eq_true, and_assoc]
theorem compV_trans (u v w : Ver) (h1 : compV u v = true) (h2 : compV v w = true) : compV u w = true := by
  rw [compV_iff] at *
  exact ⟨h1.1, h2.2.1, (cmpV_trans u v w h1.2.2.1 h2.2.2.1).1, h1.2.2.2.1.trans h2.2.2.2.1, by omega⟩
theorem compV_anti (u v : Ver) (h1 : compV u v = true) (h2 : compV v u = true) : u = v := by
  rw [compV_iff] at *
  have := cmpV_neg u v
  exact (cmpV_zero u v).1 (by omega)
theorem ver_ne (a0 a1 a2 b0 b1 b2 : Int) (h : (⟨a0, a1, a2⟩ : Ver) ≠ ⟨b0, b1, b2⟩) : (a0 == b0) = false ∨ ((a0 == b0) = true ∧ (a1 == b1) = false) ∨ ((a0 == b0) = true ∧ (a1 == b1) = true ∧ (a2 == b2) = false) := by
  by_cases h1 : a0 = b0 <;> by_cases h2 : a1 = b1 <;> by_cases h3 : a2 = b2 <;> simp_all
theorem ver_eq (a0 a1 a2 b0 b1 b2 : Int) (h : (⟨a0, a1, a2⟩ : Ver) = ⟨b0, b1, b2⟩) : (a0 == b0) = true ∧ (a1 == b1) = true ∧ (a2 == b2) = true := by
  cases h; simp
set_option maxHeartbeats 4000000 in
set_option maxRecDepth 100000 in
theorem lawSemverCompares (a0 a1 a2 b0 b1 b2 : Int) (w : World) (hE : SemOk w) : Calls Tryd.prog 8 #[.agg #[.int .i64 a0, .int .i64 a1, .int .i64 a2], .agg #[.int .i64 b0, .int .i64 b1, .int .i64 b2]] w fun e w' => e = .returned (.bool true) ∧ Below w.heap.size w w' := by
  have HE := Lib.hid hE; clear hE
  obtain ⟨n, hn⟩ : ∃ n, cmpV ⟨a0, a1, a2⟩ ⟨b0, b1, b2⟩ = n := ⟨_, rfl⟩
  have HN := Lib.hid hn; clear hn
  obtain ⟨r, hr⟩ : ∃ r, compV ⟨a0, a1, a2⟩ ⟨b0, b1, b2⟩ = r := ⟨_, rfl⟩
  have HR := Lib.hid hr; clear hr
  go_enter Tryd.func8, Tryd.ntmps8
  go_wp2_with fail
  have hF := start_two w _ a0 a1 a2 b0 b1 b2 rfl
  generalize ((w.alloc (.cells #[.int .i64 a0, .int .i64 a1, .int .i64 a2] 23)).alloc (.cells #[.int .i64 b0, .int .i64 b1, .int .i64 b2] 23)) = W0 at hF ⊢
  go_region_held3 (fun w' => w'.cell? ⟨w.heap.size, 0, none⟩ = some (.int .i64 a0) ∧ w'.cell? ⟨w.heap.size, 1, none⟩ = some (.int .i64 a1) ∧ w'.cell? ⟨w.heap.size, 2, none⟩ = some (.int .i64 a2) ∧ w'.cell? ⟨w.heap.size + 1, 0, none⟩ = some (.int .i64 b0) ∧ w'.cell? ⟨w.heap.size + 1, 1, none⟩ = some (.int .i64 b1) ∧ w'.cell? ⟨w.heap.size + 1, 2, none⟩ = some (.int .i64 b2) ∧ w.heap.size + 2 ≤ w'.heap.size ∧ Below w.heap.size w w')
    (first
      | with_reducible exact keep_two (below_drew (Below.refl _ _)) hF
      | with_reducible exact keep_two hb9 (by assumption)
      | go_keep)
    (first
      | (go_at_call 20; refine (Compare_any _ _ _ _ _ _ _).mono ?_; rintro e w9 ⟨rfl, hb9⟩; first | rw [HN.out])
      | (go_at_call 21; refine (refCompare_any _ _ _ _ _ _ _).mono ?_; rintro e w9 ⟨rfl, hb9⟩; first | rw [HN.out])
      | (go_at_call 22; refine (Compatible_any _ _ _ _ _ _ _).mono ?_; rintro e w9 ⟨rfl, hb9⟩; first | rw [HR.out])
      | (go_at_call 23; refine (refCompatible_any _ _ _ _ _ _ _).mono ?_; rintro e w9 ⟨rfl, hb9⟩; first | rw [HR.out])
      | (go_at_call 15; refine (example_any _ (HE.out.below (by first | assumption | (simp [*]; done)))).mono ?_; rintro e w9 ⟨rfl, hb9⟩))
  all_goals
    go_wp2_with fail
    go_ret
    exact ⟨rfl, by first | assumption | (simp_all; done)⟩
set_option maxHeartbeats 4000000 in
set_option maxRecDepth 100000 in
theorem lawSemverOrder (a0 a1 a2 b0 b1 b2 c0 c1 c2 : Int) (w : World) (hE : SemOk w) : Calls Tryd.prog 7 #[.agg #[.int .i64 a0, .int .i64 a1, .int .i64 a2], .agg #[.int .i64 b0, .int .i64 b1, .int .i64 b2], .agg #[.int .i64 c0, .int .i64 c1, .int .i64 c2]] w fun e w' => e = .returned (.bool true) ∧ Below w.heap.size w w' := by
  have HE := Lib.hid hE; clear hE
  have hne := ver_ne a0 a1 a2 b0 b1 b2
  have heq := ver_eq a0 a1 a2 b0 b1 b2
  have h0 := cmpV_zero ⟨a0, a1, a2⟩ ⟨b0, b1, b2⟩
  have hng := cmpV_neg ⟨a0, a1, a2⟩ ⟨b0, b1, b2⟩
  have htr := cmpV_trans ⟨a0, a1, a2⟩ ⟨b0, b1, b2⟩ ⟨c0, c1, c2⟩
  have rn := cmpV_range ⟨a0, a1, a2⟩ ⟨b0, b1, b2⟩
  have rm := cmpV_range ⟨b0, b1, b2⟩ ⟨c0, c1, c2⟩
  have rk := cmpV_range ⟨a0, a1, a2⟩ ⟨c0, c1, c2⟩
  obtain ⟨n, hn⟩ : ∃ n, cmpV ⟨a0, a1, a2⟩ ⟨b0, b1, b2⟩ = n := ⟨_, rfl⟩
  have HN := Lib.hid hn
  obtain ⟨m, hm⟩ : ∃ m, cmpV ⟨b0, b1, b2⟩ ⟨c0, c1, c2⟩ = m := ⟨_, rfl⟩
  have HM := Lib.hid hm
  obtain ⟨k, hk⟩ : ∃ k, cmpV ⟨a0, a1, a2⟩ ⟨c0, c1, c2⟩ = k := ⟨_, rfl⟩
  have HK := Lib.hid hk
  obtain ⟨l, hl⟩ : ∃ l, cmpV ⟨b0, b1, b2⟩ ⟨a0, a1, a2⟩ = l := ⟨_, rfl⟩
  have HL := Lib.hid hl
  rw [hn] at h0 hng htr rn
  rw [hl] at hng
  rw [hm] at htr rm
  rw [hk] at htr rk
  clear hn hm hk hl
  have hways : (n = 1 ∧ l = -1 ∧ ((a0 == b0) = false ∨ ((a0 == b0) = true ∧ (a1 == b1) = false) ∨ ((a0 == b0) = true ∧ (a1 == b1) = true ∧ (a2 == b2) = false))) ∨ (n = 0 ∧ l = 0 ∧ ((a0 == b0) = true ∧ (a1 == b1) = true ∧ (a2 == b2) = true) ∧ (m = 1 ∨ (m = 0 ∧ k ≤ 0) ∨ (m = -1 ∧ k = -1))) ∨ (n = -1 ∧ l = 1 ∧ (m = 1 ∨ (m ≤ 0 ∧ k = -1)) ∧ ((a0 == b0) = false ∨ ((a0 == b0) = true ∧ (a1 == b1) = false) ∨ ((a0 == b0) = true ∧ (a1 == b1) = true ∧ (a2 == b2) = false))) := by
    rcases rn with h | h | h
    · refine .inr (.inr ⟨h, by omega, ?_, hne (fun e => by have := h0.2 e; omega)⟩)
      rcases rm with h' | h' | h'
      · exact .inr ⟨by omega, by have := htr (by omega) (by omega); omega⟩
      · exact .inr ⟨by omega, by have := htr (by omega) (by omega); omega⟩
      · exact .inl h'
    · refine .inr (.inl ⟨h, by omega, heq (h0.1 h), ?_⟩)
      rcases rm with h' | h' | h'
      · exact .inr (.inr ⟨h', by have := htr (by omega) (by omega); omega⟩)
      · exact .inr (.inl ⟨h', (htr (by omega) (by omega)).1⟩)
      · exact .inl h'
    · exact .inl ⟨h, by omega, hne (fun e => by have := h0.2 e; omega)⟩
  clear hne heq h0 hng htr rn rm rk
  rcases hways with ⟨rfl, rfl, e1 | ⟨e1, e2⟩ | ⟨e1, e2, e3⟩⟩ | ⟨rfl, rfl, ⟨e1, e2, e3⟩, rfl | ⟨rfl, e4⟩ | ⟨rfl, rfl⟩⟩ | ⟨rfl, rfl, rfl | ⟨e5, rfl⟩, e1 | ⟨e1, e2⟩ | ⟨e1, e2, e3⟩⟩
  all_goals
    go_enter Tryd.func7, Tryd.ntmps7
    go_wp2_with fail
    have hF := start_three w _ a0 a1 a2 b0 b1 b2 c0 c1 c2 rfl
    generalize (((w.alloc (.cells #[.int .i64 a0, .int .i64 a1, .int .i64 a2] 23)).alloc (.cells #[.int .i64 b0, .int .i64 b1, .int .i64 b2] 23)).alloc (.cells #[.int .i64 c0, .int .i64 c1, .int .i64 c2] 23)) = W0 at hF ⊢
    go_region_held3 (fun w' => w'.cell? ⟨w.heap.size, 0, none⟩ = some (.int .i64 a0) ∧ w'.cell? ⟨w.heap.size, 1, none⟩ = some (.int .i64 a1) ∧ w'.cell? ⟨w.heap.size, 2, none⟩ = some (.int .i64 a2) ∧ w'.cell? ⟨w.heap.size + 1, 0, none⟩ = some (.int .i64 b0) ∧ w'.cell? ⟨w.heap.size + 1, 1, none⟩ = some (.int .i64 b1) ∧ w'.cell? ⟨w.heap.size + 1, 2, none⟩ = some (.int .i64 b2) ∧ w'.cell? ⟨w.heap.size + 2, 0, none⟩ = some (.int .i64 c0) ∧ w'.cell? ⟨w.heap.size + 2, 1, none⟩ = some (.int .i64 c1) ∧ w'.cell? ⟨w.heap.size + 2, 2, none⟩ = some (.int .i64 c2) ∧ w.heap.size + 3 ≤ w'.heap.size ∧ Below w.heap.size w w')
      (first
        | with_reducible exact keep_three (below_drew (Below.refl _ _)) hF
        | with_reducible exact keep_three hb9 (by assumption)
        | go_keep)
      (first
        | (go_at_call 20; refine (Compare_any _ _ _ _ _ _ _).mono ?_; rintro e w9 ⟨rfl, hb9⟩; first | rw [HN.out]  | rw [HM.out]  | rw [HK.out]))
    go_wp2_with fail
    refine (Compare_any _ _ _ _ _ _ _).mono ?_
    rintro e w9 ⟨rfl, hb9⟩
    rw [HL.out]
    have hF := keep_three hb9 (by assumption)
    clear hb9
    have hB := hF.2.2.2.2.2.2.2.2.2.2
    go_wp2_with fail
    refine (example_any _ (HE.out.below hB)).mono ?_
    rintro e w9 ⟨rfl, hb9⟩
    go_wp2_with fail
    go_ret
    exact ⟨rfl, hB.trans (hb9.mono hB.size)⟩
end Go.Proofs.YtppbbalojbedpaaDoor
