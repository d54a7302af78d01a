/- The laws of products, of order, of undoing and of remainders: what each returns. -/
import Derived.Test.YtopacgchhlnnaaaDoorL1p
import Derived.Test.YtopacgchhlnnaaaDoorEx1
namespace Go.Proofs.YtopacgchhlnnaaaDoor
open Go.RowKit
set_option linter.unusedVariables false

theorem Mul_at (u v n e : Int) (h : Hid (mulI u v = (n, e))) (w : World) : Calls Tryd.prog 18 #[.int .i64 u, .int .i64 v] w fun x w' => x = .returned (.tuple #[.int .i64 n, .int .i64 e]) ∧ Below w.heap.size w w' := by
  have hm := Mul_any u v w; unfold OkB at hm; rw [h.out] at hm; exact hm
theorem Div_at (u v n e : Int) (h : Hid (divI u v = (n, e))) (w : World) : Calls Tryd.prog 19 #[.int .i64 u, .int .i64 v] w fun x w' => x = .returned (.tuple #[.int .i64 n, .int .i64 e]) ∧ Below w.heap.size w w' := by
  have hm := Div_any u v w; unfold OkB at hm; rw [h.out] at hm; exact hm
theorem Add_at (u v n e : Int) (h : Hid (addI u v = (n, e))) (w : World) : Calls Tryd.prog 26 #[.int .i64 u, .int .i64 v] w fun x w' => x = .returned (.tuple #[.int .i64 n, .int .i64 e]) ∧ w = w' := by
  have hm := Add_any u v w; rw [h.out] at hm; exact hm
theorem Sub_at (u v n e : Int) (h : Hid (subI u v = (n, e))) (w : World) : Calls Tryd.prog 28 #[.int .i64 u, .int .i64 v] w fun x w' => x = .returned (.tuple #[.int .i64 n, .int .i64 e]) ∧ w = w' := by
  have hm := Sub_any u v w; rw [h.out] at hm; exact hm
theorem Mod_at (u v n e : Int) (h : Hid (modI u v = (n, e))) (w : World) : Calls Tryd.prog 20 #[.int .i64 u, .int .i64 v] w fun x w' => x = .returned (.tuple #[.int .i64 n, .int .i64 e]) ∧ w = w' := by
  have hm := Mod_any u v w; rw [h.out] at hm; exact hm
theorem Floor_at (u n : Int) (h : Hid (floorI u = n)) (w : World) : Calls Tryd.prog 21 #[.int .i64 u] w fun x w' => x = .returned (.int .i64 n) ∧ w = w' := by
  have hm := Floor_any u w; rw [h.out] at hm; exact hm

/-- a sign, decided -/
def sg (u v n : Int) : Prop := (decide (u < 0) = true ∧ (decide (v < 0) = true ∧ decide (n < 0) = false ∨ decide (v < 0) = false ∧ decide (n < 0) = true)) ∨ (decide (u < 0) = false ∧ (decide (v < 0) = true ∧ decide (n < 0) = true ∨ decide (v < 0) = false ∧ decide (n < 0) = false))
theorem sg_of {u v n : Int} (h : decide (n < 0) = neg2 u v) : sg u v n := by
  unfold sg; rw [h]; unfold neg2
  cases decide (u < 0) <;> cases decide (v < 0) <;> simp
def no (n : Int) : Prop := (n == 0) = false ∧ (n != 0) = true
theorem no_of {n : Int} (h : n ≠ 0) : no n := ⟨by simpa using h, by simpa using h⟩
/-- the tests of a product, decided -/
def mulT (u v n e : Int) : Prop := (e = 0 ∧ ((n = 0 ∧ (u = 0 ∨ no u ∧ v = 0)) ∨ (wrap64 (n * 10000) != wrap64 (u * v)) = false ∧ no n ∧ sg u v n)) ∨ (n = 0 ∧ no e)
def divT (u v n e : Int) : Prop := (e = 0 ∧ no v ∧ ((n = 0 ∧ u = 0) ∨ (wrap64 (n * v) != wrap64 (u * 10000)) = false ∧ no n ∧ no u ∧ sg u v n)) ∨ (n = 0 ∧ no e)
theorem mulT_any (u v : Int) : mulT u v (mulI u v).1 (mulI u v).2 := by
  rcases mul_cases u v with ⟨h1, h2, -, -, -, h6, h7⟩ | ⟨h1, h2⟩
  · refine .inl ⟨h1, ?_⟩
    by_cases hn : (mulI u v).1 = 0
    · refine .inl ⟨hn, ?_⟩
      by_cases hu : u = 0
      · exact .inl hu
      · exact .inr ⟨no_of hu, by rcases h6.1 hn with h | h; exact absurd h hu; exact h⟩
    · exact .inr ⟨by rw [h2]; simp, no_of hn, sg_of (h7 hn)⟩
  · exact .inr ⟨h1, no_of h2⟩
theorem div_v (u v : Int) (h : (divI u v).2 = 0) : v ≠ 0 := by
  intro hv
  subst hv
  unfold divI at h
  by_cases a : (vld u && vld 0) = true
  · rw [if_pos a, if_pos rfl] at h; exact absurd h (by decide)
  · rw [if_neg a] at h; exact absurd h (by decide)
theorem divT_any (u v : Int) : divT u v (divI u v).1 (divI u v).2 := by
  rcases div_cases u v with ⟨h1, h2, h6, h7⟩ | ⟨h1, h2⟩
  · refine .inl ⟨h1, no_of (div_v u v h1), ?_⟩
    by_cases hn : (divI u v).1 = 0
    · exact .inl ⟨hn, h6.1 hn⟩
    · exact .inr ⟨by rw [h2]; simp, no_of hn, no_of (fun h => hn (h6.2 h)), sg_of (h7 hn)⟩
  · exact .inr ⟨h1, no_of h2⟩
set_option maxHeartbeats 4000000 in
theorem lawFixedProduct (u v : Int) (hu : (Lit.int .i64 u).wf = true) (hv : (Lit.int .i64 v).wf = true) (w : World) (hE : NumOk w) : Calls Tryd.prog 6 #[.int .i64 u, .int .i64 v] w fun e w' => e = .returned (.bool true) ∧ Below w.heap.size w w' := by
  have HE := Lib.hid hE; clear hE hu hv
  have hm := mulT_any u v
  have hd := divT_any u v
  obtain ⟨⟨n, e⟩, hne⟩ : ∃ x, mulI u v = x := ⟨_, rfl⟩
  obtain ⟨⟨q, f⟩, hqf⟩ : ∃ x, divI u v = x := ⟨_, rfl⟩
  rw [hne] at hm
  rw [hqf] at hd
  have HM := Lib.hid hne
  have HD := Lib.hid hqf
  clear hne hqf
  simp only [mulT, divT] at hm hd
  have HMT : Hid (mulT u v n e) := Lib.hid hm
  have HDT : Hid (divT u v q f) := Lib.hid hd
  clear hm hd
  go_enter Tryd.func6, Tryd.ntmps6
  go_wp2_with fail
  refine (Mul_at u v _ _ HM _).mono ?_
  rintro x w1 ⟨rfl, hb1⟩
  have HB1 := Lib.hid hb1; clear hb1
  have hm := HMT.out
  simp only [mulT, sg, no] at hm
  rcases hm with ⟨rfl, ⟨rfl, rfl | ⟨⟨m2, m3⟩, rfl⟩⟩ | ⟨m1, ⟨m2, m3⟩, ⟨m4, ⟨m5, m6⟩ | ⟨m5, m6⟩⟩ | ⟨m4, ⟨m5, m6⟩ | ⟨m5, m6⟩⟩⟩⟩ | ⟨rfl, k1, k2⟩
  all_goals
    go_wp2_with fail
    try clear m1
    try clear m2
    try clear m3
    try clear m4
    try clear m5
    try clear m6
    refine (Div_at _ _ _ _ HD _).mono ?_
    rintro x w2 ⟨rfl, hb2⟩
    have HB2 := Lib.hid (HB1.out.trans (hb2.mono HB1.out.size)); clear hb2
    have hd := HDT.out
    simp only [divT, sg, no] at hd
    rcases hd with ⟨rfl, ⟨n1, n2⟩, ⟨rfl, d2⟩ | ⟨m1, ⟨m2, m3⟩, ⟨m7, m8⟩, ⟨m4, ⟨m5, m6⟩ | ⟨m5, m6⟩⟩ | ⟨m4, ⟨m5, m6⟩ | ⟨m5, m6⟩⟩⟩⟩ | ⟨rfl, m1, m2⟩
    all_goals first
      | (exfalso; simp at m7; done)
      | (exfalso; simp at n1; done)
      | (exfalso; simp_all; done)
      | (go_wp2_with fail
         refine (example_any _ (HE.out.below HB2.out)).mono ?_
         rintro x w4 ⟨rfl, hb4⟩
         go_wp2_with fail
         go_ret
         exact ⟨rfl, HB2.out.trans (hb4.mono HB2.out.size)⟩)
end Go.Proofs.YtopacgchhlnnaaaDoor
