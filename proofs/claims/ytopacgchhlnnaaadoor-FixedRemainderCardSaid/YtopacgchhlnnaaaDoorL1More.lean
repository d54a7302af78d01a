/- The laws of order, of undoing and of remainders: what each returns. -/
import Derived.Test.YtopacgchhlnnaaaDoorL1Rest
namespace Go.Proofs.YtopacgchhlnnaaaDoor
open Go.RowKit
set_option linter.unusedVariables false

def aT (e i j o l m : Int) : Prop := no e ∨ (e = 0 ∧ (no i ∨ (i = 0 ∧ (no j ∨ (j = 0 ∧ o = 0 ∧ l = m)))))
def mT (g i j o l m : Int) : Prop := no g ∨ (g = 0 ∧ (no i ∨ (i = 0 ∧ (no j ∨ (j = 0 ∧ (no o ∨ (o = 0 ∧ l = m)))))))
theorem aT_any {u v x a e k i l j m o : Int} (h1 : addI u v = (a, e)) (h2 : addI v x = (k, i)) (h3 : addI a x = (l, j)) (h4 : addI u k = (m, o)) : aT e i j o l m := by
  unfold aT
  by_cases he : e = 0
  · refine .inr ⟨he, ?_⟩
    by_cases hi : i = 0
    · refine .inr ⟨hi, ?_⟩
      by_cases hj : j = 0
      · refine .inr ⟨hj, ?_⟩
        have a1 := add_cases u v; rw [h1] at a1
        have a2 := add_cases v x; rw [h2] at a2
        have a3 := add_cases a x; rw [h3] at a3
        rcases a1 with ⟨-, e1, b1, b2, b3⟩ | ⟨-, b⟩
        · rcases a2 with ⟨-, e2, c1, c2, c3⟩ | ⟨-, b⟩
          · rcases a3 with ⟨-, e3, d1, d2, d3⟩ | ⟨-, b⟩
            · simp only at e1 e2 e3
              subst e1; subst e2; subst e3
              rw [Int.add_assoc] at d3
              rw [addI_ok u (v + x) b1 c3 d3] at h4
              injection h4 with h5 h6
              exact ⟨h6.symm, by rw [← h5, Int.add_assoc]⟩
            · exact absurd hj b
          · exact absurd hi b
        · exact absurd he b
      · exact .inl (no_of hj)
    · exact .inl (no_of hi)
  · exact .inl (no_of he)
theorem mT_any {u v x c g k i l j m o : Int} (h1 : mulI u v = (c, g)) (h2 : mulI v x = (k, i)) (h3 : mulI c x = (l, j)) (h4 : mulI u k = (m, o)) : mT g i j o l m := by
  unfold mT
  by_cases he : g = 0
  · refine .inr ⟨he, ?_⟩
    by_cases hi : i = 0
    · refine .inr ⟨hi, ?_⟩
      by_cases hj : j = 0
      · refine .inr ⟨hj, ?_⟩
        by_cases ho : o = 0
        · refine .inr ⟨ho, ?_⟩
          have a1 := mul_cases u v; rw [h1] at a1
          have a2 := mul_cases v x; rw [h2] at a2
          have a3 := mul_cases c x; rw [h3] at a3
          have a4 := mul_cases u k; rw [h4] at a4
          rcases a1 with ⟨-, e1, -⟩ | ⟨-, b⟩
          · rcases a2 with ⟨-, e2, -⟩ | ⟨-, b⟩
            · rcases a3 with ⟨-, e3, -⟩ | ⟨-, b⟩
              · rcases a4 with ⟨-, e4, -⟩ | ⟨-, b⟩
                · simp only at e1 e2 e3 e4
                  have t1 : l * 10000 * 10000 = u * v * x := by rw [e3, Int.mul_right_comm, e1]
                  have t2 : m * 10000 * 10000 = u * v * x := by rw [e4, Int.mul_assoc, e2, Int.mul_assoc]
                  generalize u * v * x = z at t1 t2
                  omega
                · exact absurd ho b
              · exact absurd hj b
            · exact absurd hi b
          · exact absurd he b
        · exact .inl (no_of ho)
      · exact .inl (no_of hj)
    · exact .inl (no_of hi)
  · exact .inl (no_of he)
set_option maxHeartbeats 4000000 in
theorem lawFixedCommutes (u v x : Int) (hu : (Lit.int .i64 u).wf = true) (hv : (Lit.int .i64 v).wf = true) (hx : (Lit.int .i64 x).wf = true) (w : World) (hE : NumOk w) : Calls Tryd.prog 9 #[.int .i64 u, .int .i64 v, .int .i64 x] w fun e w' => e = .returned (.bool true) ∧ Below w.heap.size w w' := by
  have HE := Lib.hid hE; clear hE hu hv hx
  obtain ⟨⟨a, e⟩, h1⟩ : ∃ p, addI u v = p := ⟨_, rfl⟩
  obtain ⟨⟨k, i⟩, h2⟩ : ∃ p, addI v x = p := ⟨_, rfl⟩
  obtain ⟨⟨l, j⟩, h3⟩ : ∃ p, addI a x = p := ⟨_, rfl⟩
  obtain ⟨⟨m, o⟩, h4⟩ : ∃ p, addI u k = p := ⟨_, rfl⟩
  obtain ⟨⟨c, g⟩, k1⟩ : ∃ p, mulI u v = p := ⟨_, rfl⟩
  obtain ⟨⟨k', i'⟩, k2⟩ : ∃ p, mulI v x = p := ⟨_, rfl⟩
  obtain ⟨⟨l', j'⟩, k3⟩ : ∃ p, mulI c x = p := ⟨_, rfl⟩
  obtain ⟨⟨m', o'⟩, k4⟩ : ∃ p, mulI u k' = p := ⟨_, rfl⟩
  have HA := Lib.hid (aT_any h1 h2 h3 h4)
  have HM := Lib.hid (mT_any k1 k2 k3 k4)
  have A1 := Lib.hid h1
  have A1' := Lib.hid ((add_comm' v u).trans h1)
  have A2 := Lib.hid h2
  have A3 := Lib.hid h3
  have A4 := Lib.hid h4
  have M1 := Lib.hid k1
  have M1' := Lib.hid ((mul_comm' v u).trans k1)
  have M2 := Lib.hid k2
  have M3 := Lib.hid k3
  have M4 := Lib.hid k4
  clear h1 h2 h3 h4 k1 k2 k3 k4
  go_enter Tryd.func9, Tryd.ntmps9
  go_wp2_with fail
  refine (Add_at u v _ _ A1 _).mono ?_
  rintro z w' ⟨rfl, rfl⟩
  go_wp2_with fail
  refine (Add_at v u _ _ A1' _).mono ?_
  rintro z w' ⟨rfl, rfl⟩
  go_wp2_with fail
  refine (Mul_at u v _ _ M1 _).mono ?_
  rintro z w1 ⟨rfl, hb1⟩
  have HB1 := Lib.hid hb1; clear hb1
  go_wp2_with fail
  refine (Mul_at v u _ _ M1' _).mono ?_
  rintro z w2 ⟨rfl, hb2⟩
  have HB2 := Lib.hid (HB1.out.trans (hb2.mono HB1.out.size)); clear hb2
  go_wp2_with fail
  refine (Add_at v x _ _ A2 _).mono ?_
  rintro z w' ⟨rfl, rfl⟩
  go_wp2_with fail
  refine (Add_at a x _ _ A3 _).mono ?_
  rintro z w' ⟨rfl, rfl⟩
  go_wp2_with fail
  refine (Add_at u k _ _ A4 _).mono ?_
  rintro z w' ⟨rfl, rfl⟩
  have ha := HA.out
  simp only [aT, no] at ha
  clear HA A1 A1' A2 A3 A4
  rcases ha with ⟨n1, n2⟩ | ⟨rfl, ⟨n1, n2⟩ | ⟨rfl, ⟨n1, n2⟩ | ⟨rfl, rfl, rfl⟩⟩⟩
  all_goals
    go_wp2_with fail
    try clear n1
    try clear n2
    refine (Mul_at v x _ _ M2 _).mono ?_
    rintro z w3 ⟨rfl, hb3⟩
    have HB3 := Lib.hid (HB2.out.trans (hb3.mono HB2.out.size)); clear hb3
    go_wp2_with fail
    refine (Mul_at c x _ _ M3 _).mono ?_
    rintro z w4 ⟨rfl, hb4⟩
    have HB4 := Lib.hid (HB3.out.trans (hb4.mono HB3.out.size)); clear hb4
    go_wp2_with fail
    refine (Mul_at u k' _ _ M4 _).mono ?_
    rintro z w5 ⟨rfl, hb5⟩
    have HB5 := Lib.hid (HB4.out.trans (hb5.mono HB4.out.size)); clear hb5
    have hm := HM.out
    simp only [mT, no] at hm
    clear HM M1 M1' M2 M3 M4
    rcases hm with ⟨n1, n2⟩ | ⟨rfl, ⟨n1, n2⟩ | ⟨rfl, ⟨n1, n2⟩ | ⟨rfl, ⟨n1, n2⟩ | ⟨rfl, rfl⟩⟩⟩⟩
    all_goals
      go_wp2_with fail
      refine (example_any _ (HE.out.below HB5.out)).mono ?_
      rintro z w6 ⟨rfl, hb6⟩
      go_wp2_with fail
      go_ret
      exact ⟨rfl, HB5.out.trans (hb6.mono HB5.out.size)⟩
def uT (e f b u : Int) : Prop := no e ∨ (e = 0 ∧ f = 0 ∧ b = u)
def vT (g v h d u : Int) : Prop := no g ∨ (g = 0 ∧ (v = 0 ∨ (no v ∧ h = 0 ∧ d = u)))
theorem uT_any {u v a e b f : Int} (h1 : addI u v = (a, e)) (h2 : subI a v = (b, f)) : uT e f b u := by
  unfold uT
  by_cases he : e = 0
  · refine .inr ⟨he, ?_⟩
    have a1 := add_cases u v; rw [h1] at a1
    rcases a1 with ⟨-, e1, b1, b2, b3⟩ | ⟨-, b⟩
    · simp only at e1
      subst e1
      rw [subI_ok (u + v) v b3 b2 (by rw [Int.add_sub_cancel]; exact b1), Int.add_sub_cancel] at h2
      injection h2 with h5 h6
      exact ⟨h6.symm, h5.symm⟩
    · exact absurd he b
  · exact .inl (no_of he)
theorem vT_any {u v c g d h : Int} (h1 : mulI u v = (c, g)) (h2 : divI c v = (d, h)) : vT g v h d u := by
  unfold vT
  by_cases hg : g = 0
  · refine .inr ⟨hg, ?_⟩
    by_cases hv : v = 0
    · exact .inl hv
    · have hd := div_back u v (by rw [h1]; exact hg) hv
      rw [h1] at hd
      simp only at hd
      rw [h2] at hd
      injection hd with h5 h6
      exact .inr ⟨no_of hv, h6, h5⟩
  · exact .inl (no_of hg)
set_option maxHeartbeats 4000000 in
theorem lawFixedUndoes (u v : Int) (hu : (Lit.int .i64 u).wf = true) (hv : (Lit.int .i64 v).wf = true) (w : World) (hE : NumOk w) : Calls Tryd.prog 11 #[.int .i64 u, .int .i64 v] w fun e w' => e = .returned (.bool true) ∧ Below w.heap.size w w' := by
  have HE := Lib.hid hE; clear hE hu hv
  obtain ⟨⟨a, e⟩, h1⟩ : ∃ p, addI u v = p := ⟨_, rfl⟩
  obtain ⟨⟨b, f⟩, h2⟩ : ∃ p, subI a v = p := ⟨_, rfl⟩
  obtain ⟨⟨c, g⟩, k1⟩ : ∃ p, mulI u v = p := ⟨_, rfl⟩
  obtain ⟨⟨d, h⟩, k2⟩ : ∃ p, divI c v = p := ⟨_, rfl⟩
  have HA := Lib.hid (uT_any h1 h2)
  have HM := Lib.hid (vT_any k1 k2)
  have A1 := Lib.hid h1
  have A2 := Lib.hid h2
  have M1 := Lib.hid k1
  have M2 := Lib.hid k2
  clear h1 h2 k1 k2
  go_enter Tryd.func11, Tryd.ntmps11
  go_wp2_with fail
  refine (Add_at u v _ _ A1 _).mono ?_
  rintro z w' ⟨rfl, rfl⟩
  go_wp2_with fail
  refine (Sub_at a v _ _ A2 _).mono ?_
  rintro z w' ⟨rfl, rfl⟩
  have ha := HA.out
  simp only [uT, no] at ha
  clear HA A1 A2
  rcases ha with ⟨n1, n2⟩ | ⟨rfl, rfl, rfl⟩
  all_goals
    go_wp2_with fail
    try clear n1
    try clear n2
    refine (Mul_at _ v _ _ M1 _).mono ?_
    rintro z w1 ⟨rfl, hb1⟩
    have HB1 := Lib.hid hb1; clear hb1
    go_wp2_with fail
    refine (Div_at c v _ _ M2 _).mono ?_
    rintro z w2 ⟨rfl, hb2⟩
    have HB2 := Lib.hid (HB1.out.trans (hb2.mono HB1.out.size)); clear hb2
    have hm := HM.out
    simp only [vT, no] at hm
    clear HM M1 M2
    rcases hm with ⟨n1, n2⟩ | ⟨rfl, rfl | ⟨⟨n1, n2⟩, rfl, rfl⟩⟩
    all_goals
      go_wp2_with fail
      refine (example_any _ (HE.out.below HB2.out)).mono ?_
      rintro z w6 ⟨rfl, hb6⟩
      go_wp2_with fail
      go_ret
      exact ⟨rfl, HB2.out.trans (hb6.mono HB2.out.size)⟩
set_option maxHeartbeats 4000000 in
theorem lawFixedRemainder (u v : Int) (hu : (Lit.int .i64 u).wf = true) (hv : (Lit.int .i64 v).wf = true) (w : World) (hE : NumOk w) : Calls Tryd.prog 7 #[.int .i64 u, .int .i64 v] w fun e w' => e = .returned (.bool true) ∧ Below w.heap.size w w' := by
  have HE := Lib.hid hE; clear hE hu hv
  by_cases hval : vld u = true ∧ vld v = true
  · obtain ⟨hu, hv⟩ := hval
    by_cases hv0 : v = 0
    · subst hv0
      have HM := Lib.hid (show modI u 0 = (0, 4) by simp [modI, hu, hv])
      go_enter Tryd.func7, Tryd.ntmps7
      go_wp2_with (first
        | (go_at_call 20; refine (Mod_at u 0 _ _ HM _).mono ?_; rintro e w' ⟨rfl, rfl⟩)
        | (go_at_call 17; refine (Valid_any _ _).mono ?_; rintro e w' ⟨rfl, rfl⟩; first | rw [hu] | rw [hv]))
      refine (example_any _ HE.out).mono ?_
      rintro z w6 ⟨rfl, hb6⟩
      go_wp2_with fail
      go_ret
      exact ⟨rfl, hb6⟩
    · have hr := rem_range u v hv0
      obtain ⟨n, hn⟩ : ∃ n, remI u v = n := ⟨_, rfl⟩
      rw [hn] at hr
      have HM := Lib.hid (show modI u v = (n, 0) by simp [modI, hu, hv, hv0, hn])
      have HM2 := Lib.hid (show modI u 10000 = (u % 10000, 0) by simp [modI, hu, remI, show vld 10000 = true by decide])
      obtain ⟨m, hm⟩ : ∃ m, u % 10000 = m := ⟨_, rfl⟩
      rw [hm] at HM2
      have HF := Lib.hid (show floorI u = u - m by simp [floorI, hu, hm])
      have hu2 := (vld_iff u).1 hu
      have hv2 := (vld_iff v).1 hv
      have hmb : 0 ≤ m ∧ m < 10000 := by omega
      obtain ⟨r1, r2, r3⟩ := hr
      have t1 : ((u - n).tmod v == 0) = true := by simpa using r3
      have ha1 : (v == 0) = false := by simpa using hv0
      clear hn hm r3
      rcases Int.lt_or_gt_of_ne hv0 with hlt | hgt
      · obtain ⟨b1, b2⟩ := r2 hlt
        clear r1 r2
        go_enter Tryd.func7, Tryd.ntmps7
        go_wp2_with (first
          | (go_at_call 20; first | (with_reducible refine (Mod_at u v _ _ HM _).mono ?_) | (with_reducible refine (Mod_at u 10000 _ _ HM2 _).mono ?_)
             rintro e w' ⟨rfl, rfl⟩)
          | (go_at_call 21; refine (Floor_at u _ HF _).mono ?_; rintro e w' ⟨rfl, rfl⟩)
          | (go_at_call 17; refine (Valid_any _ _).mono ?_; rintro e w' ⟨rfl, rfl⟩; first | rw [hu] | rw [hv]))
        refine (example_any _ HE.out).mono ?_
        rintro z w6 ⟨rfl, hb6⟩
        go_wp2_with fail
        go_ret
        exact ⟨rfl, hb6⟩
      · obtain ⟨b1, b2⟩ := r1 hgt
        clear r1 r2
        go_enter Tryd.func7, Tryd.ntmps7
        go_wp2_with (first
          | (go_at_call 20; first | (with_reducible refine (Mod_at u v _ _ HM _).mono ?_) | (with_reducible refine (Mod_at u 10000 _ _ HM2 _).mono ?_)
             rintro e w' ⟨rfl, rfl⟩)
          | (go_at_call 21; refine (Floor_at u _ HF _).mono ?_; rintro e w' ⟨rfl, rfl⟩)
          | (go_at_call 17; refine (Valid_any _ _).mono ?_; rintro e w' ⟨rfl, rfl⟩; first | rw [hu] | rw [hv]))
        refine (example_any _ HE.out).mono ?_
        rintro z w6 ⟨rfl, hb6⟩
        go_wp2_with fail
        go_ret
        exact ⟨rfl, hb6⟩
  · have HM := Lib.hid (show modI u v = (0, 1) by unfold modI; rw [if_neg (by simpa using hval)])
    cases hu : vld u <;> cases hv : vld v
    case true.true => exact (hval ⟨hu, hv⟩).elim
    all_goals
      go_enter Tryd.func7, Tryd.ntmps7
      go_wp2_with (first
        | (go_at_call 20; refine (Mod_at u v _ _ HM _).mono ?_; rintro e w' ⟨rfl, rfl⟩)
        | (go_at_call 17; refine (Valid_any _ _).mono ?_; rintro e w' ⟨rfl, rfl⟩; first | rw [hu] | rw [hv]))
      refine (example_any _ HE.out).mono ?_
      rintro z w6 ⟨rfl, hb6⟩
      go_wp2_with fail
      go_ret
      exact ⟨rfl, hb6⟩
end Go.Proofs.YtopacgchhlnnaaaDoor
