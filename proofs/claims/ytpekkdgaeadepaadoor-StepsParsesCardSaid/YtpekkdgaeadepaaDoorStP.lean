/- Walks of the steps: Same, Prefix. -/
import Derived.Test.YtpekkdgaeadepaaDoorStD
namespace Go.Proofs.YtpekkdgaeadepaaDoor
open Go.RowKit

theorem Same_any (v u : Value) (L M : List Stp) (w : World) (hv : SlS w v L) (hu : SlS w u M) (hL : L.length ≤ 1000000) (hM : M.length ≤ 1000000) : Calls Tryd.prog 19 #[v, u] w fun e w' => e = .returned (.bool (decide (L = M))) ∧ Below w.heap.size w w' := by
  have HC := Lib.hid (refCompare_any v u L M w hv hu hL hM)
  have hz := cmpS_zero L M
  obtain ⟨n, hn⟩ : ∃ n, cmpS L M = n := ⟨_, rfl⟩
  rw [hn] at HC hz
  have hb : (n == 0) = decide (L = M) := by rw [Bool.eq_iff_iff]; simp [hz]
  obtain ⟨b, hbb⟩ : ∃ b, decide (L = M) = b := ⟨_, rfl⟩
  rw [hbb] at hb ⊢
  clear hz hn hv hu hbb
  go_enter Tryd.func19, Tryd.ntmps19
  go_wp2_with fail
  refine HC.out.mono ?_
  rintro e w1 ⟨rfl, hb1⟩
  go_wp2_with fail
  go_ret
  exact ⟨ret_bool (by first | rfl | exact hb | simpa using hb), hb1⟩
def preS (L M : List Stp) : Bool := decide (L.length ≤ M.length) && decide (L = M.take L.length)
theorem SlS.take {W : World} {q : Option Addr} {n caq : Nat} {M : List Stp} (h : SlS W (.slice q n caq) M) (k : Nat) (hk : k ≤ M.length) : SlS W (.slice q k caq) (M.take k) ∧ (k : Int) ≤ (caq : Int) ∧ n = M.length := by
  rcases h with ⟨⟨p0, cap0, hv⟩, rfl⟩ | ⟨B, o, cap, hv, hc, hB, hx⟩
  · injection hv with h1 h2 h3
    subst h1 h2 h3
    have : k = 0 := by simpa using hk
    subst this
    exact ⟨.inl ⟨⟨_, _, rfl⟩, by simp⟩, by simp, rfl⟩
  · injection hv with h1 h2 h3
    subst h1 h2 h3
    refine ⟨.inr ⟨B, o, caq, by rw [List.length_take, Nat.min_eq_left hk], by rw [List.length_take]; omega, hB, fun j x hj => ?_⟩, by omega, rfl⟩
    rw [List.getElem?_take] at hj
    split at hj
    · exact hx j x hj
    · cases hj
theorem SlS.form {W : World} {v : Value} {L : List Stp} (h : SlS W v L) : ∃ p cap, v = .slice p L.length cap := by
  obtain ⟨p, cap, hv, -⟩ := h.open
  exact ⟨p, cap, hv⟩
set_option maxHeartbeats 1000000 in
theorem Prefix_any (v u : Value) (L M : List Stp) (w : World) (hv : SlS w v L) (hu : SlS w u M) (hL : L.length ≤ 1000000) (hM : M.length ≤ 1000000) : Calls Tryd.prog 22 #[v, u] w fun e w' => e = .returned (.bool (preS L M)) ∧ Below w.heap.size w w' := by
  obtain ⟨p, cap, rfl⟩ := hv.form
  obtain ⟨q, caq, rfl⟩ := hu.form
  by_cases hle : L.length ≤ M.length
  · obtain ⟨ht, hk, -⟩ := hu.take L.length hle
    have HC := Lib.hid (Compare_any _ _ L (M.take L.length) w hv ht hL (by rw [List.length_take]; omega))
    have hz := cmpS_zero L (M.take L.length)
    obtain ⟨n, hn⟩ : ∃ n, cmpS L (M.take L.length) = n := ⟨_, rfl⟩
    rw [hn] at HC hz
    have hb : (n == 0) = preS L M := by
      unfold preS; rw [decide_eq_true hle, Bool.true_and, Bool.eq_iff_iff]; simp [hz]
    obtain ⟨b, hbb⟩ : ∃ b, preS L M = b := ⟨_, rfl⟩
    rw [hbb] at hb ⊢
    have h1 : decide ((L.length : Int) ≤ (M.length : Int)) = true := by simp; omega
    clear hz hn hv hu hbb ht
    go_enter Tryd.func22, Tryd.ntmps22
    go_wp2_with fail
    refine HC.out.mono ?_
    rintro e w1 ⟨rfl, hb1⟩
    go_wp2_with fail
    go_ret
    exact ⟨ret_bool (by first | rfl | exact hb | simpa using hb), hb1⟩
  · have hb : preS L M = false := by unfold preS; rw [decide_eq_false hle]; rfl
    rw [hb]
    have h1 : decide ((L.length : Int) ≤ (M.length : Int)) = false := by simp; omega
    clear hv hu hb
    go_enter Tryd.func22, Tryd.ntmps22
    go_wp2_with fail
    go_ret
    exact ⟨rfl, Below.refl _ _⟩
set_option maxHeartbeats 1000000 in
theorem refPrefix_any (v u : Value) (L M : List Stp) (w : World) (hv : SlS w v L) (hu : SlS w u M) (hL : L.length ≤ 1000000) (hM : M.length ≤ 1000000) : Calls Tryd.prog 23 #[v, u] w fun e w' => e = .returned (.bool (preS L M)) ∧ Below w.heap.size w w' := by
  obtain ⟨p, cap, rfl⟩ := hv.form
  obtain ⟨q, caq, rfl⟩ := hu.form
  by_cases hle : L.length ≤ M.length
  · obtain ⟨ht, hk, -⟩ := hu.take L.length hle
    have HC := Lib.hid (Same_any _ _ L (M.take L.length) w hv ht hL (by rw [List.length_take]; omega))
    have hb : decide (L = M.take L.length) = preS L M := by
      unfold preS; rw [decide_eq_true hle, Bool.true_and]
    obtain ⟨b, hbb⟩ : ∃ b, preS L M = b := ⟨_, rfl⟩
    rw [hb, hbb] at HC
    rw [hbb]
    have h1 : decide ((L.length : Int) ≤ (M.length : Int)) = true := by simp; omega
    clear hv hu hbb ht hb
    go_enter Tryd.func23, Tryd.ntmps23
    go_wp2_with fail
    refine HC.out.mono ?_
    rintro e w1 ⟨rfl, hb1⟩
    go_wp2_with fail
    go_ret
    exact ⟨rfl, hb1⟩
  · have hb : preS L M = false := by unfold preS; rw [decide_eq_false hle]; rfl
    rw [hb]
    have h1 : decide ((L.length : Int) ≤ (M.length : Int)) = false := by simp; omega
    clear hv hu hb
    go_enter Tryd.func23, Tryd.ntmps23
    go_wp2_with fail
    go_ret
    exact ⟨rfl, Below.refl _ _⟩
end Go.Proofs.YtpekkdgaeadepaaDoor
