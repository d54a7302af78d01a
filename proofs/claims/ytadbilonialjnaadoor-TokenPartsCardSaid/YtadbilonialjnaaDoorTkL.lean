/- Lists of tokens and of parts in memory; the reference's Same of equal lists. -/
import Derived.BigQuiet
import Derived.Test.YtadbilonialjnaaDoorTkD
import Derived.Test.YtadbilonialjnaaDoorTkG
namespace Go.Proofs.YtadbilonialjnaaDoor
open Go.RowKit

theorem keepV {w a W : World} (h : Below w.heap.size w a) (hb : Below a.heap.size a W) : Below w.heap.size w W := h.trans (hb.mono h.size)
/-- a slice of tokens in memory -/
def SlT (W : World) (v : Value) (L : List Tok) : Prop :=
  (v = .slice none 0 0 ∧ L = []) ∨ ∃ B cap, v = .slice (some ⟨B, 0, none⟩) L.length cap ∧ L.length ≤ cap ∧ B < W.heap.size ∧
    ∀ j x, L[j]? = some x → W.cell? ⟨B, j * 4, none⟩ = some (.int .i64 (x.k : Int)) ∧ W.cell? ⟨B, j * 4 + 1, none⟩ = some (.string (S x.t)) ∧ W.cell? ⟨B, j * 4 + 2, none⟩ = some (.int .i64 (x.p : Int)) ∧ W.cell? ⟨B, j * 4 + 3, none⟩ = some (.int .i64 (x.e : Int))
theorem SlT.below {W W' : World} {v : Value} {L : List Tok} (h : SlT W v L) (hb : Below W.heap.size W W') : SlT W' v L := by
  rcases h with h | ⟨B, cap, hv, hc, hB, hx⟩
  · exact .inl h
  · have hk : ∀ o, W'.cell? ⟨B, o, none⟩ = W.cell? ⟨B, o, none⟩ := fun o => hb.cell (p := ⟨B, o, none⟩) hB
    exact .inr ⟨B, cap, hv, hc, Nat.lt_of_lt_of_le hB hb.size, fun j x hj => by
      obtain ⟨h0, h1, h2, h3⟩ := hx j x hj
      exact ⟨(hk _).trans h0, (hk _).trans h1, (hk _).trans h2, (hk _).trans h3⟩⟩
theorem flatT_get : ∀ (L : List Tok) (j : Nat) (x : Tok), L[j]? = some x → (flatT L)[j * 4]? = some (.int .i64 (x.k : Int)) ∧ (flatT L)[j * 4 + 1]? = some (.string (S x.t)) ∧ (flatT L)[j * 4 + 2]? = some (.int .i64 (x.p : Int)) ∧ (flatT L)[j * 4 + 3]? = some (.int .i64 (x.e : Int))
  | [], _, _, h => by simp at h
  | y :: r, 0, x, h => by simp at h; subst h; exact ⟨rfl, rfl, rfl, rfl⟩
  | y :: r, j + 1, x, h => by
    have := flatT_get r j x (by simpa using h)
    rw [show (j + 1) * 4 = j * 4 + 4 by omega, show j * 4 + 4 + 1 = (j * 4 + 1) + 4 by omega, show j * 4 + 4 + 2 = (j * 4 + 2) + 4 by omega, show j * 4 + 4 + 3 = (j * 4 + 3) + 4 by omega]
    exact this
theorem own_SlT {W : World} {base : Nat} {v : Value} {L : List Tok} (h : W.ownsRow base 40 4 v L.length (flatT L)) : SlT W v L := by
  rcases h.2 with ⟨hv, h0⟩ | ⟨g, cap, cur, rfl, hb, hg, hcap, hm, hsp, ht⟩
  · exact .inl ⟨hv, List.eq_nil_of_length_eq_zero h0⟩
  · refine .inr ⟨g, cap, rfl, hcap, (Array.getElem?_eq_some_iff.1 hg).1, fun j x hj => ?_⟩
    obtain ⟨h1, h2, h3, h4⟩ := flatT_get L j x hj
    have k1 := h.cells (g := g) rfl _ _ h1
    have k2 := h.cells (g := g) rfl _ _ h2
    have k3 := h.cells (g := g) rfl _ _ h3
    have k4 := h.cells (g := g) rfl _ _ h4
    rw [Lib.add_plain, Nat.zero_add] at k1 k2 k3 k4
    exact ⟨k1, k2, k3, k4⟩
theorem SlT.open {W : World} {v : Value} {L : List Tok} (h : SlT W v L) : ∃ p cap, v = .slice p L.length cap ∧ ∀ j (hj : j < L.length), ∃ B, p = some ⟨B, 0, none⟩ ∧ L.length ≤ cap ∧ B < W.heap.size ∧ W.cell? ⟨B, j * 4, none⟩ = some (.int .i64 (L[j].k : Int)) ∧ W.cell? ⟨B, j * 4 + 1, none⟩ = some (.string (S L[j].t)) ∧ W.cell? ⟨B, j * 4 + 2, none⟩ = some (.int .i64 (L[j].p : Int)) ∧ W.cell? ⟨B, j * 4 + 3, none⟩ = some (.int .i64 (L[j].e : Int)) := by
  rcases h with ⟨rfl, rfl⟩ | ⟨B, cap, rfl, hc, hB, hx⟩
  · exact ⟨none, 0, rfl, fun j hj => by simp at hj⟩
  · exact ⟨_, cap, rfl, fun j hj => ⟨B, rfl, hc, hB, hx j _ (List.getElem?_eq_getElem hj)⟩⟩
theorem SlT.form {W : World} {v : Value} {L : List Tok} (h : SlT W v L) : ∃ p cap, v = .slice p L.length cap := by
  obtain ⟨p, cap, hv, -⟩ := h.open
  exact ⟨p, cap, hv⟩
theorem slt_nil (W : World) : SlT W (.slice none 0 0) [] := .inl ⟨rfl, rfl⟩
/-- a slice of parts in memory -/
def SlP (W : World) (v : Value) (L : List Prt) : Prop :=
  (v = .slice none 0 0 ∧ L = []) ∨ ∃ B cap, v = .slice (some ⟨B, 0, none⟩) L.length cap ∧ L.length ≤ cap ∧ B < W.heap.size ∧
    ∀ j x, L[j]? = some x → W.cell? ⟨B, j * 3, none⟩ = some (.string (S x.t)) ∧ W.cell? ⟨B, j * 3 + 1, none⟩ = some (.bool x.c) ∧ W.cell? ⟨B, j * 3 + 2, none⟩ = some (.int .i64 (x.p : Int))
theorem SlP.below {W W' : World} {v : Value} {L : List Prt} (h : SlP W v L) (hb : Below W.heap.size W W') : SlP W' v L := by
  rcases h with h | ⟨B, cap, hv, hc, hB, hx⟩
  · exact .inl h
  · have hk : ∀ o, W'.cell? ⟨B, o, none⟩ = W.cell? ⟨B, o, none⟩ := fun o => hb.cell (p := ⟨B, o, none⟩) hB
    exact .inr ⟨B, cap, hv, hc, Nat.lt_of_lt_of_le hB hb.size, fun j x hj => by
      obtain ⟨h0, h1, h2⟩ := hx j x hj
      exact ⟨(hk _).trans h0, (hk _).trans h1, (hk _).trans h2⟩⟩
theorem flatP_get : ∀ (L : List Prt) (j : Nat) (x : Prt), L[j]? = some x → (flatP L)[j * 3]? = some (.string (S x.t)) ∧ (flatP L)[j * 3 + 1]? = some (.bool x.c) ∧ (flatP L)[j * 3 + 2]? = some (.int .i64 (x.p : Int))
  | [], _, _, h => by simp at h
  | y :: r, 0, x, h => by simp at h; subst h; exact ⟨rfl, rfl, rfl⟩
  | y :: r, j + 1, x, h => by
    have := flatP_get r j x (by simpa using h)
    rw [show (j + 1) * 3 = j * 3 + 3 by omega, show j * 3 + 3 + 1 = (j * 3 + 1) + 3 by omega, show j * 3 + 3 + 2 = (j * 3 + 2) + 3 by omega]
    exact this
theorem own_SlP {W : World} {base : Nat} {e : TypeId} {v : Value} {L : List Prt} (h : W.ownsRow base e 3 v L.length (flatP L)) : SlP W v L := by
  rcases h.2 with ⟨hv, h0⟩ | ⟨g, cap, cur, rfl, hb, hg, hcap, hm, hsp, ht⟩
  · exact .inl ⟨hv, List.eq_nil_of_length_eq_zero h0⟩
  · refine .inr ⟨g, cap, rfl, hcap, (Array.getElem?_eq_some_iff.1 hg).1, fun j x hj => ?_⟩
    obtain ⟨h1, h2, h3⟩ := flatP_get L j x hj
    have k1 := h.cells (g := g) rfl _ _ h1
    have k2 := h.cells (g := g) rfl _ _ h2
    have k3 := h.cells (g := g) rfl _ _ h3
    rw [Lib.add_plain, Nat.zero_add] at k1 k2 k3
    exact ⟨k1, k2, k3⟩
theorem SlP.open {W : World} {v : Value} {L : List Prt} (h : SlP W v L) : ∃ p cap, v = .slice p L.length cap ∧ ∀ j (hj : j < L.length), ∃ B, p = some ⟨B, 0, none⟩ ∧ L.length ≤ cap ∧ B < W.heap.size ∧ W.cell? ⟨B, j * 3, none⟩ = some (.string (S L[j].t)) ∧ W.cell? ⟨B, j * 3 + 1, none⟩ = some (.bool L[j].c) ∧ W.cell? ⟨B, j * 3 + 2, none⟩ = some (.int .i64 (L[j].p : Int)) := by
  rcases h with ⟨rfl, rfl⟩ | ⟨B, cap, rfl, hc, hB, hx⟩
  · exact ⟨none, 0, rfl, fun j hj => by simp at hj⟩
  · exact ⟨_, cap, rfl, fun j hj => ⟨B, rfl, hc, hB, hx j _ (List.getElem?_eq_getElem hj)⟩⟩

set_option maxRecDepth 100000 in
set_option maxHeartbeats 2000000 in
theorem Same_eq (v u : Value) (L : List Tok) (w : World) (hv : SlT w v L) (hu : SlT w u L) (hL : L.length ≤ 1000000) : Calls Tryd.prog 18 #[v, u] w fun e w' => e = .returned (.bool true) ∧ Below w.heap.size w w' := by
  obtain ⟨p, cap, rfl, hp⟩ := hv.open
  obtain ⟨q, caq, rfl, hq⟩ := hu.open
  have HP := Lib.hid hp
  have HQ := Lib.hid hq
  clear hp hq hv hu
  go_enter Tryd.func18, Tryd.ntmps18
  go_wp2_with fail
  go_loopw [5] (fun i wr => ∃ j : Nat, i = .int .i64 (j : Int) ∧ j ≤ L.length ∧ Hid (Below w.heap.size w wr)) (fun i _ => L.length - (intOf i).toNat)
  case atStart => exact ⟨0, rfl, Nat.zero_le _, Lib.hid (Below.refl _ _)⟩
  case round =>
    obtain ⟨j, rfl, hj, HW⟩ := hrel
    by_cases hl : j < L.length
    · obtain ⟨B1, rfl, hc1, hB1, c0, c1, c2, c3⟩ := HP.out j hl
      obtain ⟨B2, rfl, hc2, hB2, d0, d1, d2, d3⟩ := HQ.out j hl
      have k1 : ∀ o, wr.cell? ⟨B1, o, none⟩ = w.cell? ⟨B1, o, none⟩ := fun o => HW.out.cell (p := ⟨B1, o, none⟩) hB1
      have k2 : ∀ o, wr.cell? ⟨B2, o, none⟩ = w.cell? ⟨B2, o, none⟩ := fun o => HW.out.cell (p := ⟨B2, o, none⟩) hB2
      obtain ⟨⟨xk, xt, xp, xe⟩, hx⟩ : ∃ x, L[j] = x := ⟨_, rfl⟩
      rw [hx] at c0 c1 c2 c3 d0 d1 d2 d3
      clear hx
      simp only at c0 c1 c2 c3 d0 d1 d2 d3
      rw [← k1] at c0 c1 c2 c3
      rw [← k2] at d0 d1 d2 d3
      clear k1 k2
      have j0 : (0 : Int) ≤ (j : Int) := by omega
      have j1 : (j : Int) < (L.length : Int) := by omega
      go_wp2_with fail
      go_quiet (fail)
      have HW2 := Lib.hid (below_drewN HW.out nq)
      go_wp2_with fail
      go_roundw
      case rel => exact ⟨j + 1, rfl, hl, HW2⟩
      case measure => simp [intOf]; omega
    · have hj2 : j = L.length := by omega
      subst hj2
      go_wp2_with fail
      go_ret
      exact ⟨rfl, HW.out⟩
end Go.Proofs.YtadbilonialjnaaDoor
