/- What an argument that is a list of steps holds, and that it reads the same behind the call. -/
import Derived.ProofKit
import Derived.OpenShut
import Derived.ShutString
import Derived.ChangeOld
import Derived.Deep.SlicePairs
import Derived.Test.YtpekkdgaeadepaaDoorStA
namespace Go.Proofs.YtpekkdgaeadepaaDoor
open Go.ChangeShapes Go.WideShapes Go.ChangeAt Go.RowKit Go.Deep

theorem cellsStp : Tryd.prog.cellsOf 37 = 2 := by kernel_rfl
theorem cellsS : Tryd.prog.cellsOf 9 = 1 := by kernel_rfl
theorem cellsI : Tryd.prog.cellsOf 3 = 1 := by kernel_rfl
set_option maxRecDepth 100000 in
theorem steps_open {H : Type} {enc : TypeId × Value → H} {W : World} {base : Nat} {v : Value} {d : DataW H} {p : List MemPlace} (hok : Value.okWide Tryd.prog W .any base 22 v)
    (h : DataW.Trod enc Tryd.prog W 0 (fun _ => true) true 22 v d p) : ∃ L, SlS W v L ∧ L.length ≤ maxLen ∧ ∀ W', Below W.heap.size W W' → DataW.Trod enc Tryd.prog W' 0 (fun b => decide (b < W.heap.size)) true 22 v d p := by
  obtain ⟨a0, len0, cap0, rfl⟩ := okWide_slice Tryd.underlying22 hok
  obtain ⟨n, h⟩ := h
  rcases open_slice_pairs Tryd.underlying22 Tryd.underlying37 cellsStp rfl rfl cellsS cellsI h with ⟨hc, hx⟩ | ⟨a, len, cap, m, k, V0, V1, D0, D1, P0, P1, hc, hb, hl, hm, hmm, hx, hall⟩
  · have hv : (.slice a0 len0 cap0 : Value) = .slice none 0 0 := by simpa [Value.cells] using hc
    refine ⟨[], .inl ⟨⟨_, _, hv⟩, rfl⟩, Nat.zero_le _, fun W' _ => ⟨n, ?_⟩⟩
    rw [hv] at h ⊢
    cases n with
    | zero => simp [DataW.trod] at h
    | succ n => unfold DataW.trod at h ⊢; simpa [Value.cells, Tryd.underlying22] using h
  · have hv : (.slice a0 len0 cap0 : Value) = .slice (some a) len cap := by simpa [Value.cells] using hc
    simp only [if_true] at hmm
    subst hmm
    rw [hv]
    clear h hc hv hok
    have hstr : ∀ i, i < m → ∃ l : List UInt8, V0 i = .string (S l) ∧ D0 i = .lit (.string (S l).data.toList) ∧ P0 i = [] ∧ (S l).size ≤ maxLen := fun i hi => by
      obtain ⟨s, h1, h2, h3⟩ := DataW.trod_string Tryd.underlying9 (hall i hi).2.2.1
      obtain ⟨l, rfl⟩ := S_ex s
      simp only [List.cons.injEq, and_true] at h1
      simp only [Prod.mk.injEq] at h2
      exact ⟨l, h1, h2.1, h2.2, h3⟩
    have hint : ∀ i, i < m → ∃ z : Int, V1 i = .int .i64 z ∧ D1 i = .lit (.int .i64 z) ∧ P1 i = [] ∧ (Lit.int .i64 z).wf = true := fun i hi => by
      obtain ⟨z, h1, h2, h3⟩ := DataW.trod_int Tryd.underlying3 (hall i hi).2.2.2
      simp only [List.cons.injEq, and_true] at h1
      simp only [Prod.mk.injEq] at h2
      exact ⟨z, h1, h2.1, h2.2, h3⟩
    rcases Nat.eq_zero_or_pos m with h0 | h0
    · subst h0
      have hl0 : len = 0 := by omega
      subst hl0
      refine ⟨[], .inl ⟨⟨_, _, rfl⟩, rfl⟩, Nat.zero_le _, fun W' _ => ?_⟩
      rcases Decidable.em (a.block < W.heap.size) with hbk | hbk
      · have := shut_slice_whole_cells (enc := enc) (P := Tryd.prog) (w := W') (base := 0) (spare := fun b => decide (b < W.heap.size)) (held := true) (a := a) Tryd.underlying22 hb hl hm (decide_eq_true hbk) (fun i => .agg [D0 i, D1 i]) (fun i => P0 i ++ P1 i) (fun i hi => by omega)
        rw [cellsStp] at this
        obtain ⟨fu, hfu⟩ := this
        exact ⟨fu, by rw [hx]; simpa [Value.cells] using hfu⟩
      · have := shut_slice_cells (enc := enc) (P := Tryd.prog) (w := W') (base := 0) (spare := fun b => decide (b < W.heap.size)) (held := true) (a := a) Tryd.underlying22 hb hl hm (decide_eq_false hbk) (fun i => .agg [D0 i, D1 i]) (fun i => P0 i ++ P1 i) (fun i hi => by omega)
        rw [cellsStp] at this
        obtain ⟨fu, hfu⟩ := this
        exact ⟨fu, by rw [hx]; simpa [Value.cells] using hfu⟩
    · obtain ⟨b, off, spot⟩ := a
      have hspot : spot = none := by simpa [Addr.add] using World.cell?_spot (hall 0 h0).1
      subst hspot
      have hbl : b < W.heap.size := by
        have := (hall 0 h0).1
        unfold World.cell? at this
        simp only [Addr.add] at this
        split at this
        · rename_i hh; exact (Array.getElem?_eq_some_iff.1 hh).1
        · cases this
      refine ⟨(List.range len).map fun i => ⟨match V0 i with | .string s => s.data.toList | _ => [], match V1 i with | .int _ z => z | _ => 0⟩, ?_, by simp; omega, fun W' hW' => ?_⟩
      · refine .inr ⟨b, off, m, by simp, by simpa using hl, hbl, fun j x hj => ?_⟩
        rw [List.getElem?_map] at hj
        have hj1 : j < len := by
          rcases Nat.lt_or_ge j len with h | h
          · exact h
          · rw [List.getElem?_eq_none (by simpa using h)] at hj; cases hj
        rw [List.getElem?_eq_getElem (by simpa using hj1), List.getElem_range] at hj
        obtain ⟨l, e1, -, -, -⟩ := hstr j (by omega)
        obtain ⟨z, e2, -, -, -⟩ := hint j (by omega)
        have c0 := (hall j (by omega)).1
        have c1 := (hall j (by omega)).2.1
        rw [e1] at c0
        rw [e2] at c1
        simp only [Option.map_some, Option.some.injEq] at hj
        subst hj
        simp only [e1, e2, S_data]
        rw [Lib.add_plain] at c0 c1
        exact ⟨c0, by rw [Nat.add_assoc]; exact c1⟩
      · have hcell : ∀ o, W'.cell? ⟨b, o, none⟩ = W.cell? ⟨b, o, none⟩ := fun o => hW'.cell (p := ⟨b, o, none⟩) hbl
        have := shut_slice_pairs_whole (enc := enc) (P := Tryd.prog) (w := W') (base := 0) (spare := fun b => decide (b < W.heap.size)) (held := true) Tryd.underlying22 Tryd.underlying37 cellsStp rfl rfl cellsS cellsI (b := b) (off := off) (len := len) (cap := m) hb hl hm (decide_eq_true hbl) V0 V1 D0 D1 P0 P1
          (fun i hi => by rw [hcell]; have := (hall i hi).1; rw [Lib.add_plain] at this; exact this)
          (fun i hi => by rw [hcell]; have := (hall i hi).2.1; rw [Lib.add_plain] at this; rw [Nat.add_assoc]; exact this)
          (fun i hi => by obtain ⟨l, e1, e2, e3, e4⟩ := hstr i hi; rw [e1, e2, e3]; exact shut_string_cell (H := H) (enc := enc) (P := Tryd.prog) (w := W') Tryd.underlying9 e4)
          (fun i hi => by obtain ⟨z, e1, e2, e3, e4⟩ := hint i hi; rw [e1, e2, e3]; exact shut_int (H := H) (enc := enc) (P := Tryd.prog) (w := W') Tryd.underlying3 e4)
        obtain ⟨fu, hfu⟩ := this
        exact ⟨fu, by rw [hx]; simpa [Value.cells] using hfu⟩
end Go.Proofs.YtpekkdgaeadepaaDoor
