/- Walks of the steps: what is valid. -/
import Derived.Handy
import Derived.LoopTactic
import Derived.Outline
import Derived.BigQuiet
import Derived.Test.YtpekkdgaeadepaaDoorStp
import Derived.Test.YtpekkdgaeadepaaDoorBlk
import Derived.Test.YtpekkdgaeadepaaDoorLab
namespace Go.Proofs.YtpekkdgaeadepaaDoor
open Go.RowKit

abbrev stv (x : Stp) : Value := .agg #[.string (S x.lab), .int .i64 x.idx]
/-- a slice of steps in memory -/
def SlS (W : World) (v : Value) (L : List Stp) : Prop :=
  ((∃ p cap, v = .slice p 0 cap) ∧ L = []) ∨ ∃ B o cap, v = .slice (some ⟨B, o, none⟩) L.length cap ∧ L.length ≤ cap ∧ B < W.heap.size ∧
    ∀ j x, L[j]? = some x → W.cell? ⟨B, o + j * 2, none⟩ = some (.string (S x.lab)) ∧ W.cell? ⟨B, o + j * 2 + 1, none⟩ = some (.int .i64 x.idx)
theorem SlS.below {W W' : World} {v : Value} {L : List Stp} (h : SlS W v L) (hb : Below W.heap.size W W') : SlS W' v L := by
  rcases h with h | ⟨B, o, cap, hv, hc, hB, hx⟩
  · exact .inl h
  · exact .inr ⟨B, o, cap, hv, hc, Nat.lt_of_lt_of_le hB hb.size, fun j x hj => ⟨(hb.cell (p := ⟨B, o + j * 2, none⟩) hB).trans (hx j x hj).1, (hb.cell (p := ⟨B, o + j * 2 + 1, none⟩) hB).trans (hx j x hj).2⟩⟩
theorem bool_two (b : Bool) : b = false ∨ b = true := by cases b <;> simp
/-- the four ways of a step -/
theorem okS_ways (l : List UInt8) (i : Int) : (l = [] ∧ i < 0 ∧ okS ⟨l, i⟩ = false) ∨ (l = [] ∧ 0 ≤ i ∧ 1000000 < i ∧ okS ⟨l, i⟩ = false) ∨ (l = [] ∧ 0 ≤ i ∧ i ≤ 1000000 ∧ okS ⟨l, i⟩ = true) ∨ (l.isEmpty = false ∧ (i == 0) = true ∧ okS ⟨l, i⟩ = true) ∨ (l.isEmpty = false ∧ (i == 0) = false ∧ okS ⟨l, i⟩ = false) := by
  unfold okS
  by_cases h : l = []
  · simp only [h, if_true, true_and]
    by_cases h0 : 0 ≤ i <;> by_cases h1 : i ≤ 1000000 <;> simp [h0, h1] <;> omega
  · by_cases h0 : i = 0 <;> simp [h, h0]
theorem valid_any (l : List UInt8) (i : Int) (w : World) : Calls Tryd.prog 24 #[stv ⟨l, i⟩] w fun e w' => e = .returned (.bool (okS ⟨l, i⟩)) ∧ Below w.heap.size w w' := by
  obtain ⟨r, hr⟩ : ∃ r, okS ⟨l, i⟩ = r := ⟨_, rfl⟩
  have hw := okS_ways l i
  rw [hr] at hw ⊢
  clear hr
  rcases hw with ⟨rfl, h1, rfl⟩ | ⟨rfl, h1, h2, rfl⟩ | ⟨rfl, h1, h2, rfl⟩ | ⟨h0, h1, rfl⟩ | ⟨h0, h1, rfl⟩
  all_goals
    go_enter Tryd.func24, Tryd.ntmps24
    go_wp2_with fail
    go_ret
    exact ⟨ret_bool (by first | rfl | (simp; omega)), by go_grown⟩
theorem Is_any (l : List UInt8) (i : Int) (w : World) : Calls Tryd.prog 25 #[stv ⟨l, i⟩] w fun e w' => e = .returned (.bool (okS ⟨l, i⟩)) ∧ Below w.heap.size w w' := by
  obtain ⟨r, hr⟩ : ∃ r, okS ⟨l, i⟩ = r := ⟨_, rfl⟩
  have hw := okS_ways l i
  rw [hr] at hw ⊢
  clear hr
  rcases hw with ⟨rfl, h1, rfl⟩ | ⟨rfl, h1, h2, rfl⟩ | ⟨rfl, h1, h2, rfl⟩ | ⟨h0, h1, rfl⟩ | ⟨h0, h1, rfl⟩
  all_goals
    go_enter Tryd.func25, Tryd.ntmps25
    go_wp2_with fail
    go_ret
    exact ⟨ret_bool (by first | rfl | (simp; omega)), by go_grown⟩
theorem okL_snoc (L : List Stp) (j : Nat) (h : j < L.length) (h1 : okL (L.take j) = true) : okL (L.take (j + 1)) = okS L[j] := by
  unfold okL at *
  rw [List.take_add_one, List.all_append, h1, List.getElem?_eq_getElem h]; simp
theorem okL_no (L : List Stp) (j : Nat) (h : j < L.length) (h1 : okS L[j] = false) : okL L = false := by
  unfold okL
  rw [List.all_eq_false]
  exact ⟨_, List.getElem_mem h, by simp [h1]⟩
theorem sl_cells {w wr : World} {B o : Nat} {L : List Stp} (hB : B < w.heap.size) (hx : ∀ j x, L[j]? = some x → w.cell? ⟨B, o + j * 2, none⟩ = some (.string (S x.lab)) ∧ w.cell? ⟨B, o + j * 2 + 1, none⟩ = some (.int .i64 x.idx)) (hb : Below w.heap.size w wr) (j : Nat) (h : j < L.length) :
    wr.cell? ⟨B, o + j * 2, none⟩ = some (.string (S L[j].lab)) ∧ wr.cell? ⟨B, o + j * 2 + 1, none⟩ = some (.int .i64 L[j].idx) :=
  ⟨(hb.cell (p := ⟨B, o + j * 2, none⟩) hB).trans (hx j _ (List.getElem?_eq_getElem h)).1, (hb.cell (p := ⟨B, o + j * 2 + 1, none⟩) hB).trans (hx j _ (List.getElem?_eq_getElem h)).2⟩
set_option maxHeartbeats 1000000 in
theorem Valid_any (v : Value) (L : List Stp) (w : World) (hv : SlS w v L) (hL : L.length ≤ 1000000) : Calls Tryd.prog 13 #[v] w fun e w' => e = .returned (.bool (okL L)) ∧ Below w.heap.size w w' := by
  obtain ⟨r, hr⟩ : ∃ r, okL L = r := ⟨_, rfl⟩
  rw [hr]
  have HR := Lib.hid hr
  clear hr
  rcases hv with ⟨⟨p0, cap0, rfl⟩, rfl⟩ | ⟨B, o, cap, rfl, hc, hB, hx⟩
  · have h : r = true := HR.out.symm
    subst h
    go_enter Tryd.func13, Tryd.ntmps13
    go_wp2_with fail
    go_loopw [7] (fun i wr => i = .int .i64 0 ∧ wr = w) (fun _ _ => 0)
    case atStart => exact ⟨rfl, rfl⟩
    case round =>
      obtain ⟨rfl, rfl⟩ := hrel
      go_wp2_with fail
      go_ret
      exact ⟨rfl, Below.refl _ _⟩
  · have HX := Lib.hid hx
    clear hx
    go_enter Tryd.func13, Tryd.ntmps13
    go_wp2_with fail
    go_loopw [7] (fun i wr => ∃ j : Nat, i = .int .i64 (j : Int) ∧ j ≤ L.length ∧ Hid (okL (L.take j) = true ∧ Below w.heap.size w wr)) (fun i _ => L.length - (intOf i).toNat)
    case atStart => exact ⟨0, rfl, Nat.zero_le _, Lib.hid ⟨rfl, Below.refl _ _⟩⟩
    case round =>
      obtain ⟨j, rfl, hj, HW⟩ := hrel
      by_cases hlt : j < L.length
      · have hx0 := sl_cells hB HX.out HW.out.2 j hlt
        obtain ⟨⟨lj, ij⟩, hxj⟩ : ∃ x, L[j] = x := ⟨_, rfl⟩
        have HXJ := Lib.hid hxj
        rw [hxj] at hx0
        obtain ⟨c0, c1⟩ := hx0
        clear hxj
        simp only at c0 c1
        go_wp2_with fail
        refine (valid_any lj ij _).mono ?_
        rintro e w1 ⟨rfl, hb1⟩
        have hb2 : Below w.heap.size w w1 := (HW.out.2.alloc HW.out.2.size _).trans (hb1.mono (by simp; exact Nat.le_succ_of_le HW.out.2.size))
        rcases bool_two (okS ⟨lj, ij⟩) with ho | ho
        · have h : r = false := by rw [← HR.out]; exact okL_no L j hlt (by rw [HXJ.out]; exact ho)
          subst h
          rw [ho]
          go_wp2_with fail
          go_ret
          exact ⟨rfl, hb2⟩
        · rw [ho]
          go_wp2_with fail
          go_roundw
          case rel => exact ⟨j + 1, rfl, hlt, Lib.hid ⟨by rw [okL_snoc L j hlt HW.out.1, HXJ.out]; exact ho, hb2⟩⟩
          case measure => simp [intOf]; omega
      · have h : r = true := by rw [← HR.out, ← HW.out.1, List.take_of_length_le (by omega)]
        subst h
        go_wp2_with fail
        go_ret
        exact ⟨rfl, HW.out.2⟩
set_option maxHeartbeats 1000000 in
theorem refValid_any (v : Value) (L : List Stp) (w : World) (hv : SlS w v L) (hL : L.length ≤ 1000000) : Calls Tryd.prog 14 #[v] w fun e w' => e = .returned (.bool (okL L)) ∧ Below w.heap.size w w' := by
  obtain ⟨r, hr⟩ : ∃ r, okL L = r := ⟨_, rfl⟩
  rw [hr]
  have HR := Lib.hid hr
  clear hr
  rcases hv with ⟨⟨p0, cap0, rfl⟩, rfl⟩ | ⟨B, o, cap, rfl, hc, hB, hx⟩
  · have h : r = true := HR.out.symm
    subst h
    go_enter Tryd.func14, Tryd.ntmps14
    go_wp2_with fail
    go_loopw [3] (fun i wr => i = .int .i64 0 ∧ wr = w) (fun _ _ => 0)
    case atStart => exact ⟨rfl, rfl⟩
    case round =>
      obtain ⟨rfl, rfl⟩ := hrel
      go_wp2_with fail
      go_ret
      exact ⟨rfl, Below.refl _ _⟩
  · have HX := Lib.hid hx
    clear hx
    go_enter Tryd.func14, Tryd.ntmps14
    go_wp2_with fail
    go_loopw [3] (fun i wr => ∃ j : Nat, i = .int .i64 (j : Int) ∧ j ≤ L.length ∧ Hid (okL (L.take j) = true ∧ Below w.heap.size w wr)) (fun i _ => L.length - (intOf i).toNat)
    case atStart => exact ⟨0, rfl, Nat.zero_le _, Lib.hid ⟨rfl, Below.refl _ _⟩⟩
    case round =>
      obtain ⟨j, rfl, hj, HW⟩ := hrel
      by_cases hlt : j < L.length
      · have hx0 := sl_cells hB HX.out HW.out.2 j hlt
        obtain ⟨⟨lj, ij⟩, hxj⟩ : ∃ x, L[j] = x := ⟨_, rfl⟩
        have HXJ := Lib.hid hxj
        rw [hxj] at hx0
        obtain ⟨c0, c1⟩ := hx0
        clear hxj
        simp only at c0 c1
        go_wp2_with fail
        refine (Is_any lj ij _).mono ?_
        rintro e w1 ⟨rfl, hb1⟩
        have hb2 : Below w.heap.size w w1 := HW.out.2.trans (hb1.mono HW.out.2.size)
        rcases bool_two (okS ⟨lj, ij⟩) with ho | ho
        · have h : r = false := by rw [← HR.out]; exact okL_no L j hlt (by rw [HXJ.out]; exact ho)
          subst h
          rw [ho]
          go_wp2_with fail
          go_ret
          exact ⟨rfl, hb2⟩
        · rw [ho]
          go_wp2_with fail
          go_roundw
          case rel => exact ⟨j + 1, rfl, hlt, Lib.hid ⟨by rw [okL_snoc L j hlt HW.out.1, HXJ.out]; exact ho, hb2⟩⟩
          case measure => simp [intOf]; omega
      · have h : r = true := by rw [← HR.out, ← HW.out.1, List.take_of_length_le (by omega)]
        subst h
        go_wp2_with fail
        go_ret
        exact ⟨rfl, HW.out.2⟩
def smallL (L : List Stp) : Bool := L.all (fun x => decide (x.lab.length ≤ 60)) && decide (L.length ≤ 20)
theorem small_no (L : List Stp) (j : Nat) (h : j < L.length) (h1 : 60 < L[j].lab.length) : smallL L = false := by
  unfold smallL
  have : L.all (fun x => decide (x.lab.length ≤ 60)) = false := by
    rw [List.all_eq_false]
    exact ⟨_, List.getElem_mem h, by simp; omega⟩
  rw [this]; rfl
theorem small_snoc (L : List Stp) (j : Nat) (h : j < L.length) (h1 : (L.take j).all (fun x => decide (x.lab.length ≤ 60)) = true) (h2 : L[j].lab.length ≤ 60) : (L.take (j + 1)).all (fun x => decide (x.lab.length ≤ 60)) = true := by
  rw [List.take_add_one, List.all_append, h1, List.getElem?_eq_getElem h]; simp [h2]
set_option maxHeartbeats 1000000 in
theorem Small_any (v : Value) (L : List Stp) (w : World) (hv : SlS w v L) (hL : L.length ≤ 281474976710656) : Calls Tryd.prog 11 #[v] w fun e w' => e = .returned (.bool (smallL L)) ∧ Below w.heap.size w w' := by
  obtain ⟨r, hr⟩ : ∃ r, smallL L = r := ⟨_, rfl⟩
  rw [hr]
  have HR := Lib.hid hr
  clear hr
  rcases hv with ⟨⟨p0, cap0, rfl⟩, rfl⟩ | ⟨B, o, cap, rfl, hc, hB, hx⟩
  · have h : r = true := HR.out.symm
    subst h
    go_enter Tryd.func11, Tryd.ntmps11
    go_wp2_with fail
    go_loopw [3] (fun i wr => i = .int .i64 0 ∧ wr = w) (fun _ _ => 0)
    case atStart => exact ⟨rfl, rfl⟩
    case round =>
      obtain ⟨rfl, rfl⟩ := hrel
      go_wp2_with fail
      go_ret
      exact ⟨rfl, Below.refl _ _⟩
  · have HX := Lib.hid hx
    clear hx
    go_enter Tryd.func11, Tryd.ntmps11
    go_wp2_with fail
    go_loopw [3] (fun i wr => wr = w ∧ ∃ j : Nat, i = .int .i64 (j : Int) ∧ j ≤ L.length ∧ Hid ((L.take j).all (fun x => decide (x.lab.length ≤ 60)) = true)) (fun i _ => L.length - (intOf i).toNat)
    case atStart => exact ⟨rfl, 0, rfl, Nat.zero_le _, Lib.hid rfl⟩
    case round =>
      obtain ⟨rfl, j, rfl, hj, HW⟩ := hrel
      by_cases hlt : j < L.length
      · have hx0 := sl_cells hB HX.out (Below.refl _ _) j hlt
        obtain ⟨⟨lj, ij⟩, hxj⟩ : ∃ x, L[j] = x := ⟨_, rfl⟩
        have HXJ := Lib.hid hxj
        rw [hxj] at hx0
        obtain ⟨c0, c1⟩ := hx0
        clear hxj
        simp only at c0 c1
        by_cases h60 : 60 < lj.length
        · have h : r = false := by rw [← HR.out]; exact small_no L j hlt (by rw [HXJ.out]; exact h60)
          subst h
          go_wp2_with fail
          go_ret
          exact ⟨rfl, Below.refl _ _⟩
        · go_wp2_with fail
          go_roundw
          case rel => exact ⟨by first | rfl | trivial, j + 1, rfl, hlt, Lib.hid (small_snoc L j hlt HW.out (by rw [HXJ.out]; simp only; omega))⟩
          case measure => simp [intOf]; omega
      · have h : decide (L.length ≤ 20) = r := by rw [← HR.out]; unfold smallL; rw [← List.take_of_length_le (show L.length ≤ j by omega), HW.out, List.take_of_length_le (show L.length ≤ j by omega)]; rfl
        have HH := Lib.hid h
        clear h
        go_wp2_with fail
        go_ret
        exact ⟨ret_bool (by rw [← HH.out]; first | rfl | (rw [Bool.eq_iff_iff]; simp; omega)), Below.refl _ _⟩
end Go.Proofs.YtpekkdgaeadepaaDoor
