/- Walks of the steps: Parse. -/
import Derived.Laws.AppendOwn
import Derived.Test.YtpekkdgaeadepaaDoorStI
import Derived.Test.YtpekkdgaeadepaaDoorStC
namespace Go.Proofs.YtpekkdgaeadepaaDoor
open Go.RowKit

/-! bounds of the readers -/
theorem runW_le (t : List UInt8) : runW t ≤ t.length := by unfold runW; exact List.Sublist.length_le (List.takeWhile_sublist _)
theorem wrongN_le (l : List UInt8) : wrongN l ≤ l.length := by
  unfold wrongN
  cases h : (List.range l.length).find? (badAt l) with
  | none => simp
  | some k => have := List.mem_of_find?_eq_some h; simp at this ⊢; omega
theorem identB_nil : identB [] = false := rfl
theorem nameP_le (t : List UInt8) : (nameP t).2.1 ≤ t.length + 1 ∧ ((nameP t).2.2 = true → 1 ≤ (nameP t).2.1 ∧ (nameP t).2.1 ≤ t.length) := by
  have h1 := runW_le t
  unfold nameP
  split
  · rename_i h
    refine ⟨by simp only; omega, fun _ => ⟨?_, h1⟩⟩
    rcases Nat.eq_zero_or_pos (runW t) with h0 | h0
    · rw [h0] at h; rw [List.take_zero, identB_nil] at h; cases h
    · exact h0
  · have := wrongN_le (t.take (runW t))
    rw [List.length_take] at this
    exact ⟨by simp only; omega, fun h => by cases h⟩
theorem qscan_le (t : List UInt8) : ∀ f i, i ≤ t.length → (qscan t f i).1 ≤ t.length + 1
  | 0, i, h => by rw [qscan]; simp only; omega
  | f + 1, i, h => by
    rw [qscan]
    split
    · simp only; omega
    · split
      · simp only; omega
      · split
        · have he := escP_le (sl t i t.length)
          have hs := sl_len t i t.length h (Nat.le_refl _)
          rw [hs] at he
          split
          · rename_i h1; exact qscan_le t f _ (by have := he.2 h1; omega)
          · simp only; omega
        · split
          · exact qscan_le t f _ (by omega)
          · simp only; omega
theorem labQ_le (t : List UInt8) (q : Nat × Bool) (hq : q.1 ≤ t.length + 1) : (labQ t q).2.1 ≤ t.length + 1 ∧ ((labQ t q).2.2 = true → 1 ≤ (labQ t q).2.1 ∧ (labQ t q).2.1 ≤ t.length) := by
  unfold labQ
  split
  · exact ⟨hq, fun h => by cases h⟩
  · split
    · exact ⟨by simp only; omega, fun h => by cases h⟩
    · split
      · exact ⟨hq, fun h => by cases h⟩
      · exact ⟨by simp only; omega, fun _ => ⟨by simp only; omega, by simp only; omega⟩⟩
theorem labP_le (t : List UInt8) : (labP t).2.1 ≤ t.length + 1 ∧ ((labP t).2.2 = true → 1 ≤ (labP t).2.1 ∧ (labP t).2.1 ≤ t.length) := by
  unfold labP
  split
  · exact nameP_le t
  · rename_i h
    have hl : 1 ≤ t.length := by cases t with
      | nil => exact absurd rfl h
      | cons => simp
    exact labQ_le t _ (qscan_le t _ _ hl)
theorem iscan_le (t : List UInt8) : ∀ f i, i ≤ t.length → (iscan t f i).1 ≤ t.length
  | 0, i, h => by rw [iscan]; exact h
  | f + 1, i, h => by
    rw [iscan]
    split
    · exact h
    · split
      · exact h
      · split
        · exact h
        · split
          · exact h
          · exact iscan_le t f _ (by omega)
theorem idxP_le (t : List UInt8) (h0 : 0 < t.length) : (idxP t).2.1 ≤ t.length + 1 ∧ ((idxP t).2.2 = true → 1 ≤ (idxP t).2.1 ∧ (idxP t).2.1 ≤ t.length) := by
  have hq := iscan_le t t.length 1 h0
  unfold idxP
  generalize iscan t t.length 1 = q at hq
  unfold idxQ
  split
  · exact ⟨by simp only; omega, fun h => by cases h⟩
  · split
    · exact ⟨by simp only; omega, fun h => by cases h⟩
    · rename_i h1
      simp at h1
      exact ⟨by simp only; omega, fun _ => ⟨by simp only; omega, by simp only; omega⟩⟩
/-- the reader at an offset: what it hands back and where it has begun -/
def rdAt (s : List UInt8) (a : Nat) (L : List Stp) : (Stp × Nat × Bool) × Nat :=
  if decide (a < s.length) && isB (byt s a) 91 then (idxP (sl s a s.length), a) else if L.isEmpty then (labP (sl s a s.length), a) else (labP (sl s (a + 1) s.length), a + 1)
def pgo (s : List UInt8) : Nat → Nat → List Stp → List Stp × Nat × Nat
  | 0, _, L => (L, 0, 0)
  | f + 1, a, L =>
    if !decide (a < s.length) && !L.isEmpty then (L, 0, 0)
    else if !(decide (a < s.length) && isB (byt s a) 91) && (!L.isEmpty && !isB (byt s a) 46) then ([], 8, a)
    else if (rdAt s a L).1.2.2 then pgo s f ((rdAt s a L).2 + (rdAt s a L).1.2.1) (L ++ [(rdAt s a L).1.1]) else ([], 8, (rdAt s a L).2 + (rdAt s a L).1.2.1)
def parseP (s : List UInt8) : List Stp × Nat × Nat :=
  if 65536 < s.length then ([], 2, 0) else if s == [46] then ([], 0, 0) else if !s.isEmpty && isB (byt s 0) 46 then ([], 8, 1) else pgo s (s.length + 1) 0 []
/-! the list in memory -/
def flatC (L : List Stp) : List Value := L.flatMap fun x => [.string (S x.lab), .int .i64 x.idx]
theorem flat_snoc (L : List Stp) (x : Stp) : flatC (L ++ [x]) = flatC L ++ [.string (S x.lab), .int .i64 x.idx] := by unfold flatC; simp
theorem flatC_len (L : List Stp) : (flatC L).length = L.length * 2 := by
  induction L with
  | nil => rfl
  | cons x r ih => unfold flatC at *; simp [ih]; omega
theorem flat_get : ∀ (L : List Stp) (j : Nat) (x : Stp), L[j]? = some x → (flatC L)[j * 2]? = some (.string (S x.lab)) ∧ (flatC L)[j * 2 + 1]? = some (.int .i64 x.idx)
  | [], _, _, h => by simp at h
  | y :: r, 0, x, h => by simp at h; subst h; exact ⟨rfl, rfl⟩
  | y :: r, j + 1, x, h => by
    have := flat_get r j x (by simpa using h)
    rw [show (j + 1) * 2 = j * 2 + 2 by omega, show j * 2 + 2 + 1 = (j * 2 + 1) + 2 by omega]
    exact this
/-- the list's row after the fault's variable is written -/
theorem own_SlS {W : World} {base : Nat} {v : Value} {L : List Stp} (h : W.ownsRow base 37 2 v L.length (flatC L)) (W' : World) (hs : W.heap.size ≤ W'.heap.size) (hc : ∀ g o u, base ≤ g → W.cell? ⟨g, o, none⟩ = some u → W'.cell? ⟨g, o, none⟩ = some u) : SlS W' v L := by
  rcases h.2 with ⟨hv, h0⟩ | ⟨g, cap, cur, rfl, hb, hg, hcap, hm, hsp, ht⟩
  · exact .inl ⟨⟨_, _, hv⟩, List.eq_nil_of_length_eq_zero h0⟩
  · refine .inr ⟨g, 0, cap, rfl, hcap, Nat.lt_of_lt_of_le (Array.getElem?_eq_some_iff.1 hg).1 hs, fun j x hj => ?_⟩
    obtain ⟨h1, h2⟩ := flat_get L j x hj
    have k1 := h.cells (g := g) rfl _ _ h1
    have k2 := h.cells (g := g) rfl _ _ h2
    rw [Lib.add_plain, Nat.zero_add] at k1 k2
    rw [Nat.zero_add]
    exact ⟨hc _ _ _ hb k1, hc _ _ _ hb k2⟩
theorem set_keeps {W : World} {B base : Nat} (hB : B < base) (u0 u1 : Value) : ∀ g o u, base ≤ g → W.cell? ⟨g, o, none⟩ = some u → ((W.setCell ⟨B, 0, none⟩ u0).setCell ⟨B, 1, none⟩ u1).cell? ⟨g, o, none⟩ = some u := by
  intro g o u hg h
  rw [World.cell?_setCell_other _ _ _ _ (by intro e; injection e; omega), World.cell?_setCell_other _ _ _ _ (by intro e; injection e; omega)]
  exact h
def ParR (r : List Stp × Nat × Nat) (w : World) (e : Ending) (w' : World) : Prop :=
  ∃ v, e = .returned (.tuple #[v, .agg #[.int .i64 (r.2.1 : Int), .int .i64 (r.2.2 : Int)]]) ∧ SlS w' v r.1 ∧ Below w.heap.size w w'
theorem infoStp : (Tryd.prog.info? 37).map (fun i => (i.zero, i.size, i.bytes)) = some (some (.agg #[.string ⟨#[]⟩, .int .i64 0]), 2, 24) := by kernel_rfl
end Go.Proofs.YtpekkdgaeadepaaDoor
