/- Rows of bytes in memory (for the steps). -/
import Derived.OpenShut
import Derived.Laws.MakeOwn
import Derived.Test.YtpekkdgaeadepaaDoorLa10
namespace Go.Proofs.YtpekkdgaeadepaaDoor
open Go.RowKit

/-- block g is a row of the bytes l -/
def BRow (w : World) (g : Nat) (l : List UInt8) : Prop := w.heap[g]? = some (.cells (bcells l).toArray 5 (0, 0))
theorem BRow.lt {w : World} {g : Nat} {l : List UInt8} (h : BRow w g l) : g < w.heap.size := (Array.getElem?_eq_some_iff.1 h).1
theorem bcells_get (l : List UInt8) (j : Nat) (h : j < l.length) : (bcells l)[j]? = some (.int .u8 ((byt l j).toNat : Int)) := by
  rw [byt_get l j h]; simp [bcells, List.getElem?_eq_getElem h]
theorem BRow.cell {w : World} {g : Nat} {l : List UInt8} (h : BRow w g l) (j : Nat) (hj : j < l.length) : w.cell? ⟨g, j, none⟩ = some (.int .u8 ((byt l j).toNat : Int)) := by
  simp only [World.cell?, show w.heap[g]? = _ from h]
  simpa using bcells_get l j hj
theorem BRow.frozen {w : World} {g : Nat} {l : List UInt8} (h : BRow w g l) (j : Nat) : w.frozen? ⟨g, j, none⟩ = false := by
  simp [World.frozen?, show w.heap[g]? = _ from h]
theorem BRow.set {w : World} {g : Nat} {l : List UInt8} (h : BRow w g l) (j : Nat) (x : UInt8) : BRow (w.setCell ⟨g, j, none⟩ (.int .u8 (x.toNat : Int))) g (l.set j x) := by
  unfold BRow at h ⊢
  simp [World.setCell, Array.getElem?_modify, h, bcells, List.map_set]
theorem BRow.below {w w' : World} {g : Nat} {l : List UInt8} (h : BRow w g l) (hb : Below w.heap.size w w') : BRow w' g l := (hb.block g h.lt).trans h
theorem made_cells (n : Nat) : madeCells #[.int .u8 0] n = (bcells (List.replicate n 0)).toArray := by
  apply Array.ext (by simp [madeCells, bcells])
  intro i h1 h2
  simp [madeCells, bcells, Nat.mod_one]
theorem made_row (w : World) (n : Nat) : BRow (w.alloc (.cells (madeCells #[.int .u8 0] n) 5)) w.heap.size (List.replicate n 0) := by
  refine (heap_alloc_new w _).trans ?_
  rw [made_cells]
theorem rep_set (n k : Nat) (c : UInt8) (h : k < n) : (List.replicate k c ++ List.replicate (n - k) (0 : UInt8)).set k c = List.replicate (k + 1) c ++ List.replicate (n - (k + 1)) 0 := by
  rw [List.set_append_right _ _ (by simp), List.length_replicate, Nat.sub_self, show n - k = (n - (k + 1)) + 1 by omega, List.replicate_succ, List.set_cons_zero, List.replicate_succ', List.append_assoc]; rfl
theorem rep_ends (n : Nat) (c : UInt8) : ((List.replicate (n + 2) c).set 0 34).set (n + 1) 34 = 34 :: (List.replicate n c ++ [34]) := by
  rw [List.replicate_succ, List.set_cons_zero, List.set_cons_succ, List.replicate_succ', List.set_append_right _ _ (by simp)]
  simp
theorem bytes_conv_at {w : World} {g : Nat} {p l q : List UInt8} (h : BRow w g (p ++ (l ++ q))) (cap : Nat) : (convert 33 9 (.slice (some ⟨g, p.length, none⟩) l.length cap)).run Tryd.prog w = .ok (.string (S l)) w :=
  conv_at w _ _ 5 _ cap l Tryd.underlying33 Tryd.underlying5 Tryd.underlying9 (fun j u hj => by
    have hl : j < l.length := by have := (List.getElem?_eq_some_iff.1 hj).1; rwa [bcells_len] at this
    rw [bcells_get l j hl] at hj
    cases hj
    have hc := h.cell (p.length + j) (by simp; omega)
    rw [show byt (p ++ (l ++ q)) (p.length + j) = byt l j by unfold byt; rw [List.getD_eq_getElem?_getD, List.getD_eq_getElem?_getD, List.getElem?_append_right (by omega), Nat.add_sub_cancel_left, List.getElem?_append_left hl]] at hc
    by_cases hj0 : j = 0
    · subst hj0; simpa [Addr.add] using hc
    · simpa [Addr.add, hj0] using hc)
theorem bytes_conv {w : World} {g : Nat} {l : List UInt8} (h : BRow w g l) (cap : Nat) : (convert 33 9 (.slice (some ⟨g, 0, none⟩) l.length cap)).run Tryd.prog w = .ok (.string (S l)) w :=
  bytes_conv_at (p := []) (q := []) (by simpa using h) cap

theorem esc_plain : ∀ c : UInt8, 35 ≤ c.toNat → c.toNat ≤ 91 → escB c = [c] :=
  forall_u8 (P := fun c => 35 ≤ c.toNat → c.toNat ≤ 91 → escB c = [c]) (by decide +kernel)
theorem quote_rep (n : Nat) (c : UInt8) (h1 : 35 ≤ c.toNat) (h2 : c.toNat ≤ 91) : quoteL (List.replicate n c) = 34 :: (List.replicate n c ++ [34]) := by
  have : (List.replicate n c).flatMap escB = List.replicate n c := by
    induction n with
    | zero => rfl
    | succ n ih => rw [List.replicate_succ, List.flatMap_cons, ih, esc_plain c h1 h2]; rfl
  unfold quoteL; rw [this]
theorem unq_long (l : List UInt8) (h : 65536 < l.length) : unqL l = ([], 2, 0) := by unfold unqL; rw [if_pos h]

end Go.Proofs.YtpekkdgaeadepaaDoor
