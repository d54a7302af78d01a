import Derived.Sort.Grow
import Derived.Test.YtdalfkklkeblaaaGreatDoorN06
namespace Go.Proofs.YtdalfkklkeblaaaGreatDoor
set_option linter.unusedSimpArgs false
set_option linter.unusedVariables false
open Go.RowKit Go.Sort
def Bel (N : Nat) (w w' : World) : Prop := Below N w w' ∧ w.drawn ≤ w'.drawn
theorem Bel.refl (N : Nat) (w : World) : Bel N w w := ⟨Below.refl _ _, Nat.le_refl _⟩
theorem Bel.trans {N : Nat} {a b c : World} (h : Bel N a b) (k : Bel N b c) : Bel N a c := ⟨h.1.trans k.1, Nat.le_trans h.2 k.2⟩
theorem Bel.mono {N M : Nat} {a b : World} (h : Bel N a b) (hm : M ≤ N) : Bel M a b := ⟨h.1.mono hm, h.2⟩
theorem Bel.alloc {N : Nat} {a b : World} (h : Bel N a b) (hN : N ≤ b.heap.size) (o : Obj) : Bel N a (b.alloc o) := ⟨h.1.alloc hN o, h.2⟩
theorem Bel.drew {N : Nat} {a b : World} (h : Bel N a b) : Bel N a b.drew := ⟨below_drew h.1, Nat.le_succ_of_le h.2⟩
theorem Bel.drewN {N : Nat} {a b : World} (h : Bel N a b) (n : Nat) : Bel N a (b.drewN n) := ⟨below_drewN h.1 n, Nat.le_trans h.2 (Nat.le_add_right _ _)⟩
theorem Bel.grows {w w' : World} (h : Bel w.heap.size w w') : ∃ q os', w' = grow (w.drewN q) os' := by
 obtain ⟨⟨h1, h2, h3, h4, h5⟩, h6⟩ := h
 refine ⟨w'.drawn - w.drawn, w'.heap.extract w.heap.size w'.heap.size, ?_⟩
 obtain ⟨hp, tp, dr, os, out⟩ := w
 obtain ⟨hp', tp', dr', os', out'⟩ := w'
 simp only at h1 h2 h3 h4 h5 h6
 subst h1; subst h2; subst h3
 have e : dr' = dr + (dr' - dr) := by omega
 have eh : hp' = hp ++ hp'.extract hp.size hp'.size := ?_
 · simp only [grow, World.drewN]
   rw [← e, ← eh]
 apply Array.ext
 · simp; omega
 · intro i g1 g2
   by_cases hi : i < hp.size
   · rw [Array.getElem_append_left hi]
     have := h5 i hi
     rw [Array.getElem?_eq_getElem g1, Array.getElem?_eq_getElem hi] at this
     exact Option.some.inj this
   · rw [Array.getElem_append_right (by omega)]
     simp only [Array.getElem_extract]
     congr 1
     omega
end Go.Proofs.YtdalfkklkeblaaaGreatDoor
