/- strings.Split at one byte and strconv.Atoi, in one word each. -/
import Derived.Test.YtppbbalojbedpaaDoorSplit
import Derived.Test.YtppbbalojbedpaaDoorSemD
namespace Go.Proofs.YtppbbalojbedpaaDoor
open Go.RowKit

/-- the library's variable MaxLen holds a number -/
def MaxOk (w : World) : Prop := ∃ m : Int, w.cell? ⟨3, 0, none⟩ = some (.int .i64 m)
theorem cell_lt {w : World} {b o : Nat} {v : Value} (h : w.cell? ⟨b, o, none⟩ = some v) : b < w.heap.size := by
  rcases Nat.lt_or_ge b w.heap.size with hl | hl
  · exact hl
  · exfalso; simp [World.cell?, Array.getElem?_eq_none hl] at h
theorem MaxOk.below {w w' : World} (h : MaxOk w) (hb : Below w.heap.size w w') : MaxOk w' := by
  obtain ⟨m, hc⟩ := h
  exact ⟨m, (hb.cell (p := ⟨3, 0, none⟩) (cell_lt hc)).trans hc⟩
theorem Split_any (c : UInt8) (l : List UInt8) (hl : l.length ≤ 1000000) (w : World) (hM : MaxOk w) :
    Calls Tryd.prog 30 #[.string (S l), .string (S [c])] w fun e w' => e = .returned (.slice (some ⟨w.heap.size, 0, none⟩) (splitC c l).length (splitC c l).length) ∧ w' = w.alloc (.cells (scells (splitC c l)).toArray 9) := by
  obtain ⟨m, hm⟩ := hM
  refine (Tryd.strings_Split (S l) (S [c]) m w (by show l.length < _; omega) hm (by show 1 ≤ 1; omega)).mono ?_
  rintro e w' ⟨rfl, rfl⟩
  rw [countB_one, splitB_one, List.map_map]
  exact ⟨rfl, rfl⟩
def AtoiR (l : List UInt8) (w : World) (e : Ending) (w' : World) : Prop := Below w.heap.size w w' ∧ ∃ ev, e = .returned (.tuple #[.int .i64 (atoiI l), ev])
theorem Atoi_any (l : List UInt8) (hl : l.length ≤ 1000000) (w : World) (hE : NumOk w) : Calls Tryd.prog 31 #[.string (S l)] w (AtoiR l w) := by
  cases h : Lib.atoiAll l with
  | ok v =>
    refine (Tryd.strconv_Atoi_ok (S l) (by show l.length ≤ _; omega) v h w).mono ?_
    rintro e w' ⟨rfl, hw⟩
    refine ⟨?_, _, by unfold atoiI; rw [h]⟩
    rcases hw with rfl | ⟨t, rfl⟩
    · exact Below.refl _ _
    · exact Go.Joins.below_bytesWorld _ _ _ _ (Nat.le_refl _)
  | «syntax» =>
    obtain ⟨tp, p, hv⟩ := hE.es
    refine (Tryd.strconv_Atoi_syntax_var (S l) (by show l.length ≤ _; omega) h tp p w hv).mono ?_
    rintro e w' ⟨N, rfl, -, -, hb⟩
    exact ⟨hb, _, by unfold atoiI; rw [h]⟩
  | range =>
    obtain ⟨tp, p, hv⟩ := hE.er
    refine (Tryd.strconv_Atoi_range_var (S l) (by show l.length ≤ _; omega) h tp p w hv).mono ?_
    rintro e w' ⟨N, rfl, -, -, hb⟩
    exact ⟨hb, _, by unfold atoiI; rw [h]; rfl⟩
end Go.Proofs.YtppbbalojbedpaaDoor
