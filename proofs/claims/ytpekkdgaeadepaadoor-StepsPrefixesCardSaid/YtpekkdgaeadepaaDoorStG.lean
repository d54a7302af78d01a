/- An argument that is a list of steps is nil, or its row lies at an address. -/
import Derived.Test.YtpekkdgaeadepaaDoorStF
namespace Go.Proofs.YtpekkdgaeadepaaDoor
open Go.ChangeShapes Go.WideShapes Go.ChangeAt Go.RowKit Go.Deep

set_option maxRecDepth 100000 in
theorem steps_row {H : Type} {enc : TypeId × Value → H} {W : World} {base : Nat} {v : Value} {d : DataW H} {p : List MemPlace} (hok : Value.okWide Tryd.prog W .any base 22 v)
    (h : DataW.Trod enc Tryd.prog W 0 (fun _ => true) true 22 v d p) : v = .slice none 0 0 ∨ ∃ ad n cap, v = .slice (some ad) n cap := by
  obtain ⟨a0, len0, cap0, rfl⟩ := okWide_slice Tryd.underlying22 hok
  obtain ⟨n, h⟩ := h
  rcases open_slice_pairs Tryd.underlying22 Tryd.underlying37 cellsStp rfl rfl cellsS cellsI h with ⟨hc, hx⟩ | ⟨a, len, cap, m, k, V0, V1, D0, D1, P0, P1, hc, hb, hl, hm, hmm, hx, hall⟩
  · exact .inl (by simpa [Value.cells] using hc)
  · exact .inr ⟨a, len, cap, by simpa [Value.cells] using hc⟩
end Go.Proofs.YtpekkdgaeadepaaDoor
