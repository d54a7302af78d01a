/- How long a list of entries that can be read is: what the row's own reach says. -/
import Derived.SizedLaws
import Derived.Test.YtoahmganodehkaaGreatDoorM14
namespace Go.Proofs.YtoahmganodehkaaGreatDoor
set_option linter.unusedSimpArgs false
set_option linter.unusedVariables false
open Go.ChangeShapes Go.WideShapes Go.ChangeAt Go.RowKit

theorem bytes_ent : Tryz.prog.bytesOf 42 = 104 := by kernel_rfl
theorem list_len {H : Type} {enc : TypeId × Value → H} {W : World} {v : Value} {d : DataW H} {p : List MemPlace} {L : List Ent} {ok : Nat → Prop} (h : DataW.Trod enc Tryz.prog W 0 (fun _ => true) true 37 v d p) (he : EntR W ok v L) :
    L = [] ∨ ∃ es sp, d = .slice es sp ∧ es.length = L.length := by
  obtain ⟨n, hn⟩ := h
  obtain ⟨p', c', B, o, rfl, -⟩ := he.open
  have hn' : DataW.trod enc Tryz.prog W 0 (fun _ => true) true n 37 [.slice p' L.length c'] = some (d, p) := by simpa [Value.cells] using hn
  rcases DataW.trod_slice Tryz.underlying37 hn' with ⟨hc, -⟩ | ⟨a, len, cap, elems, rest, q, hq, hc, hx, hb, hl, hcap, hle, -⟩
  · injection hc with hc _
    injection hc with _ h0 _
    exact .inl (List.length_eq_zero_iff.1 h0)
  · injection hc with hc _
    injection hc with _ h0 _
    injection hx with hx _
    exact .inr ⟨_, _, hx, by rw [List.length_map, hle, ← h0]⟩
theorem list_size {H : Type} {enc : TypeId × Value → H} {W : World} {v : Value} {d : DataW H} {p : List MemPlace} {L : List Ent} {ok : Nat → Prop} (h : DataW.Trod enc Tryz.prog W 0 (fun _ => true) true 37 v d p) (he : EntR W ok v L)
    (hsz : (DataW.weightsEach Tryz.prog [37] [d]).all (· ≤ reachBytes) = true) : L.length * 104 ≤ 140737488355328 := by
  rcases list_len h he with rfl | ⟨es, sp, rfl, hl⟩
  · simp
  · have h1 := sized_slice hsz (j := 0) (t := 37) (e := 42) rfl rfl Tryz.underlying37
    rw [bytes_ent, hl] at h1
    have h2 : reachBytes < 2 ^ 47 := reachBytes_lt
    have h3 : L.length * 104 ≤ (L.length + sp.length) * 104 := Nat.mul_le_mul_right _ (Nat.le_add_right _ _)
    omega
end Go.Proofs.YtoahmganodehkaaGreatDoor
