/- The reference's Escape: the byte that an escape stands for and its length, as the plain function 'unesc' says, at every offset of a backslash. -/
import Derived.Test.YtpekkdgaeadepaaDoorHex
namespace Go.Proofs.YtpekkdgaeadepaaDoor
open Go.RowKit

theorem unesc_end (l : List UInt8) (i : Nat) (h : l.length ≤ i + 1) : unesc (l.drop i) = (0, 0) := by
  have : (l.drop i).length ≤ 1 := by rw [List.length_drop]; omega
  match hd : l.drop i, this with
  | [], _ => rfl
  | [_], _ => rfl
theorem unesc_at (l : List UInt8) (i : Nat) (h : i + 1 < l.length) : unesc (l.drop i) =
    if byt l (i + 1) = 34 ∨ byt l (i + 1) = 92 then (byt l (i + 1), 2) else if byt l (i + 1) = 110 then (10, 2) else if byt l (i + 1) = 116 then (9, 2) else if byt l (i + 1) = 114 then (13, 2)
    else if byt l (i + 1) = 120 then (if i + 3 < l.length then (match hexTwo (byt l (i + 2)) (byt l (i + 3)) with | some x => (x, 4) | none => (0, 0)) else (0, 0)) else (0, 0) := by
  rw [drop_byt l i (by omega), drop_byt l (i + 1) h]
  simp only [unesc]
  by_cases h3 : i + 3 < l.length
  · rw [if_pos h3, drop_byt l (i + 1 + 1) (by omega), drop_byt l (i + 1 + 1 + 1) (by omega)]
    rfl
  · rw [if_neg h3]
    have : (l.drop (i + 1 + 1)).length ≤ 1 := by rw [List.length_drop]; omega
    match hd : l.drop (i + 1 + 1), this with
    | [], _ => rfl
    | [_], _ => rfl
theorem hexTwo_none {a b : UInt8} (h : hexI a < 0 ∨ hexI b < 0) : hexTwo a b = none := by
  unfold hexI at h; unfold hexTwo
  rcases h with h | h
  · cases ha : hexVal a with
    | none => rfl
    | some v => rw [ha] at h; simp at h; omega
  · cases hb : hexVal b with
    | none => cases hexVal a <;> rfl
    | some v => rw [hb] at h; simp at h; omega
theorem hexI_lt (c : UInt8) : -1 ≤ hexI c ∧ hexI c < 16 := by
  rw [hexI_nat]; (repeat' split) <;> omega
theorem hexTwo_some {a b : UInt8} (ha : 0 ≤ hexI a) (hb : 0 ≤ hexI b) : ∃ x, hexTwo a b = some x ∧ (x.toNat : Int) = 16 * hexI a + hexI b := by
  have h1 := hexI_lt a
  have h2 := hexI_lt b
  unfold hexI at *; unfold hexTwo
  cases hva : hexVal a with
  | none => rw [hva] at ha; simp at ha
  | some v =>
    cases hvb : hexVal b with
    | none => rw [hvb] at hb; simp at hb
    | some u =>
      rw [hva] at h1; rw [hvb] at h2
      simp at h1 h2
      refine ⟨_, rfl, ?_⟩
      simp
      omega

def uneVal (r : UInt8 × Nat) : Value := .tuple #[.int .u8 (r.1.toNat : Int), .int .i64 (r.2 : Int)]
theorem ret_une {r : UInt8 × Nat} {a : UInt8} {n : Nat} (h : r = (a, n)) : Ending.returned (.tuple #[.int .u8 (a.toNat : Int), .int .i64 (n : Int)]) = .returned (uneVal r) := by rw [h]; rfl

end Go.Proofs.YtpekkdgaeadepaaDoor