/- The reference's Quote returns the literal of the string, for every string of at most 1000000 bytes. -/
import Derived.Test.YtpekkdgaeadepaaDoorWri
namespace Go.Proofs.YtpekkdgaeadepaaDoor
open Go.RowKit

theorem flat_take (l : List UInt8) (k : Nat) (h : k < l.length) : (l.take (k + 1)).flatMap escB = (l.take k).flatMap escB ++ escB (byt l k) := by
  rw [take_byt l k h, List.flatMap_append]; simp

set_option maxHeartbeats 400000 in
theorem refQuote_any (l : List UInt8) (hl : l.length ≤ 1000000) (w : World) : Calls Tryd.prog 42 #[.string (S l)] w fun e w' => e = .returned (.string (S (quoteL l))) ∧ Below w.heap.size w w' := by
  go_enter Tryd.func42, Tryd.ntmps42
  go_wp2_with fail
  go_loopw [3, 4] (fun o i wr => ∃ (k : Nat) (acc : List UInt8), k ≤ l.length ∧ i = .int .i64 k ∧ o = .string (S acc) ∧ acc.length ≤ 4 * k + 1 ∧ Hid (acc = 34 :: (l.take k).flatMap escB) ∧ Below w.heap.size w wr)
    (fun _ i _ => l.length - (intOf i).toNat)
  case atStart => exact ⟨0, [34], by omega, rfl, rfl, by simp, rfl, Below.refl _ _⟩
  case round =>
    obtain ⟨k, acc, hk, rfl, rfl, hacc, hh, hB⟩ := hrel
    by_cases hlt : k < l.length
    · have he := esc_len (byt l k)
      go_wp2_with (go_at_call 59; refine (written_any _ _).mono ?_; rintro e w' ⟨rfl, hb1⟩)
      go_roundw
      case rel => exact ⟨k + 1, ct acc (escB (byt l k)), by omega, by go_num, rfl, by rw [ct_len]; omega, by show ct acc _ = _; rw [hh.out, flat_take l k hlt, ct_eq]; rfl, hB.trans (hb1.mono hB.size)⟩
      case measure => simp [intOf]; omega
    · go_wp2_with fail
      go_ret
      exact ⟨ret_S (by rw [ct_eq, hh.out, List.take_of_length_le (by omega)]; rfl), hB⟩
end Go.Proofs.YtpekkdgaeadepaaDoor
