/- The reference's word: whether a text is one of the words. -/
import Derived.Test.YtpekkdgaeadepaaDoorRdA
namespace Go.Proofs.YtpekkdgaeadepaaDoor
open Go.RowKit

set_option maxRecDepth 100000 in
set_option maxHeartbeats 2000000 in
theorem refWord_any (l : List UInt8) (hl : l.length ≤ 1000000) (w : World) : Calls Tryd.prog 68 #[.string (S l)] w fun e w' => e = .returned (.bool (wordsL.contains l)) ∧ Below w.heap.size w w' := by
  obtain ⟨r, hr⟩ : ∃ r, wordsL.contains l = r := ⟨_, rfl⟩
  rw [hr]
  have HI := Lib.hid hr
  clear hr
  have hw := words_at w 9
  have hbw : Below w.heap.size w (w.alloc (.cells #[.string ⟨#[110, 117, 108, 108]⟩, .string ⟨#[116, 114, 117, 101]⟩, .string ⟨#[102, 97, 108, 115, 101]⟩, .string ⟨#[98, 111, 111, 108]⟩, .string ⟨#[105, 110, 116]⟩, .string ⟨#[110, 117, 109, 98, 101, 114]⟩, .string ⟨#[115, 116, 114, 105, 110, 103]⟩, .string ⟨#[108, 101, 116]⟩, .string ⟨#[105, 102]⟩, .string ⟨#[102, 111, 114]⟩, .string ⟨#[105, 110]⟩, .string ⟨#[112, 97, 99, 107, 97, 103, 101]⟩, .string ⟨#[105, 109, 112, 111, 114, 116]⟩] 9)) := (Below.refl _ _).alloc (Nat.le_refl _) _
  obtain ⟨W1, hW1⟩ : ∃ W1, W1 = w.alloc (.cells #[.string ⟨#[110, 117, 108, 108]⟩, .string ⟨#[116, 114, 117, 101]⟩, .string ⟨#[102, 97, 108, 115, 101]⟩, .string ⟨#[98, 111, 111, 108]⟩, .string ⟨#[105, 110, 116]⟩, .string ⟨#[110, 117, 109, 98, 101, 114]⟩, .string ⟨#[115, 116, 114, 105, 110, 103]⟩, .string ⟨#[108, 101, 116]⟩, .string ⟨#[105, 102]⟩, .string ⟨#[102, 111, 114]⟩, .string ⟨#[105, 110]⟩, .string ⟨#[112, 97, 99, 107, 97, 103, 101]⟩, .string ⟨#[105, 109, 112, 111, 114, 116]⟩] 9) := ⟨_, rfl⟩
  rw [← hW1] at hw hbw
  have HW := Lib.hid hw
  have HB := Lib.hid hbw
  have HE := Lib.hid hW1
  clear hw hbw hW1
  go_enter Tryd.func68, Tryd.ntmps68
  go_wp2_with fail
  refine (Words_any _).mono ?_
  rintro e w' ⟨rfl, hw'⟩
  rw [← HE.out] at hw'
  subst hw'
  go_wp2_with fail
  go_loop [4] (fun i => ∃ k : Nat, k ≤ 13 ∧ i = .int .i64 k ∧ Hid (l ∉ wordsL.take k)) (fun i => 13 - (intOf i).toNat)
  case atStart => exact ⟨0, by omega, rfl, by show l ∉ wordsL.take 0; simp⟩
  case round =>
    obtain ⟨k, hk, rfl, hh⟩ := hrel
    by_cases hlt : k < 13
    · have hcell := HW.out k hlt
      by_cases he : (wd wordsL k == l) = true
      · have hm : wordsL.contains l = true := by
          rw [List.contains_iff_mem]
          have : wd wordsL k = l := by simpa using he
          rw [← this, wd_get wordsL k hlt]; exact List.getElem_mem hlt
        have HR := Lib.hid (show r = true by rw [← HI.out, hm])
        clear hm
        go_wp2_with fail
        go_ret
        exact ⟨ret_bool HR.out.symm, HB.out⟩
      · have he' : (wd wordsL k == l) = false := by simpa using he
        have he2 : (l == wd wordsL k) = false := by
          rw [beq_eq_false_iff_ne] at he' ⊢; exact fun e => he' e.symm
        have HN := Lib.hid (contains_step hlt hh.out he2)
        clear he he2
        go_wp2_with fail
        go_round
        case rel => exact ⟨k + 1, by omega, by go_num, HN.out⟩
        case measure => simp [intOf]; omega
    · have hm : wordsL.contains l = false := by
        have := hh.out
        rw [List.take_of_length_le (by show 13 ≤ k; omega)] at this
        rw [← Bool.not_eq_true, List.contains_iff_mem]; exact this
      have HR := Lib.hid (show r = false by rw [← HI.out, hm])
      clear hm
      go_wp2_with fail
      go_ret
      exact ⟨ret_bool HR.out.symm, HB.out⟩
end Go.Proofs.YtpekkdgaeadepaaDoor
