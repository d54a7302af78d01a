/- A list of words in memory: slices.Index and slices.Contains of strings; the words that are no identifiers. -/
import Derived.Handy
import Derived.Test.YtpekkdgaeadepaaDoorByt
namespace Go.Proofs.YtpekkdgaeadepaaDoor
open Go.RowKit

/-- word j of a list -/
def wd (ws : List (List UInt8)) (j : Nat) : List UInt8 := ws.getD j []
theorem wd_get (ws : List (List UInt8)) (j : Nat) (h : j < ws.length) : wd ws j = ws[j] := by simp [wd, List.getD, List.getElem?_eq_getElem h]
/-- the words lie in block b -/
def WordsAt (w : World) (b : Nat) (ws : List (List UInt8)) : Prop := ∀ j, j < ws.length → w.cell? ⟨b, j, none⟩ = some (.string (S (wd ws j)))
theorem contains_step {ws : List (List UInt8)} {x : List UInt8} {k : Nat} (hk : k < ws.length) (h : x ∉ ws.take k) (hne : (x == wd ws k) = false) : x ∉ ws.take (k + 1) := by
  rw [List.take_succ_eq_append_getElem hk, List.mem_append]
  rintro (hm | hm)
  · exact h hm
  · simp at hm; rw [wd_get ws k hk, hm] at hne; simp at hne

def IdxPost (ws : List (List UInt8)) (x : List UInt8) (e : Ending) : Prop := ∃ r : Int, e = .returned (.int .i64 r) ∧ decide (0 ≤ r) = ws.contains x

set_option maxHeartbeats 400000 in
theorem Index_any (b cap : Nat) (ws : List (List UInt8)) (x : List UInt8) (w : World) (hn : ws.length ≤ 1000000) (hc : WordsAt w b ws) :
    Calls Tryd.prog 73 #[.slice (some ⟨b, 0, none⟩) ws.length cap, .string (S x)] w fun e w' => IdxPost ws x e ∧ w = w' := by
  have HC := Lib.hid hc; clear hc
  go_enter Tryd.func73, Tryd.ntmps73
  go_wp2_with fail
  go_loop [8] (fun i => ∃ k : Nat, k ≤ ws.length ∧ i = .int .i64 k ∧ Hid (x ∉ ws.take k)) (fun i => ws.length - (intOf i).toNat)
  case atStart => exact ⟨0, by omega, rfl, by show x ∉ ws.take 0; simp⟩
  case round =>
    obtain ⟨k, hk, rfl, hh⟩ := hrel
    by_cases hlt : k < ws.length
    · have hcell := HC.out k hlt
      by_cases he : (x == wd ws k) = true
      · go_wp2
        go_ret
        have hm : ws.contains x = true := by
          rw [List.contains_iff_mem]
          have : x = wd ws k := by simpa using he
          rw [this, wd_get ws k hlt]; exact List.getElem_mem hlt
        exact ⟨⟨(k : Int), rfl, by rw [hm]; simp⟩, rfl⟩
      · have he' : (x == wd ws k) = false := by simpa using he
        clear he
        go_wp2
        go_round
        case rel => exact ⟨k + 1, by omega, by go_num, contains_step hlt hh.out he'⟩
        case measure => simp [intOf]; omega
    · go_wp2
      go_ret
      have hm : ws.contains x = false := by
        have := hh.out
        rw [List.take_of_length_le (by omega)] at this
        rw [← Bool.not_eq_true, List.contains_iff_mem]; exact this
      exact ⟨⟨-1, rfl, by rw [hm]; decide⟩, rfl⟩

set_option maxHeartbeats 400000 in
theorem Contains_any (b cap : Nat) (ws : List (List UInt8)) (x : List UInt8) (w : World) (hn : ws.length ≤ 1000000) (hc : WordsAt w b ws) :
    Calls Tryd.prog 53 #[.slice (some ⟨b, 0, none⟩) ws.length cap, .string (S x)] w fun e w' => e = .returned (.bool (ws.contains x)) ∧ w = w' := by
  have H := Lib.hid (Index_any b cap ws x w hn hc)
  clear hc
  generalize hq : ws.contains x = q
  have HQ := Lib.hid hq; clear hq
  go_enter Tryd.func53, Tryd.ntmps53
  go_wp2_with fail
  refine H.out.mono ?_
  rintro e w' ⟨⟨r, rfl, hr⟩, rfl⟩
  have HR := Lib.hid hr; clear hr H
  go_wp2
  go_ret
  exact ⟨ret_bool (HR.out.trans HQ.out), rfl⟩

theorem words_at (w : World) (t : TypeId) : WordsAt (w.alloc (.cells #[.string ⟨#[110, 117, 108, 108]⟩, .string ⟨#[116, 114, 117, 101]⟩, .string ⟨#[102, 97, 108, 115, 101]⟩, .string ⟨#[98, 111, 111, 108]⟩, .string ⟨#[105, 110, 116]⟩, .string ⟨#[110, 117, 109, 98, 101, 114]⟩, .string ⟨#[115, 116, 114, 105, 110, 103]⟩, .string ⟨#[108, 101, 116]⟩, .string ⟨#[105, 102]⟩, .string ⟨#[102, 111, 114]⟩, .string ⟨#[105, 110]⟩, .string ⟨#[112, 97, 99, 107, 97, 103, 101]⟩, .string ⟨#[105, 109, 112, 111, 114, 116]⟩] t)) w.heap.size wordsL := by
  intro j hj
  have hj' : j < 13 := hj
  rw [World.cell?_alloc_mark]
  match j, hj' with
  | 0, _ => rfl
  | 1, _ => rfl
  | 2, _ => rfl
  | 3, _ => rfl
  | 4, _ => rfl
  | 5, _ => rfl
  | 6, _ => rfl
  | 7, _ => rfl
  | 8, _ => rfl
  | 9, _ => rfl
  | 10, _ => rfl
  | 11, _ => rfl
  | 12, _ => rfl
end Go.Proofs.YtpekkdgaeadepaaDoor
