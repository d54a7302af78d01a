/- Walks of the versions: the specification's functions. -/
import Derived.Deep.RegionHeld3
import Derived.Test.YtppbbalojbedpaaDoorSemA
import Derived.Test.YtppbbalojbedpaaDoorDigits
namespace Go.Proofs.YtppbbalojbedpaaDoor
open Go.RowKit

theorem number_any (n : Int) (w : World) : Calls Tryd.prog 25 #[.int .i64 n] w fun e w' => e = .returned (.bool (numV n)) ∧ w = w' := by
  rcases bool_two (numV n) with hn | hn
  · rw [hn]
    rcases numV_cases n hn with h | ⟨h, h'⟩
    all_goals
      clear hn
      go_enter Tryd.func25, Tryd.ntmps25
      go_wp2_with fail
      go_ret
      exact ⟨ret_bool (by first | rfl | (simp; omega)), rfl⟩
  · rw [hn]
    obtain ⟨h1, h2⟩ := (numV_iff n).1 hn
    clear hn
    go_enter Tryd.func25, Tryd.ntmps25
    go_wp2_with fail
    go_ret
    exact ⟨ret_bool (by first | rfl | (simp; omega)), rfl⟩
theorem refValid_any (a b c : Int) (w : World) : Calls Tryd.prog 12 #[.agg #[.int .i64 a, .int .i64 b, .int .i64 c]] w fun e w' => e = .returned (.bool (vldV ⟨a, b, c⟩)) ∧ Below w.heap.size w w' := by
  have HV : Hid (vldV ⟨a, b, c⟩ = (numV a && numV b && numV c)) := Lib.hid rfl
  generalize vldV ⟨a, b, c⟩ = r at HV
  rcases bool_two (numV a) with h1 | h1 <;> rcases bool_two (numV b) with h2 | h2 <;> rcases bool_two (numV c) with h3 | h3
  all_goals
    have H1 := Lib.hid h1
    have H2 := Lib.hid h2
    have H3 := Lib.hid h3
    clear h1 h2 h3
    go_enter Tryd.func12, Tryd.ntmps12
    go_wp2_with (go_at_call 25; refine (number_any _ _).mono ?_; rintro e w' ⟨rfl, rfl⟩; first | rw [H1.out] | rw [H2.out] | rw [H3.out])
    go_ret
    exact ⟨ret_bool (by rw [HV.out, H1.out, H2.out, H3.out]; rfl), by go_grown⟩
theorem one_any (x y : Int) (w : World) : Calls Tryd.prog 33 #[.int .i64 x, .int .i64 y] w fun e w' => e = .returned (.int .i64 (cmpI x y)) ∧ w = w' := by
  have HC : Hid (cmpI x y = if x < y then -1 else if y < x then 1 else 0) := Lib.hid rfl
  generalize cmpI x y = r at HC
  by_cases h1 : x < y
  · go_enter Tryd.func33, Tryd.ntmps33
    go_wp2_with fail
    go_ret
    exact ⟨ret_i64 (by rw [HC.out, if_pos (by omega)]), rfl⟩
  · by_cases h2 : y < x
    · go_enter Tryd.func33, Tryd.ntmps33
      go_wp2_with fail
      go_ret
      exact ⟨ret_i64 (by rw [HC.out, if_neg (by omega), if_pos (by omega)]), rfl⟩
    · go_enter Tryd.func33, Tryd.ntmps33
      go_wp2_with fail
      go_ret
      exact ⟨ret_i64 (by rw [HC.out, if_neg (by omega), if_neg (by omega)]), rfl⟩
theorem refCompare_any (a b c x y z : Int) (w : World) : Calls Tryd.prog 21 #[.agg #[.int .i64 a, .int .i64 b, .int .i64 c], .agg #[.int .i64 x, .int .i64 y, .int .i64 z]] w fun e w' => e = .returned (.int .i64 (cmpV ⟨a, b, c⟩ ⟨x, y, z⟩)) ∧ Below w.heap.size w w' := by
  have HC : Hid (cmpV ⟨a, b, c⟩ ⟨x, y, z⟩ = if a ≠ x then cmpI a x else if b ≠ y then cmpI b y else cmpI c z) := Lib.hid rfl
  generalize cmpV ⟨a, b, c⟩ ⟨x, y, z⟩ = r at HC
  by_cases h1 : a = x
  · by_cases h2 : b = y
    · have H1 := Lib.hid h1
      have H2 := Lib.hid h2
      have t1 : (a != x) = false := by simpa using h1
      have t2 : (b != y) = false := by simpa using h2
      clear h1 h2
      go_enter Tryd.func21, Tryd.ntmps21
      go_wp2_with (go_at_call 33; refine (one_any _ _ _).mono ?_; rintro e w' ⟨rfl, rfl⟩)
      go_ret
      exact ⟨ret_i64 (by rw [HC.out, if_neg (fun h => h H1.out), if_neg (fun h => h H2.out)]), by go_grown⟩
    · have H1 := Lib.hid h1
      have H2 := Lib.hid h2
      have t1 : (a != x) = false := by simpa using h1
      have t2 : (b != y) = true := by simpa using h2
      clear h1 h2
      go_enter Tryd.func21, Tryd.ntmps21
      go_wp2_with (go_at_call 33; refine (one_any _ _ _).mono ?_; rintro e w' ⟨rfl, rfl⟩)
      go_ret
      exact ⟨ret_i64 (by rw [HC.out, if_neg (fun h => h H1.out), if_pos H2.out]), by go_grown⟩
  · have H1 := Lib.hid h1
    have t1 : (a != x) = true := by simpa using h1
    clear h1
    go_enter Tryd.func21, Tryd.ntmps21
    go_wp2_with (go_at_call 33; refine (one_any _ _ _).mono ?_; rintro e w' ⟨rfl, rfl⟩)
    go_ret
    exact ⟨ret_i64 (by rw [HC.out, if_pos H1.out]), by go_grown⟩
theorem digits_any (n : Nat) (hn : n ≤ 9999) (w : World) : Calls Tryd.prog 28 #[.int .i64 (n : Int)] w fun e w' => e = .returned (.string (S (Lib.decDigits n))) ∧ Below w.heap.size w w' := by
  go_enter Tryd.func28, Tryd.ntmps28
  go_wp2_with (go_at_call 38; refine (Digits_one n (by omega) _).mono ?_; rintro e w1 ⟨rfl, hb⟩)
  go_ret
  exact ⟨rfl, hb⟩
end Go.Proofs.YtppbbalojbedpaaDoor
