/- The scanner's number and literal. -/
import Derived.Test.YtadbilonialjnaaDoorTkA
namespace Go.Proofs.YtadbilonialjnaaDoor
open Go.RowKit

theorem tkNum_yes {l : List UInt8} (h : runN digitB l + 1 < l.length) (h46 : byt l (runN digitB l) = 46) (hd : digitB (byt l (runN digitB l + 1)) = true) : tkNum l = runN digitB l + 1 + runN digitB (l.drop (runN digitB l + 1)) := by
  unfold tkNum
  rw [drop_byt l _ (by omega), drop_byt l _ h]
  simp only
  rw [if_pos ⟨h46, hd⟩]
theorem tkNum_no {l : List UInt8} (h : ¬ (runN digitB l + 1 < l.length ∧ byt l (runN digitB l) = 46 ∧ digitB (byt l (runN digitB l + 1)) = true)) : tkNum l = runN digitB l := by
  unfold tkNum
  split
  · next c d t e =>
    by_cases hl : runN digitB l + 1 < l.length
    · rw [drop_byt l _ (by omega), drop_byt l _ hl] at e
      injection e with e1 e2
      injection e2 with e2 e3
      subst e1; subst e2
      rw [if_neg]
      rintro ⟨a, b⟩; exact h ⟨hl, a, b⟩
    · have := congrArg List.length e
      rw [List.length_drop] at this
      simp at this; omega
  · rfl

set_option maxRecDepth 100000 in
set_option maxHeartbeats 1000000 in
theorem tnumber_any (l : List UInt8) (hl : l.length ≤ 1000000) (w : World) : Calls Tryd.prog 36 #[.string (S l)] w fun e w' => e = .returned (.int .i64 (tkNum l)) ∧ w = w' := by
  go_enter Tryd.func36, Tryd.ntmps36
  go_upto_block 0 with fail
  go_cut [3] (fun v wx => v = .int .i64 (runN digitB l) ∧ w = wx)
  case first =>
    go_wp2_with fail
    go_loop [3] (fun v => ∃ k : Nat, k ≤ l.length ∧ v = .int .i64 (k : Int) ∧ Hid (runN digitB l = k + runN digitB (l.drop k))) (fun v => l.length - (intOf v).toNat)
    case atStart => exact ⟨0, by omega, rfl, Lib.hid (by simp)⟩
    case round =>
      obtain ⟨k, hk, rfl, HR⟩ := hrel
      by_cases hlt : k < l.length
      · by_cases hD : digitB (byt l k) = true
        · have HN := Lib.hid (show runN digitB l = k + 1 + runN digitB (l.drop (k + 1)) by rw [HR.out, runN_yes hlt hD]; omega)
          go_wp2_with (go_at_call 35; refine (tdigit_any _ _).mono ?_; rintro e w' ⟨rfl, rfl⟩)
          go_round
          case rel => exact ⟨k + 1, by omega, by go_num, HN⟩
          case measure => simp [intOf]; omega
        · have hD' : digitB (byt l k) = false := by simpa using hD
          clear hD
          have HN := Lib.hid (show runN digitB l = k by rw [HR.out, runN_no hlt hD']; rfl)
          go_wp2_with (go_at_call 35; refine (tdigit_any _ _).mono ?_; rintro e w' ⟨rfl, rfl⟩)
          go_meet
          exact ⟨iv_eq (by rw [HN.out]), rfl⟩
      · have HN := Lib.hid (show runN digitB l = k by rw [HR.out, runN_end (by omega)]; rfl)
        go_wp2_with fail
        go_meet
        exact ⟨iv_eq (by rw [HN.out]), rfl⟩
  case rest =>
    obtain ⟨rfl, rfl⟩ := hcut
    have hy := tkNum_yes (l := l)
    have hn := tkNum_no (l := l)
    have hle := runN_le digitB l
    generalize runN digitB l = n at *
    have HY := Lib.hid hy
    have HN := Lib.hid hn
    clear hy hn
    by_cases h1 : n + 1 < l.length
    · by_cases h46 : byt l n = 46
      · have T : (((byt l n).toNat : Int) == 46) = true := byte_test (d := 46) h46
        by_cases hD : digitB (byt l (n + 1)) = true
        · have HR := Lib.hid (HY.out h1 h46 hD)
          clear HY HN h46
          go_wp2_with (go_at_call 35; refine (tdigit_any _ _).mono ?_; rintro e w' ⟨rfl, rfl⟩)
          clear hD T
          go_loop [3] (fun v => ∃ k : Nat, k ≤ l.length ∧ v = .int .i64 (k : Int) ∧ Hid (tkNum l = k + runN digitB (l.drop k))) (fun v => l.length - (intOf v).toNat)
          case atStart => exact ⟨n + 1, by omega, by go_num, HR⟩
          case round =>
            clear HR h1 hle
            obtain ⟨k, hk, rfl, HR⟩ := hrel
            by_cases hlt : k < l.length
            · by_cases hD : digitB (byt l k) = true
              · have HN := Lib.hid (show tkNum l = k + 1 + runN digitB (l.drop (k + 1)) by rw [HR.out, runN_yes hlt hD]; omega)
                go_wp2_with (go_at_call 35; refine (tdigit_any _ _).mono ?_; rintro e w' ⟨rfl, rfl⟩)
                go_round
                case rel => exact ⟨k + 1, by omega, by go_num, HN⟩
                case measure => simp [intOf]; omega
              · have hD' : digitB (byt l k) = false := by simpa using hD
                clear hD
                have HN := Lib.hid (show tkNum l = k by rw [HR.out, runN_no hlt hD']; rfl)
                go_wp2_with (go_at_call 35; refine (tdigit_any _ _).mono ?_; rintro e w' ⟨rfl, rfl⟩)
                go_ret
                exact ⟨ret_i64 (by rw [HN.out]), rfl⟩
            · have HN := Lib.hid (show tkNum l = k by rw [HR.out, runN_end (by omega)]; rfl)
              go_wp2_with fail
              go_ret
              exact ⟨ret_i64 (by rw [HN.out]), rfl⟩
        · have hD' : digitB (byt l (n + 1)) = false := by simpa using hD
          have HR := Lib.hid (HN.out (fun h => by rw [hD'] at h; simp at h))
          clear HY HN h46 hD
          go_wp2_with (go_at_call 35; refine (tdigit_any _ _).mono ?_; rintro e w' ⟨rfl, rfl⟩)
          go_ret
          exact ⟨ret_i64 (by rw [HR.out]), rfl⟩
      · have T : (((byt l n).toNat : Int) == 46) = false := u8_ne h46
        have HR := Lib.hid (HN.out (fun h => h46 h.2.1))
        clear HY HN h46
        go_wp2_with fail
        go_ret
        exact ⟨ret_i64 (by rw [HR.out]), rfl⟩
    · have HR := Lib.hid (HN.out (fun h => h1 h.1))
      have hle' : l.length ≤ n + 1 := by omega
      clear HY HN h1
      go_wp2_with fail
      go_ret
      exact ⟨ret_i64 (by rw [HR.out]), rfl⟩

/-- a number and a flag -/
def nbVal (r : Nat × Bool) : Value := .tuple #[.int .i64 (r.1 : Int), .bool r.2]
theorem litL_end {l : List UInt8} {i : Nat} {c : Bool} (h : l.length ≤ i) : litL (l.drop i) i c = (0, false) := by
  rw [List.drop_of_length_le h]; rfl
theorem litL_quote {l : List UInt8} {i : Nat} {c : Bool} (h : i < l.length) (hb : byt l i = 34) : litL (l.drop i) i c = (i + 1, c) := by
  rw [drop_byt l i h, hb]; cases l.drop (i + 1) <;> simp [litL]
theorem litL_esc {l : List UInt8} {i : Nat} {c : Bool} (h : i + 1 < l.length) (hb : byt l i = 92) : litL (l.drop i) i c = litL (l.drop (i + 2)) (i + 2) (c || byt l (i + 1) == 40) := by
  rw [drop_byt l i (by omega), drop_byt l (i + 1) h, hb]; simp [litL]
theorem litL_esc_end {l : List UInt8} {i : Nat} {c : Bool} (h : i < l.length) (h1 : ¬ i + 1 < l.length) (hb : byt l i = 92) : litL (l.drop i) i c = (0, false) := by
  rw [drop_byt l i h, List.drop_of_length_le (by omega), hb]; simp [litL]
theorem litL_other {l : List UInt8} {i : Nat} {c : Bool} (h : i < l.length) (hb : ¬ byt l i = 34) (hb2 : ¬ byt l i = 92) : litL (l.drop i) i c = litL (l.drop (i + 1)) (i + 1) c := by
  rw [drop_byt l i h]; cases l.drop (i + 1) <;> simp [litL, hb, hb2]
theorem ret_nb {r : Nat × Bool} {n : Nat} {m : Int} {c : Bool} (h : r = (n, c)) (hm : m = (n : Int)) : Ending.returned (.tuple #[.int .i64 m, .bool c]) = .returned (nbVal r) := by rw [h, hm]; rfl

set_option maxRecDepth 100000 in
set_option maxHeartbeats 1000000 in
theorem tliteral_any (l : List UInt8) (hl : l.length ≤ 1000000) (w : World) : Calls Tryd.prog 48 #[.string (S l)] w fun e w' => e = .returned (nbVal (tkLit l)) ∧ w = w' := by
  have HQ := Lib.hid (show tkLit l = litL (l.drop 1) 1 false from rfl)
  generalize tkLit l = r at *
  go_enter Tryd.func48, Tryd.ntmps48
  go_wp2_with fail
  go_loop [4, 5] (fun a v => ∃ (k : Nat) (c : Bool), k ≤ l.length + 1 ∧ a = .bool c ∧ v = .int .i64 (k : Int) ∧ Hid (r = litL (l.drop k) k c)) (fun _ v => l.length + 1 - (intOf v).toNat)
  case atStart => exact ⟨1, false, by omega, rfl, rfl, HQ⟩
  case round =>
    obtain ⟨k, c, hk, rfl, rfl, HR⟩ := hrel
    by_cases hlt : k < l.length
    · by_cases h34 : byt l k = 34
      · have T : (((byt l k).toNat : Int) == 34) = true := byte_test (d := 34) h34
        have HN := Lib.hid (HR.out.trans (litL_quote hlt h34))
        clear h34
        go_wp2_with fail
        go_ret2
        exact ⟨ret_nb HN.out (by go_num), rfl⟩
      · have T : (((byt l k).toNat : Int) == 34) = false := u8_ne h34
        by_cases h92 : byt l k = 92
        · have T2 : (((byt l k).toNat : Int) == 92) = true := byte_test (d := 92) h92
          by_cases h1 : k + 1 < l.length
          · have HN := Lib.hid (HR.out.trans (litL_esc h1 h92))
            clear h34 h92
            rcases bool_two c with rfl | rfl
            · go_wp2_with fail
              go_round
              case rel => exact ⟨k + 2, true, by omega, rfl, by go_num, Lib.hid (by rw [HN.out]; simp)⟩
              case measure => simp [intOf]; omega
            · by_cases h40 : byt l (k + 1) = 40
              · have T3 : (((byt l (k + 1)).toNat : Int) == 40) = true := byte_test (d := 40) h40
                have HN2 := Lib.hid (show r = litL (l.drop (k + 2)) (k + 2) true by rw [HN.out, h40]; rfl)
                clear h40 HN
                go_wp2_with fail
                go_round
                case rel => exact ⟨k + 2, true, by omega, rfl, by go_num, HN2⟩
                case measure => simp [intOf]; omega
              · have T3 : (((byt l (k + 1)).toNat : Int) == 40) = false := u8_ne h40
                have HN2 := Lib.hid (show r = litL (l.drop (k + 2)) (k + 2) false by rw [HN.out]; congr 1; simpa using h40)
                clear h40 HN
                go_wp2_with fail
                go_round
                case rel => exact ⟨k + 2, false, by omega, rfl, by go_num, HN2⟩
                case measure => simp [intOf]; omega
          · have HN := Lib.hid (HR.out.trans (litL_esc_end hlt h1 h92))
            have h1' : l.length ≤ k + 1 := by omega
            clear h34 h92 h1
            rcases bool_two c with rfl | rfl
            · go_wp2_with fail
              go_round
              case rel => exact ⟨k + 2, true, by omega, rfl, by go_num, Lib.hid (by rw [HN.out, litL_end (by omega)])⟩
              case measure => simp [intOf]; omega
            · go_wp2_with fail
              go_round
              case rel => exact ⟨k + 2, false, by omega, rfl, by go_num, Lib.hid (by rw [HN.out, litL_end (by omega)])⟩
              case measure => simp [intOf]; omega
        · have T2 : (((byt l k).toNat : Int) == 92) = false := u8_ne h92
          have HN := Lib.hid (HR.out.trans (litL_other hlt h34 h92))
          clear h34 h92
          go_wp2_with fail
          go_round
          case rel => exact ⟨k + 1, c, by omega, rfl, by go_num, HN⟩
          case measure => simp [intOf]; omega
    · have HN := Lib.hid (HR.out.trans (litL_end (by omega)))
      go_wp2_with fail
      go_ret2
      exact ⟨ret_nb HN.out rfl, rfl⟩
end Go.Proofs.YtadbilonialjnaaDoor
