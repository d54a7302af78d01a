/- The scanner's letter, digit, word, number, literal: each computes what its plain function says. -/
import Derived.Handy
import Derived.IntWalk
import Derived.Deep.CutBlock
import Derived.Deep.DeepCutAuto
import Derived.Test.YtadbilonialjnaaDoorTkP
import Derived.Test.YtadbilonialjnaaDoorByt
namespace Go.Proofs.YtadbilonialjnaaDoor
open Go.RowKit

theorem tkLet_nat (c : UInt8) : tkLet c = (decide (97 ≤ c.toNat ∧ c.toNat ≤ 122) || decide (65 ≤ c.toNat ∧ c.toNat ≤ 90) || decide (c.toNat = 95)) := by
  unfold tkLet
  rw [letterB_nat]
  congr 1
  by_cases h : c = 95
  · subst h; rfl
  · have : c.toNat ≠ 95 := fun e => h (UInt8.toNat_inj.1 e)
    simp [h, this]

set_option maxHeartbeats 400000 in
theorem tletter_any (c : UInt8) (w : World) : Calls Tryd.prog 44 #[.int .u8 (c.toNat : Int)] w fun e w' => e = .returned (.bool (tkLet c)) ∧ w = w' := by
  have hlt := c.toNat_lt
  have hn := tkLet_nat c
  generalize tkLet c = b at hn ⊢
  have HN := Lib.hid hn
  clear hn
  go_enter Tryd.func44, Tryd.ntmps44
  go_wp2
  all_goals
    go_ret
    exact ⟨ret_bool (by rw [HN.out, Bool.eq_iff_iff]; first | (simp; omega) | (simp [*]; done)), rfl⟩

set_option maxHeartbeats 400000 in
theorem tdigit_any (c : UInt8) (w : World) : Calls Tryd.prog 35 #[.int .u8 (c.toNat : Int)] w fun e w' => e = .returned (.bool (digitB c)) ∧ w = w' := by
  have hlt := c.toNat_lt
  have hn := digitB_nat c
  generalize digitB c = b at hn ⊢
  have HN := Lib.hid hn
  clear hn
  go_enter Tryd.func35, Tryd.ntmps35
  go_wp2
  all_goals
    go_ret
    exact ⟨ret_bool (by rw [HN.out, Bool.eq_iff_iff]; first | (simp; omega) | (simp [*]; done)), rfl⟩

theorem bool_two (b : Bool) : b = true ∨ b = false := by cases b <;> simp
theorem iv_eq {a b : Int} (h : a = b) : Value.int .i64 a = .int .i64 b := by rw [h]
theorem runN_yes {p : UInt8 → Bool} {l : List UInt8} {k : Nat} (h : k < l.length) (hp : p (byt l k) = true) : runN p (l.drop k) = runN p (l.drop (k + 1)) + 1 := by
  rw [drop_byt l k h]; simp [runN, hp]
theorem runN_no {p : UInt8 → Bool} {l : List UInt8} {k : Nat} (h : k < l.length) (hp : p (byt l k) = false) : runN p (l.drop k) = 0 := by
  rw [drop_byt l k h]; simp [runN, hp]
theorem runN_end {p : UInt8 → Bool} {l : List UInt8} {k : Nat} (h : l.length ≤ k) : runN p (l.drop k) = 0 := by
  rw [List.drop_of_length_le h]; rfl

/-- what is left of a word -/
theorem tkWn_head {l : List UInt8} (h : 0 < l.length) : tkWn l = if tkLet (byt l 0) || byt l 0 == 35 then runN tkWb (l.drop 1) + 1 else 0 := by
  cases l with
  | nil => simp at h
  | cons c t => rfl
theorem tkWord_head {l : List UInt8} (h : 0 < l.length) : tkWord l = if tkWn l = 1 ∧ (byt l 0 = 35 ∨ byt l 0 = 95) then 0 else tkWn l := by
  cases l with
  | nil => simp at h
  | cons c t => rfl
theorem tkLet35 : tkLet 35 = false := by decide
theorem tkLet95 : tkLet 95 = true := by decide
theorem byte_test {c d : UInt8} (h : c = d) : ((c.toNat : Int) == (d.toNat : Int)) = true := by rw [h]; simp

set_option maxRecDepth 100000 in
set_option maxHeartbeats 1000000 in
theorem tword_any (l : List UInt8) (hl : l.length ≤ 1000000) (w : World) : Calls Tryd.prog 34 #[.string (S l)] w fun e w' => e = .returned (.int .i64 (tkWord l)) ∧ w = w' := by
  go_enter Tryd.func34, Tryd.ntmps34
  go_upto_block 0 with fail
  go_cut [3] (fun v wx => v = .int .i64 (tkWn l) ∧ w = wx)
  case first =>
    go_wp2_with fail
    go_loop [3] (fun v => ∃ k : Nat, k ≤ l.length ∧ v = .int .i64 (k : Int) ∧ Hid (0 < k → tkWn l = k + runN tkWb (l.drop k))) (fun v => l.length - (intOf v).toNat)
    case atStart => exact ⟨0, by omega, rfl, Lib.hid (by omega)⟩
    case round =>
      obtain ⟨k, hk, rfl, HR⟩ := hrel
      by_cases hlt : k < l.length
      · by_cases hL : tkLet (byt l k) = true
        · have HN := Lib.hid (show tkWn l = k + 1 + runN tkWb (l.drop (k + 1)) by
            rcases Nat.eq_zero_or_pos k with h0 | h0
            · subst h0; rw [tkWn_head hlt, hL]; simp; omega
            · rw [HR.out h0, runN_yes hlt (by simp [tkWb, hL])]; omega)
          go_wp2_with (go_at_call 44; refine (tletter_any _ _).mono ?_; rintro e w' ⟨rfl, rfl⟩)
          go_round
          case rel => exact ⟨k + 1, by omega, by go_num, Lib.hid fun _ => HN.out⟩
          case measure => simp [intOf]; omega
        · have hL' : tkLet (byt l k) = false := by simpa using hL
          clear hL
          rcases Nat.eq_zero_or_pos k with h0 | h0
          · subst h0
            by_cases h35 : byt l 0 = 35
            · have HN := Lib.hid (show tkWn l = 0 + 1 + runN tkWb (l.drop (0 + 1)) by rw [tkWn_head hlt, h35]; simp; omega)
              have T : (((byt l 0).toNat : Int) == 35) = true := byte_test (d := 35) h35
              clear h35
              go_wp2_with (go_at_call 44; refine (tletter_any _ _).mono ?_; rintro e w' ⟨rfl, rfl⟩)
              go_round
              case rel => exact ⟨0 + 1, by omega, by go_num, Lib.hid fun _ => HN.out⟩
              case measure => simp [intOf]; omega
            · have HN := Lib.hid (show tkWn l = 0 by rw [tkWn_head hlt, hL']; simp [h35])
              have T : (((byt l 0).toNat : Int) == 35) = false := u8_ne h35
              clear h35
              go_wp2_with (go_at_call 44; refine (tletter_any _ _).mono ?_; rintro e w' ⟨rfl, rfl⟩)
              go_meet
              exact ⟨iv_eq (by rw [HN.out]; rfl), rfl⟩
          · have hp : (0 : Int) < (k : Int) := by omega
            have hz : ((k : Int) == 0) = false := beq_eq_false_iff_ne.2 (by omega)
            by_cases hD : digitB (byt l k) = true
            · have HN := Lib.hid (show tkWn l = k + 1 + runN tkWb (l.drop (k + 1)) by rw [HR.out h0, runN_yes hlt (by simp [tkWb, hD])]; omega)
              go_wp2_with (first | (go_at_call 44; refine (tletter_any _ _).mono ?_; rintro e w' ⟨rfl, rfl⟩) | (go_at_call 35; refine (tdigit_any _ _).mono ?_; rintro e w' ⟨rfl, rfl⟩))
              go_round
              case rel => exact ⟨k + 1, by omega, by go_num, Lib.hid fun _ => HN.out⟩
              case measure => simp [intOf]; omega
            · have hD' : digitB (byt l k) = false := by simpa using hD
              clear hD
              have HN := Lib.hid (show tkWn l = k by rw [HR.out h0, runN_no hlt (by simp [tkWb, hD', hL'])]; rfl)
              go_wp2_with (first | (go_at_call 44; refine (tletter_any _ _).mono ?_; rintro e w' ⟨rfl, rfl⟩) | (go_at_call 35; refine (tdigit_any _ _).mono ?_; rintro e w' ⟨rfl, rfl⟩))
              go_meet
              exact ⟨iv_eq (by rw [HN.out]), rfl⟩
      · have HN := Lib.hid (show tkWn l = k by
          rcases Nat.eq_zero_or_pos k with h0 | h0
          · subst h0; rw [List.eq_nil_of_length_eq_zero (show l.length = 0 by omega)]; rfl
          · rw [HR.out h0, runN_end (by omega)]; rfl)
        go_wp2_with fail
        go_meet
        exact ⟨iv_eq (by rw [HN.out]), rfl⟩
  case rest =>
    obtain ⟨rfl, rfl⟩ := hcut
    by_cases h1 : tkWn l = 1
    · have hlt : 0 < l.length := by have := tkWn_le l; omega
      by_cases h35 : byt l 0 = 35
      · have hL : tkLet (byt l 0) = false := by rw [h35]; decide
        have HN := Lib.hid (show tkWord l = 0 by rw [tkWord_head hlt, if_pos ⟨h1, .inl h35⟩])
        clear h35
        rw [h1]
        clear h1
        go_wp2_with (go_at_call 44; refine (tletter_any _ _).mono ?_; rintro e w' ⟨rfl, rfl⟩)
        go_ret
        exact ⟨ret_i64 (by rw [HN.out]; rfl), rfl⟩
      · by_cases h95 : byt l 0 = 95
        · have hL : tkLet (byt l 0) = true := by rw [h95]; decide
          have HN := Lib.hid (show tkWord l = 0 by rw [tkWord_head hlt, if_pos ⟨h1, .inr h95⟩])
          have T : (((byt l 0).toNat : Int) == 95) = true := byte_test (d := 95) h95
          clear h95
          rw [h1]
          clear h1
          go_wp2_with (go_at_call 44; refine (tletter_any _ _).mono ?_; rintro e w' ⟨rfl, rfl⟩)
          go_ret
          exact ⟨ret_i64 (by rw [HN.out]; rfl), rfl⟩
        · have hL : tkLet (byt l 0) = true := by
            have := tkWn_head hlt
            rw [h1] at this
            by_cases hc : tkLet (byt l 0) = true
            · exact hc
            · rw [show tkLet (byt l 0) = false by simpa using hc] at this; simp [h35] at this
          have HN := Lib.hid (show tkWord l = 1 by rw [tkWord_head hlt, if_neg (by simp [h35, h95]), h1])
          have T : (((byt l 0).toNat : Int) == 95) = false := u8_ne h95
          clear h95 h35
          rw [h1]
          clear h1
          go_wp2_with (go_at_call 44; refine (tletter_any _ _).mono ?_; rintro e w' ⟨rfl, rfl⟩)
          go_ret
          exact ⟨ret_i64 (by rw [HN.out]; rfl), rfl⟩
    · have HN := Lib.hid (show tkWord l = tkWn l by
        cases l with
        | nil => rfl
        | cons c t => rw [tkWord_head (by simp), if_neg (fun h => h1 h.1)])
      have hz : ((tkWn l : Int) == 1) = false := beq_eq_false_iff_ne.2 (by omega)
      clear h1
      generalize tkWn l = n at *
      go_wp2_with fail
      go_ret
      exact ⟨ret_i64 (by rw [HN.out]), rfl⟩
end Go.Proofs.YtadbilonialjnaaDoor
