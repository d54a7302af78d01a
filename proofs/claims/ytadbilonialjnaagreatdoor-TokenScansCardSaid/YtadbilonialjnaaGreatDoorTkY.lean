/- Walks of the specification of tokens: word, operators, operator, ident, number, str. -/
import Derived.BigQuiet
import Derived.Test.YtadbilonialjnaaGreatDoorTkB
import Derived.Test.YtadbilonialjnaaGreatDoorTkF
import Derived.Test.YtadbilonialjnaaGreatDoorTkV
import Derived.Test.YtadbilonialjnaaGreatDoorBlk
import Derived.Test.YtadbilonialjnaaGreatDoorTkL
namespace Go.Proofs.YtadbilonialjnaaGreatDoor
section
open Go.RowKit

set_option maxHeartbeats 400000 in
theorem rword_any (c : UInt8) (w : World) : Calls Tryz.prog 48 #[.int .u8 (c.toNat : Int)] w fun e w' => e = .returned (.bool (tkWb c)) ∧ w = w' := by
  by_cases hL : letterB c = true
  · have HN := Lib.hid (show tkWb c = true by simp [tkWb, tkLet, hL])
    go_enter Tryz.func48, Tryz.ntmps48
    go_wp2_with (first | (go_at_call 49; refine (Letter_any _ _).mono ?_; rintro e w' ⟨rfl, rfl⟩) | (go_at_call 44; refine (Digit_any _ _).mono ?_; rintro e w' ⟨rfl, rfl⟩))
    go_ret
    exact ⟨ret_bool (by rw [HN.out]), rfl⟩
  · have hL' : letterB c = false := by simpa using hL
    clear hL
    by_cases hD : digitB c = true
    · have HN := Lib.hid (show tkWb c = true by simp [tkWb, tkLet, hD])
      go_enter Tryz.func48, Tryz.ntmps48
      go_wp2_with (first | (go_at_call 49; refine (Letter_any _ _).mono ?_; rintro e w' ⟨rfl, rfl⟩) | (go_at_call 44; refine (Digit_any _ _).mono ?_; rintro e w' ⟨rfl, rfl⟩))
      go_ret
      exact ⟨ret_bool (by rw [HN.out]), rfl⟩
    · have hD' : digitB c = false := by simpa using hD
      clear hD
      by_cases h95 : c = 95
      · have HN := Lib.hid (show tkWb c = true by rw [h95]; decide)
        have T : ((c.toNat : Int) == 95) = true := byte_test (d := 95) h95
        clear h95
        go_enter Tryz.func48, Tryz.ntmps48
        go_wp2_with (first | (go_at_call 49; refine (Letter_any _ _).mono ?_; rintro e w' ⟨rfl, rfl⟩) | (go_at_call 44; refine (Digit_any _ _).mono ?_; rintro e w' ⟨rfl, rfl⟩))
        go_ret
        exact ⟨ret_bool (by rw [HN.out]), rfl⟩
      · have HN := Lib.hid (show tkWb c = false by simp [tkWb, tkLet, hL', hD', h95])
        have T : ((c.toNat : Int) == 95) = false := u8_ne (d := 95) h95
        clear h95
        go_enter Tryz.func48, Tryz.ntmps48
        go_wp2_with (first | (go_at_call 49; refine (Letter_any _ _).mono ?_; rintro e w' ⟨rfl, rfl⟩) | (go_at_call 44; refine (Digit_any _ _).mono ?_; rintro e w' ⟨rfl, rfl⟩))
        go_ret
        exact ⟨ret_bool (by rw [HN.out]), rfl⟩

theorem word_at {l : List UInt8} {a : Nat} (h : a < l.length) : tkWord (l.drop a) = if letterB (byt l a) = true then runN tkWb (l.drop (a + 1)) + 1 else if (byt l a = 95 ∨ byt l a = 35) ∧ 0 < runN tkWb (l.drop (a + 1)) then runN tkWb (l.drop (a + 1)) + 1 else 0 := by
  rw [drop_byt l a h, tkWord_cons, tkWn_cons]
  generalize runN tkWb (l.drop (a + 1)) = r
  generalize byt l a = c
  by_cases hL : letterB c = true
  · have h1 : (tkLet c || c == 35) = true := by simp [tkLet, hL]
    rw [if_pos h1, if_pos hL, if_neg]
    rintro ⟨-, h⟩
    rcases h with rfl | rfl
    · exact absurd hL (by decide)
    · exact absurd hL (by decide)
  · rw [if_neg hL]
    by_cases hc : c = 95 ∨ c = 35
    · have h1 : (tkLet c || c == 35) = true := by rcases hc with rfl | rfl <;> decide
      rw [if_pos h1]
      by_cases h0 : 0 < r
      · rw [if_neg (by omega), if_pos ⟨hc, h0⟩]
      · rw [if_pos ⟨by omega, hc.symm⟩, if_neg (fun h => h0 h.2)]
    · have h1 : ¬ (tkLet c || c == 35) = true := by
        simp only [not_or] at hc
        simp [tkLet, hL, hc.1, hc.2]
      have h2 : ¬ ((c = 95 ∨ c = 35) ∧ 0 < r) := fun h => hc h.1
      rw [if_neg h1, if_neg h2]
      simp
set_option maxRecDepth 100000 in
set_option maxHeartbeats 1000000 in
theorem rident_any (l : List UInt8) (hl : l.length ≤ 1000000) (a : Nat) (ha : a < l.length) (w : World) : Calls Tryz.prog 31 #[.string (S l), .int .i64 (a : Int)] w fun e w' => e = .returned (.int .i64 ((a + tkWord (l.drop a) : Nat) : Int)) ∧ w = w' := by
  have hwa := word_at ha
  have hle := runN_le tkWb (l.drop (a + 1))
  rw [List.length_drop] at hle
  obtain ⟨r, hr⟩ : ∃ r, runN tkWb (l.drop (a + 1)) = r := ⟨_, rfl⟩
  rw [hr] at hwa hle
  have HR0 := Lib.hid hr
  obtain ⟨n, hn⟩ : ∃ n, tkWord (l.drop a) = n := ⟨_, rfl⟩
  rw [hn] at hwa ⊢
  have HW := Lib.hid hwa
  clear hwa hr hn
  have b0 : (0 : Int) ≤ (a : Int) := by omega
  have b1 : (a : Int) < (l.length : Int) := by omega
  go_enter Tryz.func31, Tryz.ntmps31
  go_upto_block 0 with fail
  go_cut [5] (fun v wx => v = .int .i64 ((a + 1 + r : Nat) : Int) ∧ w = wx)
  case first =>
    go_wp2_with fail
    go_loop [5] (fun v => ∃ k : Nat, a + 1 ≤ k ∧ k ≤ l.length ∧ v = .int .i64 (k : Int) ∧ Hid (r + a + 1 = k + runN tkWb (l.drop k))) (fun v => l.length - (intOf v).toNat)
    case atStart => exact ⟨a + 1, by omega, by omega, by go_num, Lib.hid (by rw [HR0.out]; omega)⟩
    case round =>
      obtain ⟨k, hak, hk, rfl, HR⟩ := hrel
      by_cases hlt : k < l.length
      · cases hW : tkWb (byt l k) with
        | true =>
          have HN := Lib.hid (show r + a + 1 = k + 1 + runN tkWb (l.drop (k + 1)) by rw [HR.out, runN_yes hlt hW]; omega)
          go_wp2_with (go_at_call 48; refine (rword_any _ _).mono ?_; rintro e w' ⟨rfl, rfl⟩)
          go_round
          case rel => exact ⟨k + 1, by omega, by omega, by go_num, HN⟩
          case measure => simp [intOf]; omega
        | false =>
          have HN := Lib.hid (show r + a + 1 = k by rw [HR.out, runN_no hlt hW]; rfl)
          go_wp2_with (go_at_call 48; refine (rword_any _ _).mono ?_; rintro e w' ⟨rfl, rfl⟩)
          go_meet
          exact ⟨iv_eq (by have := HN.out; omega), rfl⟩
      · have HN := Lib.hid (show r + a + 1 = k by rw [HR.out, runN_end (by omega)]; rfl)
        go_wp2_with fail
        go_meet
        exact ⟨iv_eq (by have := HN.out; omega), rfl⟩
  case rest =>
    obtain ⟨rfl, rfl⟩ := hcut
    cases hL : letterB (byt l a) with
    | true =>
      have HN := Lib.hid (show n = r + 1 by rw [HW.out, if_pos hL])
      go_wp2_with (go_at_call 49; refine (Letter_any _ _).mono ?_; rintro e w' ⟨rfl, rfl⟩)
      go_ret
      exact ⟨ret_i64 (by have := HN.out; omega), rfl⟩
    | false =>
      have hW2 := HW.out
      rw [if_neg (by rw [hL]; decide)] at hW2
      have HW2 := Lib.hid hW2
      clear hW2 HW
      by_cases h95 : byt l a = 95
      · have T : (((byt l a).toNat : Int) == 95) = true := byte_test (d := 95) h95
        by_cases h0 : 0 < r
        · have HN := Lib.hid (show n = r + 1 by rw [HW2.out, if_pos ⟨.inl h95, h0⟩])
          clear h95
          have T2 : (a : Int) + 1 < ((a + 1 + r : Nat) : Int) := by omega
          go_wp2_with (go_at_call 49; refine (Letter_any _ _).mono ?_; rintro e w' ⟨rfl, rfl⟩)
          go_ret
          exact ⟨ret_i64 (by have := HN.out; omega), rfl⟩
        · have HN := Lib.hid (show n = 0 by rw [HW2.out, if_neg (fun h => h0 h.2)])
          clear h95
          have hr0 : r = 0 := by omega
          subst hr0
          clear h0
          go_wp2_with (go_at_call 49; refine (Letter_any _ _).mono ?_; rintro e w' ⟨rfl, rfl⟩)
          go_ret
          exact ⟨ret_i64 (by have := HN.out; omega), rfl⟩
      · have T : (((byt l a).toNat : Int) == 95) = false := u8_ne (d := 95) h95
        by_cases h35 : byt l a = 35
        · have T2 : (((byt l a).toNat : Int) == 35) = true := byte_test (d := 35) h35
          by_cases h0 : 0 < r
          · have HN := Lib.hid (show n = r + 1 by rw [HW2.out, if_pos ⟨.inr h35, h0⟩])
            clear h95 h35
            have T3 : (a : Int) + 1 < ((a + 1 + r : Nat) : Int) := by omega
            go_wp2_with (go_at_call 49; refine (Letter_any _ _).mono ?_; rintro e w' ⟨rfl, rfl⟩)
            go_ret
            exact ⟨ret_i64 (by have := HN.out; omega), rfl⟩
          · have HN := Lib.hid (show n = 0 by rw [HW2.out, if_neg (fun h => h0 h.2)])
            clear h95 h35
            have hr0 : r = 0 := by omega
            subst hr0
            clear h0
            go_wp2_with (go_at_call 49; refine (Letter_any _ _).mono ?_; rintro e w' ⟨rfl, rfl⟩)
            go_ret
            exact ⟨ret_i64 (by have := HN.out; omega), rfl⟩
        · have T2 : (((byt l a).toNat : Int) == 35) = false := u8_ne (d := 35) h35
          have HN := Lib.hid (show n = 0 by rw [HW2.out, if_neg (fun h => h.1.elim h95 h35)])
          clear h95 h35
          go_wp2_with (go_at_call 49; refine (Letter_any _ _).mono ?_; rintro e w' ⟨rfl, rfl⟩)
          go_ret
          exact ⟨ret_i64 (by have := HN.out; omega), rfl⟩

theorem byt_drop0 (l : List UInt8) (a k : Nat) : byt (l.drop a) k = byt l (a + k) := by simp [byt, List.getD, List.getElem?_drop]
theorem rNum_at {l : List UInt8} {a : Nat} : rNum (l.drop a) = if runN digitB (l.drop a) = 0 then 0 else tkNum (l.drop a) := rfl
theorem num_yes {l : List UInt8} {a n : Nat} (hn : runN digitB (l.drop a) = n) (h0 : 0 < n) (h : a + n + 1 < l.length) (h46 : byt l (a + n) = 46) (hd : digitB (byt l (a + n + 1)) = true) : rNum (l.drop a) = n + 1 + runN digitB (l.drop (a + n + 1)) := by
  subst hn
  rw [rNum_at, if_neg (by omega), tkNum_yes (by rw [List.length_drop]; omega) (by rw [byt_drop0]; exact h46) (by rw [byt_drop0, ← Nat.add_assoc]; exact hd), List.drop_drop, ← Nat.add_assoc]
theorem num_no {l : List UInt8} {a n : Nat} (hn : runN digitB (l.drop a) = n) (h : ¬ (0 < n ∧ a + n + 1 < l.length ∧ byt l (a + n) = 46 ∧ digitB (byt l (a + n + 1)) = true)) : rNum (l.drop a) = n := by
  subst hn
  rw [rNum_at]
  by_cases h0 : runN digitB (l.drop a) = 0
  · rw [if_pos h0, h0]
  · rw [if_neg h0, tkNum_no]
    rw [List.length_drop, byt_drop0, byt_drop0]
    rintro ⟨h1, h2, h3⟩
    exact h ⟨by omega, by omega, h2, by rw [Nat.add_assoc]; exact h3⟩
set_option maxRecDepth 100000 in
set_option maxHeartbeats 1000000 in
theorem rnumber_any (l : List UInt8) (hl : l.length ≤ 1000000) (a : Nat) (ha : a ≤ l.length) (w : World) : Calls Tryz.prog 28 #[.string (S l), .int .i64 (a : Int)] w fun e w' => e = .returned (.int .i64 ((a + rNum (l.drop a) : Nat) : Int)) ∧ w = w' := by
  have hle := runN_le digitB (l.drop a)
  rw [List.length_drop] at hle
  obtain ⟨r, hr⟩ : ∃ r, runN digitB (l.drop a) = r := ⟨_, rfl⟩
  rw [hr] at hle
  have HR0 := Lib.hid hr
  obtain ⟨n, hn⟩ : ∃ n, rNum (l.drop a) = n := ⟨_, rfl⟩
  have HY := Lib.hid (fun h0 h1 h2 h3 => hn.symm.trans (num_yes (l := l) (a := a) hr h0 h1 h2 h3))
  have HX := Lib.hid (fun h => hn.symm.trans (num_no (l := l) (a := a) hr h))
  rw [hn]
  clear hr hn
  go_enter Tryz.func28, Tryz.ntmps28
  go_upto_block 0 with fail
  go_cut [5] (fun v wx => v = .int .i64 ((a + r : Nat) : Int) ∧ w = wx)
  case first =>
    go_wp2_with fail
    go_loop [5] (fun v => ∃ k : Nat, a ≤ k ∧ k ≤ l.length ∧ v = .int .i64 (k : Int) ∧ Hid (a + r = k + runN digitB (l.drop k))) (fun v => l.length - (intOf v).toNat)
    case atStart => exact ⟨a, by omega, by omega, rfl, Lib.hid (by rw [HR0.out])⟩
    case round =>
      obtain ⟨k, hak, hk, rfl, HR⟩ := hrel
      by_cases hlt : k < l.length
      · cases hW : digitB (byt l k) with
        | true =>
          have HN := Lib.hid (show a + r = k + 1 + runN digitB (l.drop (k + 1)) by rw [HR.out, runN_yes hlt hW]; omega)
          go_wp2_with (go_at_call 44; refine (Digit_any _ _).mono ?_; rintro e w' ⟨rfl, rfl⟩)
          go_round
          case rel => exact ⟨k + 1, by omega, by omega, by go_num, HN⟩
          case measure => simp [intOf]; omega
        | false =>
          have HN := Lib.hid (show a + r = k by rw [HR.out, runN_no hlt hW]; rfl)
          go_wp2_with (go_at_call 44; refine (Digit_any _ _).mono ?_; rintro e w' ⟨rfl, rfl⟩)
          go_meet
          exact ⟨iv_eq (by have := HN.out; omega), rfl⟩
      · have HN := Lib.hid (show a + r = k by rw [HR.out, runN_end (by omega)]; rfl)
        go_wp2_with fail
        go_meet
        exact ⟨iv_eq (by have := HN.out; omega), rfl⟩
  case rest =>
    obtain ⟨rfl, rfl⟩ := hcut
    obtain ⟨k0, hk0⟩ : ∃ k, a + r = k := ⟨_, rfl⟩
    rw [hk0] at HY HX ⊢
    by_cases h0 : 0 < r
    · have t0 : (a : Int) < (k0 : Int) := by omega
      by_cases h1 : k0 + 1 < l.length
      · by_cases h46 : byt l k0 = 46
        · have T : (((byt l k0).toNat : Int) == 46) = true := byte_test (d := 46) h46
          cases hD : digitB (byt l (k0 + 1)) with
          | true =>
            have HN := Lib.hid (HY.out h0 h1 h46 hD)
            clear HY HX h46
            go_wp2_with (go_at_call 44; refine (Digit_any _ _).mono ?_; rintro e w' ⟨rfl, rfl⟩)
            clear hD T
            go_loop [5] (fun v => ∃ k : Nat, k ≤ l.length ∧ v = .int .i64 (k : Int) ∧ Hid (a + n = k + runN digitB (l.drop k))) (fun v => l.length - (intOf v).toNat)
            case atStart => exact ⟨k0 + 1, by omega, by go_num, Lib.hid (by have := HN.out; omega)⟩
            case round =>
              clear HN h1
              obtain ⟨k, hk, rfl, HR⟩ := hrel
              by_cases hlt : k < l.length
              · cases hW : digitB (byt l k) with
                | true =>
                  have HN := Lib.hid (show a + n = k + 1 + runN digitB (l.drop (k + 1)) by rw [HR.out, runN_yes hlt hW]; omega)
                  go_wp2_with (go_at_call 44; refine (Digit_any _ _).mono ?_; rintro e w' ⟨rfl, rfl⟩)
                  go_round
                  case rel => exact ⟨k + 1, by omega, by go_num, HN⟩
                  case measure => simp [intOf]; omega
                | false =>
                  have HN := Lib.hid (show a + n = k by rw [HR.out, runN_no hlt hW]; rfl)
                  go_wp2_with (go_at_call 44; refine (Digit_any _ _).mono ?_; rintro e w' ⟨rfl, rfl⟩)
                  go_ret
                  exact ⟨ret_i64 (by have := HN.out; omega), rfl⟩
              · have HN := Lib.hid (show a + n = k by rw [HR.out, runN_end (by omega)]; rfl)
                go_wp2_with fail
                go_ret
                exact ⟨ret_i64 (by have := HN.out; omega), rfl⟩
          | false =>
            have HN := Lib.hid (HX.out (fun h => by rw [hD] at h; simp at h))
            clear HY HX h46
            go_wp2_with (go_at_call 44; refine (Digit_any _ _).mono ?_; rintro e w' ⟨rfl, rfl⟩)
            go_ret
            exact ⟨ret_i64 (by have := HN.out; omega), rfl⟩
        · have T : (((byt l k0).toNat : Int) == 46) = false := u8_ne (d := 46) h46
          have HN := Lib.hid (HX.out (fun h => h46 h.2.2.1))
          clear HY HX h46
          go_wp2_with fail
          go_ret
          exact ⟨ret_i64 (by have := HN.out; omega), rfl⟩
      · have HN := Lib.hid (HX.out (fun h => h1 h.2.1))
        have t1 : (l.length : Int) ≤ (k0 : Int) + 1 := by omega
        clear HY HX h1
        go_wp2_with fail
        go_ret
        exact ⟨ret_i64 (by have := HN.out; omega), rfl⟩
    · have HN := Lib.hid (HX.out (fun h => h0 h.1))
      have t0 : (k0 : Int) ≤ (a : Int) := by omega
      clear HY HX h0
      go_wp2_with fail
      go_ret
      exact ⟨ret_i64 (by have := HN.out; omega), rfl⟩

/-- the closing quote's offset -/
def strV (a : Nat) (r : Nat × Bool) : Value := if r.1 = 0 then .tuple #[.int .i64 (-1), .bool false] else .tuple #[.int .i64 ((a + r.1 : Nat) : Int), .bool r.2]
theorem litL_off (a : Nat) : ∀ (l : List UInt8) (i : Nat) (c : Bool), litL l (i + a) c = if (litL l i c).1 = 0 then (0, false) else ((litL l i c).1 + a, (litL l i c).2)
  | [], i, c => by simp [litL]
  | [x], i, c => by
    unfold litL
    by_cases h1 : x = 34
    · rw [if_pos h1, if_pos h1]; simp; omega
    · rw [if_neg h1, if_neg h1]
      by_cases h2 : x = 92
      · rw [if_pos h2, if_pos h2]; simp
      · rw [if_neg h2, if_neg h2]; simp [litL]
  | x :: y :: t, i, c => by
    unfold litL
    by_cases h1 : x = 34
    · rw [if_pos h1, if_pos h1]; simp; omega
    · rw [if_neg h1, if_neg h1]
      by_cases h2 : x = 92
      · rw [if_pos h2, if_pos h2]
        have := litL_off a t (i + 2) (c || y == 40)
        rw [show i + a + 2 = i + 2 + a by omega]; exact this
      · rw [if_neg h2, if_neg h2]
        have := litL_off a (y :: t) (i + 1) c
        rw [show i + a + 1 = i + 1 + a by omega]; exact this
theorem litL_in : ∀ (l : List UInt8) (i : Nat) (c : Bool), (litL l i c).1 = 0 ∨ i + 1 ≤ (litL l i c).1
  | [], i, c => by simp [litL]
  | [x], i, c => by
    unfold litL
    by_cases h1 : x = 34
    · rw [if_pos h1]; simp
    · rw [if_neg h1]
      by_cases h2 : x = 92
      · rw [if_pos h2]; simp
      · rw [if_neg h2]; simp [litL]
  | x :: y :: t, i, c => by
    unfold litL
    by_cases h1 : x = 34
    · rw [if_pos h1]; simp
    · rw [if_neg h1]
      by_cases h2 : x = 92
      · rw [if_pos h2]
        have := litL_in t (i + 2) (c || y == 40)
        simp only; omega
      · rw [if_neg h2]
        have := litL_in (y :: t) (i + 1) c
        omega
/-- what the walk finds at offset k, told from where it began -/
theorem lit_at (l : List UInt8) (a : Nat) : litL (l.drop (a + 1)) (a + 1) false = if (tkLit (l.drop a)).1 = 0 then (0, false) else ((tkLit (l.drop a)).1 + a, (tkLit (l.drop a)).2) := by
  have := litL_off a (l.drop (a + 1)) 1 false
  rw [show 1 + a = a + 1 by omega] at this
  rw [this]; unfold tkLit; rw [List.drop_drop]
def strW (r : Nat × Bool) : Value := if r.1 = 0 then .tuple #[.int .i64 (-1), .bool false] else .tuple #[.int .i64 ((r.1 : Int) - 1), .bool r.2]
theorem strW_some {r : Nat × Bool} {k : Nat} {c : Bool} (h : r = (k + 1, c)) : Ending.returned (.tuple #[.int .i64 (k : Int), .bool c]) = .returned (strW r) := by
  rw [h]; unfold strW; rw [if_neg (by simp)]; simp only; congr 4; congr 1; omega
theorem strW_none {r : Nat × Bool} (h : r.1 = 0) : Ending.returned (.tuple #[.int .i64 (-1), .bool false]) = .returned (strW r) := by unfold strW; rw [if_pos h]
set_option maxRecDepth 100000 in
set_option maxHeartbeats 1000000 in
theorem rstr_any (l : List UInt8) (hl : l.length ≤ 1000000) (a : Nat) (ha : a < l.length) (w : World) : Calls Tryz.prog 26 #[.string (S l), .int .i64 (a : Int)] w fun e w' => e = .returned (strW (litL (l.drop (a + 1)) (a + 1) false)) ∧ w = w' := by
  obtain ⟨r, hr⟩ : ∃ r, litL (l.drop (a + 1)) (a + 1) false = r := ⟨_, rfl⟩
  rw [hr]
  have HQ := Lib.hid hr
  clear hr
  go_enter Tryz.func26, Tryz.ntmps26
  go_wp2_with fail
  go_loop [6, 7] (fun x v => ∃ (k : Nat) (c : Bool), a < k ∧ k ≤ l.length + 1 ∧ x = .bool c ∧ v = .int .i64 (k : Int) ∧ Hid (litL (l.drop k) k c = r)) (fun _ v => l.length + 1 - (intOf v).toNat)
  case atStart => exact ⟨a + 1, false, by omega, by omega, rfl, by go_num, HQ⟩
  case round =>
    obtain ⟨k, c, hak, hk, rfl, rfl, HR⟩ := hrel
    by_cases hlt : k < l.length
    · have b0 : (0 : Int) ≤ (k : Int) := by omega
      have b1 : (k : Int) < (l.length : Int) := by omega
      by_cases h34 : byt l k = 34
      · have T : (((byt l k).toNat : Int) == 34) = true := byte_test (d := 34) h34
        have HN := Lib.hid (HR.out.symm.trans (litL_quote hlt h34))
        clear h34
        go_wp2_with fail
        go_ret2
        exact ⟨strW_some HN.out, rfl⟩
      · have T : (((byt l k).toNat : Int) == 34) = false := u8_ne (d := 34) h34
        by_cases h92 : byt l k = 92
        · have T2 : (((byt l k).toNat : Int) == 92) = true := byte_test (d := 92) h92
          by_cases h1 : k + 1 < l.length
          · have HN := Lib.hid ((litL_esc h1 h92).symm.trans HR.out)
            clear h34 h92
            rcases bool_two c with rfl | rfl
            · go_wp2_with fail
              go_round
              case rel => exact ⟨k + 2, true, by omega, by omega, rfl, by go_num, Lib.hid (by rw [← HN.out]; simp)⟩
              case measure => simp [intOf]; omega
            · by_cases h40 : byt l (k + 1) = 40
              · have T3 : (((byt l (k + 1)).toNat : Int) == 40) = true := byte_test (d := 40) h40
                have HN2 := Lib.hid (show litL (l.drop (k + 2)) (k + 2) true = r by rw [← HN.out, h40]; rfl)
                clear h40 HN
                go_wp2_with fail
                go_round
                case rel => exact ⟨k + 2, true, by omega, by omega, rfl, by go_num, HN2⟩
                case measure => simp [intOf]; omega
              · have T3 : (((byt l (k + 1)).toNat : Int) == 40) = false := u8_ne (d := 40) h40
                have HN2 := Lib.hid (show litL (l.drop (k + 2)) (k + 2) false = r by rw [← HN.out]; congr 1; simpa using h40)
                clear h40 HN
                go_wp2_with fail
                go_round
                case rel => exact ⟨k + 2, false, by omega, by omega, rfl, by go_num, HN2⟩
                case measure => simp [intOf]; omega
          · have HN := Lib.hid ((litL_esc_end (c := c) hlt h1 h92).symm.trans HR.out)
            have h1' : (l.length : Int) ≤ (k : Int) + 1 := by omega
            have h1n : l.length ≤ k + 1 := by omega
            clear h34 h92 h1
            rcases bool_two c with rfl | rfl
            · go_wp2_with fail
              go_round
              case rel => exact ⟨k + 2, true, by omega, by omega, rfl, by go_num, Lib.hid (by rw [← HN.out, litL_end (by omega)])⟩
              case measure => simp [intOf]; omega
            · go_wp2_with fail
              go_round
              case rel => exact ⟨k + 2, false, by omega, by omega, rfl, by go_num, Lib.hid (by rw [← HN.out, litL_end (by omega)])⟩
              case measure => simp [intOf]; omega
        · have T2 : (((byt l k).toNat : Int) == 92) = false := u8_ne (d := 92) h92
          have HN := Lib.hid ((litL_other hlt h34 h92).symm.trans HR.out)
          clear h34 h92
          go_wp2_with fail
          go_round
          case rel => exact ⟨k + 1, c, by omega, by omega, rfl, by go_num, HN⟩
          case measure => simp [intOf]; omega
    · have HN := Lib.hid (show r.1 = 0 by rw [← HR.out, litL_end (by omega)])
      go_wp2_with fail
      go_ret2
      exact ⟨strW_none HN.out, rfl⟩

/-- the operators -/
theorem roperators_any (w : World) : Calls Tryz.prog 47 #[] w fun e w' => e = .returned (.slice (some ⟨w.heap.size, 0, none⟩) 32 32) ∧ w' = w.alloc (.cells (scells tkOps).toArray 9) := by
  go_enter Tryz.func47, Tryz.ntmps47
  go_wp2
  go_ret
  exact ⟨rfl, rfl⟩
theorem ops_32 : tkOps.length = 32 := by decide
theorem ops_3 : ∀ k, (wd tkOps k).length ≤ 3 := by
  intro k
  by_cases h : k < tkOps.length
  · have : wd tkOps k ∈ tkOps := by unfold wd; rw [List.getD, List.getElem?_eq_getElem h]; exact List.getElem_mem h
    exact (show ∀ t ∈ tkOps, t.length ≤ 3 by decide) _ this
  · unfold wd; rw [List.getD, List.getElem?_eq_none (by omega)]; simp
theorem pre_at (l o : List UInt8) (a : Nat) (ha : a ≤ l.length) : o.isPrefixOf (l.drop a) = true ↔ (o.length ≤ l.length - a ∧ sl l a (a + o.length) = o) := by
  rw [List.isPrefixOf_iff_prefix]
  unfold sl
  rw [show a + o.length - a = o.length by omega]
  constructor
  · rintro h
    refine ⟨?_, (List.prefix_iff_eq_take.1 h).symm⟩
    have := h.length_le
    rw [List.length_drop] at this
    exact this
  · rintro ⟨_, h⟩
    exact List.prefix_iff_eq_take.2 h.symm
theorem fnd_y {m : List UInt8} {P : List (List UInt8)} {j : Nat} (h : j < P.length) (hp : (wd P j).isPrefixOf m = true) : fnd m (P.drop j) = wd P j := by
  have := fnd_yes (m := m) (R := []) h hp
  rwa [List.append_nil] at this
theorem fnd_n {m : List UInt8} {P : List (List UInt8)} {j : Nat} (h : j < P.length) (hp : (wd P j).isPrefixOf m = false) : fnd m (P.drop j) = fnd m (P.drop (j + 1)) := by
  have := fnd_no (m := m) (R := []) h hp
  rwa [List.append_nil, List.append_nil] at this
set_option maxRecDepth 100000 in
set_option maxHeartbeats 2000000 in
theorem roperator_any (l : List UInt8) (hl : l.length ≤ 1000000) (a : Nat) (ha : a ≤ l.length) (w : World) : Calls Tryz.prog 30 #[.string (S l), .int .i64 (a : Int)] w fun e w' => e = .returned (.string (S (tkOp (l.drop a)))) ∧ Below w.heap.size w w' := by
  have H0 := Lib.hid (show tkOp (l.drop a) = fnd (l.drop a) (tkOps.drop 0) from rfl)
  obtain ⟨r, hr⟩ : ∃ r, tkOp (l.drop a) = r := ⟨_, rfl⟩
  rw [hr] at H0 ⊢
  clear hr
  have b0 : (0 : Int) ≤ (a : Int) := by omega
  go_enter Tryz.func30, Tryz.ntmps30
  go_wp2_with fail
  refine (roperators_any _).mono ?_
  rintro e w1 ⟨rfl, hw1⟩
  have HB := Lib.hid (show Blk w1 w.heap.size (scells tkOps).toArray 9 by rw [hw1]; exact Blk.new w (scells tkOps).toArray 9)
  have HW := Lib.hid (show Below w.heap.size w w1 by rw [hw1]; exact (Below.refl _ _).alloc (Nat.le_refl _) _)
  clear hw1
  go_wp2_with fail
  go_loopw [6] (fun v wr => ∃ k : Nat, v = .int .i64 (k : Int) ∧ k ≤ 32 ∧ Hid (Blk wr w.heap.size (scells tkOps).toArray 9 ∧ Below w.heap.size w wr ∧ r = fnd (l.drop a) (tkOps.drop k))) (fun v _ => 32 - (intOf v).toNat)
  case atStart => exact ⟨0, rfl, by omega, Lib.hid ⟨HB.out, HW.out, H0.out⟩⟩
  case round =>
    clear HB H0 HW w1
    obtain ⟨k, rfl, hk, HR⟩ := hrel
    by_cases hlt : k < 32
    · have hc : wr.cell? ⟨w.heap.size, k, none⟩ = some (.string (S (wd tkOps k))) := by
        rw [HR.out.1.cell k]
        have := scells_get tkOps k (by rw [ops_32]; exact hlt)
        simpa using this
      have hs := HR.out.1.lt
      have ho3 := ops_3 k
      have HY := Lib.hid (fun h => HR.out.2.2.trans (fnd_y (m := l.drop a) (j := k) (P := tkOps) (by rw [ops_32]; exact hlt) h))
      have HX := Lib.hid (fun h => HR.out.2.2.trans (fnd_n (m := l.drop a) (j := k) (P := tkOps) (by rw [ops_32]; exact hlt) h))
      have hpre := pre_at l (wd tkOps k) a ha
      obtain ⟨o, ho⟩ : ∃ o, wd tkOps k = o := ⟨_, rfl⟩
      rw [ho] at hc ho3 HY HX hpre
      clear ho
      have HBl := Lib.hid HR.out.1
      have HBw := Lib.hid HR.out.2.1
      clear HR
      have k0 : (0 : Int) ≤ (k : Int) := by omega
      have k1 : (k : Int) < 32 := by omega
      have w2 : IntKind.i64.wrap ((l.length : Int) - (a : Int)) = (l.length : Int) - (a : Int) := IntWalk.i64_in _ (by omega)
      by_cases hle : o.length ≤ l.length - a
      · have t1 : decide ((o.length : Int) ≤ (l.length : Int) - (a : Int)) = true := decide_eq_true (by omega)
        have w1 : IntKind.i64.wrap ((a : Int) + (o.length : Int)) = (a : Int) + (o.length : Int) := IntWalk.i64_in _ (by omega)
        have b1 : (a : Int) ≤ (a : Int) + (o.length : Int) := by omega
        have b2 : (a : Int) + (o.length : Int) ≤ (l.length : Int) := by omega
        have e1 : ((a : Int) + (o.length : Int)).toNat = a + o.length := by omega
        by_cases hq : sl l a (a + o.length) = o
        · have HN := Lib.hid (HY.out (hpre.2 ⟨hle, hq⟩))
          have T9 : (sl l a (a + o.length) == o) = true := by rw [hq]; simp
          clear HY HX hpre hq hle
          go_wp2_with fail
          go_quiet (fail)
          go_wp2_with fail
          go_ret
          exact ⟨ret_S HN.out.symm, below_drewN HBw.out nq⟩
        · have HN := Lib.hid (HX.out (by rw [← Bool.not_eq_true, hpre]; exact fun h => hq h.2))
          have T9 : (sl l a (a + o.length) == o) = false := by rw [beq_eq_false_iff_ne]; exact hq
          clear HY HX hpre hq hle
          go_wp2_with fail
          go_quiet (fail)
          go_wp2_with fail
          go_roundw
          case rel => exact ⟨k + 1, by go_num, by omega, Lib.hid ⟨HBl.out, below_drewN HBw.out nq, HN.out⟩⟩
          case measure => simp [intOf]; omega
      · have t1 : decide ((o.length : Int) ≤ (l.length : Int) - (a : Int)) = false := decide_eq_false (by omega)
        have HN := Lib.hid (HX.out (by rw [← Bool.not_eq_true, hpre]; exact fun h => hle h.1))
        clear HY HX hpre hle
        go_wp2_with fail
        go_quiet (fail)
        go_wp2_with fail
        go_roundw
        case rel => exact ⟨k + 1, by go_num, by omega, Lib.hid ⟨HBl.out, below_drewN HBw.out nq, HN.out⟩⟩
        case measure => simp [intOf]; omega
    · obtain rfl : k = 32 := by omega
      have HN := Lib.hid (show r = [] from HR.out.2.2)
      go_wp2_with fail
      go_ret
      exact ⟨ret_S (a := []) (by rw [HN.out]), HR.out.2.1⟩
end
section
open Go.RowKit

theorem end_len : tkEndOps.length = 7 := by decide
set_option maxRecDepth 100000 in
set_option maxHeartbeats 2000000 in
theorem rends_any (k : Nat) (x : List UInt8) (p e : Nat) (w : World) : Calls Tryz.prog 25 #[.agg #[.int .i64 (k : Int), .string (S x), .int .i64 (p : Int), .int .i64 (e : Int)]] w fun e' w' => e' = .returned (.bool (tkEnd k x)) ∧ Below w.heap.size w w' := by
  have HB0 := Lib.hid (show Below w.heap.size w (w.alloc (.cells #[.int .i64 (k : Int), .string (S x), .int .i64 (p : Int), .int .i64 (e : Int)] 32)) from (Below.refl _ _).alloc (Nat.le_refl _) _)
  by_cases h1 : k = 1 ∨ k = 2 ∨ k = 3 ∨ k = 4
  · have HN := Lib.hid (show tkEnd k x = true by unfold tkEnd; rw [if_pos h1])
    rcases h1 with rfl | rfl | rfl | rfl
    all_goals
      go_enter Tryz.func25, Tryz.ntmps25
      go_wp2_with fail
      go_ret
      exact ⟨ret_bool (by rw [HN.out]), HB0.out⟩
  · have hn := show tkEnd k x = (k == 5 && tkEndOps.contains x) by unfold tkEnd; rw [if_neg h1]
    have t1 : ((k : Int) == 1) = false := beq_eq_false_iff_ne.2 (by omega)
    have t2 : ((k : Int) == 2) = false := beq_eq_false_iff_ne.2 (by omega)
    have t3 : ((k : Int) == 3) = false := beq_eq_false_iff_ne.2 (by omega)
    have t4 : ((k : Int) == 4) = false := beq_eq_false_iff_ne.2 (by omega)
    by_cases h5 : k = 5
    · subst h5
      have HN := Lib.hid (show tkEnd 5 x = tkEndOps.contains x by rw [hn]; rfl)
      clear hn t1 t2 t3 t4 h1
      obtain ⟨r, hr⟩ : ∃ r, tkEnd 5 x = r := ⟨_, rfl⟩
      rw [hr] at HN ⊢
      clear hr
      go_enter Tryz.func25, Tryz.ntmps25
      go_wp2_with fail
      have HT := Lib.hid ((Blk.new w #[.int .i64 ((5 : Nat) : Int), .string (S x), .int .i64 (p : Int), .int .i64 (e : Int)] 32).alloc (.cells (scells tkEndOps).toArray 9))
      have HO := Lib.hid (Blk.new (w.alloc (.cells #[.int .i64 ((5 : Nat) : Int), .string (S x), .int .i64 (p : Int), .int .i64 (e : Int)] 32)) (scells tkEndOps).toArray 9)
      have HW := Lib.hid (HB0.out.alloc (by simp) (.cells (scells tkEndOps).toArray 9))
      clear HB0
      rw [World.size_alloc] at HO
      go_loopw [4] (fun v wr => ∃ j : Nat, v = .int .i64 (j : Int) ∧ j ≤ 7 ∧ Hid (Blk wr w.heap.size #[.int .i64 ((5 : Nat) : Int), .string (S x), .int .i64 (p : Int), .int .i64 (e : Int)] 32 ∧ Blk wr (w.heap.size + 1) (scells tkEndOps).toArray 9 ∧ Below w.heap.size w wr ∧ r = (tkEndOps.drop j).contains x)) (fun v _ => 7 - (intOf v).toNat)
      case atStart => exact ⟨0, rfl, by omega, Lib.hid ⟨HT.out, HO.out, HW.out, HN.out⟩⟩
      case round =>
        clear HT HO HW HN
        obtain ⟨j, rfl, hj, HR⟩ := hrel
        by_cases hlt : j < 7
        · have hc : wr.cell? ⟨w.heap.size + 1, j, none⟩ = some (.string (S (wd tkEndOps j))) := by
            rw [HR.out.2.1.cell j]
            have := scells_get tkEndOps j (by rw [end_len]; exact hlt)
            simpa using this
          have hs := HR.out.2.1.lt
          have ht := HR.out.1.cell 1
          have hd : tkEndOps.drop j = wd tkEndOps j :: tkEndOps.drop (j + 1) := by
            rw [List.drop_eq_getElem_cons (by rw [end_len]; exact hlt)]
            congr 1
            unfold wd; rw [List.getD, List.getElem?_eq_getElem (by rw [end_len]; exact hlt)]; rfl
          have HQ := Lib.hid (HR.out.2.2.2.trans (by rw [hd, List.contains_cons]))
          have HS := Lib.hid HR.out
          obtain ⟨o, ho⟩ : ∃ o, wd tkEndOps j = o := ⟨_, rfl⟩
          rw [ho] at hc HQ
          clear ho hd HR
          have j0 : (0 : Int) ≤ (j : Int) := by omega
          have j1 : (j : Int) < 7 := by omega
          by_cases hq : o = x
          · have HN := Lib.hid (show r = true by rw [HQ.out, hq]; simp)
            have T : (o == x) = true := by rw [hq]; simp
            clear hq HQ
            go_wp2_with fail
            go_quiet (fail)
            go_wp2_with fail
            go_ret
            exact ⟨ret_bool (by rw [HN.out]), below_drewN HS.out.2.2.1 nq⟩
          · have HN := Lib.hid (show r = (tkEndOps.drop (j + 1)).contains x by rw [HQ.out, show (x == o) = false by rw [beq_eq_false_iff_ne]; exact fun e => hq e.symm]; rfl)
            have T : (o == x) = false := by rw [beq_eq_false_iff_ne]; exact hq
            clear hq HQ
            go_wp2_with fail
            go_quiet (fail)
            go_wp2_with fail
            go_roundw
            case rel => exact ⟨j + 1, by go_num, by omega, Lib.hid ⟨HS.out.1, HS.out.2.1, below_drewN HS.out.2.2.1 nq, HN.out⟩⟩
            case measure => simp [intOf]; omega
        · obtain rfl : j = 7 := by omega
          have HN := Lib.hid (show r = false from HR.out.2.2.2)
          go_wp2_with fail
          go_ret
          exact ⟨ret_bool (by rw [HN.out]), HR.out.2.2.1⟩
    · have HN := Lib.hid (show tkEnd k x = false by rw [hn, beq_eq_false_iff_ne.2 h5]; rfl)
      have t5 : ((k : Int) == 5) = false := beq_eq_false_iff_ne.2 (by omega)
      clear hn h1 h5
      go_enter Tryz.func25, Tryz.ntmps25
      go_wp2_with fail
      go_ret
      exact ⟨ret_bool (by rw [HN.out]), HB0.out⟩

theorem line_cons {s : List UInt8} {a : Nat} {L : List Tok} {j : Nat} (hj : j < L.length) : rLine s a (L.take (j + 1)).reverse = if L[j].k = 7 then false else if L[j].k = 6 then rLine s a (L.take j).reverse else if (sl s L[j].e a).contains 10 = true then false else tkEnd L[j].k L[j].t := by
  rw [List.take_succ_eq_append_getElem hj, List.reverse_append]; rfl
theorem sl_has (s : List UInt8) (a m b : Nat) (ham : a ≤ m) (hm : m < b) (hb : b ≤ s.length) (h10 : byt s m = 10) : (sl s a b).contains 10 = true := by
  rw [List.contains_iff_mem]
  have e : sl s a b = sl s a m ++ byt s m :: sl s (m + 1) b := by
    obtain ⟨n, rfl⟩ : ∃ n, b = m + (n + 1) := ⟨b - m - 1, by omega⟩
    rw [sl_more s a m (n + 1) ham]
    congr 1
    unfold sl
    rw [show m + (n + 1) - m = n + 1 by omega, drop_byt s m (by omega), List.take_succ_cons, show m + (n + 1) - (m + 1) = n by omega]
  rw [e, h10]
  exact List.mem_append_right _ (List.mem_cons_self ..)
set_option maxRecDepth 100000 in
set_option maxHeartbeats 2000000 in
theorem rline_any (s : List UInt8) (v : Value) (L : List Tok) (a : Nat) (w : World) (hs : s.length ≤ 1000000) (ha : a ≤ s.length) (hv : SlT w v L) (hL : L.length ≤ 1000000) (hx : ∀ x ∈ L, x.e ≤ a) :
    Calls Tryz.prog 11 #[.string (S s), v, .int .i64 (a : Int)] w fun e w' => e = .returned (.bool (rLine s a L.reverse)) ∧ Below w.heap.size w w' := by
  obtain ⟨p, cap, rfl, hp⟩ := hv.open
  have HP := Lib.hid hp
  have HX := Lib.hid hx
  have HQ := Lib.hid (show rLine s a (L.take L.length).reverse = rLine s a L.reverse by rw [List.take_length])
  obtain ⟨r, hr⟩ : ∃ r, rLine s a L.reverse = r := ⟨_, rfl⟩
  rw [hr] at HQ ⊢
  clear hp hv hr hx
  go_enter Tryz.func11, Tryz.ntmps11
  go_wp2_with fail
  go_loop [7] (fun v => ∃ j : Nat, v = .int .i64 ((j : Int) - 1) ∧ j ≤ L.length ∧ Hid (rLine s a (L.take j).reverse = r)) (fun v => (intOf v + 1).toNat)
  case atStart => exact ⟨L.length, rfl, Nat.le_refl _, HQ⟩
  case round =>
    clear HQ
    obtain ⟨j, rfl, hj, HR⟩ := hrel
    cases j with
    | zero =>
      have HN := Lib.hid (show r = false from HR.out.symm)
      go_wp2_with fail
      go_ret
      exact ⟨ret_bool (by rw [HN.out]), Below.refl _ _⟩
    | succ j =>
      have hl : j < L.length := by omega
      obtain ⟨B1, rfl, hc1, hB1, c0, c1, c2, c3⟩ := HP.out j hl
      have hxe := HX.out L[j] (List.getElem_mem hl)
      have hq := HR.out.symm.trans (line_cons hl)
      obtain ⟨⟨xk, xt, xp, xe⟩, hx⟩ : ∃ x, L[j] = x := ⟨_, rfl⟩
      rw [hx] at c0 c1 c2 c3 hxe hq
      clear hx HR
      simp only at c0 c1 c2 c3 hxe hq
      have j0 : (0 : Int) ≤ (j : Int) := by omega
      have j1 : (j : Int) < (L.length : Int) := by omega
      have e1 : ((j + 1 : Nat) : Int) - 1 = (j : Int) := by omega
      rw [e1]
      clear e1
      by_cases h7 : xk = 7
      · have HN := Lib.hid (show r = false by rw [hq, if_pos h7])
        subst h7
        clear hq
        go_wp2_with fail
        go_ret
        exact ⟨ret_bool (by rw [HN.out]), Below.refl _ _⟩
      · rw [if_neg h7] at hq
        have t7 : ((xk : Int) == 7) = false := beq_eq_false_iff_ne.2 (by omega)
        by_cases h6 : xk = 6
        · rw [if_pos h6] at hq
          have HN := Lib.hid hq.symm
          subst h6
          clear hq
          go_wp2_with fail
          go_round
          case rel => exact ⟨j, rfl, by omega, HN⟩
          case measure => simp [intOf]
        · rw [if_neg h6] at hq
          have t6 : ((xk : Int) == 6) = false := beq_eq_false_iff_ne.2 (by omega)
          have HQ := Lib.hid hq
          clear hq h7 h6
          go_wp2_with fail
          go_loop [8] (fun v => ∃ m : Nat, v = .int .i64 (m : Int) ∧ xe ≤ m ∧ m ≤ a ∧ Hid ((sl s xe m).contains 10 = false)) (fun v => a - (intOf v).toNat)
          case atStart => exact ⟨xe, rfl, Nat.le_refl _, hxe, Lib.hid (by rw [sl_self]; rfl)⟩
          case round =>
            obtain ⟨m, rfl, hm1, hm2, HM⟩ := hrel
            by_cases hlt : m < a
            · have m0 : (0 : Int) ≤ (m : Int) := by omega
              have m1 : (m : Int) < (s.length : Int) := by omega
              by_cases h10 : byt s m = 10
              · have T : (((byt s m).toNat : Int) == 10) = true := byte_test (d := 10) h10
                have HN := Lib.hid (show r = false by rw [HQ.out, if_pos (sl_has s xe m a hm1 hlt ha h10)])
                clear h10
                go_wp2_with fail
                go_ret
                exact ⟨ret_bool (by rw [HN.out]), Below.refl _ _⟩
              · have T : (((byt s m).toNat : Int) == 10) = false := u8_ne (d := 10) h10
                have HN := Lib.hid (show (sl s xe (m + 1)).contains 10 = false by
                  rw [sl_snoc s xe m hm1 (by omega)]
                  have h := HM.out
                  rw [← Bool.not_eq_true, List.contains_iff_mem] at h ⊢
                  rw [List.mem_append]
                  rintro (h2 | h2)
                  · exact h h2
                  · exact h10 (List.mem_singleton.1 h2).symm)
                clear h10
                go_wp2_with fail
                go_round
                case rel => exact ⟨m + 1, by go_num, by omega, by omega, HN⟩
                case measure => simp [intOf]; omega
            · have hma : m = a := by omega
              subst hma
              have HN := Lib.hid (show r = tkEnd xk xt by rw [HQ.out, if_neg (by rw [HM.out]; decide)])
              go_wp2_with fail
              refine (rends_any xk xt xp xe _).mono ?_
              rintro e w1 ⟨rfl, hb1⟩
              have HB := Lib.hid hb1
              go_wp2_with fail
              go_ret
              exact ⟨ret_bool (by rw [HN.out]), HB.out⟩
end
end Go.Proofs.YtadbilonialjnaaGreatDoor
