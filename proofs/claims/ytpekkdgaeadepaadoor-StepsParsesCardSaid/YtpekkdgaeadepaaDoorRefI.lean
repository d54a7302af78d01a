/- The reference's Ident is 'identB', for every string of at most 1000000 bytes. -/
import Derived.Test.YtpekkdgaeadepaaDoorIdent
namespace Go.Proofs.YtpekkdgaeadepaaDoor
open Go.RowKit

theorem byt_drop (l : List UInt8) (f : Nat) : byt (l.drop f) 0 = byt l f := by
  simp [byt, List.getD, List.getElem?_drop]
theorem byt_drop' (l : List UInt8) (f k : Nat) (h : f ≤ k) : byt (l.drop f) (k - f) = byt l k := by
  simp only [byt, List.getD, List.getElem?_drop]; rw [show f + (k - f) = k by omega]
theorem all_snoc_drop {l : List UInt8} {f k : Nat} (hf : f ≤ k) (hk : k < l.length) (h : ((l.drop f).take (k - f)).all idByte = true) (hb : idByte (byt l k) = true) : ((l.drop f).take (k + 1 - f)).all idByte = true := by
  rw [show k + 1 - f = (k - f) + 1 by omega]
  exact all_snoc (by rw [List.length_drop]; omega) h (by rw [byt_drop' l f k hf]; exact hb)
theorem all_false_drop {l : List UInt8} {f k : Nat} (hf : f ≤ k) (hk : k < l.length) (hb : idByte (byt l k) = false) : (l.drop f).all idByte = false :=
  all_false (k := k - f) (by rw [List.length_drop]; omega) (by rw [byt_drop' l f k hf]; exact hb)
theorem idByte_cases2 {c : UInt8} (h : idByte c = true) : letterB c = true ∨ (letterB c = false ∧ digitB c = true) ∨ (letterB c = false ∧ digitB c = false ∧ ((c.toNat : Int) != 95) = false) := by
  unfold idByte at h
  cases hl : letterB c with
  | true => exact .inl rfl
  | false =>
    cases hd : digitB c with
    | true => exact .inr (.inl ⟨rfl, rfl⟩)
    | false =>
      rw [hl, hd] at h
      have : c = 95 := by simpa using h
      subst this
      exact .inr (.inr ⟨rfl, rfl, rfl⟩)
theorem idByte_no2 {c : UInt8} (h : idByte c = false) : letterB c = false ∧ digitB c = false ∧ ((c.toNat : Int) != 95) = true := by
  obtain ⟨h1, h2, _⟩ := idByte_no h
  unfold idByte at h
  simp only [Bool.or_eq_false_iff] at h
  exact ⟨h1, h.2, h2⟩

theorem Words_any (w : World) : Calls Tryd.prog 56 #[] w fun e w' => e = .returned (.slice (some ⟨w.heap.size, 0, none⟩) 13 13) ∧ w' = w.alloc (.cells #[.string ⟨#[110, 117, 108, 108]⟩, .string ⟨#[116, 114, 117, 101]⟩, .string ⟨#[102, 97, 108, 115, 101]⟩, .string ⟨#[98, 111, 111, 108]⟩, .string ⟨#[105, 110, 116]⟩, .string ⟨#[110, 117, 109, 98, 101, 114]⟩, .string ⟨#[115, 116, 114, 105, 110, 103]⟩, .string ⟨#[108, 101, 116]⟩, .string ⟨#[105, 102]⟩, .string ⟨#[102, 111, 114]⟩, .string ⟨#[105, 110]⟩, .string ⟨#[112, 97, 99, 107, 97, 103, 101]⟩, .string ⟨#[105, 109, 112, 111, 114, 116]⟩] 9) := by
  go_enter Tryd.func56, Tryd.ntmps56
  go_wp2
  go_ret
  exact ⟨rfl, rfl⟩

set_option maxRecDepth 100000 in
set_option maxHeartbeats 2000000 in
theorem refIdent_any (l : List UInt8) (hl : l.length ≤ 1000000) (w : World) :
    Calls Tryd.prog 41 #[.string (S l)] w fun e w' => e = .returned (.bool (identB l)) ∧ Below w.heap.size w w' := by
  generalize hr : identB l = r
  have HI := Lib.hid hr; clear hr
  by_cases hbig : 32 < l.length
  · have hr : r = false := by rw [← HI.out, identB_big hbig]
    have HR := Lib.hid hr; clear hr
    go_enter Tryd.func41, Tryd.ntmps41
    go_wp2_with fail
    go_ret
    exact ⟨ret_bool HR.out.symm, Below.refl _ _⟩
  by_cases h0 : l.length = 0
  · have hr : r = false := by rw [← HI.out, List.eq_nil_of_length_eq_zero h0]; rfl
    have HR := Lib.hid hr; clear hr
    have hz : (l.length : Int) < 1 := by omega
    go_enter Tryd.func41, Tryd.ntmps41
    go_wp2_with fail
    go_ret
    exact ⟨ret_bool HR.out.symm, Below.refl _ _⟩
  have hw := words_at w 9
  have hbw : Below w.heap.size w (w.alloc (.cells #[.string ⟨#[110, 117, 108, 108]⟩, .string ⟨#[116, 114, 117, 101]⟩, .string ⟨#[102, 97, 108, 115, 101]⟩, .string ⟨#[98, 111, 111, 108]⟩, .string ⟨#[105, 110, 116]⟩, .string ⟨#[110, 117, 109, 98, 101, 114]⟩, .string ⟨#[115, 116, 114, 105, 110, 103]⟩, .string ⟨#[108, 101, 116]⟩, .string ⟨#[105, 102]⟩, .string ⟨#[102, 111, 114]⟩, .string ⟨#[105, 110]⟩, .string ⟨#[112, 97, 99, 107, 97, 103, 101]⟩, .string ⟨#[105, 109, 112, 111, 114, 116]⟩] 9)) := (Below.refl _ _).alloc (Nat.le_refl _) _
  obtain ⟨W1, hW1⟩ : ∃ W1, W1 = w.alloc (.cells #[.string ⟨#[110, 117, 108, 108]⟩, .string ⟨#[116, 114, 117, 101]⟩, .string ⟨#[102, 97, 108, 115, 101]⟩, .string ⟨#[98, 111, 111, 108]⟩, .string ⟨#[105, 110, 116]⟩, .string ⟨#[110, 117, 109, 98, 101, 114]⟩, .string ⟨#[115, 116, 114, 105, 110, 103]⟩, .string ⟨#[108, 101, 116]⟩, .string ⟨#[105, 102]⟩, .string ⟨#[102, 111, 114]⟩, .string ⟨#[105, 110]⟩, .string ⟨#[112, 97, 99, 107, 97, 103, 101]⟩, .string ⟨#[105, 109, 112, 111, 114, 116]⟩] 9) := ⟨_, rfl⟩
  rw [← hW1] at hw hbw
  have HW := Lib.hid hw; have hBw := hbw; have HE := Lib.hid hW1; clear hw hbw hW1
  have hbig' : l.length ≤ 32 := by omega
  have h0' : 0 < l.length := by omega
  clear h0
  go_enter Tryd.func41, Tryd.ntmps41
  go_wp2_with fail
  refine (Words_any _).mono ?_
  rintro e w' ⟨rfl, hw'⟩
  rw [← HE.out] at hw'
  subst hw'
  go_wp2_with fail
  go_loop [17] (fun i => ∃ k : Nat, k ≤ 13 ∧ i = .int .i64 k ∧ Hid (l ∉ wordsL.take k)) (fun i => 13 - (intOf i).toNat)
  case atStart => exact ⟨0, by omega, rfl, by show l ∉ wordsL.take 0; simp⟩
  case round =>
    obtain ⟨k, hk, rfl, hh⟩ := hrel
    by_cases hlt : k < 13
    · have hcell := HW.out k hlt
      by_cases he : (l == wd wordsL k) = true
      · have hm : wordsL.contains l = true := by
          rw [List.contains_iff_mem]
          have : l = wd wordsL k := by simpa using he
          rw [this, wd_get wordsL k hlt]; exact List.getElem_mem hlt
        have hr : r = false := by rw [← HI.out, identB_word hm]
        have HR := Lib.hid hr; clear hr hm
        go_wp2_with fail
        go_ret
        exact ⟨ret_bool HR.out.symm, hBw⟩
      · have he' : (l == wd wordsL k) = false := by simpa using he
        clear he
        go_wp2_with fail
        go_round
        case rel => exact ⟨k + 1, by omega, by go_num, contains_step hlt hh.out he'⟩
        case measure => simp [intOf]; omega
    · have hm : wordsL.contains l = false := by
        have := hh.out
        rw [List.take_of_length_le (by show 13 ≤ k; omega)] at this
        rw [← Bool.not_eq_true, List.contains_iff_mem]; exact this
      have hrest := identB_rest hbig hm h0'
      clear hm
      by_cases h35 : byt l 0 = 35
      · rw [if_pos (.inl h35), HI.out] at hrest
        have HT := Lib.hid hrest; clear hrest
        by_cases hm0 : l.length = 1
        · have hr : r = false := by rw [HT.out, idTail_nil (by rw [List.length_drop]; omega)]
          have HR := Lib.hid hr; clear hr
          have hz : (l.length : Int) ≤ 1 := by omega
          go_wp2_with fail
          go_ret
          exact ⟨ret_bool HR.out.symm, hBw⟩
        have hm1 : 1 < l.length := by omega
        clear hm0
        by_cases hL : letterB (byt l 1) = true
        · have hr : r = (l.drop 1).all idByte := by rw [HT.out, idTail_pos (by rw [List.length_drop]; omega) (by rw [byt_drop]; exact hL)]
          have HR := Lib.hid hr; clear hr
          go_wp2_with (first | (go_at_call 57; refine (Letter_any _ _).mono ?_; rintro e w' ⟨rfl, rfl⟩) | (go_at_call 58; refine (Digit_any _ _).mono ?_; rintro e w' ⟨rfl, rfl⟩))
          clear hL
          go_loop [6] (fun i => ∃ k : Nat, 1 ≤ k ∧ k ≤ l.length ∧ i = .int .i64 k ∧ Hid (((l.drop 1).take (k - 1)).all idByte = true)) (fun i => l.length - (intOf i).toNat)
          case atStart => exact ⟨1, by omega, by omega, rfl, by show (List.take _ _).all idByte = true; simp⟩
          case round =>
            obtain ⟨k, hk0, hk, rfl, hh⟩ := hrel
            by_cases hlt : k < l.length
            · by_cases hb : idByte (byt l k) = true
              · have hnext : Hid (((l.drop 1).take (k + 1 - 1)).all idByte = true) := all_snoc_drop hk0 hlt hh.out hb
                rcases idByte_cases2 hb with h1 | ⟨h1, h2⟩ | ⟨h1, h2, h3⟩
                · go_wp2_with (first | (go_at_call 57; refine (Letter_any _ _).mono ?_; rintro e w' ⟨rfl, rfl⟩) | (go_at_call 58; refine (Digit_any _ _).mono ?_; rintro e w' ⟨rfl, rfl⟩))
                  go_round
                  case rel => exact ⟨k + 1, by omega, by omega, by go_num, hnext⟩
                  case measure => simp [intOf]; omega
                · go_wp2_with (first | (go_at_call 57; refine (Letter_any _ _).mono ?_; rintro e w' ⟨rfl, rfl⟩) | (go_at_call 58; refine (Digit_any _ _).mono ?_; rintro e w' ⟨rfl, rfl⟩))
                  go_round
                  case rel => exact ⟨k + 1, by omega, by omega, by go_num, hnext⟩
                  case measure => simp [intOf]; omega
                · go_wp2_with (first | (go_at_call 57; refine (Letter_any _ _).mono ?_; rintro e w' ⟨rfl, rfl⟩) | (go_at_call 58; refine (Digit_any _ _).mono ?_; rintro e w' ⟨rfl, rfl⟩))
                  go_round
                  case rel => exact ⟨k + 1, by omega, by omega, by go_num, hnext⟩
                  case measure => simp [intOf]; omega
              · have hbf : idByte (byt l k) = false := by simpa using hb
                have hrf : Hid ((l.drop 1).all idByte = false) := all_false_drop hk0 hlt hbf
                obtain ⟨h1, h2, h3⟩ := idByte_no2 hbf
                clear hb hbf
                go_wp2_with (first | (go_at_call 57; refine (Letter_any _ _).mono ?_; rintro e w' ⟨rfl, rfl⟩) | (go_at_call 58; refine (Digit_any _ _).mono ?_; rintro e w' ⟨rfl, rfl⟩))
                go_ret
                exact ⟨ret_bool (by rw [HR.out, hrf.out]), hBw⟩
            · have hall := hh.out
              rw [List.take_of_length_le (by rw [List.length_drop]; omega)] at hall
              have HA := Lib.hid hall; clear hall
              go_wp2_with fail
              go_ret
              exact ⟨ret_bool (by rw [HR.out, HA.out]), hBw⟩
        · have hLf : letterB (byt l 1) = false := by simpa using hL
          have hr : r = false := by rw [HT.out, idTail_neg (by rw [List.length_drop]; omega) (by rw [byt_drop]; exact hLf)]
          have HR := Lib.hid hr; clear hr hL
          go_wp2_with (first | (go_at_call 57; refine (Letter_any _ _).mono ?_; rintro e w' ⟨rfl, rfl⟩) | (go_at_call 58; refine (Digit_any _ _).mono ?_; rintro e w' ⟨rfl, rfl⟩))
          go_ret
          exact ⟨ret_bool HR.out.symm, hBw⟩

      by_cases h95 : byt l 0 = 95
      · rw [if_pos (.inr h95), HI.out] at hrest
        have HT := Lib.hid hrest; clear hrest h35
        by_cases hm0 : l.length = 1
        · have hr : r = false := by rw [HT.out, idTail_nil (by rw [List.length_drop]; omega)]
          have HR := Lib.hid hr; clear hr
          have hz : (l.length : Int) ≤ 1 := by omega
          go_wp2_with fail
          go_ret
          exact ⟨ret_bool HR.out.symm, hBw⟩
        have hm1 : 1 < l.length := by omega
        clear hm0
        by_cases hL : letterB (byt l 1) = true
        · have hr : r = (l.drop 1).all idByte := by rw [HT.out, idTail_pos (by rw [List.length_drop]; omega) (by rw [byt_drop]; exact hL)]
          have HR := Lib.hid hr; clear hr
          go_wp2_with (first | (go_at_call 57; refine (Letter_any _ _).mono ?_; rintro e w' ⟨rfl, rfl⟩) | (go_at_call 58; refine (Digit_any _ _).mono ?_; rintro e w' ⟨rfl, rfl⟩))
          clear hL
          go_loop [6] (fun i => ∃ k : Nat, 1 ≤ k ∧ k ≤ l.length ∧ i = .int .i64 k ∧ Hid (((l.drop 1).take (k - 1)).all idByte = true)) (fun i => l.length - (intOf i).toNat)
          case atStart => exact ⟨1, by omega, by omega, rfl, by show (List.take _ _).all idByte = true; simp⟩
          case round =>
            obtain ⟨k, hk0, hk, rfl, hh⟩ := hrel
            by_cases hlt : k < l.length
            · by_cases hb : idByte (byt l k) = true
              · have hnext : Hid (((l.drop 1).take (k + 1 - 1)).all idByte = true) := all_snoc_drop hk0 hlt hh.out hb
                rcases idByte_cases2 hb with h1 | ⟨h1, h2⟩ | ⟨h1, h2, h3⟩
                · go_wp2_with (first | (go_at_call 57; refine (Letter_any _ _).mono ?_; rintro e w' ⟨rfl, rfl⟩) | (go_at_call 58; refine (Digit_any _ _).mono ?_; rintro e w' ⟨rfl, rfl⟩))
                  go_round
                  case rel => exact ⟨k + 1, by omega, by omega, by go_num, hnext⟩
                  case measure => simp [intOf]; omega
                · go_wp2_with (first | (go_at_call 57; refine (Letter_any _ _).mono ?_; rintro e w' ⟨rfl, rfl⟩) | (go_at_call 58; refine (Digit_any _ _).mono ?_; rintro e w' ⟨rfl, rfl⟩))
                  go_round
                  case rel => exact ⟨k + 1, by omega, by omega, by go_num, hnext⟩
                  case measure => simp [intOf]; omega
                · go_wp2_with (first | (go_at_call 57; refine (Letter_any _ _).mono ?_; rintro e w' ⟨rfl, rfl⟩) | (go_at_call 58; refine (Digit_any _ _).mono ?_; rintro e w' ⟨rfl, rfl⟩))
                  go_round
                  case rel => exact ⟨k + 1, by omega, by omega, by go_num, hnext⟩
                  case measure => simp [intOf]; omega
              · have hbf : idByte (byt l k) = false := by simpa using hb
                have hrf : Hid ((l.drop 1).all idByte = false) := all_false_drop hk0 hlt hbf
                obtain ⟨h1, h2, h3⟩ := idByte_no2 hbf
                clear hb hbf
                go_wp2_with (first | (go_at_call 57; refine (Letter_any _ _).mono ?_; rintro e w' ⟨rfl, rfl⟩) | (go_at_call 58; refine (Digit_any _ _).mono ?_; rintro e w' ⟨rfl, rfl⟩))
                go_ret
                exact ⟨ret_bool (by rw [HR.out, hrf.out]), hBw⟩
            · have hall := hh.out
              rw [List.take_of_length_le (by rw [List.length_drop]; omega)] at hall
              have HA := Lib.hid hall; clear hall
              go_wp2_with fail
              go_ret
              exact ⟨ret_bool (by rw [HR.out, HA.out]), hBw⟩
        · have hLf : letterB (byt l 1) = false := by simpa using hL
          have hr : r = false := by rw [HT.out, idTail_neg (by rw [List.length_drop]; omega) (by rw [byt_drop]; exact hLf)]
          have HR := Lib.hid hr; clear hr hL
          go_wp2_with (first | (go_at_call 57; refine (Letter_any _ _).mono ?_; rintro e w' ⟨rfl, rfl⟩) | (go_at_call 58; refine (Digit_any _ _).mono ?_; rintro e w' ⟨rfl, rfl⟩))
          go_ret
          exact ⟨ret_bool HR.out.symm, hBw⟩

      · rw [if_neg (by simp [h35, h95]), HI.out] at hrest
        have HT : Hid (r = idTail (l.drop 0)) := hrest
        clear hrest
        have e35 : (((byt l 0).toNat : Int) == 35) = false := u8_ne h35
        have e95 : (((byt l 0).toNat : Int) == 95) = false := u8_ne h95
        clear h35 h95
        have hnil : ¬ l = [] := by intro h; rw [h] at h0'; simp at h0'
        have hm1 : 0 < l.length := by omega
        by_cases hL : letterB (byt l 0) = true
        · have hr : r = (l.drop 0).all idByte := by rw [HT.out, idTail_pos (by rw [List.length_drop]; omega) (by rw [byt_drop]; exact hL)]
          have HR := Lib.hid hr; clear hr
          go_wp2_with (first | (go_at_call 57; refine (Letter_any _ _).mono ?_; rintro e w' ⟨rfl, rfl⟩) | (go_at_call 58; refine (Digit_any _ _).mono ?_; rintro e w' ⟨rfl, rfl⟩))
          clear hL
          go_loop [6] (fun i => ∃ k : Nat, 0 ≤ k ∧ k ≤ l.length ∧ i = .int .i64 k ∧ Hid (((l.drop 0).take (k - 0)).all idByte = true)) (fun i => l.length - (intOf i).toNat)
          case atStart => exact ⟨0, by omega, by omega, rfl, by show (List.take _ _).all idByte = true; simp⟩
          case round =>
            obtain ⟨k, hk0, hk, rfl, hh⟩ := hrel
            by_cases hlt : k < l.length
            · by_cases hb : idByte (byt l k) = true
              · have hnext : Hid (((l.drop 0).take (k + 1 - 0)).all idByte = true) := all_snoc_drop hk0 hlt hh.out hb
                rcases idByte_cases2 hb with h1 | ⟨h1, h2⟩ | ⟨h1, h2, h3⟩
                · go_wp2_with (first | (go_at_call 57; refine (Letter_any _ _).mono ?_; rintro e w' ⟨rfl, rfl⟩) | (go_at_call 58; refine (Digit_any _ _).mono ?_; rintro e w' ⟨rfl, rfl⟩))
                  go_round
                  case rel => exact ⟨k + 1, by omega, by omega, by go_num, hnext⟩
                  case measure => simp [intOf]; omega
                · go_wp2_with (first | (go_at_call 57; refine (Letter_any _ _).mono ?_; rintro e w' ⟨rfl, rfl⟩) | (go_at_call 58; refine (Digit_any _ _).mono ?_; rintro e w' ⟨rfl, rfl⟩))
                  go_round
                  case rel => exact ⟨k + 1, by omega, by omega, by go_num, hnext⟩
                  case measure => simp [intOf]; omega
                · go_wp2_with (first | (go_at_call 57; refine (Letter_any _ _).mono ?_; rintro e w' ⟨rfl, rfl⟩) | (go_at_call 58; refine (Digit_any _ _).mono ?_; rintro e w' ⟨rfl, rfl⟩))
                  go_round
                  case rel => exact ⟨k + 1, by omega, by omega, by go_num, hnext⟩
                  case measure => simp [intOf]; omega
              · have hbf : idByte (byt l k) = false := by simpa using hb
                have hrf : Hid ((l.drop 0).all idByte = false) := all_false_drop hk0 hlt hbf
                obtain ⟨h1, h2, h3⟩ := idByte_no2 hbf
                clear hb hbf
                go_wp2_with (first | (go_at_call 57; refine (Letter_any _ _).mono ?_; rintro e w' ⟨rfl, rfl⟩) | (go_at_call 58; refine (Digit_any _ _).mono ?_; rintro e w' ⟨rfl, rfl⟩))
                go_ret
                exact ⟨ret_bool (by rw [HR.out, hrf.out]), hBw⟩
            · have hall := hh.out
              rw [List.take_of_length_le (by rw [List.length_drop]; omega)] at hall
              have HA := Lib.hid hall; clear hall
              go_wp2_with fail
              go_ret
              exact ⟨ret_bool (by rw [HR.out, HA.out]), hBw⟩
        · have hLf : letterB (byt l 0) = false := by simpa using hL
          have hr : r = false := by rw [HT.out, idTail_neg (by rw [List.length_drop]; omega) (by rw [byt_drop]; exact hLf)]
          have HR := Lib.hid hr; clear hr hL
          go_wp2_with (first | (go_at_call 57; refine (Letter_any _ _).mono ?_; rintro e w' ⟨rfl, rfl⟩) | (go_at_call 58; refine (Digit_any _ _).mono ?_; rintro e w' ⟨rfl, rfl⟩))
          go_ret
          exact ⟨ret_bool HR.out.symm, hBw⟩

end Go.Proofs.YtpekkdgaeadepaaDoor
