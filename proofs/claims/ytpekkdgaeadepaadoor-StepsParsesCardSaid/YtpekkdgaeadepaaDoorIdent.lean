/- The program's Ident is 'identB', for every string of at most 1000000 bytes. -/
import Derived.Test.YtpekkdgaeadepaaDoorWords
namespace Go.Proofs.YtpekkdgaeadepaaDoor
open Go.RowKit

def idByte (c : UInt8) : Bool := letterB c || c == 95 || digitB c
theorem idTail_nil {m : List UInt8} (h : m.length = 0) : idTail m = false := by rw [List.eq_nil_of_length_eq_zero h]; rfl
theorem idTail_pos {m : List UInt8} (h : 0 < m.length) (hL : letterB (byt m 0) = true) : idTail m = m.all idByte := by
  cases m with
  | nil => simp at h
  | cons c t => show (letterB c && _) = _; rw [show letterB c = true from hL]; rfl
theorem idTail_neg {m : List UInt8} (h : 0 < m.length) (hL : letterB (byt m 0) = false) : idTail m = false := by
  cases m with
  | nil => simp at h
  | cons c t => show (letterB c && _) = _; rw [show letterB c = false from hL]; rfl
theorem all_snoc {m : List UInt8} {k : Nat} (hk : k < m.length) (h : (m.take k).all idByte = true) (hb : idByte (byt m k) = true) : (m.take (k + 1)).all idByte = true := by
  rw [take_byt m k hk, List.all_append, h]; simp [hb]
theorem all_false {m : List UInt8} {k : Nat} (hk : k < m.length) (hb : idByte (byt m k) = false) : m.all idByte = false := by
  rw [← Bool.not_eq_true, List.all_eq_true]
  intro h
  have := h (byt m k) (by rw [byt_get m k hk]; exact List.getElem_mem hk)
  rw [hb] at this; cases this
theorem idByte_cases {c : UInt8} (h : idByte c = true) : letterB c = true ∨ (letterB c = false ∧ ((c.toNat : Int) != 95) = false) ∨ (letterB c = false ∧ ((c.toNat : Int) != 95) = true ∧ 48 ≤ c.toNat ∧ c.toNat ≤ 57) := by
  cases hl : letterB c with
  | true => exact .inl rfl
  | false =>
    unfold idByte at h
    rw [hl] at h
    by_cases h95 : c = 95
    · subst h95; exact .inr (.inl ⟨rfl, rfl⟩)
    · have : ((c.toNat : Int) == 95) = false := u8_ne h95
      rw [show (c == 95) = false by simpa using h95, digitB_nat] at h
      simp at h
      exact .inr (.inr ⟨rfl, by simp only [bne, this]; rfl, h.1, h.2⟩)
theorem idByte_no {c : UInt8} (h : idByte c = false) : letterB c = false ∧ ((c.toNat : Int) != 95) = true ∧ ¬ (48 ≤ c.toNat ∧ c.toNat ≤ 57) := by
  unfold idByte at h
  simp only [Bool.or_eq_false_iff] at h
  obtain ⟨⟨h1, h2⟩, h3⟩ := h
  have : ((c.toNat : Int) == 95) = false := u8_ne (by simpa using h2)
  rw [digitB_nat] at h3
  exact ⟨h1, by simp only [bne, this]; rfl, by simpa using h3⟩
theorem identB_big {l : List UInt8} (h : 32 < l.length) : identB l = false := by unfold identB; rw [if_pos (.inl h)]
theorem identB_word {l : List UInt8} (h : wordsL.contains l = true) : identB l = false := by unfold identB; rw [if_pos (.inr h)]
theorem identB_rest {l : List UInt8} (h : ¬ 32 < l.length) (hw : wordsL.contains l = false) (h0 : 0 < l.length) : identB l = if byt l 0 = 35 ∨ byt l 0 = 95 then idTail (l.drop 1) else idTail l := by
  unfold identB
  rw [if_neg (by rw [hw]; simp; omega)]
  cases l with
  | nil => simp at h0
  | cons c t => rfl

set_option maxRecDepth 100000 in
set_option maxHeartbeats 2000000 in
theorem Ident_any (l : List UInt8) (hl : l.length ≤ 1000000) (w : World) :
    Calls Tryd.prog 39 #[.string (S l)] w fun e w' => e = .returned (.bool (identB l)) ∧ Below w.heap.size w w' := by
  generalize hr : identB l = r
  have HI := Lib.hid hr; clear hr
  by_cases hbig : 32 < l.length
  · have hr : r = false := by rw [← HI.out, identB_big hbig]
    have HR := Lib.hid hr; clear hr
    go_enter Tryd.func39, Tryd.ntmps39
    go_wp2_with fail
    go_ret
    exact ⟨ret_bool HR.out.symm, by go_grown⟩
  have hw := Lib.hid (words_at w 9)
  have hbig' : l.length ≤ 32 := by omega
  generalize hq : wordsL.contains l = q
  have HQ := Lib.hid hq; clear hq
  cases q with
  | true =>
    have hr : r = false := by rw [← HI.out, identB_word HQ.out]
    have HR := Lib.hid hr; clear hr
    go_enter Tryd.func39, Tryd.ntmps39
    go_wp2_with fail
    refine (Contains_any w.heap.size 13 wordsL l _ (by decide) hw.out).mono ?_
    rintro e w' ⟨rfl, rfl⟩
    rw [HQ.out]
    go_wp2_with fail
    go_ret
    exact ⟨ret_bool HR.out.symm, by go_grown⟩
  | false =>
    by_cases h0 : l.length = 0
    · have hr : r = false := by rw [← HI.out, List.eq_nil_of_length_eq_zero h0]; rfl
      have HR := Lib.hid hr; clear hr
      have hz : ((l.length : Int) == 0) = true := by rw [h0]; rfl
      go_enter Tryd.func39, Tryd.ntmps39
      go_wp2_with fail
      refine (Contains_any w.heap.size 13 wordsL l _ (by decide) hw.out).mono ?_
      rintro e w' ⟨rfl, rfl⟩
      rw [HQ.out]
      go_wp2_with fail
      go_ret
      exact ⟨ret_bool HR.out.symm, by go_grown⟩
    have h0' : 0 < l.length := by omega
    have hrest := identB_rest hbig HQ.out h0'
    clear h0
    by_cases h35 : byt l 0 = 35
    · rw [if_pos (.inl h35), HI.out, ← sl_from l 1] at hrest
      have HT := Lib.hid hrest; clear hrest
      have hml : (sl l 1 l.length).length ≤ 32 := by have := sl_le l 1 l.length; omega
      go_enter Tryd.func39, Tryd.ntmps39
      go_wp2_with fail
      refine (Contains_any w.heap.size 13 wordsL l _ (by decide) hw.out).mono ?_
      rintro e w' ⟨rfl, rfl⟩
      rw [HQ.out]
      by_cases hm0 : (sl l 1 l.length).length = 0
      · have hr : r = false := by rw [HT.out, idTail_nil hm0]
        have HR := Lib.hid hr; clear hr
        have hz : (((sl l 1 l.length).length : Int) == 0) = true := by rw [hm0]; rfl
        go_wp2_with fail
        go_ret
        exact ⟨ret_bool HR.out.symm, by go_grown⟩
      have hm1 : 0 < (sl l 1 l.length).length := by omega
      have hz : (((sl l 1 l.length).length : Int) == 0) = false := beq_eq_false_iff_ne.2 (by omega)
      clear hm0
      by_cases hL : letterB (byt (sl l 1 l.length) 0) = true
      · have hr : r = (sl l 1 l.length).all idByte := by rw [HT.out, idTail_pos hm1 hL]
        have HR := Lib.hid hr; clear hr
        go_wp2_with (go_at_call 54; refine (letter_any _ _).mono ?_; rintro e w' ⟨rfl, rfl⟩)
        clear hL hz
        go_loop [40] (fun i => ∃ k : Nat, k ≤ (sl l 1 l.length).length ∧ i = .int .i64 k ∧ Hid (((sl l 1 l.length).take k).all idByte = true)) (fun i => (sl l 1 l.length).length - (intOf i).toNat)
        case atStart => exact ⟨0, by omega, rfl, rfl⟩
        case round =>
          obtain ⟨k, hk, rfl, hh⟩ := hrel
          by_cases hlt : k < (sl l 1 l.length).length
          · by_cases hb : idByte (byt (sl l 1 l.length) k) = true
            · have hnext := Lib.hid (all_snoc hlt hh.out hb)
              rcases idByte_cases hb with h1 | ⟨h1, h2⟩ | ⟨h1, h2, h3, h4⟩
              · go_wp2_with (go_at_call 54; refine (letter_any _ _).mono ?_; rintro e w' ⟨rfl, rfl⟩)
                go_round
                case rel => exact ⟨k + 1, by omega, by go_num, hnext.out⟩
                case measure => simp [intOf]; omega
              · go_wp2_with (go_at_call 54; refine (letter_any _ _).mono ?_; rintro e w' ⟨rfl, rfl⟩)
                go_round
                case rel => exact ⟨k + 1, by omega, by go_num, hnext.out⟩
                case measure => simp [intOf]; omega
              · go_wp2_with (go_at_call 54; refine (letter_any _ _).mono ?_; rintro e w' ⟨rfl, rfl⟩)
                go_round
                case rel => exact ⟨k + 1, by omega, by go_num, hnext.out⟩
                case measure => simp [intOf]; omega
            · have hbf : idByte (byt (sl l 1 l.length) k) = false := by simpa using hb
              have hrf := Lib.hid (all_false hlt hbf)
              obtain ⟨h1, h2, h3⟩ := idByte_no hbf
              clear hb hbf
              by_cases h4 : (byt (sl l 1 l.length) k).toNat < 48
              · go_wp2_with (go_at_call 54; refine (letter_any _ _).mono ?_; rintro e w' ⟨rfl, rfl⟩)
                go_ret
                exact ⟨ret_bool (by rw [HR.out, hrf.out]), by go_grown⟩
              · have h5 : 57 < (byt (sl l 1 l.length) k).toNat := by omega
                go_wp2_with (go_at_call 54; refine (letter_any _ _).mono ?_; rintro e w' ⟨rfl, rfl⟩)
                go_ret
                exact ⟨ret_bool (by rw [HR.out, hrf.out]), by go_grown⟩
          · have hall := hh.out
            rw [List.take_of_length_le (by omega)] at hall
            have HA := Lib.hid hall; clear hall
            go_wp2_with fail
            go_ret
            exact ⟨ret_bool (by rw [HR.out, HA.out]), by go_grown⟩
      · have hLf : letterB (byt (sl l 1 l.length) 0) = false := by simpa using hL
        have hr : r = false := by rw [HT.out, idTail_neg hm1 hLf]
        have HR := Lib.hid hr; clear hr hL
        go_wp2_with (go_at_call 54; refine (letter_any _ _).mono ?_; rintro e w' ⟨rfl, rfl⟩)
        go_ret
        exact ⟨ret_bool HR.out.symm, by go_grown⟩

    by_cases h95 : byt l 0 = 95
    · rw [if_pos (.inr h95), HI.out, ← sl_from l 1] at hrest
      have HT := Lib.hid hrest; clear hrest h35
      have hml : (sl l 1 l.length).length ≤ 32 := by have := sl_le l 1 l.length; omega
      go_enter Tryd.func39, Tryd.ntmps39
      go_wp2_with fail
      refine (Contains_any w.heap.size 13 wordsL l _ (by decide) hw.out).mono ?_
      rintro e w' ⟨rfl, rfl⟩
      rw [HQ.out]
      by_cases hm0 : (sl l 1 l.length).length = 0
      · have hr : r = false := by rw [HT.out, idTail_nil hm0]
        have HR := Lib.hid hr; clear hr
        have hz : (((sl l 1 l.length).length : Int) == 0) = true := by rw [hm0]; rfl
        go_wp2_with fail
        go_ret
        exact ⟨ret_bool HR.out.symm, by go_grown⟩
      have hm1 : 0 < (sl l 1 l.length).length := by omega
      have hz : (((sl l 1 l.length).length : Int) == 0) = false := beq_eq_false_iff_ne.2 (by omega)
      clear hm0
      by_cases hL : letterB (byt (sl l 1 l.length) 0) = true
      · have hr : r = (sl l 1 l.length).all idByte := by rw [HT.out, idTail_pos hm1 hL]
        have HR := Lib.hid hr; clear hr
        go_wp2_with (go_at_call 54; refine (letter_any _ _).mono ?_; rintro e w' ⟨rfl, rfl⟩)
        clear hL hz
        go_loop [40] (fun i => ∃ k : Nat, k ≤ (sl l 1 l.length).length ∧ i = .int .i64 k ∧ Hid (((sl l 1 l.length).take k).all idByte = true)) (fun i => (sl l 1 l.length).length - (intOf i).toNat)
        case atStart => exact ⟨0, by omega, rfl, rfl⟩
        case round =>
          obtain ⟨k, hk, rfl, hh⟩ := hrel
          by_cases hlt : k < (sl l 1 l.length).length
          · by_cases hb : idByte (byt (sl l 1 l.length) k) = true
            · have hnext := Lib.hid (all_snoc hlt hh.out hb)
              rcases idByte_cases hb with h1 | ⟨h1, h2⟩ | ⟨h1, h2, h3, h4⟩
              · go_wp2_with (go_at_call 54; refine (letter_any _ _).mono ?_; rintro e w' ⟨rfl, rfl⟩)
                go_round
                case rel => exact ⟨k + 1, by omega, by go_num, hnext.out⟩
                case measure => simp [intOf]; omega
              · go_wp2_with (go_at_call 54; refine (letter_any _ _).mono ?_; rintro e w' ⟨rfl, rfl⟩)
                go_round
                case rel => exact ⟨k + 1, by omega, by go_num, hnext.out⟩
                case measure => simp [intOf]; omega
              · go_wp2_with (go_at_call 54; refine (letter_any _ _).mono ?_; rintro e w' ⟨rfl, rfl⟩)
                go_round
                case rel => exact ⟨k + 1, by omega, by go_num, hnext.out⟩
                case measure => simp [intOf]; omega
            · have hbf : idByte (byt (sl l 1 l.length) k) = false := by simpa using hb
              have hrf := Lib.hid (all_false hlt hbf)
              obtain ⟨h1, h2, h3⟩ := idByte_no hbf
              clear hb hbf
              by_cases h4 : (byt (sl l 1 l.length) k).toNat < 48
              · go_wp2_with (go_at_call 54; refine (letter_any _ _).mono ?_; rintro e w' ⟨rfl, rfl⟩)
                go_ret
                exact ⟨ret_bool (by rw [HR.out, hrf.out]), by go_grown⟩
              · have h5 : 57 < (byt (sl l 1 l.length) k).toNat := by omega
                go_wp2_with (go_at_call 54; refine (letter_any _ _).mono ?_; rintro e w' ⟨rfl, rfl⟩)
                go_ret
                exact ⟨ret_bool (by rw [HR.out, hrf.out]), by go_grown⟩
          · have hall := hh.out
            rw [List.take_of_length_le (by omega)] at hall
            have HA := Lib.hid hall; clear hall
            go_wp2_with fail
            go_ret
            exact ⟨ret_bool (by rw [HR.out, HA.out]), by go_grown⟩
      · have hLf : letterB (byt (sl l 1 l.length) 0) = false := by simpa using hL
        have hr : r = false := by rw [HT.out, idTail_neg hm1 hLf]
        have HR := Lib.hid hr; clear hr hL
        go_wp2_with (go_at_call 54; refine (letter_any _ _).mono ?_; rintro e w' ⟨rfl, rfl⟩)
        go_ret
        exact ⟨ret_bool HR.out.symm, by go_grown⟩

    · rw [if_neg (by simp [h35, h95]), HI.out] at hrest
      have HT := Lib.hid hrest; clear hrest
      have e35 : (((byt l 0).toNat : Int) == 35) = false := u8_ne h35
      have e95 : (((byt l 0).toNat : Int) == 95) = false := u8_ne h95
      clear h35 h95
      go_enter Tryd.func39, Tryd.ntmps39
      go_wp2_with fail
      refine (Contains_any w.heap.size 13 wordsL l _ (by decide) hw.out).mono ?_
      rintro e w' ⟨rfl, rfl⟩
      rw [HQ.out]
      by_cases hm0 : l.length = 0
      · have hr : r = false := by rw [HT.out, idTail_nil hm0]
        have HR := Lib.hid hr; clear hr
        have hz : ((l.length : Int) == 0) = true := by rw [hm0]; rfl
        go_wp2_with fail
        go_ret
        exact ⟨ret_bool HR.out.symm, by go_grown⟩
      have hm1 : 0 < l.length := by omega
      have hz : ((l.length : Int) == 0) = false := beq_eq_false_iff_ne.2 (by omega)
      clear hm0
      by_cases hL : letterB (byt l 0) = true
      · have hr : r = l.all idByte := by rw [HT.out, idTail_pos hm1 hL]
        have HR := Lib.hid hr; clear hr
        go_wp2_with (go_at_call 54; refine (letter_any _ _).mono ?_; rintro e w' ⟨rfl, rfl⟩)
        clear hL hz
        go_loop [40] (fun i => ∃ k : Nat, k ≤ l.length ∧ i = .int .i64 k ∧ Hid ((l.take k).all idByte = true)) (fun i => l.length - (intOf i).toNat)
        case atStart => exact ⟨0, by omega, rfl, rfl⟩
        case round =>
          obtain ⟨k, hk, rfl, hh⟩ := hrel
          by_cases hlt : k < l.length
          · by_cases hb : idByte (byt l k) = true
            · have hnext := Lib.hid (all_snoc hlt hh.out hb)
              rcases idByte_cases hb with h1 | ⟨h1, h2⟩ | ⟨h1, h2, h3, h4⟩
              · go_wp2_with (go_at_call 54; refine (letter_any _ _).mono ?_; rintro e w' ⟨rfl, rfl⟩)
                go_round
                case rel => exact ⟨k + 1, by omega, by go_num, hnext.out⟩
                case measure => simp [intOf]; omega
              · go_wp2_with (go_at_call 54; refine (letter_any _ _).mono ?_; rintro e w' ⟨rfl, rfl⟩)
                go_round
                case rel => exact ⟨k + 1, by omega, by go_num, hnext.out⟩
                case measure => simp [intOf]; omega
              · go_wp2_with (go_at_call 54; refine (letter_any _ _).mono ?_; rintro e w' ⟨rfl, rfl⟩)
                go_round
                case rel => exact ⟨k + 1, by omega, by go_num, hnext.out⟩
                case measure => simp [intOf]; omega
            · have hbf : idByte (byt l k) = false := by simpa using hb
              have hrf := Lib.hid (all_false hlt hbf)
              obtain ⟨h1, h2, h3⟩ := idByte_no hbf
              clear hb hbf
              by_cases h4 : (byt l k).toNat < 48
              · go_wp2_with (go_at_call 54; refine (letter_any _ _).mono ?_; rintro e w' ⟨rfl, rfl⟩)
                go_ret
                exact ⟨ret_bool (by rw [HR.out, hrf.out]), by go_grown⟩
              · have h5 : 57 < (byt l k).toNat := by omega
                go_wp2_with (go_at_call 54; refine (letter_any _ _).mono ?_; rintro e w' ⟨rfl, rfl⟩)
                go_ret
                exact ⟨ret_bool (by rw [HR.out, hrf.out]), by go_grown⟩
          · have hall := hh.out
            rw [List.take_of_length_le (by omega)] at hall
            have HA := Lib.hid hall; clear hall
            go_wp2_with fail
            go_ret
            exact ⟨ret_bool (by rw [HR.out, HA.out]), by go_grown⟩
      · have hLf : letterB (byt l 0) = false := by simpa using hL
        have hr : r = false := by rw [HT.out, idTail_neg hm1 hLf]
        have HR := Lib.hid hr; clear hr hL
        go_wp2_with (go_at_call 54; refine (letter_any _ _).mono ?_; rintro e w' ⟨rfl, rfl⟩)
        go_ret
        exact ⟨ret_bool HR.out.symm, by go_grown⟩

end Go.Proofs.YtpekkdgaeadepaaDoor
