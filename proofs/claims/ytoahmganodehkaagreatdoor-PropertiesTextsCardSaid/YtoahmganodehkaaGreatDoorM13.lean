/- Walks of the numbers: the specification's Text. -/
import Derived.Test.YtoahmganodehkaaGreatDoorM03
import Derived.Test.YtoahmganodehkaaGreatDoorM07
import Derived.Test.YtoahmganodehkaaGreatDoorM12
namespace Go.Proofs.YtoahmganodehkaaGreatDoor
set_option linter.unusedSimpArgs false
set_option linter.unusedVariables false
open Go.RowKit

theorem trim_ne {P m : List UInt8} (h : trimZ P = trimZ m) (hP : trimZ P ≠ []) : m ≠ [] := by
  intro e; subst e; rw [trimZ_off [] (by simp)] at h; exact hP h
set_option maxHeartbeats 1000000 in
theorem fxRefText_any (u : Int) (w : World) : Calls Tryz.prog 121 #[.int .i64 u] w fun e w' => e = .returned (.string (S (textI u))) ∧ Below w.heap.size w w' := by
  cases hu : vld u
  · go_enter Tryz.func121, Tryz.ntmps121
    go_wp2_with (go_at_call 118; refine (fxRefValid_any _ _).mono ?_; rintro e w' ⟨rfl, rfl⟩; rw [hu])
    go_ret
    exact ⟨ret_S (by unfold textI; rw [hu]; rfl), Below.refl _ _⟩
  · have hA' := abs_lt hu
    have ht := tmod_bound u 10000 hu
    have ht0 : u.tmod 10000 = 0 ↔ u.natAbs % 10000 = 0 := by
      have := Int.natAbs_tmod u 10000
      rw [show Int.natAbs 10000 = 10000 from rfl] at this
      rw [← this]; exact Int.natAbs_eq_zero.symm
    obtain ⟨a, hA⟩ : ∃ a, u.natAbs = a := ⟨_, rfl⟩
    have HT := Lib.hid (textI_val u hu)
    rw [hA] at HT hA' ht0
    have HA := Lib.hid hA; clear hA
    obtain ⟨x, hx⟩ : ∃ x, a / 10000 = x := ⟨_, rfl⟩
    obtain ⟨f, hf⟩ : ∃ f, a % 10000 = f := ⟨_, rfl⟩
    rw [hx, hf] at HT
    rw [hf] at ht0
    have ex : (a : Int) / 10000 = (x : Int) := by omega
    have ef : (a : Int) % 10000 = (f : Int) := by omega
    have hxb : x ≤ 100000000000 := by omega
    have hfb : f ≤ 9999 := by omega
    clear hx hf
    obtain ⟨P, hP⟩ : ∃ P, pad4 f = P := ⟨_, rfl⟩
    have hP4 : P.length ≤ 4 := by rw [← hP]; exact Nat.le_refl 4
    have HZ := Lib.hid (trim_nil f (by omega))
    have HP := Lib.hid hP
    obtain ⟨D, hD⟩ : ∃ D, Lib.decDigits x = D := ⟨_, rfl⟩
    have hDl : D.length ≤ 12 := by rw [← hD]; exact (dec_len x 12 (by omega) (by omega)).2
    rw [hD] at HT
    have HD := Lib.hid hD
    clear hP hD
    by_cases hf0 : f = 0
    · have T : (u.tmod 10000 == 0) = true := by rw [beq_iff_eq]; exact ht0.2 hf0
      have HF := Lib.hid hf0
      clear ht0 hf0
      cases d1 : decide (u < 0)
      all_goals
        go_enter Tryz.func121, Tryz.ntmps121
        go_wp2_with (first
          | (go_at_call 118; refine (fxRefValid_any _ _).mono ?_; rintro e w' ⟨rfl, rfl⟩; rw [hu])
          | (go_at_call 164; refine (abs_at u a hu HA _).mono ?_; rintro e w' ⟨rfl, rfl⟩)
          | (go_at_call 87; refine (Digits_one x (by omega) _).mono ?_; rintro e w1 ⟨rfl, hb1⟩; rw [HD.out]))
        go_ret
        exact ⟨ret_S (by rw [HT.out, text_frac (HZ.out.2 HF.out)]; simp at d1; simp [d1, ct]), hb1⟩
    · have T : (u.tmod 10000 == 0) = false := by rw [beq_eq_false_iff_ne]; exact fun h => hf0 (ht0.1 h)
      have HF := Lib.hid (show trimZ P ≠ [] by rw [← HP.out]; exact fun h => hf0 (HZ.out.1 h))
      clear ht0 hf0
      cases d1 : decide (u < 0)
      all_goals
        go_enter Tryz.func121, Tryz.ntmps121
        go_wp2_with (first
          | (go_at_call 118; refine (fxRefValid_any _ _).mono ?_; rintro e w' ⟨rfl, rfl⟩; rw [hu])
          | (go_at_call 164; refine (abs_at u a hu HA _).mono ?_; rintro e w' ⟨rfl, rfl⟩))
        refine (Digits_one x (by omega) _).mono ?_
        rintro e w1 ⟨rfl, hb1⟩
        rw [HD.out]
        have HB1 := Lib.hid hb1; clear hb1
        go_wp2_with (go_at_call 164; refine (abs_at u a hu HA _).mono ?_; rintro e w' ⟨rfl, rfl⟩)
        refine (Digits_four f (by omega) _).mono ?_
        rintro e w2 ⟨rfl, hb2⟩
        rw [HP.out]
        have HB2 := Lib.hid hb2; clear hb2
        go_wp2_with fail
        clear ex ef hxb T
        go_loop [4] (fun v => ∃ m : List UInt8, v = .string (S m) ∧ m.length ≤ 4 ∧ Hid (trimZ P = trimZ m)) (fun v => strLen v)
        case atStart => exact ⟨P, rfl, by omega, Lib.hid rfl⟩
        case round =>
          obtain ⟨m, rfl, hm4, HM⟩ := hrel
          have hmne := trim_ne HM.out HF.out
          have hpos : 0 < m.length := List.length_pos_iff.2 hmne
          have HNE := Lib.hid hmne
          clear hmne
          by_cases hz : byt m (m.length - 1) = 48
          · have T : (((byt m (m.length - 1)).toNat : Int) == 48) = true := by rw [hz]; rfl
            have HN := Lib.hid (trimZ_on m ⟨hpos, hz⟩)
            clear hz
            go_wp2_with fail
            go_round
            case rel => exact ⟨_, rfl, by rw [sl_to, List.length_take]; omega, Lib.hid (by rw [sl_to, HM.out, HN.out])⟩
            case measure => simp [strLen, S_size, sl_to]; omega
          · have T : (((byt m (m.length - 1)).toNat : Int) == 48) = false := by rw [beq_eq_false_iff_ne]; intro e; exact hz (UInt8.toNat_inj.1 (by rw [show (48 : UInt8).toNat = 48 from rfl]; omega))
            have HN := Lib.hid (trimZ_off m (fun h => hz h.2))
            clear hz
            go_wp2_with fail
            go_ret
            exact ⟨ret_S (by rw [HT.out, text_frac (HP.out.symm ▸ HM.out.trans HN.out), if_neg HNE.out]; simp at d1; simp [d1, ct]), HB1.out.trans (HB2.out.mono HB1.out.size)⟩
end Go.Proofs.YtoahmganodehkaaGreatDoor
