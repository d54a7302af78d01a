/- Walks of the numbers: Text. -/
import Derived.LoopTactic
import Derived.Outline
import Derived.Test.YtadbilonialjnaaDoorTxt
import Derived.Test.YtadbilonialjnaaDoorNumOk
import Derived.Test.YtadbilonialjnaaDoorFmt
namespace Go.Proofs.YtadbilonialjnaaDoor
open Go.RowKit

theorem FormatUint_at (k : Int) (u : Nat) (hk : Hid (k = (u : Int))) (hu64 : u < 18446744073709551616) (w : World) (hE : NumOk w) :
    Calls Tryd.prog 56 #[.int .u64 k, .int .i64 10] w fun e w' => e = .returned (.string (S (Lib.decDigits u))) ∧ Below w.heap.size w w' := by
  rw [hk.out]; exact FormatUint_any u hu64 w hE.tab
theorem text_frac {f : Nat} {m : List UInt8} (h : trimZ (pad4 f) = m) : fracL f = if m = [] then [] else 46 :: m := by unfold fracL; rw [h]
set_option maxHeartbeats 1000000 in
theorem Text_any (u : Int) (w : World) (hE : NumOk w) : Calls Tryd.prog 47 #[.int .i64 u] w fun e w' => e = .returned (.string (S (textI u))) ∧ Below w.heap.size w w' := by
  cases hu : vld u
  · go_enter Tryd.func47, Tryd.ntmps47
    go_wp2_with (go_at_call 46; refine (Valid_any _ _).mono ?_; rintro e w' ⟨rfl, rfl⟩; rw [hu])
    go_ret
    exact ⟨ret_S (by unfold textI; rw [hu]; rfl), Below.refl _ _⟩
  · have HE := Lib.hid hE; clear hE
    have hA' := abs_lt hu
    obtain ⟨a, hA⟩ : ∃ a, u.natAbs = a := ⟨_, rfl⟩
    have HT := Lib.hid (textI_val u hu)
    rw [hA] at HT hA'
    have HA := Lib.hid hA; clear hA
    obtain ⟨x, hx⟩ : ∃ x, a / 10000 = x := ⟨_, rfl⟩
    obtain ⟨f, hf⟩ : ∃ f, a % 10000 = f := ⟨_, rfl⟩
    rw [hx, hf] at HT
    have ex : (a : Int) / 10000 = (x : Int) := by omega
    have ef : (a : Int) % 10000 = (f : Int) := by omega
    have hxb : x ≤ 100000000000 := by omega
    have hfb : f ≤ 9999 := by omega
    clear hx hf
    have HK := Lib.hid (show (f : Int) + 10000 = ((10000 + f : Nat) : Int) by omega)
    obtain ⟨P, hP⟩ : ∃ P, pad4 f = P := ⟨_, rfl⟩
    have hPl : P.length = 4 := by rw [← hP]; rfl
    obtain ⟨L, hL⟩ : ∃ L, Lib.decDigits (10000 + f) = L := ⟨_, rfl⟩
    have hL2 : L = 49 :: P := by rw [← hL, dec_10000 f (by omega), hP]
    have hLl : L.length = 5 := by rw [hL2, List.length_cons, hPl]
    have eL : sl L 1 5 = P := by rw [hL2]; unfold sl; rw [List.drop_succ_cons, List.drop_zero, List.take_of_length_le (by omega)]
    have HL := Lib.hid hL
    have HP := Lib.hid hP
    obtain ⟨D, hD⟩ : ∃ D, Lib.decDigits x = D := ⟨_, rfl⟩
    have hDl : D.length ≤ 12 := by rw [← hD]; exact (dec_len x 12 (by omega) (by omega)).2
    rw [hD] at HT
    have HD := Lib.hid hD
    clear hP hL hL2 hD
    have HC0 := Lib.hid (show ∃ q : List UInt8, q = P from ⟨_, rfl⟩)
    clear HC0
    cases d1 : decide (u < 0)
    all_goals
      go_enter Tryd.func47, Tryd.ntmps47
      go_wp2_with (first
        | (go_at_call 46; refine (Valid_any _ _).mono ?_; rintro e w' ⟨rfl, rfl⟩; rw [hu])
        | (go_at_call 55; refine (size_at u a hu HA _).mono ?_; rintro e w' ⟨rfl, rfl⟩))
      refine (FormatUint_any x (by omega) _ HE.out.tab).mono ?_
      rintro e w1 ⟨rfl, hb1⟩
      rw [HD.out]
      have HB1 := Lib.hid hb1; clear hb1
      go_wp2_with fail
      refine (FormatUint_at _ (10000 + f) HK (by omega) _ (HE.out.below HB1.out)).mono ?_
      rintro e w2 ⟨rfl, hb2⟩
      rw [HL.out]
      have HB2 := Lib.hid hb2; clear hb2
      go_wp2_with fail
      have hP4 : P.length ≤ 4 := by omega
      clear eL hPl hLl ex ef hxb
      go_loop [5] (fun v => ∃ m : List UInt8, v = .string (S m) ∧ m.length ≤ 4 ∧ Hid (trimZ P = trimZ m)) (fun v => strLen v)
      case atStart => exact ⟨P, rfl, by omega, Lib.hid rfl⟩
      case round =>
        obtain ⟨m, rfl, hm4, HM⟩ := hrel
        by_cases hm0 : m.length = 0
        · obtain rfl := List.eq_nil_of_length_eq_zero hm0
          clear hm0
          go_wp2_with fail
          go_ret
          exact ⟨ret_S (by rw [HT.out, text_frac (HP.out.symm ▸ HM.out.trans (by rw [trimZ_off [] (by simp)]))]; simp at d1; simp [d1, ct]), HB1.out.trans (HB2.out.mono HB1.out.size)⟩
        · have hpos : 0 < m.length := by omega
          by_cases hz : byt m (m.length - 1) = 48
          · have T : (((byt m (m.length - 1)).toNat : Int) == 48) = true := by rw [hz]; rfl
            have HN := Lib.hid (trimZ_on m ⟨hpos, hz⟩)
            clear hz
            go_wp2_with fail
            go_round
            case rel => exact ⟨_, rfl, by rw [sl_to, List.length_take]; omega, Lib.hid (by rw [sl_to, HM.out, HN.out])⟩
            case measure => simp [strLen, S_size, sl_to]; omega
          · have T : (((byt m (m.length - 1)).toNat : Int) == 48) = false := by rw [beq_eq_false_iff_ne]; intro e; exact hz (UInt8.toNat_inj.1 (by rw [show (48 : UInt8).toNat = 48 from rfl]; omega))
            have HN := Lib.hid (trimZ_off m (fun h => hz h.2))
            have hne : m ≠ [] := by intro e; subst e; simp at hpos
            have HE2 := Lib.hid hne
            have hie : m.isEmpty = false := by cases m; (exact absurd rfl hne); rfl
            clear hz hne
            go_wp2_with fail
            go_ret
            exact ⟨ret_S (by rw [HT.out, text_frac (HP.out.symm ▸ HM.out.trans HN.out), if_neg HE2.out]; simp at d1; simp [d1, ct]), HB1.out.trans (HB2.out.mono HB1.out.size)⟩
end Go.Proofs.YtadbilonialjnaaDoor
