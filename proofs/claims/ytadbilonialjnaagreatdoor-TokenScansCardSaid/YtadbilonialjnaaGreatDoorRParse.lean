/- Walks of the numbers: the specification's Parse. -/
import Derived.Test.YtadbilonialjnaaGreatDoorRText
import Derived.Test.YtadbilonialjnaaGreatDoorParse
namespace Go.Proofs.YtadbilonialjnaaGreatDoor
open Go.RowKit

def pI : Option Nat → Int
  | none => -1
  | some k => (k : Int)
theorem rs_dot (b : Bool) (n : Nat) (l : List UInt8) (i : Nat) (h : i < l.length) (hc : byt l i = 46) : rscan b n none (l.drop i) = rscan false n (some 0) (l.drop (i + 1)) := by
  rw [drop_byt l i h, rscan, if_pos ⟨hc, rfl⟩]
theorem rs_dig (b : Bool) (n : Nat) (p : Option Nat) (l : List UInt8) (i : Nat) (h : i < l.length) (hc : dgt (byt l i)) : rscan b n p (l.drop i) = rscan false (n * 10 + ((byt l i).toNat - 48)) (p.map (· + 1)) (l.drop (i + 1)) := by
  have h46 : byt l i ≠ 46 := by intro e; rw [e] at hc; exact absurd hc.1 (by decide)
  rw [drop_byt l i h, rscan, if_neg (fun hh => h46 hh.1), if_pos hc]
theorem rs_minus (n : Nat) (p : Option Nat) (l : List UInt8) (i : Nat) (h : i < l.length) (hc : byt l i = 45) : rscan true n p (l.drop i) = rscan false n p (l.drop (i + 1)) := by
  rw [drop_byt l i h, rscan, if_neg (by rw [hc]; intro hh; exact absurd hh.1 (by decide)), if_neg (by rw [hc]; decide), if_pos ⟨rfl, hc⟩]
theorem rs_none (b : Bool) (n : Nat) (p : Option Nat) (l : List UInt8) (i : Nat) (h : i < l.length) (h1 : ¬ (byt l i = 46 ∧ p = none)) (h2 : ¬ dgt (byt l i)) (h3 : ¬ (b = true ∧ byt l i = 45)) : rscan b n p (l.drop i) = none := by
  rw [drop_byt l i h, rscan, if_neg h1, if_neg h2, if_neg h3]
theorem rsc_stop (n k : Nat) (h : 4 ≤ k) : rscale n k = some n := by rw [rscale, if_pos h]
theorem rsc_over (n k : Nat) (h : ¬ 4 ≤ k) (h2 : 1000000000000000 < n) : rscale n k = none := by rw [rscale, if_neg h, if_pos h2]
theorem rsc_next (n k : Nat) (h : ¬ 4 ≤ k) (h2 : ¬ 1000000000000000 < n) : rscale n k = rscale (n * 10) (k + 1) := by
  conv => lhs; rw [rscale, if_neg h, if_neg h2]
theorem digit_low {n i : Nat} (d : Nat) (h : n < 10 ^ i) (hd : d ≤ 9) : n * 10 + d < 10 ^ (i + 1) := by rw [Nat.pow_succ]; omega
theorem pow_top {n i : Nat} (k : Nat) (h : n < 10 ^ i) (hi : i ≤ k) : n < 10 ^ k := Nat.lt_of_lt_of_le h (Nat.pow_le_pow_right (by decide) hi)
theorem i64_eq {a b : Int} (h : a = b) : Value.int .i64 a = .int .i64 b := by rw [h]
theorem beq_t {c d : UInt8} (h : c = d) : ((c.toNat : Int) == (d.toNat : Int)) = true := by rw [h]; simp
theorem head_get (l : List UInt8) (h : 0 < l.length) : l.head? = some (byt l 0) := by
  cases l with
  | nil => simp at h
  | cons c r => rfl

/-- from the sign on -/
theorem head_not (l : List UInt8) (h : ¬ byt l 0 = 45) : ¬ l.head? = some 45 := by
  cases l with
  | nil => simp
  | cons c r => intro e; exact h (show c = 45 by simpa using e)
set_option maxHeartbeats 2000000 in
theorem refParse_any (l : List UInt8) (w : World) (hl : l.length ≤ 1000000) : Calls Tryz.prog 29 #[.string (S l)] w (OkB (parseI l) w) := by
  by_cases hlong : 18 < l.length
  · have HP := Lib.hid (parseI_long l (by omega))
    go_enter Tryz.func29, Tryz.ntmps29
    go_wp2_with fail
    go_ret2
    exact ⟨ret_pr HP.out, Below.refl _ _⟩
  · have hl18 : l.length ≤ 18 := by omega
    clear hlong hl
    go_enter Tryz.func29, Tryz.ntmps29
    go_wp2_with fail
    go_loop [4, 5, 6] (fun a b c => ∃ (i n : Nat) (p : Option Nat), i ≤ l.length ∧ a = .int .i64 (n : Int) ∧ b = .int .i64 (pI p) ∧ c = .int .i64 (i : Int) ∧ Hid (rscan true 0 none l = rscan (decide (i = 0)) n p (l.drop i) ∧ n < 10 ^ i ∧ p.getD 0 ≤ i)) (fun _ _ c => l.length - (intOf c).toNat)
    case atStart => exact ⟨0, 0, none, by omega, rfl, rfl, rfl, Lib.hid ⟨by simp, by decide, by decide⟩⟩
    case round =>
      obtain ⟨i, n, p, hi, rfl, rfl, rfl, HR⟩ := hrel
      by_cases hlt : i < l.length
      · have hn : n ≤ 100000000000000000 := by have := pow_top 17 HR.out.2.1 (by omega); omega
        by_cases hdot : byt l i = 46 ∧ p = none
        · obtain ⟨h46, rfl⟩ := hdot
          have HN := Lib.hid (HR.out.1.trans (rs_dot _ n l i hlt h46))
          have T : (((byt l i).toNat : Int) == 46) = true := by rw [h46]; rfl
          clear h46
          simp only [pI]
          go_wp2_with fail
          go_round
          case rel => exact ⟨i + 1, n, some 0, by omega, rfl, rfl, by go_num, Lib.hid ⟨by rw [HN.out]; simp, by have := digit_low 0 HR.out.2.1 (by decide); omega, by simp⟩⟩
          case measure => simp [intOf]; omega
        · by_cases hdg : dgt (byt l i)
          · have HN := Lib.hid (HR.out.1.trans (rs_dig _ n p l i hlt hdg))
            have h46 : byt l i ≠ 46 := by intro e; rw [e] at hdg; exact absurd hdg.1 (by decide)
            have T : (((byt l i).toNat : Int) == 46) = false := u8_ne h46
            obtain ⟨d1, d2⟩ := hdg
            have hp := HR.out.2.2
            clear h46 hdot
            cases p with
            | none =>
              simp only [pI]
              go_wp2_with fail
              go_round
              case rel => exact ⟨i + 1, n * 10 + ((byt l i).toNat - 48), none, by omega, i64_eq (by omega), rfl, by go_num, Lib.hid ⟨by rw [HN.out]; simp, digit_low _ HR.out.2.1 (by omega), by simp⟩⟩
              case measure => simp [intOf]; omega
            | some k =>
              simp only [pI]
              simp only [Option.getD_some] at hp
              go_wp2_with fail
              go_round
              case rel => exact ⟨i + 1, n * 10 + ((byt l i).toNat - 48), some (k + 1), by omega, i64_eq (by omega), i64_eq (by simp only [pI]; omega), by go_num, Lib.hid ⟨by rw [HN.out]; simp, digit_low _ HR.out.2.1 (by omega), by simp only [Option.getD_some]; omega⟩⟩
              case measure => simp [intOf]; omega
          · by_cases hmin : i = 0 ∧ byt l i = 45
            · obtain ⟨hi0, h45⟩ := hmin
              have HN := Lib.hid (show rscan true 0 none l = rscan false n p (l.drop (i + 1)) by rw [HR.out.1, show decide (i = 0) = true by simpa using hi0]; exact rs_minus n p l i hlt h45)
              have HD := Lib.hid HR.out.2
              have T : (((byt l i).toNat : Int) == 46) = false := by rw [h45]; rfl
              have T2 : (((byt l i).toNat : Int) != 45) = false := by rw [h45]; rfl
              have T3 : (byt l i).toNat < 48 := by rw [h45]; decide
              have T4 : decide (0 < i) = false := by simp; omega
              clear h45 hdg hdot HR hi0
              go_wp2_with fail
              go_round
              case rel => exact ⟨i + 1, n, p, by omega, rfl, rfl, by go_num, Lib.hid ⟨by rw [HN.out]; simp, by have := digit_low 0 HD.out.1 (by decide); omega, by have := HD.out.2; omega⟩⟩
              case measure => simp [intOf]; omega
            · have HX := Lib.hid (ref_none l (by rw [HR.out.1]; exact rs_none _ n p l i hlt hdot hdg (by simpa using hmin)))
              have hT : decide (0 < i) = true ∨ decide (0 < i) = false ∧ (((byt l i).toNat : Int) != 45) = true := by
                by_cases h0 : 0 < i
                · exact .inl (by simpa using h0)
                · refine .inr ⟨by simpa using h0, ?_⟩
                  rw [bne_iff_ne]; intro e
                  exact hmin ⟨by omega, UInt8.toNat_inj.1 (by rw [show (45 : UInt8).toNat = 45 from rfl]; omega)⟩
              have hD : (byt l i).toNat < 48 ∨ (48 ≤ (byt l i).toNat ∧ 57 < (byt l i).toNat) := by unfold dgt at hdg; omega
              have hE : ((((byt l i).toNat : Int) == 46) = true ∧ ∃ k, p = some k) ∨ (((byt l i).toNat : Int) == 46) = false := by
                by_cases h46 : byt l i = 46
                · refine .inl ⟨by rw [h46]; rfl, ?_⟩
                  cases p with
                  | none => exact absurd ⟨h46, rfl⟩ hdot
                  | some k => exact ⟨k, rfl⟩
                · exact .inr (u8_ne h46)
              clear hmin hdg hdot HR
              rcases hE with ⟨T, k, rfl⟩ | T
              · simp only [pI]
                rcases hD with D1 | ⟨D1, D2⟩ <;> rcases hT with T1 | ⟨T1, T2⟩
                all_goals
                  go_wp2_with fail
                  go_ret2
                  exact ⟨ret_pr HX.out, Below.refl _ _⟩
              · rcases hD with D1 | ⟨D1, D2⟩ <;> rcases hT with T1 | ⟨T1, T2⟩
                all_goals
                  go_wp2_with fail
                  go_ret2
                  exact ⟨ret_pr HX.out, Below.refl _ _⟩
      · have hn : n ≤ 1000000000000000000 := by have := pow_top 18 HR.out.2.1 (by omega); omega
        have HN := Lib.hid (show rscan true 0 none l = some (n, p) by rw [HR.out.1, List.drop_eq_nil_of_le (by omega)]; rfl)
        obtain ⟨k0, hk0⟩ : ∃ k, p.getD 0 = k := ⟨_, rfl⟩
        have hk18 : k0 ≤ 18 := by have := HR.out.2.2; omega
        have hpI : pI p < 0 ∧ k0 = 0 ∨ pI p = (k0 : Int) := by
          cases p with
          | none => exact .inl ⟨by simp [pI], by rw [← hk0]; rfl⟩
          | some k => exact .inr (by rw [← hk0]; rfl)
        have HK := Lib.hid hk0
        have HP := Lib.hid hpI
        clear hk0 HR
        rcases hpI with ⟨hneg, hk⟩ | hpos
        all_goals
          go_wp2_with fail
          go_loop [4, 5] (fun a b => ∃ (m k : Nat), a = .int .i64 (m : Int) ∧ b = .int .i64 (k : Int) ∧ m ≤ 1000000000000000000 ∧ k ≤ 18 ∧ Hid (rscale n k0 = rscale m k)) (fun _ b => 4 - (intOf b).toNat)
          case atStart => exact ⟨n, k0, rfl, i64_eq (by omega), hn, hk18, Lib.hid rfl⟩
          case round =>
            first | clear hneg hk | clear hpos
            clear hk18 hn
            obtain ⟨m, k, rfl, rfl, hm, hk18, HM⟩ := hrel
            by_cases hk4 : 4 ≤ k
            · have HS0 := Lib.hid (HM.out.trans (rsc_stop m k hk4))
              have hS := ref_some l n p m HN.out (by rw [HK.out]; exact HS0.out)
              by_cases hl0 : l.length = 0
              · have hsg : signI l m = (m : Int) := by unfold signI; rw [List.eq_nil_of_length_eq_zero hl0]; simp
                rw [hsg] at hS
                have HS := Lib.hid hS
                clear hS hsg
                cases hv : vld (m : Int)
                · go_wp2_with (go_at_call 45; refine (refValid_any _ _).mono ?_; rintro e w' ⟨rfl, rfl⟩; rw [hv])
                  go_ret2
                  exact ⟨ret_pr (by rw [HS.out, hv]; simp), Below.refl _ _⟩
                · by_cases hte : textI (m : Int) = l
                  · have HT := Lib.hid hte
                    clear hte
                    go_wp2_with (go_at_call 45; refine (refValid_any _ _).mono ?_; rintro e w' ⟨rfl, rfl⟩; rw [hv])
                    refine (refText_any _ _).mono ?_
                    rintro e w2 ⟨rfl, hb2⟩
                    rw [HT.out]
                    go_wp2_with fail
                    go_ret2
                    exact ⟨ret_pr (by rw [HS.out, if_pos ⟨hv, HT.out⟩]), hb2⟩
                  · have HT := Lib.hid hte
                    have T9 : (textI (m : Int) == l) = false := by rw [beq_eq_false_iff_ne]; exact hte
                    clear hte
                    go_wp2_with (go_at_call 45; refine (refValid_any _ _).mono ?_; rintro e w' ⟨rfl, rfl⟩; rw [hv])
                    refine (refText_any _ _).mono ?_
                    rintro e w2 ⟨rfl, hb2⟩
                    go_wp2_with fail
                    go_ret2
                    exact ⟨ret_pr (by rw [HS.out, if_neg (fun h => HT.out h.2)]), hb2⟩
              · have hl1 : 0 < l.length := by omega
                clear hl0
                by_cases h45 : byt l 0 = 45
                · have hsg : signI l m = -(m : Int) := by unfold signI; rw [if_pos (by rw [head_get l hl1, h45])]
                  rw [hsg] at hS
                  have HS := Lib.hid hS
                  have T : (((byt l 0).toNat : Int) == 45) = true := by rw [h45]; rfl
                  clear hS hsg h45
                  cases hv : vld (-(m : Int))
                  · go_wp2_with (go_at_call 45; refine (refValid_any _ _).mono ?_; rintro e w' ⟨rfl, rfl⟩; rw [hv])
                    go_ret2
                    exact ⟨ret_pr (by rw [HS.out, hv]; simp), Below.refl _ _⟩
                  · by_cases hte : textI (-(m : Int)) = l
                    · have HT := Lib.hid hte
                      clear hte
                      go_wp2_with (go_at_call 45; refine (refValid_any _ _).mono ?_; rintro e w' ⟨rfl, rfl⟩; rw [hv])
                      refine (refText_any _ _).mono ?_
                      rintro e w2 ⟨rfl, hb2⟩
                      rw [HT.out]
                      go_wp2_with fail
                      go_ret2
                      exact ⟨ret_pr (by rw [HS.out, if_pos ⟨hv, HT.out⟩]), hb2⟩
                    · have HT := Lib.hid hte
                      have T9 : (textI (-(m : Int)) == l) = false := by rw [beq_eq_false_iff_ne]; exact hte
                      clear hte
                      go_wp2_with (go_at_call 45; refine (refValid_any _ _).mono ?_; rintro e w' ⟨rfl, rfl⟩; rw [hv])
                      refine (refText_any _ _).mono ?_
                      rintro e w2 ⟨rfl, hb2⟩
                      go_wp2_with fail
                      go_ret2
                      exact ⟨ret_pr (by rw [HS.out, if_neg (fun h => HT.out h.2)]), hb2⟩
                · have hsg : signI l m = (m : Int) := by unfold signI; rw [if_neg (head_not l h45)]
                  rw [hsg] at hS
                  have HS := Lib.hid hS
                  have T : (((byt l 0).toNat : Int) == 45) = false := u8_ne h45
                  clear hS hsg h45
                  cases hv : vld (m : Int)
                  · go_wp2_with (go_at_call 45; refine (refValid_any _ _).mono ?_; rintro e w' ⟨rfl, rfl⟩; rw [hv])
                    go_ret2
                    exact ⟨ret_pr (by rw [HS.out, hv]; simp), Below.refl _ _⟩
                  · by_cases hte : textI (m : Int) = l
                    · have HT := Lib.hid hte
                      clear hte
                      go_wp2_with (go_at_call 45; refine (refValid_any _ _).mono ?_; rintro e w' ⟨rfl, rfl⟩; rw [hv])
                      refine (refText_any _ _).mono ?_
                      rintro e w2 ⟨rfl, hb2⟩
                      rw [HT.out]
                      go_wp2_with fail
                      go_ret2
                      exact ⟨ret_pr (by rw [HS.out, if_pos ⟨hv, HT.out⟩]), hb2⟩
                    · have HT := Lib.hid hte
                      have T9 : (textI (m : Int) == l) = false := by rw [beq_eq_false_iff_ne]; exact hte
                      clear hte
                      go_wp2_with (go_at_call 45; refine (refValid_any _ _).mono ?_; rintro e w' ⟨rfl, rfl⟩; rw [hv])
                      refine (refText_any _ _).mono ?_
                      rintro e w2 ⟨rfl, hb2⟩
                      go_wp2_with fail
                      go_ret2
                      exact ⟨ret_pr (by rw [HS.out, if_neg (fun h => HT.out h.2)]), hb2⟩
            · by_cases hov : 1000000000000000 < m
              · have HX := Lib.hid (ref_over l n p HN.out (by rw [HK.out, HM.out]; exact rsc_over m k hk4 hov))
                have T : decide ((1000000000000000 : Int) < (m : Int)) = true := by rw [decide_eq_true_eq]; omega
                clear hov
                go_wp2_with fail
                go_ret2
                exact ⟨ret_pr HX.out, Below.refl _ _⟩
              · have HX := Lib.hid (HM.out.trans (rsc_next m k hk4 hov))
                have T : decide ((1000000000000000 : Int) < (m : Int)) = false := by rw [decide_eq_false_iff_not]; omega
                have hmm : m ≤ 1000000000000000 := by omega
                clear hov
                go_wp2_with fail
                go_round
                case rel => exact ⟨m * 10, k + 1, i64_eq (by omega), by go_num, by omega, by omega, HX⟩
                case measure => simp [intOf]; omega
end Go.Proofs.YtadbilonialjnaaGreatDoor
