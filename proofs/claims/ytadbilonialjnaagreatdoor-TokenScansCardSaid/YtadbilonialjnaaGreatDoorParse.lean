/- Walks of the numbers: Parse. -/
import Derived.Deep.DeepCutAuto
import Derived.Deep.CutBlock
import Derived.Test.YtadbilonialjnaaGreatDoorText
import Derived.Test.YtadbilonialjnaaGreatDoorPse
namespace Go.Proofs.YtadbilonialjnaaGreatDoor
open Go.RowKit

/-- what ParseInt returns, in one word -/
def PInt (l : List UInt8) (w : World) (e : Ending) (w' : World) : Prop :=
  Below w.heap.size w w' ∧ ((∃ v, Lib.parseIntB 64 l = .ok v ∧ e = .returned (.tuple #[.int .i64 v, .nilIface])) ∨ ((∀ v, Lib.parseIntB 64 l ≠ .ok v) ∧ ∃ v N, e = .returned (.tuple #[.int .i64 v, .iface 96 (.pointer (some ⟨N, 0, none⟩))])))
theorem ParseInt_any (l : List UInt8) (hl : l.length ≤ 1000000) (w : World) (hE : NumOk w) : Calls Tryz.prog 37 #[.string (S l), .int .i64 10, .int .i64 64] w (PInt l w) := by
  cases h : Lib.parseIntB 64 l
  · rename_i v
    refine (Tryz.strconv_ParseInt_10_at64_ok (S l) (by show l.length ≤ _; omega) v h w).mono ?_
    rintro e w' ⟨rfl, hw⟩
    refine ⟨?_, .inl ⟨v, h, rfl⟩⟩
    rcases hw with rfl | ⟨t, rfl⟩
    · exact Below.refl _ _
    · exact Go.Joins.below_bytesWorld _ _ _ _ (Nat.le_refl _)
  · obtain ⟨tp, p, hv⟩ := hE.es
    refine (Tryz.strconv_ParseInt_10_at64_syntax_var (S l) (by show l.length ≤ _; omega) h tp p w hv).mono ?_
    rintro e w' ⟨N, rfl, -, -, hb⟩
    exact ⟨hb, .inr ⟨(by intro v hv; rw [h] at hv; cases hv), _, N, rfl⟩⟩
  · obtain ⟨tp, p, hv⟩ := hE.er
    refine (Tryz.strconv_ParseInt_10_at64_range_var (S l) (by show l.length ≤ _; omega) h tp p w hv).mono ?_
    rintro e w' ⟨N, rfl, -, -, hb⟩
    exact ⟨hb, .inr ⟨(by intro v hv; rw [h] at hv; cases hv), _, N, rfl⟩⟩
theorem cutW_len (l : List UInt8) : (cutW l).length ≤ l.length := (List.takeWhile_sublist _).length_le
theorem cutP_len (l : List UInt8) : (cutP l).length ≤ l.length := by
  unfold cutP; rw [List.length_drop]; have := (List.dropWhile_sublist (fun c : UInt8 => c != 46) (l := l)).length_le; omega
theorem s_eq {a b : List UInt8} (h : a = b) : Value.string (S a) = .string (S b) := by rw [h]
set_option maxHeartbeats 1000000 in
theorem Parse_any (l : List UInt8) (w : World) (hl : l.length ≤ 1000000) (hE : NumOk w) : Calls Tryz.prog 22 #[.string (S l)] w (OkB (parseI l) w) := by
  by_cases hlong : 20 < l.length
  · have HP := Lib.hid (parseI_long l (by omega))
    go_enter Tryz.func22, Tryz.ntmps22
    go_wp2_with fail
    go_ret2
    exact ⟨ret_pr HP.out, Below.refl _ _⟩
  · have HE := Lib.hid hE; clear hE
    have hl20 : l.length ≤ 20 := by omega
    clear hlong hl
    go_enter Tryz.func22, Tryz.ntmps22
    go_upto_block 0 with fail
    go_cut [4, 5] (fun a b wx => a = .string (S (cutW l)) ∧ b = .string (S (cutP l)) ∧ ∃ n, wx = w.drewN n)
    case first =>
      go_wp2_with fail
      go_loop [4, 5, 15] (fun a b v => ∃ i : Nat, i ≤ l.length ∧ a = .string (S l) ∧ b = .string ⟨#[]⟩ ∧ v = .int .i64 (i : Int) ∧ Hid (cutW l = l.take i ++ cutW (l.drop i) ∧ cutP l = cutP (l.drop i))) (fun _ _ v => l.length - (intOf v).toNat)
      case atStart => exact ⟨0, by omega, rfl, rfl, rfl, Lib.hid (by simp)⟩
      case round =>
        obtain ⟨i, hi, rfl, rfl, rfl, HR⟩ := hrel
        by_cases hlt : i < l.length
        · by_cases hz : byt l i = 46
          · have T : (((byt l i).toNat : Int) == 46) = true := by rw [hz]; rfl
            have HN := Lib.hid (cut_at l i hlt hz)
            clear hz
            go_wp2_with fail
            have b1 : IntKind.i64.wrap ((i : Int) + 1) = (i : Int) + 1 := IntWalk.i64_in _ (by omega)
            have b2 : (0 : Int) ≤ (i : Int) + 1 := by omega
            have b3 : ((i : Int) + 1).toNat = i + 1 := by omega
            have b4 : (i : Int) + 1 ≤ (l.length : Int) := by omega
            go_quiet (fail)
            clear b1 b2 b3 b4
            go_wp2_with fail
            go_meet
            exact ⟨s_eq (by rw [HR.out.1, HN.out.1, sl_to, List.append_nil]), s_eq (by rw [HR.out.2, HN.out.2, sl_from]), nq, rfl⟩
          · have T : (((byt l i).toNat : Int) == 46) = false := by rw [beq_eq_false_iff_ne]; intro e; exact hz (UInt8.toNat_inj.1 (by rw [show (46 : UInt8).toNat = 46 from rfl]; omega))
            have HN := Lib.hid (cut_step l i hlt hz)
            clear hz
            go_wp2_with fail
            go_round
            case rel => exact ⟨i + 1, by omega, rfl, rfl, by go_num, Lib.hid ⟨by rw [HR.out.1, HN.out.1, take_byt l i hlt, List.append_assoc]; rfl, HR.out.2.trans HN.out.2⟩⟩
            case measure => simp [intOf]; omega
        · have HL := Lib.hid (show i = l.length by omega)
          go_wp2_with fail
          go_meet
          exact ⟨s_eq (by rw [HR.out.1, HL.out]; simp [cutW]), s_eq (a := []) (by rw [HR.out.2, HL.out]; simp [cutP]), 0, rfl⟩
    case rest =>
      obtain ⟨rfl, rfl, n, rfl⟩ := hcut
      have hWl := cutW_len l
      have hPl := cutP_len l
      obtain ⟨W, hW⟩ : ∃ W, cutW l = W := ⟨_, rfl⟩
      obtain ⟨P, hP⟩ : ∃ P, cutP l = P := ⟨_, rfl⟩
      rw [hW] at hWl ⊢
      rw [hP] at hPl ⊢
      have HWP := Lib.hid (And.intro hW hP)
      clear hW hP
      by_cases hbig : 4 < P.length
      · have HX := Lib.hid (prog_long l (by rw [HWP.out.2]; exact hbig))
        go_wp2_with fail
        go_loop [5] (fun v => v = .string (S P)) (fun v => 4 - strLen v)
        case atStart => rfl
        case round =>
          subst hrel
          go_wp2_with fail
          go_ret2
          exact ⟨ret_pr HX.out, below_drewN (Below.refl _ _) _⟩
      · go_wp2_with fail
        go_loop [5] (fun v => ∃ p : List UInt8, v = .string (S p) ∧ p.length ≤ 4 ∧ Hid (padP P = padP p)) (fun v => 4 - strLen v)
        case atStart => exact ⟨P, rfl, by omega, Lib.hid rfl⟩
        case round =>
          obtain ⟨p, rfl, hp4, HP⟩ := hrel
          by_cases hlt : p.length < 4
          · have HN := Lib.hid (padP_more p hlt)
            go_wp2_with fail
            go_round
            case rel => exact ⟨_, rfl, by rw [ct_len]; simp; omega, Lib.hid (HP.out.trans HN.out)⟩
            case measure => simp [strLen, S_size, ct_len]; omega
          · have HN := Lib.hid (HP.out.trans (padP_all p hlt))
            have HC := Lib.hid (show ct W p = cutW l ++ padP (cutP l) by rw [HWP.out.1, HWP.out.2, HN.out]; rfl)
            have hctl : (ct W p).length ≤ 100 := by rw [ct_len]; omega
            go_wp2_with fail
            refine (ParseInt_any (ct W p) (by omega) _ (HE.out.below (below_drewN (Below.refl _ _) n))).mono ?_
            rintro e w1 ⟨hb, ⟨u, hu, rfl⟩ | ⟨hno, u, N, rfl⟩⟩
            · have HU := Lib.hid (prog_ok l u (by rw [← HC.out]; exact hu))
              have hB := below_drewN (Below.refl w.heap.size w) n |>.trans hb
              have HB := Lib.hid hB
              clear hu hb hB
              cases hv : vld u
              · go_wp2_with (go_at_call 38; refine (Valid_any _ _).mono ?_; rintro e w' ⟨rfl, rfl⟩; rw [hv])
                go_ret2
                exact ⟨ret_pr (by rw [HU.out, hv]; simp), HB.out⟩
              · by_cases hte : textI u = l
                · have HT := Lib.hid hte
                  clear hte
                  go_wp2_with (go_at_call 38; refine (Valid_any _ _).mono ?_; rintro e w' ⟨rfl, rfl⟩; rw [hv])
                  refine (Text_any u _ (HE.out.below HB.out)).mono ?_
                  rintro e w2 ⟨rfl, hb2⟩
                  rw [HT.out]
                  go_wp2_with fail
                  go_ret2
                  exact ⟨ret_pr (by rw [HU.out, if_pos ⟨hv, HT.out⟩]), HB.out.trans (hb2.mono HB.out.size)⟩
                · have HT := Lib.hid hte
                  have T : (textI u == l) = false := by rw [beq_eq_false_iff_ne]; exact hte
                  clear hte
                  go_wp2_with (go_at_call 38; refine (Valid_any _ _).mono ?_; rintro e w' ⟨rfl, rfl⟩; rw [hv])
                  refine (Text_any u _ (HE.out.below HB.out)).mono ?_
                  rintro e w2 ⟨rfl, hb2⟩
                  go_wp2_with fail
                  go_ret2
                  exact ⟨ret_pr (by rw [HU.out, if_neg (fun h => HT.out h.2)]), HB.out.trans (hb2.mono HB.out.size)⟩
            · have HU := Lib.hid (prog_no l (by rw [← HC.out]; exact hno))
              have hB := below_drewN (Below.refl w.heap.size w) n |>.trans hb
              have HB := Lib.hid hB
              clear hno hb hB
              go_wp2_with fail
              go_ret2
              exact ⟨ret_pr HU.out, HB.out⟩
end Go.Proofs.YtadbilonialjnaaGreatDoor
