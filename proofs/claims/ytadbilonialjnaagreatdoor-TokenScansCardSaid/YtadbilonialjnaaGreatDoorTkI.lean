/- The scanner's next: the token at the offset. -/
import Derived.Test.YtadbilonialjnaaGreatDoorTkH
import Derived.Test.YtadbilonialjnaaGreatDoorParse
namespace Go.Proofs.YtadbilonialjnaaGreatDoor
open Go.RowKit

/-- which numbers are permitted -/
def nbOk (l : List UInt8) : Bool := (parseI l).2 == 0
theorem next_head {nb : List UInt8 → Bool} {m : List UInt8} (h : 0 < m.length) : tkNext nb m =
    if Lib.hasPrefix m [47, 47] = true then some (6, (m.take (runN (· != 10) m)).drop 2, runN (· != 10) m)
    else if 0 < tkWord m then some (1, m.take (tkWord m), tkWord m)
    else if digitB (byt m 0) = true then (if nb (m.take (tkNum m)) = true then some (2, m.take (tkNum m), tkNum m) else none)
    else if byt m 0 = 34 then tkStr m
    else if tkOp m = [] then none else some (5, tkOp m, (tkOp m).length) := by
  cases m with
  | nil => simp at h
  | cons c t => rfl
theorem cut_nl (m : List UInt8) : (Lib.cut m [10]).1 = m.take (runN (· != 10) m) := by
  have h : ∀ m : List UInt8, (Lib.indexByte m 10 = -1 ∧ runN (· != 10) m = m.length) ∨ (Lib.indexByte m 10 = (runN (· != 10) m : Int)) := by
    intro m
    induction m with
    | nil => left; exact ⟨rfl, rfl⟩
    | cons c t ih =>
      unfold Lib.indexByte runN
      by_cases hc : c = 10
      · subst hc; right; simp
      · have h1 : (c == 10) = false := by simpa using hc
        have h2 : (c != 10) = true := by simpa using hc
        rw [h1, h2]
        rcases ih with ⟨i1, i2⟩ | i1
        · left; rw [i1, i2]; exact ⟨rfl, rfl⟩
        · right
          rw [i1]
          rw [if_neg (by decide), if_pos rfl, if_neg (by simp)]
          omega
  unfold Lib.cut
  rw [Lib.index_one]
  rcases h m with ⟨h1, h2⟩ | h1
  · rw [h1, h2, if_neg (by decide)]; simp
  · rw [h1, if_pos (by omega)]; simp
theorem Cut_any (m : List UInt8) (hl : m.length ≤ 1000000) (w : World) (hM : MaxOk w) : Calls Tryz.prog 18 #[.string (S m), .string (S [10])] w fun e w' => ∃ (y : List UInt8) (b : Bool) (k : Nat), e = .returned (.tuple #[.string (S (m.take (runN (· != 10) m))), .string (S y), .bool b]) ∧ w' = w.drewN k := by
  obtain ⟨i, hi⟩ := hM
  refine (Tryz.strings_Cut (S m) (S [10]) i w (by show m.length < _; omega) hi).mono ?_
  rintro e w' ⟨rfl, k, rfl⟩
  refine ⟨(Lib.cut m [10]).2.1, (Lib.cut m [10]).2.2, k, ?_, rfl⟩
  rw [← cut_nl]; rfl
theorem op_mem (m : List UInt8) (h : ¬ tkOp m = []) : tkOp m ∈ tkOps := by
  unfold tkOp at *
  cases hf : tkOps.find? (fun o => o.isPrefixOf m) with
  | none => rw [hf] at h; exact absurd rfl h
  | some o => exact List.mem_of_find?_eq_some hf
theorem op_len (m : List UInt8) (h : ¬ tkOp m = []) : (tkOp m).length ≤ m.length ∧ 0 < (tkOp m).length := by
  refine ⟨?_, List.length_pos_iff.2 h⟩
  unfold tkOp at *
  cases hf : tkOps.find? (fun o => o.isPrefixOf m) with
  | none => rw [hf] at h; exact absurd rfl h
  | some o =>
    have := List.find?_some hf
    exact (List.isPrefixOf_iff_prefix.1 this).length_le
theorem run_two (m : List UInt8) (h : List.isPrefixOf [47, 47] m = true) : 2 ≤ runN (· != 10) m := by
  match m with
  | [] => simp [List.isPrefixOf] at h
  | [_] => simp [List.isPrefixOf] at h
  | a :: b :: t =>
    simp only [List.isPrefixOf, Bool.and_true, Bool.and_eq_true, beq_iff_eq] at h
    obtain ⟨h1, h2⟩ := h
    subst h1; subst h2
    simp [runN]

set_option maxRecDepth 100000 in
set_option maxHeartbeats 4000000 in
theorem next_any (w0 : World) (B : Nat) (s : List UInt8) (a : Nat) (L : List Tok) (ln : Bool) (v : Value) (W : World) (hS : ScW w0 B s a L ln v W)
    (hL : L.length ≤ 1000000) (ha : a < s.length) (hs : s.length ≤ 100000) :
    Calls Tryz.prog 10 #[.pointer (some ⟨B, 0, none⟩)] W (NxP w0 B s a L ln (tkNext nbOk (s.drop a))) := by
  have HS := Lib.hid hS
  obtain ⟨c0, c1, c2, c3⟩ := hS.sc.cells
  have hlt := hS.sc.lt
  clear hS
  have hml := sl_len s a s.length (by omega) (Nat.le_refl _)
  have hq := next_head (nb := nbOk) (m := s.drop a) (by rw [List.length_drop]; omega)
  rw [← sl_end s a] at hq ⊢
  have b0 : (0 : Int) ≤ (a : Int) := by omega
  have b1 : (a : Int) ≤ (s.length : Int) := by omega
  have b2 : (a : Int).toNat = a := by omega
  have HDr := Lib.hid (sl_end s a)
  go_enter Tryz.func10, Tryz.ntmps10
  go_upto_region 1 with fail
  go_quiet (fail)
  have HS1 := Lib.hid (HS.out.drewN nq)
  generalize W.drewN nq = W1 at HS1 ⊢
  clear HS c0 c1 c2 c3 hlt b0 b1 b2
  obtain ⟨X, hX⟩ : ∃ X, sl s a s.length = X := ⟨_, rfl⟩
  rw [hX] at hml hq HDr
  have HXe := Lib.hid hX
  rw [hX]
  clear hX
  have hXl : X.length ≤ 100000 := by omega
  have hXp : (0 : Int) < (X.length : Int) := by omega
  have hXp' : 0 < X.length := by omega
  have hbound : a + X.length ≤ s.length := by omega
  clear hml
  obtain ⟨o, ho⟩ : ∃ o, tkNext nbOk X = o := ⟨_, rfl⟩
  rw [ho] at hq
  have HO0 := Lib.hid (show tkNext nbOk (sl s a s.length) = o by rw [HXe.out]; exact ho)
  clear ho
  by_cases hpre : Lib.hasPrefix X [47, 47] = true
  · have hr2 := run_two X hpre
    have hrl := runN_le (· != 10) X
    rw [if_pos hpre] at hq
    have HP := Lib.hid hpre
    clear hpre
    have hll : (X.take (runN (· != 10) X)).length = runN (· != 10) X := by rw [List.length_take]; omega
    obtain ⟨r, hr⟩ : ∃ r, runN (· != 10) X = r := ⟨_, rfl⟩
    rw [hr] at hq hr2 hrl hll
    obtain ⟨l, hl⟩ : ∃ l, X.take r = l := ⟨_, rfl⟩
    rw [hl] at hq hll
    rw [← sl_end l 2, hll] at hq
    have HQ := Lib.hid hq
    have HC := Lib.hid (show X.take (runN (· != 10) X) = l by rw [hr]; exact hl)
    have hr2' : (2 : Int) ≤ (r : Int) := by omega
    clear hq hr hl
    go_wp2_with (first | (go_at_call 14; refine (Tryz.strings_HasPrefix _ _ _).mono ?_; rintro e w' ⟨rfl, rfl⟩; rw [S_data, show Lib.hasPrefix X _ = true from HP.out]) | (go_at_call 18; refine (Cut_any X (by omega) _ HS1.out.oks.mx).mono ?_; rintro e w2 ⟨y, b, k, rfl, rfl⟩; rw [HC.out]; have HS2 := Lib.hid (HS1.out.drewN k)) | (go_at_call 9; refine (addW_any w0 B s a L ln v 6 (sl l 2 r) r _ HS2.out hL (by omega) (by decide) (fun h => absurd h (by decide))).mono ?_; rintro e w3 ⟨rfl, v3, h3⟩; have HS3 := Lib.hid h3; clear h3))
    go_ret
    exact nx_some (HO0.out.trans HQ.out) HS3.out
  · have hpre' : Lib.hasPrefix X [47, 47] = false := by simpa using hpre
    rw [if_neg hpre] at hq
    have HP := Lib.hid hpre'
    clear hpre hpre'
    have hwl := tkWord_le X
    by_cases hw : 0 < tkWord X
    · rw [if_pos hw] at hq
      obtain ⟨r, hr⟩ : ∃ r, tkWord X = r := ⟨_, rfl⟩
      rw [hr, ← sl_to] at hq
      rw [hr] at hw hwl
      have HQ := Lib.hid hq
      have HC := Lib.hid hr
      have hw' : (0 : Int) < (r : Int) := by omega
      have hw2 : (r : Int) ≤ (X.length : Int) := by omega
      clear hq hr
      go_wp2_with (first | (go_at_call 14; refine (Tryz.strings_HasPrefix _ _ _).mono ?_; rintro e w' ⟨rfl, rfl⟩; rw [S_data, show Lib.hasPrefix X _ = false from HP.out]) | (go_at_call 19; refine (tword_any X (by omega) _).mono ?_; rintro e w2 ⟨rfl, rfl⟩; rw [HC.out]) | (go_at_call 9; refine (addW_any w0 B s a L ln v 1 (sl X 0 r) r _ HS1.out hL (by omega) (by decide) (fun h => absurd h (by decide))).mono ?_; rintro e w3 ⟨rfl, v3, h3⟩; have HS3 := Lib.hid h3; clear h3))
      go_ret
      exact nx_some (HO0.out.trans HQ.out) HS3.out
    · have hw0 : tkWord X = 0 := by omega
      rw [if_neg hw] at hq
      have HC := Lib.hid hw0
      clear hw hw0 hwl
      by_cases hD : digitB (byt X 0) = true
      · rw [if_pos hD] at hq
        have hnl := tkNum_le X
        obtain ⟨r, hr⟩ : ∃ r, tkNum X = r := ⟨_, rfl⟩
        rw [hr, ← sl_to] at hq
        rw [hr] at hnl
        have HR := Lib.hid hr
        have hw2 : (r : Int) ≤ (X.length : Int) := by omega
        have hsl := sl_le X 0 r
        clear hr
        unfold nbOk at hq
        obtain ⟨⟨u, e1⟩, hp⟩ : ∃ x, parseI (sl X 0 r) = x := ⟨_, rfl⟩
        rw [hp] at hq
        have HPR := Lib.hid (show pr (parseI (sl X 0 r)) = .tuple #[.int .i64 u, .int .i64 e1] by rw [hp]; rfl)
        clear hp
        by_cases he : e1 = 0
        · subst he
          have HQ := Lib.hid (show o = some (2, sl X 0 r, r) from hq)
          clear hq
          go_wp2_with (first | (go_at_call 14; refine (Tryz.strings_HasPrefix _ _ _).mono ?_; rintro e w' ⟨rfl, rfl⟩; rw [S_data, show Lib.hasPrefix X _ = false from HP.out]) | (go_at_call 19; refine (tword_any X (by omega) _).mono ?_; rintro e w2 ⟨rfl, rfl⟩; rw [HC.out]) | (go_at_call 20; refine (tdigit_any _ _).mono ?_; rintro e w2 ⟨rfl, rfl⟩) | (go_at_call 21; refine (tnumber_any X (by omega) _).mono ?_; rintro e w2 ⟨rfl, rfl⟩; rw [HR.out]) | (go_at_call 22; refine (Parse_any (sl X 0 r) _ (by omega) HS1.out.oks.nu).mono ?_; rintro e w2 ⟨rfl, hb⟩; rw [HPR.out]; have HS2 := Lib.hid (HS1.out.step hb); clear hb) | (go_at_call 9; refine (addW_any w0 B s a L ln v 2 (sl X 0 r) r _ HS2.out hL (by omega) (by decide) (fun h => absurd h (by decide))).mono ?_; rintro e w3 ⟨rfl, v3, h3⟩; have HS3 := Lib.hid h3; clear h3))
          go_ret
          exact nx_some (HO0.out.trans HQ.out) HS3.out
        · have hez : (e1 != 0) = true := by simpa using he
          have HQ := Lib.hid (show o = none by rw [hq, if_neg]; simpa using he)
          clear hq
          go_wp2_with (first | (go_at_call 14; refine (Tryz.strings_HasPrefix _ _ _).mono ?_; rintro e w' ⟨rfl, rfl⟩; rw [S_data, show Lib.hasPrefix X _ = false from HP.out]) | (go_at_call 19; refine (tword_any X (by omega) _).mono ?_; rintro e w2 ⟨rfl, rfl⟩; rw [HC.out]) | (go_at_call 20; refine (tdigit_any _ _).mono ?_; rintro e w2 ⟨rfl, rfl⟩) | (go_at_call 21; refine (tnumber_any X (by omega) _).mono ?_; rintro e w2 ⟨rfl, rfl⟩; rw [HR.out]) | (go_at_call 22; refine (Parse_any (sl X 0 r) _ (by omega) HS1.out.oks.nu).mono ?_; rintro e w2 ⟨rfl, hb⟩; rw [HPR.out]; have HS2 := Lib.hid (HS1.out.step hb); clear hb))
          go_ret
          exact nx_none (HO0.out.trans HQ.out) HS2.out
      · rw [if_neg hD] at hq
        have hD' : digitB (byt X 0) = false := by simpa using hD
        clear hD
        by_cases h34 : byt X 0 = 34
        · rw [if_pos h34] at hq
          have T : (((byt X 0).toNat : Int) == 34) = true := byte_test (d := 34) h34
          have HQ := Lib.hid hq
          clear hq h34
          go_wp2_with (first | (go_at_call 14; refine (Tryz.strings_HasPrefix _ _ _).mono ?_; rintro e w' ⟨rfl, rfl⟩; rw [S_data, show Lib.hasPrefix X _ = false from HP.out]) | (go_at_call 19; refine (tword_any X (by omega) _).mono ?_; rintro e w2 ⟨rfl, rfl⟩; rw [HC.out]) | (go_at_call 20; refine (tdigit_any _ _).mono ?_; rintro e w2 ⟨rfl, rfl⟩))
          refine (str_any w0 B s a L ln v _ HS1.out hL ha hs).mono ?_
          rintro e w2 hr
          have HE := Lib.hid (HQ.out.trans (by rw [HDr.out]))
          cases hT : tkStr (s.drop a) with
          | none =>
            rw [hT] at hr HE
            obtain ⟨rfl, v2, h2⟩ := hr
            have HS2 := Lib.hid h2
            clear h2 hT
            go_wp2_with fail
            go_ret
            exact nx_none (HO0.out.trans HE.out) HS2.out
          | some x =>
            obtain ⟨k, x, n⟩ := x
            rw [hT] at hr HE
            obtain ⟨rfl, v2, h2⟩ := hr
            have HS2 := Lib.hid h2
            clear h2 hT
            go_wp2_with fail
            go_ret
            exact nx_some (HO0.out.trans HE.out) HS2.out
        · rw [if_neg h34] at hq
          have T : (((byt X 0).toNat : Int) == 34) = false := u8_ne h34
          clear h34
          obtain ⟨q, hqq⟩ : ∃ q, tkOp X = q := ⟨_, rfl⟩
          have HO := Lib.hid hqq
          by_cases hop : tkOp X = []
          · rw [if_pos hop] at hq
            have HQ := Lib.hid hq
            have HO := Lib.hid hop
            clear hq hop hqq
            go_wp2_with (first | (go_at_call 14; refine (Tryz.strings_HasPrefix _ _ _).mono ?_; rintro e w' ⟨rfl, rfl⟩; rw [S_data, show Lib.hasPrefix X _ = false from HP.out]) | (go_at_call 19; refine (tword_any X (by omega) _).mono ?_; rintro e w2 ⟨rfl, rfl⟩; rw [HC.out]) | (go_at_call 20; refine (tdigit_any _ _).mono ?_; rintro e w2 ⟨rfl, rfl⟩) | (go_at_call 24; refine (toper_any X (by omega) _ HS1.out.oks.mx).mono ?_; rintro e w2 ⟨rfl, hb⟩; rw [HO.out]; have HS2 := Lib.hid (HS1.out.step hb); clear hb))
            go_ret
            exact nx_none (HO0.out.trans HQ.out) HS2.out
          · rw [if_neg hop] at hq
            have hmem := op_mem X hop
            have hlen := op_len X hop
            rw [hqq] at hmem hlen hq hop
            have HQ := Lib.hid hq
            have HM := Lib.hid hmem
            have TE : q.isEmpty = false := by cases q with | nil => exact absurd rfl hop | cons _ _ => rfl
            clear hq hop hqq hmem
            go_wp2_with (first | (go_at_call 14; refine (Tryz.strings_HasPrefix _ _ _).mono ?_; rintro e w' ⟨rfl, rfl⟩; rw [S_data, show Lib.hasPrefix X _ = false from HP.out]) | (go_at_call 19; refine (tword_any X (by omega) _).mono ?_; rintro e w2 ⟨rfl, rfl⟩; rw [HC.out]) | (go_at_call 20; refine (tdigit_any _ _).mono ?_; rintro e w2 ⟨rfl, rfl⟩) | (go_at_call 24; refine (toper_any X (by omega) _ HS1.out.oks.mx).mono ?_; rintro e w2 ⟨rfl, hb⟩; rw [HO.out]; have HS2 := Lib.hid (HS1.out.step hb); clear hb) | (go_at_call 9; refine (addW_any w0 B s a L ln v 5 q q.length _ HS2.out hL (by omega) (by decide) (fun _ => HM.out)).mono ?_; rintro e w3 ⟨rfl, v3, h3⟩; have HS3 := Lib.hid h3; clear h3))
            go_ret
            exact nx_some (HO0.out.trans HQ.out) HS3.out
end Go.Proofs.YtadbilonialjnaaGreatDoor
