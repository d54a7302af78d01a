/- Walks of the steps: word, wrong, name: reading an identifier. -/
import Derived.Test.YtpekkdgaeadepaaDoorStA
namespace Go.Proofs.YtpekkdgaeadepaaDoor
open Go.RowKit

theorem S_nil : S [] = ⟨#[]⟩ := rfl
def wordB (c : UInt8) : Bool := letterB c || digitB c || c == 95 || c == 35
theorem wordB_nat (c : UInt8) : wordB c = (decide (97 ≤ c.toNat ∧ c.toNat ≤ 122) || decide (65 ≤ c.toNat ∧ c.toNat ≤ 90) || decide (48 ≤ c.toNat ∧ c.toNat ≤ 57) || decide (c.toNat = 95) || decide (c.toNat = 35)) := by
  unfold wordB
  rw [letterB_nat, digitB_nat]
  have h1 : (c == 95) = decide (c.toNat = 95) := by rw [Bool.eq_iff_iff]; simp [← UInt8.toNat_inj]
  have h2 : (c == 35) = decide (c.toNat = 35) := by rw [Bool.eq_iff_iff]; simp [← UInt8.toNat_inj]
  rw [h1, h2]
set_option maxHeartbeats 1000000 in
theorem word_any (c : UInt8) (w : World) : Calls Tryd.prog 60 #[.int .u8 (c.toNat : Int)] w fun e w' => e = .returned (.bool (wordB c)) ∧ w = w' := by
  have hlt := c.toNat_lt
  have hn := wordB_nat c
  generalize wordB c = b at hn ⊢
  have HN := Lib.hid hn
  clear hn
  go_enter Tryd.func60, Tryd.ntmps60
  go_wp2
  all_goals
    go_ret
    exact ⟨ret_bool (by rw [HN.out, Bool.eq_iff_iff]; first | (simp; omega) | (simp [*]; done)), rfl⟩
/-- at this length the word is no identifier, nor with a letter behind it -/
def badAt (l : List UInt8) (k : Nat) : Bool := !identB (l.take (k + 1)) && !identB (l.take (k + 1) ++ [97])
def wrongN (l : List UInt8) : Nat := ((List.range l.length).find? (badAt l)).getD l.length
theorem wrongN_at (l : List UInt8) (m : Nat) (hm : m < l.length) (h : badAt l m = true) (h0 : ∀ k, k < m → badAt l k = false) : wrongN l = m := by
  unfold wrongN
  rw [List.find?_range_eq_some.2 ⟨h, by simpa using hm, fun j hj => by simp [h0 j hj]⟩]; rfl
theorem wrongN_none (l : List UInt8) (h0 : ∀ k, k < l.length → badAt l k = false) : wrongN l = l.length := by
  unfold wrongN
  rw [List.find?_range_eq_none.2 (fun k hk => by simp [h0 k hk])]; rfl
set_option maxHeartbeats 1000000 in
theorem wrong_any (l : List UInt8) (hl : l.length ≤ 100000) (w : World) : Calls Tryd.prog 61 #[.string (S l)] w fun e w' => e = .returned (.int .i64 (wrongN l : Int)) ∧ Below w.heap.size w w' := by
  obtain ⟨r, hr⟩ : ∃ r, wrongN l = r := ⟨_, rfl⟩
  rw [hr]
  have HR := Lib.hid hr
  clear hr
  go_enter Tryd.func61, Tryd.ntmps61
  go_wp2_with fail
  go_loopw [3] (fun i wr => ∃ j : Nat, i = .int .i64 ((j : Int) + 1) ∧ j ≤ l.length ∧ Hid ((∀ k, k < j → badAt l k = false) ∧ Below w.heap.size w wr)) (fun i _ => l.length + 1 - (intOf i).toNat)
  case atStart => exact ⟨0, rfl, Nat.zero_le _, Lib.hid ⟨fun k hk => by omega, Below.refl _ _⟩⟩
  case round =>
    obtain ⟨j, rfl, hj, HW⟩ := hrel
    by_cases hlt : j < l.length
    · have j0 : (0 : Int) ≤ (j : Int) + 1 := by omega
      have j1 : (j : Int) + 1 ≤ (l.length : Int) := by omega
      have j2 : ((j : Int) + 1).toNat = j + 1 := by omega
      go_wp2_with fail
      obtain ⟨x, hx⟩ : ∃ x, sl l 0 (j + 1) = x := ⟨_, rfl⟩
      have hxl : x.length ≤ 100000 := by rw [← hx]; have := sl_le l 0 (j + 1); omega
      rw [hx]
      have HX := Lib.hid (show l.take (j + 1) = x from by rw [← sl_to]; exact hx)
      clear hx
      refine (Ident_any x (by omega) _).mono ?_
      rintro e w1 ⟨rfl, hb1⟩
      have HB1 := Lib.hid (HW.out.2.trans (hb1.mono HW.out.2.size))
      clear hb1
      rcases (bool_two (identB x)).symm with hp | hp
      · rw [hp]
        have hbad : badAt l j = false := by unfold badAt; rw [HX.out, hp]; simp
        have HBAD := Lib.hid hbad
        clear hbad hp
        go_wp2_with fail
        go_roundw
        case rel => exact ⟨j + 1, rfl, hlt, Lib.hid ⟨fun k hk => by rcases Nat.lt_succ_iff_lt_or_eq.1 hk with h | h; exact HW.out.1 k h; rw [h]; exact HBAD.out, HB1.out⟩⟩
        case measure => simp [intOf]; omega
      · rw [hp]
        have HP := Lib.hid hp
        clear hp
        go_wp2_with fail
        refine (Ident_any (ct x [97]) (by rw [ct_len]; simp; omega) _).mono ?_
        rintro e w2 ⟨rfl, hb2⟩
        have HB2 := Lib.hid (HB1.out.trans (hb2.mono HB1.out.size))
        clear hb2
        rcases (bool_two (identB (ct x [97]))).symm with hq | hq
        · rw [hq]
          have hbad : badAt l j = false := by unfold badAt; rw [HX.out, HP.out, show x ++ [97] = ct x [97] from rfl, hq]; rfl
          have HBAD := Lib.hid hbad
          clear hbad hq
          go_wp2_with fail
          go_roundw
          case rel => exact ⟨j + 1, rfl, hlt, Lib.hid ⟨fun k hk => by rcases Nat.lt_succ_iff_lt_or_eq.1 hk with h | h; exact HW.out.1 k h; rw [h]; exact HBAD.out, HB2.out⟩⟩
          case measure => simp [intOf]; omega
        · rw [hq]
          have hbad : badAt l j = true := by unfold badAt; rw [HX.out, HP.out, show x ++ [97] = ct x [97] from rfl, hq]; rfl
          have hr : r = j := by rw [← HR.out]; exact wrongN_at l j hlt hbad HW.out.1
          subst hr
          clear hbad hq
          go_wp2_with fail
          go_ret
          exact ⟨ret_i64 (by omega), HB2.out⟩
    · have hjl : j = l.length := by omega
      subst hjl
      have hr : r = l.length := by rw [← HR.out]; exact wrongN_none l HW.out.1
      subst hr
      go_wp2_with fail
      go_ret
      exact ⟨rfl, HW.out.2⟩
/-- what a reader of a step hands back -/
def rdv (r : Stp × Nat × Bool) : Value := .tuple #[stv r.1, .int .i64 (r.2.1 : Int), .bool r.2.2]
def noS : Stp := ⟨[], 0⟩
def runW (l : List UInt8) : Nat := (l.takeWhile wordB).length
def nameP (t : List UInt8) : Stp × Nat × Bool := if identB (t.take (runW t)) then (⟨t.take (runW t), 0⟩, runW t, true) else (noS, wrongN (t.take (runW t)), false)
theorem runW_at (l : List UInt8) (m : Nat) (hm : m ≤ l.length) (h0 : ∀ k, k < m → wordB (byt l k) = true) (h1 : m = l.length ∨ wordB (byt l m) = false) : runW l = m := by
  unfold runW
  induction l generalizing m with
  | nil => simp at hm; simp [hm]
  | cons c t ih =>
    cases m with
    | zero =>
      rcases h1 with h1 | h1
      · simp at h1
      · have : wordB c = false := h1
        simp [this]
    | succ m =>
      have hc : wordB c = true := h0 0 (by omega)
      rw [List.takeWhile_cons, if_pos hc, List.length_cons]
      rw [ih m (by simpa using hm) (fun k hk => h0 (k + 1) (by omega)) (by rcases h1 with h1 | h1; exact .inl (by simpa using h1); exact .inr h1)]
set_option maxHeartbeats 1000000 in
theorem name_any (l : List UInt8) (hl : l.length ≤ 100000) (w : World) : Calls Tryd.prog 43 #[.string (S l)] w fun e w' => e = .returned (rdv (nameP l)) ∧ Below w.heap.size w w' := by
  obtain ⟨r, hr⟩ : ∃ r, nameP l = r := ⟨_, rfl⟩
  rw [hr]
  have HR := Lib.hid hr
  clear hr
  go_enter Tryd.func43, Tryd.ntmps43
  go_wp2_with fail
  have hB0 := Blk.new w #[.string ⟨#[]⟩, .int .i64 0] 37
  have hb0 : Below w.heap.size w (w.alloc (.cells #[.string ⟨#[]⟩, .int .i64 0] 37)) := by go_grown
  generalize w.alloc (.cells #[.string ⟨#[]⟩, .int .i64 0] 37) = W0 at hB0 hb0 ⊢
  go_loopw [5] (fun i wr => wr = W0 ∧ ∃ j : Nat, i = .int .i64 (j : Int) ∧ j ≤ l.length ∧ Hid (∀ k, k < j → wordB (byt l k) = true)) (fun i _ => l.length - (intOf i).toNat)
  case atStart => exact ⟨rfl, 0, rfl, Nat.zero_le _, Lib.hid (fun k hk => by omega)⟩
  case round =>
    obtain ⟨rfl, j, rfl, hj, HW⟩ := hrel
    by_cases hgo : j < l.length ∧ wordB (byt l j) = true
    · obtain ⟨hlt, hwb⟩ := hgo
      go_wp2_with (go_at_call 60; refine (word_any _ _).mono ?_; rintro e w' ⟨rfl, rfl⟩; rw [hwb])
      go_roundw
      case rel => exact ⟨by first | rfl | trivial, j + 1, rfl, hlt, Lib.hid (fun k hk => by rcases Nat.lt_succ_iff_lt_or_eq.1 hk with h | h; exact HW.out k h; rw [h]; exact hwb)⟩
      case measure => simp [intOf]; omega
    · have hstop : j = l.length ∨ wordB (byt l j) = false := by
        rcases Nat.lt_or_ge j l.length with h | h
        · refine .inr ?_
          cases hc : wordB (byt l j) with
          | false => rfl
          | true => exact absurd ⟨h, hc⟩ hgo
        · exact .inl (by omega)
      have HRUN := Lib.hid (runW_at l j hj HW.out hstop)
      have j0 : (0 : Int) ≤ (j : Int) := by omega
      have j1 : (j : Int) ≤ (l.length : Int) := by omega
      have hxl : (sl l 0 j).length ≤ 100000 := by have := sl_le l 0 j; omega
      have HSL := Lib.hid (sl_to l j)
      have HS := Lib.hid hB0
      have HB := Lib.hid hb0
      clear hB0 hb0 hgo
      have hmid : (∃ _ : j < l.length, wordB (byt l j) = false) ∨ ¬ j < l.length := by
        rcases hstop with h | h
        · exact .inr (by omega)
        · rcases Nat.lt_or_ge j l.length with h' | h'
          · exact .inl ⟨h', h⟩
          · exact .inr (by omega)
      clear hstop
      obtain ⟨x, hx⟩ : ∃ x, sl l 0 j = x := ⟨_, rfl⟩
      rw [hx] at hxl HSL
      have HX := Lib.hid hx
      rcases hmid with ⟨hlt, hwb⟩ | hlt
      all_goals
        go_wp2_with (go_at_call 60; refine (word_any _ _).mono ?_; rintro e w' ⟨rfl, rfl⟩; rw [hwb])
        refine (Ident_any x (by omega) _).mono ?_
        rintro e w1 ⟨rfl, hb1⟩
        have hB1 := HS.out.below hb1
        have HB1 := Lib.hid (HB.out.trans (hb1.mono HB.out.size))
        clear hb1
        rcases (bool_two (identB x)).symm with hp | hp
        · rw [hp]
          have hr : r = (⟨x, 0⟩, j, true) := by rw [← HR.out]; unfold nameP; rw [HRUN.out, ← HSL.out, hp]; rfl
          subst hr
          clear hp
          have f0 := hB1.frozen 0
          have f1 := hB1.frozen 1
          have x0 := hB1.cell 0
          have x1 := hB1.cell 1
          simp at x0 x1
          go_wp2_with fail
          exact bodyPost_ret (v := rdv _) (by simp [results, Tryd.results43, go_sem, rdv, x0, x1]) rfl ⟨rfl, (HB1.out.setCell (Nat.le_refl _) _).setCell (Nat.le_refl _) _⟩
        · rw [hp]
          have HP := Lib.hid hp
          clear hp
          go_wp2_with fail
          refine (wrong_any x hxl _).mono ?_
          rintro e w2 ⟨rfl, hb2⟩
          have hB2 := hB1.below hb2
          have HB2 := Lib.hid (HB1.out.trans (hb2.mono HB1.out.size))
          clear hb2
          have hr : r = (noS, wrongN x, false) := by rw [← HR.out]; unfold nameP; rw [HRUN.out, ← HSL.out, HP.out]; rfl
          subst hr
          have f0 := hB2.frozen 0
          have f1 := hB2.frozen 1
          have x0 := hB2.cell 0
          have x1 := hB2.cell 1
          simp at x0 x1
          go_wp2_with fail
          exact bodyPost_ret (v := rdv _) (by simp [results, Tryd.results43, go_sem, rdv, noS, S_nil, x0, x1]) rfl ⟨rfl, (HB2.out.setCell (Nat.le_refl _) _).setCell (Nat.le_refl _) _⟩
end Go.Proofs.YtpekkdgaeadepaaDoor
