/- Walks of the reference's Interp: the closing parenthesis, a piece. -/
import Derived.Test.YtadbilonialjnaaDoorRefU
import Derived.Test.YtadbilonialjnaaDoorBlk
import Derived.Test.YtadbilonialjnaaDoorTkT
import Derived.Test.YtadbilonialjnaaDoorTkC
namespace Go.Proofs.YtadbilonialjnaaDoor
open Go.RowKit

def closeV : Option Nat → Int
  | some j => (j : Int)
  | none => -1
theorem codeR_open {l : List UInt8} {i k : Nat} (h : i < l.length) (hc : byt l i = 40) : codeA (l.drop i) i k = codeA (l.drop (i + 1)) (i + 1) (k + 1) := by
  rw [drop_byt l i h, codeA, if_pos hc]
theorem codeR_end {l : List UInt8} {i : Nat} (h : i < l.length) (hc : byt l i = 41) : codeA (l.drop i) i 1 = some i := by
  rw [drop_byt l i h, codeA, hc, if_neg (by decide), if_pos rfl, if_pos rfl]
theorem codeR_shut {l : List UInt8} {i k : Nat} (h : i < l.length) (hc : byt l i = 41) (hk : ¬ k + 1 = 1) : codeA (l.drop i) i (k + 1) = codeA (l.drop (i + 1)) (i + 1) k := by
  rw [drop_byt l i h, codeA, hc, if_neg (by decide), if_pos rfl, if_neg hk, Nat.add_sub_cancel]
theorem codeR_else {l : List UInt8} {i k : Nat} (h : i < l.length) (h1 : ¬ byt l i = 40) (h2 : ¬ byt l i = 41) : codeA (l.drop i) i k = codeA (l.drop (i + 1)) (i + 1) k := by
  rw [drop_byt l i h, codeA, if_neg h1, if_neg h2]
theorem ret_int {a b : Int} (h : a = b) : Ending.returned (.int .i64 a) = .returned (.int .i64 b) := by rw [h]
set_option maxRecDepth 100000 in
set_option maxHeartbeats 2000000 in
theorem closing_any (l : List UInt8) (hl : l.length ≤ 1000000) (a : Nat) (w : World) : Calls Tryd.prog 23 #[.string (S l), .int .i64 (a : Int)] w fun e w' => e = .returned (.int .i64 (closeV (codeA (l.drop a) a 1))) ∧ w = w' := by
  obtain ⟨r, hr⟩ : ∃ r, codeA (l.drop a) a 1 = r := ⟨_, rfl⟩
  rw [hr]
  have HR := Lib.hid hr
  clear hr
  go_enter Tryd.func23, Tryd.ntmps23
  go_wp2_with fail
  go_loopw [5, 6] (fun x y wr => ∃ i d : Nat, x = .int .i64 (d : Int) ∧ y = .int .i64 (i : Int) ∧ a ≤ i ∧ (i = a ∨ i ≤ l.length) ∧ d ≤ i - a ∧ wr = w ∧ Hid (codeA (l.drop i) i (d + 1) = r)) (fun _ y _ => l.length - (intOf y).toNat)
  case atStart => exact ⟨a, 0, rfl, rfl, Nat.le_refl _, .inl rfl, by omega, rfl, HR⟩
  case round =>
    obtain ⟨i, d, rfl, rfl, h1, h2, h3, rfl, HI⟩ := hrel
    by_cases hlt : i < l.length
    · have b0 : (0 : Int) ≤ (i : Int) := by omega
      have b1 : (i : Int) < (l.length : Int) := by omega
      by_cases h41 : byt l i = 41
      · have T : (((byt l i).toNat : Int) == 41) = true := byte_test (d := 41) h41
        have T2 : (((byt l i).toNat : Int) == 40) = false := by rw [h41]; rfl
        by_cases hd : d = 0
        · subst hd
          have HC := Lib.hid ((codeR_end hlt h41).symm.trans HI.out)
          clear h41
          go_wp2_with fail
          go_ret
          exact ⟨by rw [← HC.out]; rfl, by first | rfl | trivial⟩
        · have HC := Lib.hid ((codeR_shut hlt h41 (k := d) (by omega)).symm.trans HI.out)
          have T3 : ((d : Int) == 0) = false := beq_eq_false_iff_ne.2 (by omega)
          obtain ⟨d', rfl⟩ : ∃ d', d = d' + 1 := ⟨d - 1, by omega⟩
          clear h41 hd
          go_wp2_with fail
          go_roundw
          case rel => exact ⟨i + 1, d', by go_num, rfl, by omega, .inr hlt, by omega, by first | rfl | trivial, HC⟩
          case measure => simp [intOf]; omega
      · have T : (((byt l i).toNat : Int) == 41) = false := u8_ne h41
        by_cases h40 : byt l i = 40
        · have T2 : (((byt l i).toNat : Int) == 40) = true := byte_test (d := 40) h40
          have HC := Lib.hid ((codeR_open hlt h40 (k := d + 1)).symm.trans HI.out)
          clear h41 h40
          go_wp2_with fail
          go_roundw
          case rel => exact ⟨i + 1, d + 1, by go_num, rfl, by omega, .inr hlt, by omega, by first | rfl | trivial, HC⟩
          case measure => simp [intOf]; omega
        · have T2 : (((byt l i).toNat : Int) == 40) = false := u8_ne h40
          have HC := Lib.hid ((codeR_else hlt h40 h41 (k := d + 1)).symm.trans HI.out)
          clear h41 h40
          go_wp2_with fail
          go_roundw
          case rel => exact ⟨i + 1, d, rfl, rfl, by omega, .inr hlt, by omega, by first | rfl | trivial, HC⟩
          case measure => simp [intOf]; omega
    · have HC := Lib.hid (show r = none by rw [← HI.out, List.drop_of_length_le (by omega)]; rfl)
      have b1 : ¬ (i : Int) < (l.length : Int) := by omega
      go_wp2_with fail
      go_ret
      exact ⟨by rw [HC.out]; rfl, by first | rfl | trivial⟩
theorem piece_str (l : List UInt8) (a j : Nat) (h : a + j ≤ l.length) : ct (ct [34] (sl l a (a + j))) [34] = 34 :: ((l.drop a).take j ++ [34]) := by
  unfold ct sl; rw [show a + j - a = j by omega]; simp
set_option maxRecDepth 100000 in
set_option maxHeartbeats 2000000 in
theorem piece_any (l : List UInt8) (hl : l.length ≤ 1000000) (a : Nat) (ha : a < l.length) (w : World) : Calls Tryd.prog 24 #[.string (S l), .int .i64 (a : Int)] w fun e w' => e = .returned (.int .i64 ((pieceL (l.drop a)).2 : Int)) ∧ Below w.heap.size w w' := by
  have hle := piece_le (l.drop a)
  have HY := Lib.hid (piece_yes (l.drop a))
  have HN := Lib.hid (piece_no (l.drop a))
  rw [List.length_drop] at hle HN
  obtain ⟨⟨b, r⟩, hr⟩ : ∃ r, pieceL (l.drop a) = r := ⟨_, rfl⟩
  rw [hr] at hle HY HN ⊢
  simp only at hle HY HN ⊢
  clear hr
  go_enter Tryd.func24, Tryd.ntmps24
  go_wp2_with fail
  go_loopw [5] (fun x wr => ∃ j : Nat, x = .int .i64 (j : Int) ∧ 1 ≤ j ∧ j ≤ 5 ∧ (r = 0 ∨ j ≤ r) ∧ Hid (Below w.heap.size w wr)) (fun x _ => 5 - (intOf x).toNat)
  case atStart => exact ⟨1, rfl, by omega, by omega, by omega, Lib.hid (Below.refl _ _)⟩
  case round =>
    obtain ⟨j, rfl, h1, h5, hr, HB⟩ := hrel
    by_cases hin : j ≤ 4 ∧ a + j ≤ l.length
    · have t1 : decide ((j : Int) ≤ 4) = true := decide_eq_true (by omega)
      have t2 : decide ((a : Int) + (j : Int) ≤ (l.length : Int)) = true := decide_eq_true (by omega)
      have w1 : IntKind.i64.wrap ((a : Int) + (j : Int)) = (a : Int) + (j : Int) := IntWalk.i64_in _ (by omega)
      have b0 : (0 : Int) ≤ (a : Int) := by omega
      have b1 : (a : Int) ≤ (a : Int) + (j : Int) := by omega
      have b2 : (a : Int) + (j : Int) ≤ (l.length : Int) := by omega
      have e1 : ((a : Int) + (j : Int)).toNat = a + j := by omega
      have hs4 : (sl l a (a + j)).length = j := by rw [sl_len l a (a + j) (by omega) (by omega)]; omega
      have hsl : (ct (ct [34] (sl l a (a + j))) [34]).length ≤ 1000000 := by simp [ct, hs4]; omega
      have HV := Lib.hid (piece_str l a j hin.2)
      by_cases hj : j = r
      · subst hj
        have HU := Lib.hid (HY.out (by omega))
        go_wp2_with fail
        refine (refUnquote_any (ct (ct [34] (sl l a (a + j))) [34]) hsl _).mono ?_
        rintro e w1 ⟨rfl, hb⟩
        rw [HV.out, HU.out]
        have HB1 := Lib.hid (HB.out.trans (hb.mono HB.out.size))
        clear hb
        unfold uqVal
        go_wp2_with fail
        go_ret
        exact ⟨by first | rfl | trivial, by have h := HB1.out; have h2 := h.size; go_grown⟩
      · have HU := Lib.hid (HN.out j h1 hin.1 (by omega) (by omega))
        go_wp2_with fail
        refine (refUnquote_any (ct (ct [34] (sl l a (a + j))) [34]) hsl _).mono ?_
        rintro e w1 ⟨rfl, hb⟩
        rw [HV.out]
        have HU2 := HU.out
        obtain ⟨⟨x, e1, p⟩, hx⟩ : ∃ x, unqL (34 :: ((l.drop a).take j ++ [34])) = x := ⟨_, rfl⟩
        rw [hx] at HU2 ⊢
        simp only at HU2
        subst HU2
        have HB1 := Lib.hid (HB.out.trans (hb.mono HB.out.size))
        clear hb hx HU
        unfold uqVal
        go_wp2_with fail
        go_roundw
        case rel => exact ⟨j + 1, rfl, by omega, by omega, by omega, Lib.hid (by have h := HB1.out; have h2 := h.size; go_grown)⟩
        case measure => simp [intOf]; omega
    · have hr0 : r = 0 := by omega
      subst hr0
      have hin2 : decide ((j : Int) ≤ 4) = false ∨ (decide ((j : Int) ≤ 4) = true ∧ decide ((a : Int) + (j : Int) ≤ (l.length : Int)) = false) := by
        by_cases h : j ≤ 4
        · right; exact ⟨decide_eq_true (by omega), decide_eq_false (by omega)⟩
        · left; exact decide_eq_false (by omega)
      have w1 : IntKind.i64.wrap ((a : Int) + (j : Int)) = (a : Int) + (j : Int) := IntWalk.i64_in _ (by omega)
      clear hin
      rcases hin2 with t1 | ⟨t1, t2⟩
      all_goals
        go_wp2_with fail
        go_ret
        exact ⟨by first | rfl | trivial, HB.out⟩
end Go.Proofs.YtadbilonialjnaaDoor
