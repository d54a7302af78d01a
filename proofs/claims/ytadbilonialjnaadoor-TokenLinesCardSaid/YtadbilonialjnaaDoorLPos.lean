/- The laws of Position: what TokenPositions returns. -/
import Derived.Test.YtadbilonialjnaaDoorTkN
import Derived.Test.YtadbilonialjnaaDoorTkM
namespace Go.Proofs.YtadbilonialjnaaDoor
open Go.RowKit

set_option maxRecDepth 100000 in
set_option maxHeartbeats 2000000 in
theorem lawTokenPositions (s : List UInt8) (at_ : Int) (w : World) (hE : TkOk w) : Calls Tryd.prog 8 #[.string (S s), .int .i64 at_] w fun e w' => e = .returned (.bool true) ∧ Below w.heap.size w w' := by
  have HE := Lib.hid hE
  clear hE
  by_cases hl : 400 < s.length
  · go_enter Tryd.func8, Tryd.ntmps8
    go_wp2_with fail
    refine (example_any _ HE.out).mono ?_
    rintro e w1 ⟨rfl, hb1⟩
    go_wp2_with fail
    go_ret
    exact ⟨rfl, hb1⟩
  · have HP := Lib.hid (position_any s (by omega) at_)
    have HR := Lib.hid (refPosition_any s (by omega) at_)
    unfold posVal at HP HR
    obtain ⟨q, hq⟩ : ∃ q, s.take (clampN s at_) = q := ⟨_, rfl⟩
    rw [hq] at HP HR
    clear hq
    obtain ⟨x, hx⟩ : ∃ x : Int, (rowN q : Int) = x := ⟨_, rfl⟩
    obtain ⟨y, hy⟩ : ∃ y : Int, (q.length : Int) + 1 - (fromN q : Int) = y := ⟨_, rfl⟩
    rw [hx, hy] at HP HR
    clear hx hy
    go_enter Tryd.func8, Tryd.ntmps8
    go_wp2_with fail
    refine (HP.out _).mono ?_
    rintro e w1 ⟨rfl, hb1⟩
    have HB1 := Lib.hid hb1
    clear hb1
    go_wp2_with fail
    refine (HR.out _).mono ?_
    rintro e w2 ⟨rfl, hb2⟩
    have HB2 := Lib.hid (keepV HB1.out hb2)
    clear hb2
    go_wp2_with fail
    refine (example_any _ (HE.out.below HB2.out)).mono ?_
    rintro e w3 ⟨rfl, hb3⟩
    have HB3 := Lib.hid (keepV HB2.out hb3)
    go_wp2_with fail
    go_ret
    exact ⟨rfl, HB3.out⟩
set_option maxRecDepth 100000 in
set_option maxHeartbeats 2000000 in
theorem lawTokenLines (s : List UInt8) (w : World) (hE : TkOk w) : Calls Tryd.prog 9 #[.string (S s)] w fun e w' => e = .returned (.bool true) ∧ Below w.heap.size w w' := by
  have HE := Lib.hid hE
  clear hE
  by_cases hl : 200 < s.length
  · go_enter Tryd.func9, Tryd.ntmps9
    go_wp2_with fail
    refine (example_any _ HE.out).mono ?_
    rintro e w1 ⟨rfl, hb1⟩
    go_wp2_with fail
    go_ret
    exact ⟨rfl, hb1⟩
  · have hl2 : s.length ≤ 200 := by omega
    clear hl
    go_enter Tryd.func9, Tryd.ntmps9
    go_wp2_with fail
    go_loopw [3, 4, 5] (fun x y z wr => ∃ j : Nat, z = .int .i64 (j : Int) ∧ j ≤ s.length + 1 ∧ (j ≤ s.length → x = .int .i64 (rowN (s.take j) : Int) ∧ y = .int .i64 ((j : Int) + 1 - (fromN (s.take j) : Int))) ∧ Hid (Below w.heap.size w wr)) (fun _ _ z _ => s.length + 1 - (intOf z).toNat)
    case atStart => exact ⟨0, rfl, by omega, fun _ => ⟨rfl, rfl⟩, Lib.hid (Below.refl _ _)⟩
    case round =>
      obtain ⟨j, rfl, hj, hxy, HB⟩ := hrel
      by_cases hlt : j ≤ s.length
      · obtain ⟨rfl, rfl⟩ := hxy hlt
        clear hxy
        have hcl : clampN s (j : Int) = j := by unfold clampN; rw [if_neg (by omega)]; omega
        have hr := rowN_le (s.take j)
        have hf := fromN_le (s.take j)
        rw [List.length_take] at hr hf
        have HP := Lib.hid (position_any s (by omega) (j : Int))
        unfold posVal at HP
        rw [hcl, show (s.take j).length = j by rw [List.length_take]; omega] at HP
        clear hcl
        by_cases hlt2 : j < s.length
        · by_cases h10 : byt s j = 10
          · have T : (((byt s j).toNat : Int) == 10) = true := byte_test (d := 10) h10
            have HN := Lib.hid (show rowN (s.take (j + 1)) = rowN (s.take j) + 1 ∧ fromN (s.take (j + 1)) = j + 1 by
              rw [take_byt s j hlt2, h10, rowN_nl, fromN_nl, List.length_take]; exact ⟨rfl, by omega⟩)
            clear h10
            go_wp2_with fail
            refine (HP.out _).mono ?_
            rintro e w1 ⟨rfl, hb1⟩
            have HB1 := Lib.hid (keepV HB.out hb1)
            clear hb1 HB
            go_wp2_with fail
            go_roundw
            case rel => exact ⟨j + 1, rfl, by omega, fun _ => ⟨by rw [HN.out.1]; go_num, by rw [HN.out.2]; exact iv_eq (by omega)⟩, HB1⟩
            case measure => simp [intOf]; omega
          · have T : (((byt s j).toNat : Int) == 10) = false := u8_ne h10
            have HN := Lib.hid (show rowN (s.take (j + 1)) = rowN (s.take j) ∧ fromN (s.take (j + 1)) = fromN (s.take j) by
              rw [take_byt s j hlt2, rowN_no _ _ h10, fromN_no _ _ h10]; exact ⟨rfl, rfl⟩)
            clear h10
            go_wp2_with fail
            refine (HP.out _).mono ?_
            rintro e w1 ⟨rfl, hb1⟩
            have HB1 := Lib.hid (keepV HB.out hb1)
            clear hb1 HB
            go_wp2_with fail
            go_roundw
            case rel => exact ⟨j + 1, rfl, by omega, fun _ => ⟨by rw [HN.out.1], by rw [HN.out.2]; exact iv_eq (by omega)⟩, HB1⟩
            case measure => simp [intOf]; omega
        · go_wp2_with fail
          refine (HP.out _).mono ?_
          rintro e w1 ⟨rfl, hb1⟩
          have HB1 := Lib.hid (keepV HB.out hb1)
          clear hb1 HB
          go_wp2_with fail
          go_roundw
          case rel => exact ⟨j + 1, rfl, by omega, fun h => absurd h (by omega), HB1⟩
          case measure => simp [intOf]; omega
      · go_wp2_with fail
        refine (example_any _ (HE.out.below HB.out)).mono ?_
        rintro e w1 ⟨rfl, hb1⟩
        have HB1 := Lib.hid (keepV HB.out hb1)
        go_wp2_with fail
        go_ret
        exact ⟨rfl, HB1.out⟩
end Go.Proofs.YtadbilonialjnaaDoor
