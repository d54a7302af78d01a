/- Walks of the steps: hexadecimal, escape. -/
import Derived.IntWalk
import Derived.Test.YtpekkdgaeadepaaDoorStW
namespace Go.Proofs.YtpekkdgaeadepaaDoor
open Go.RowKit

def hexS : List UInt8 := [48, 49, 50, 51, 52, 53, 54, 55, 56, 57, 97, 98, 99, 100, 101, 102]
def pairH (n : Nat) : List UInt8 := ct (sl hexS (n / 16) (n / 16 + 1)) (sl hexS (n % 16) (n % 16 + 1))
def wrN (n : Nat) : Bool := !(decide (32 ≤ n) && decide (n ≤ 126) || n == 9 || n == 10 || n == 13)
def hexAt (s : List UInt8) (n : Nat) : Bool := wrN n && (pairH n).take s.length == s
def hexP (s : List UInt8) : Bool := (List.range 256).any (hexAt s)
theorem wrN_ways (n : Nat) : (wrN n = false ∧ 32 ≤ n ∧ n ≤ 126) ∨ (wrN n = false ∧ n < 32 ∧ ((n : Int) == 9) = true) ∨ (wrN n = false ∧ n < 32 ∧ ((n : Int) == 9) = false ∧ ((n : Int) == 10) = true) ∨
    (wrN n = false ∧ n < 32 ∧ ((n : Int) == 9) = false ∧ ((n : Int) == 10) = false ∧ ((n : Int) == 13) = true) ∨
    (wrN n = true ∧ n < 32 ∧ ((n : Int) == 9) = false ∧ ((n : Int) == 10) = false ∧ ((n : Int) == 13) = false) ∨ (wrN n = true ∧ 126 < n ∧ ((n : Int) == 9) = false ∧ ((n : Int) == 10) = false ∧ ((n : Int) == 13) = false) := by
  unfold wrN
  by_cases h1 : 32 ≤ n <;> by_cases h2 : n ≤ 126 <;> by_cases h3 : n = 9 <;> by_cases h4 : n = 10 <;> by_cases h5 : n = 13 <;> simp [h1, h2, h3, h4, h5] <;> omega
theorem pairH_len (n : Nat) (h : n < 256) : (pairH n).length = 2 := by
  unfold pairH
  rw [ct_len, sl_len _ _ _ (by omega) (by simp [hexS]; omega), sl_len _ _ _ (by omega) (by simp [hexS]; omega)]; omega
theorem hexP_yes (s : List UInt8) (n : Nat) (hn : n < 256) (h : hexAt s n = true) : hexP s = true := by
  unfold hexP; rw [List.any_eq_true]; exact ⟨n, by simpa using hn, h⟩
theorem hexP_no (s : List UInt8) (h : ∀ k, k < 256 → hexAt s k = false) : hexP s = false := by
  unfold hexP; rw [List.any_eq_false]; exact fun k hk => by simp [h k (by simpa using hk)]
set_option maxRecDepth 100000 in
set_option maxHeartbeats 2000000 in
theorem hexadecimal_any (s : List UInt8) (hs : s.length ≤ 2) (w : World) : Calls Tryd.prog 62 #[.string (S s)] w fun e w' => e = .returned (.bool (hexP s)) ∧ Below w.heap.size w w' := by
  obtain ⟨r, hr⟩ : ∃ r, hexP s = r := ⟨_, rfl⟩
  rw [hr]
  have HR := Lib.hid hr
  clear hr
  have s0 : (0 : Int) ≤ (s.length : Int) := by omega
  have s1 : (s.length : Int) ≤ 2 := by omega
  go_enter Tryd.func62, Tryd.ntmps62
  go_wp2_with fail
  go_loopw [6] (fun i wr => ∃ n : Nat, i = .int .i64 (n : Int) ∧ n ≤ 256 ∧ Hid ((∀ k, k < n → hexAt s k = false) ∧ Below w.heap.size w wr)) (fun i _ => 256 - (intOf i).toNat)
  case atStart => exact ⟨0, rfl, by decide, Lib.hid ⟨fun k hk => by omega, Below.refl _ _⟩⟩
  case round =>
    obtain ⟨n, rfl, hn, HW⟩ := hrel
    by_cases hlt : n < 256
    · have q0 : IntKind.u8.wrap (n : Int) = (n : Int) := IntWalk.u8_in _ (by omega)
      have hnext : hexAt s n = false → ∀ k, k < n + 1 → hexAt s k = false := fun h k hk => by
        rcases Nat.lt_succ_iff_lt_or_eq.1 hk with h' | h'
        · exact HW.out.1 k h'
        · rw [h']; exact h
      have HNX := Lib.hid hnext
      clear hnext
      rcases wrN_ways n with ⟨hw, h1, h2⟩ | ⟨hw, h1, h2⟩ | ⟨hw, h1, h2, h3⟩ | ⟨hw, h1, h2, h3, h4⟩ | ⟨hw, h1, h2, h3, h4⟩ | ⟨hw, h1, h2, h3, h4⟩
      iterate 4
        · have HAT := Lib.hid (show hexAt s n = false by unfold hexAt; rw [hw]; rfl)
          clear hw
          go_wp2_with fail
          go_roundw
          case rel => exact ⟨n + 1, rfl, hlt, Lib.hid ⟨HNX.out HAT.out, HW.out.2⟩⟩
          case measure => simp [intOf]; omega
      all_goals
        have HWR := Lib.hid hw
        have hpl := pairH_len n hlt
        have l1 : (sl [48, 49, 50, 51, 52, 53, 54, 55, 56, 57, 97, 98, 99, 100, 101, 102] (n / 16) (n / 16 + 1)).length ≤ 1 := by have := sl_le [48, 49, 50, 51, 52, 53, 54, 55, 56, 57, 97, 98, 99, 100, 101, 102] (n / 16) (n / 16 + 1); omega
        have l2 : (sl [48, 49, 50, 51, 52, 53, 54, 55, 56, 57, 97, 98, 99, 100, 101, 102] (n % 16) (n % 16 + 1)).length ≤ 1 := by have := sl_le [48, 49, 50, 51, 52, 53, 54, 55, 56, 57, 97, 98, 99, 100, 101, 102] (n % 16) (n % 16 + 1); omega
        have q1 : IntKind.u8.wrap ((n : Int) / 16 + 1) = (n : Int) / 16 + 1 := IntWalk.u8_in _ (by omega)
        have q4 : bits .and .u8 (n : Int) 15 = (n : Int) % 16 := u8_and15 _ (by omega) (by omega)
        have q5 : IntKind.u8.wrap ((n : Int) % 16 + 1) = (n : Int) % 16 + 1 := IntWalk.u8_in _ (by omega)
        have q2 : (0 : Int) ≤ (n : Int) / 16 := by omega
        have q3 : (n : Int) / 16 + 1 ≤ 16 := by omega
        have q6 : (0 : Int) ≤ (n : Int) % 16 := by omega
        have q7 : (n : Int) % 16 + 1 ≤ 16 := by omega
        clear hw
        go_wp2_with fail
        go_quiet (fail)
        clear q1 q4 q5
        have hxe : ct (sl [48, 49, 50, 51, 52, 53, 54, 55, 56, 57, 97, 98, 99, 100, 101, 102] (n / 16) (n / 16 + 1)) (sl [48, 49, 50, 51, 52, 53, 54, 55, 56, 57, 97, 98, 99, 100, 101, 102] (n % 16) (n % 16 + 1)) = pairH n := rfl
        rw [hxe]
        have HAT : Hid (hexAt s n = (sl (pairH n) 0 s.length == s)) := Lib.hid (by unfold hexAt; rw [HWR.out, Bool.true_and, sl_to])
        clear hxe l1 l2
        obtain ⟨x, hx⟩ : ∃ x, pairH n = x := ⟨_, rfl⟩
        rw [hx] at hpl HAT ⊢
        clear hx
        have x1 : (x.length : Int) = 2 := by omega
        rcases bool_two (hexAt s n) with ha | ha
        · have hb : (sl x 0 s.length == s) = false := by rw [← HAT.out]; exact ha
          have HA := Lib.hid ha
          clear ha
          go_wp2_with fail
          go_roundw
          case rel => exact ⟨n + 1, rfl, hlt, Lib.hid ⟨HNX.out HA.out, by first | exact HW.out.2 | exact below_drewN HW.out.2 _⟩⟩
          case measure => simp [intOf]; omega
        · have hb : (sl x 0 s.length == s) = true := by rw [← HAT.out]; exact ha
          have hr : r = true := by rw [← HR.out]; exact hexP_yes s n hlt ha
          subst hr
          clear ha
          go_wp2_with fail
          go_ret
          exact ⟨rfl, by first | exact HW.out.2 | exact below_drewN HW.out.2 _⟩
    · have hn' : n = 256 := by omega
      subst hn'
      have hr : r = false := by rw [← HR.out]; exact hexP_no s HW.out.1
      subst hr
      go_wp2_with fail
      go_ret
      exact ⟨rfl, HW.out.2⟩
def isB (c : UInt8) (n : Int) : Bool := (c.toNat : Int) == n
def escP (t : List UInt8) : Nat × Bool :=
  if t.length < 2 then (1, false)
  else if isB (byt t 1) 34 || isB (byt t 1) 92 || isB (byt t 1) 110 || isB (byt t 1) 116 || isB (byt t 1) 114 then (2, true)
  else if isB (byt t 1) 120 then
    if t.length < 3 then (t.length, false) else if hexP (sl t 2 3) = false then (2, false)
    else if t.length < 4 then (t.length, false) else if hexP (sl t 2 4) = false then (3, false) else (4, true)
  else (1, false)
def edv (r : Nat × Bool) : Value := .tuple #[.int .i64 (r.1 : Int), .bool r.2]
theorem ret_edv {r : Nat × Bool} {n : Nat} {b : Bool} (h : r = (n, b)) : Ending.returned (.tuple #[.int .i64 (n : Int), .bool b]) = .returned (edv r) := by rw [h]; rfl
set_option maxRecDepth 100000 in
set_option maxHeartbeats 2000000 in
theorem escapeP_any (t : List UInt8) (ht : t.length ≤ 100000) (w : World) : Calls Tryd.prog 44 #[.string (S t)] w fun e w' => e = .returned (edv (escP t)) ∧ Below w.heap.size w w' := by
  obtain ⟨r, hr⟩ : ∃ r, escP t = r := ⟨_, rfl⟩
  rw [hr]
  by_cases h2 : t.length < 2
  · have hr' : r = (1, false) := by rw [← hr]; unfold escP; rw [if_pos h2]
    subst hr'
    clear hr
    go_enter Tryd.func44, Tryd.ntmps44
    go_wp2_with fail
    go_ret2
    exact ⟨rfl, Below.refl _ _⟩
  · unfold escP at hr
    rw [if_neg h2] at hr
    obtain ⟨b, hb⟩ : ∃ b, byt t 1 = b := ⟨_, rfl⟩
    rw [hb] at hr
    unfold isB at hr
    have HRR := Lib.hid hr
    clear hr
    rcases (bool_two ((b.toNat : Int) == 34)).symm with e1 | e1
    rotate_left
    rcases (bool_two ((b.toNat : Int) == 92)).symm with e2 | e2
    rotate_left
    rcases (bool_two ((b.toNat : Int) == 110)).symm with e3 | e3
    rotate_left
    rcases (bool_two ((b.toNat : Int) == 116)).symm with e4 | e4
    rotate_left
    rcases (bool_two ((b.toNat : Int) == 114)).symm with e5 | e5
    rotate_left
    rcases (bool_two ((b.toNat : Int) == 120)).symm with e6 | e6
    rotate_left
    · have hr := HRR.out
      simp only [e1, e2, e3, e4, e5, e6, Bool.or_self, Bool.false_eq_true, if_false] at hr
      subst hr
      clear HRR
      go_enter Tryd.func44, Tryd.ntmps44
      go_wp2_with fail
      go_ret2
      exact ⟨rfl, Below.refl _ _⟩
    · have hr := HRR.out
      simp only [e1, Bool.true_or, if_true] at hr
      subst hr
      clear HRR
      go_enter Tryd.func44, Tryd.ntmps44
      go_wp2_with fail
      go_ret2
      exact ⟨rfl, Below.refl _ _⟩
    · have hr := HRR.out
      simp only [e1, e2, Bool.or_true, Bool.true_or, if_true] at hr
      subst hr
      clear HRR
      go_enter Tryd.func44, Tryd.ntmps44
      go_wp2_with fail
      go_ret2
      exact ⟨rfl, Below.refl _ _⟩
    · have hr := HRR.out
      simp only [e1, e2, e3, Bool.or_true, Bool.true_or, Bool.or_self, if_true] at hr
      subst hr
      clear HRR
      go_enter Tryd.func44, Tryd.ntmps44
      go_wp2_with fail
      go_ret2
      exact ⟨rfl, Below.refl _ _⟩
    · have hr := HRR.out
      simp only [e1, e2, e3, e4, Bool.or_true, Bool.true_or, Bool.or_self, if_true] at hr
      subst hr
      clear HRR
      go_enter Tryd.func44, Tryd.ntmps44
      go_wp2_with fail
      go_ret2
      exact ⟨rfl, Below.refl _ _⟩
    · have hr := HRR.out
      simp only [e1, e2, e3, e4, e5, Bool.or_true, Bool.or_self, if_true] at hr
      subst hr
      clear HRR
      go_enter Tryd.func44, Tryd.ntmps44
      go_wp2_with fail
      go_ret2
      exact ⟨rfl, Below.refl _ _⟩
    · have hr := HRR.out
      simp only [e1, e2, e3, e4, e5, e6, Bool.or_self, Bool.false_eq_true, if_false, if_true] at hr
      have HR := Lib.hid hr
      clear HRR hr
      go_enter Tryd.func44, Tryd.ntmps44
      go_wp2_with fail
      go_loopw [4] (fun i wr => (i = .int .i64 3 ∨ (i = .int .i64 4 ∧ Hid (3 ≤ t.length ∧ hexP (sl t 2 3) = true)) ∨ (i = .int .i64 5 ∧ Hid (4 ≤ t.length ∧ hexP (sl t 2 3) = true ∧ hexP (sl t 2 4) = true))) ∧ Hid (Below w.heap.size w wr)) (fun i _ => 6 - (intOf i).toNat)
      case atStart => exact ⟨.inl rfl, Lib.hid (Below.refl _ _)⟩
      case round =>
        obtain ⟨hi, HW⟩ := hrel
        rcases hi with rfl | ⟨rfl, HP⟩ | ⟨rfl, HP⟩
        · by_cases h3 : t.length < 3
          · have hr : r = (t.length, false) := by rw [← HR.out, if_pos h3]
            subst hr
            go_wp2_with fail
            go_ret2
            exact ⟨rfl, HW.out⟩
          · go_wp2_with fail
            refine (hexadecimal_any (sl t 2 3) (by have := sl_le t 2 3; omega) _).mono ?_
            rintro e w1 ⟨rfl, hb1⟩
            have HB1 := Lib.hid (HW.out.trans (hb1.mono HW.out.size))
            clear hb1
            rcases bool_two (hexP (sl t 2 3)) with hh | hh
            · rw [hh]
              have hr : r = (2, false) := by rw [← HR.out, if_neg h3, if_pos hh]
              subst hr
              go_wp2_with fail
              go_ret2
              exact ⟨rfl, HB1.out⟩
            · rw [hh]
              have HH := Lib.hid hh
              clear hh
              go_wp2_with fail
              go_roundw
              case rel => exact ⟨.inr (.inl ⟨rfl, Lib.hid ⟨by omega, HH.out⟩⟩), HB1⟩
              case measure => simp [intOf]
        · have hl3 := HP.out.1
          by_cases h3 : t.length < 4
          · have hr : r = (t.length, false) := by rw [← HR.out, if_neg (by omega), if_neg (by rw [HP.out.2]; decide), if_pos h3]
            subst hr
            go_wp2_with fail
            go_ret2
            exact ⟨rfl, HW.out⟩
          · go_wp2_with fail
            refine (hexadecimal_any (sl t 2 4) (by have := sl_le t 2 4; omega) _).mono ?_
            rintro e w1 ⟨rfl, hb1⟩
            have HB1 := Lib.hid (HW.out.trans (hb1.mono HW.out.size))
            clear hb1
            rcases bool_two (hexP (sl t 2 4)) with hh | hh
            · rw [hh]
              have hr : r = (3, false) := by rw [← HR.out, if_neg (by omega), if_neg (by rw [HP.out.2]; decide), if_neg h3, if_pos hh]
              subst hr
              go_wp2_with fail
              go_ret2
              exact ⟨rfl, HB1.out⟩
            · rw [hh]
              have HH := Lib.hid hh
              clear hh
              go_wp2_with fail
              go_roundw
              case rel => exact ⟨.inr (.inr ⟨rfl, Lib.hid ⟨by omega, HP.out.2, HH.out⟩⟩), HB1⟩
              case measure => simp [intOf]
        · have hr : r = (4, true) := by rw [← HR.out, if_neg (by have := HP.out.1; omega), if_neg (by rw [HP.out.2.1]; decide), if_neg (by have := HP.out.1; omega), if_neg (by rw [HP.out.2.2]; decide)]
          subst hr
          go_wp2_with fail
          go_ret2
          exact ⟨rfl, HW.out⟩
end Go.Proofs.YtpekkdgaeadepaaDoor
