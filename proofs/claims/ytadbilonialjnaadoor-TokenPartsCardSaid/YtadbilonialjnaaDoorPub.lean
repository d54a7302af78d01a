/- strconv.ParseUint of two bytes at base 16 and 8 bits, with its error; the program's unescape. -/
import Derived.Test.YtadbilonialjnaaDoorPar
import Derived.Test.YtadbilonialjnaaDoorUne
import Derived.Test.YtadbilonialjnaaDoorShelf
namespace Go.Proofs.YtadbilonialjnaaDoor
open Go.RowKit

/-- the library's variable ErrSyntax holds an error -/
def ErrOk (w : World) : Prop := ∃ te pe, w.cell? ⟨1, 0, none⟩ = some (.iface te pe)
theorem cell_lt {w : World} {b o : Nat} {v : Value} (h : w.cell? ⟨b, o, none⟩ = some v) : b < w.heap.size := by
  rcases Nat.lt_or_ge b w.heap.size with hl | hl
  · exact hl
  · exfalso; simp [World.cell?, Array.getElem?_eq_none hl] at h
theorem ErrOk.below {w w' : World} (h : ErrOk w) (hb : Below w.heap.size w w') : ErrOk w' := by
  obtain ⟨te, pe, hc⟩ := h
  exact ⟨te, pe, (hb.cell (p := ⟨1, 0, none⟩) (cell_lt hc)).trans hc⟩

set_option maxHeartbeats 1000000 in
theorem pu_ok (a b : UInt8) (ha : 0 ≤ hexI a) (hb : 0 ≤ hexI b) (w : World) :
    Calls Tryd.prog 50 #[.string (S [a, b]), .int .i64 16, .int .i64 8] w fun e w' => e = .returned (.tuple #[.int .u64 (16 * hexI a + hexI b), .nilIface]) ∧ Below w.heap.size w w' := by
  have h := ParseUint16_in a b w
  have hp : pu16 a b = .tuple #[.int .u64 (16 * hexI a + hexI b), .nilIface] := by unfold pu16; rw [if_pos ⟨ha, hb⟩]
  rw [hp] at h
  clear hp
  generalize 16 * hexI a + hexI b = n at h ⊢
  have H := Lib.hid h; clear h ha hb
  go_enter Tryd.func50, Tryd.ntmps50
  go_wp2_with fail
  refine H.out.mono ?_
  rintro e w1 ⟨rfl, hb1⟩
  clear H
  go_wp2
  go_ret2
  exact ⟨rfl, hb1⟩

set_option maxHeartbeats 1000000 in
theorem pu_err (a b : UInt8) (h : ¬ (0 ≤ hexI a ∧ 0 ≤ hexI b)) (w : World) (hE : ErrOk w) :
    Calls Tryd.prog 50 #[.string (S [a, b]), .int .i64 16, .int .i64 8] w fun e w' => (∃ N : Nat, e = .returned (.tuple #[.int .u64 0, .iface 92 (.pointer (some ⟨N, 0, none⟩))])) ∧ Below w.heap.size w w' := by
  have hp : pu16 a b = .tuple #[.int .u64 0, .iface 91 (.int .i64 2)] := by unfold pu16; rw [if_neg h]
  have h' := ParseUint16_in a b w
  rw [hp] at h'
  have H := Lib.hid h'; clear h' hp h
  go_enter Tryd.func50, Tryd.ntmps50
  go_wp2_with fail
  refine H.out.mono ?_
  rintro e w1 ⟨rfl, hb1⟩
  clear H
  obtain ⟨te, pe, hE1⟩ := hE.below hb1
  go_wp2_with fail
  refine (Tryd.strconv_toError_syntax _ (S [a, b]) _ _ _ _ (by show 2 ≤ _; omega) hE1 (.inr ⟨te, pe, rfl⟩)).mono ?_
  rintro e w2 ⟨N, rfl, _, _, hb2⟩
  go_wp2
  go_ret2
  exact ⟨⟨N, rfl⟩, hb1.trans (hb2.mono hb1.size)⟩

theorem sl24 (m : List UInt8) (h : 3 < m.length) : sl m 2 4 = [byt m 2, byt m 3] := by
  unfold sl
  rw [drop_byt m 2 (by omega), drop_byt m 3 h]; rfl

set_option maxHeartbeats 1000000 in
theorem unescape_any (m : List UInt8) (hl : m.length ≤ 1000000) (w : World) (hE : ErrOk w) :
    Calls Tryd.prog 40 #[.string (S m)] w fun e w' => e = .returned (uneVal (unesc m)) ∧ Below w.heap.size w w' := by
  by_cases h1 : m.length < 2
  · have hf := Lib.hid (unesc_end m 0 (by omega))
    rw [List.drop_zero] at hf
    generalize unesc m = r at hf ⊢
    clear hE
    go_enter Tryd.func40, Tryd.ntmps40
    go_wp2
    go_ret2
    exact ⟨ret_une hf.out, Below.refl _ _⟩
  have h1' : 1 < m.length := by omega
  have hf := unesc_at m 0 h1'
  rw [List.drop_zero, Nat.zero_add, Nat.zero_add, Nat.zero_add] at hf
  generalize unesc m = r at hf ⊢
  have HE := Lib.hid hE
  clear h1 hE
  by_cases d34 : byt m 1 = 34
  · rw [if_pos (.inl d34), d34] at hf
    have HF := Lib.hid hf; clear hf
    go_enter Tryd.func40, Tryd.ntmps40
    go_wp2
    go_ret2
    exact ⟨ret_une HF.out, Below.refl _ _⟩
  by_cases d92 : byt m 1 = 92
  · rw [if_pos (.inr d92), d92] at hf
    have HF := Lib.hid hf; clear hf
    go_enter Tryd.func40, Tryd.ntmps40
    go_wp2
    go_ret2
    exact ⟨ret_une HF.out, Below.refl _ _⟩
  rw [if_neg (by simp [d34, d92])] at hf
  have e34 : (((byt m 1).toNat : Int) == 34) = false := u8_ne d34
  have e92 : (((byt m 1).toNat : Int) == 92) = false := u8_ne d92
  clear d34 d92
  by_cases d110 : byt m 1 = 110
  · rw [if_pos d110] at hf
    have HF := Lib.hid hf; clear hf
    go_enter Tryd.func40, Tryd.ntmps40
    go_wp2
    go_ret2
    exact ⟨ret_une HF.out, Below.refl _ _⟩
  rw [if_neg d110] at hf
  have e110 : (((byt m 1).toNat : Int) == 110) = false := u8_ne d110
  clear d110
  by_cases d116 : byt m 1 = 116
  · rw [if_pos d116] at hf
    have HF := Lib.hid hf; clear hf
    go_enter Tryd.func40, Tryd.ntmps40
    go_wp2
    go_ret2
    exact ⟨ret_une HF.out, Below.refl _ _⟩
  rw [if_neg d116] at hf
  have e116 : (((byt m 1).toNat : Int) == 116) = false := u8_ne d116
  clear d116
  by_cases d114 : byt m 1 = 114
  · rw [if_pos d114] at hf
    have HF := Lib.hid hf; clear hf
    go_enter Tryd.func40, Tryd.ntmps40
    go_wp2
    go_ret2
    exact ⟨ret_une HF.out, Below.refl _ _⟩
  rw [if_neg d114] at hf
  have e114 : (((byt m 1).toNat : Int) == 114) = false := u8_ne d114
  clear d114
  by_cases d120 : byt m 1 = 120
  · rw [if_pos d120] at hf
    by_cases h3 : 3 < m.length
    · rw [if_pos h3] at hf
      have hsl := sl24 m h3
      have a1 := hexI_lt (byt m 2)
      have a2 := hexI_lt (byt m 3)
      by_cases n1 : 0 ≤ hexI (byt m 2) ∧ 0 ≤ hexI (byt m 3)
      · obtain ⟨x, hx, hxv⟩ := hexTwo_some n1.1 n1.2
        rw [hx] at hf
        have HF := Lib.hid hf; clear hf
        have HX := Lib.hid hxv; clear hxv hx
        have H := Lib.hid fun w => pu_ok (byt m 2) (byt m 3) n1.1 n1.2 w
        have b2 : 16 * hexI (byt m 2) + hexI (byt m 3) ≤ 255 := by omega
        have b3 : 0 ≤ 16 * hexI (byt m 2) + hexI (byt m 3) := by omega
        generalize 16 * hexI (byt m 2) + hexI (byt m 3) = v at H b2 b3 HX
        clear n1 a1 a2
        go_enter Tryd.func40, Tryd.ntmps40
        go_wp2_with fail
        refine (H.out _).mono ?_
        rintro e w1 ⟨rfl, hb1⟩
        clear H hsl
        go_wp2
        go_ret2
        exact ⟨by rw [HF.out, ← HX.out]; rfl, hb1⟩
      · have hn : hexTwo (byt m 2) (byt m 3) = none := hexTwo_none (by omega)
        rw [hn] at hf
        have HF := Lib.hid hf; clear hf hn
        have H := Lib.hid (pu_err (byt m 2) (byt m 3) n1 w HE.out)
        clear n1 a1 a2
        go_enter Tryd.func40, Tryd.ntmps40
        go_wp2_with fail
        refine H.out.mono ?_
        rintro e w1 ⟨⟨N, rfl⟩, hb1⟩
        clear H hsl
        go_wp2
        go_ret2
        exact ⟨ret_une HF.out, hb1⟩
    · rw [if_neg h3] at hf
      have HF := Lib.hid hf; clear hf
      go_enter Tryd.func40, Tryd.ntmps40
      go_wp2
      go_ret2
      exact ⟨ret_une HF.out, Below.refl _ _⟩
  · rw [if_neg d120] at hf
    have e120 : (((byt m 1).toNat : Int) == 120) = false := u8_ne d120
    clear d120
    have HF := Lib.hid hf; clear hf
    go_enter Tryd.func40, Tryd.ntmps40
    go_wp2
    go_ret2
    exact ⟨ret_une HF.out, Below.refl _ _⟩
end Go.Proofs.YtadbilonialjnaaDoor
