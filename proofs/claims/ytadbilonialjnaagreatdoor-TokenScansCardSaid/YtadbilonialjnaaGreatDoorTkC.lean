/- The interpolation's code and escape. -/
import Derived.Test.YtadbilonialjnaaGreatDoorTkB
import Derived.Test.YtadbilonialjnaaGreatDoorUnq
namespace Go.Proofs.YtadbilonialjnaaGreatDoor
open Go.RowKit

/-- the code behind a parenthesis that closes at j, and whether it closes -/
def codeVal (l : List UInt8) (o : Option Nat) : Value :=
  match o with
  | some j => .tuple #[.string (S (sl l 1 j)), .bool true]
  | none => .tuple #[.string (S []), .bool false]
theorem codeA_end {l : List UInt8} {i o : Nat} (h : l.length ≤ i) : codeA (l.drop i) i o = none := by
  rw [List.drop_of_length_le h]; rfl
theorem codeA_open {l : List UInt8} {i o : Nat} (h : i < l.length) (hb : byt l i = 40) : codeA (l.drop i) i o = codeA (l.drop (i + 1)) (i + 1) (o + 1) := by
  rw [drop_byt l i h, hb]; simp [codeA]
theorem codeA_shut {l : List UInt8} {i : Nat} (h : i < l.length) (hb : byt l i = 41) : codeA (l.drop i) i 1 = some i := by
  rw [drop_byt l i h, hb]; simp [codeA]
theorem codeA_less {l : List UInt8} {i o : Nat} (h : i < l.length) (hb : byt l i = 41) (ho : ¬ o = 1) : codeA (l.drop i) i o = codeA (l.drop (i + 1)) (i + 1) (o - 1) := by
  rw [drop_byt l i h, hb]; simp [codeA, ho]
theorem codeA_other {l : List UInt8} {i o : Nat} (h : i < l.length) (hb : ¬ byt l i = 40) (hb2 : ¬ byt l i = 41) : codeA (l.drop i) i o = codeA (l.drop (i + 1)) (i + 1) o := by
  rw [drop_byt l i h]; simp [codeA, hb, hb2]
theorem ret_code {l : List UInt8} {o : Option Nat} {j : Nat} (h : o = some j) : Ending.returned (.tuple #[.string (S (sl l 1 j)), .bool true]) = .returned (codeVal l o) := by rw [h]; rfl
theorem ret_code0 {l : List UInt8} {o : Option Nat} (h : o = none) : Ending.returned (.tuple #[.string ⟨#[]⟩, .bool false]) = .returned (codeVal l o) := by rw [h]; rfl

set_option maxRecDepth 100000 in
set_option maxHeartbeats 1000000 in
theorem tcode_any (l : List UInt8) (hl : l.length ≤ 1000000) (h0 : byt l 0 = 40) (w : World) : Calls Tryz.prog 15 #[.string (S l)] w fun e w' => e = .returned (codeVal l (codeA l 0 0)) ∧ w = w' := by
  have HQ := Lib.hid (show codeA l 0 0 = codeA (l.drop 0) 0 0 from rfl)
  have H0 := Lib.hid h0
  clear h0
  go_enter Tryz.func15, Tryz.ntmps15
  go_wp2_with fail
  go_loop [4, 8] (fun a v => ∃ k o : Nat, k ≤ l.length ∧ o ≤ k ∧ a = .int .i64 (o : Int) ∧ v = .int .i64 (k : Int) ∧ Hid (codeA l 0 0 = codeA (l.drop k) k o ∧ (0 < k → 0 < o))) (fun _ v => l.length - (intOf v).toNat)
  case atStart => exact ⟨0, 0, by omega, by omega, rfl, rfl, Lib.hid ⟨rfl, fun h => h⟩⟩
  case round =>
    obtain ⟨k, o, hk, ho, rfl, rfl, HR⟩ := hrel
    by_cases hlt : k < l.length
    · by_cases h40 : byt l k = 40
      · have T : (((byt l k).toNat : Int) == 40) = true := byte_test (d := 40) h40
        have HN := Lib.hid (HR.out.1.trans (codeA_open hlt h40))
        clear h40
        go_wp2_with fail
        go_round
        case rel => exact ⟨k + 1, o + 1, by omega, by omega, by go_num, by go_num, Lib.hid ⟨HN.out, fun _ => by omega⟩⟩
        case measure => simp [intOf]; omega
      · have T : (((byt l k).toNat : Int) == 40) = false := u8_ne h40
        have hkp : 0 < k := by
          rcases Nat.eq_zero_or_pos k with h | h
          · subst h; exact absurd H0.out h40
          · exact h
        have hop := HR.out.2 hkp
        by_cases h41 : byt l k = 41
        · have T2 : (((byt l k).toNat : Int) == 41) = true := byte_test (d := 41) h41
          by_cases h1 : o = 1
          · subst h1
            have HN := Lib.hid (HR.out.1.trans (codeA_shut hlt h41))
            clear h40 h41 hop
            go_wp2_with fail
            go_ret2
            exact ⟨ret_code HN.out, rfl⟩
          · have HN := Lib.hid (HR.out.1.trans (codeA_less hlt h41 h1))
            have hz : ((o : Int) - 1 == 0) = false := beq_eq_false_iff_ne.2 (by omega)
            clear h40 h41
            go_wp2_with fail
            go_round
            case rel => exact ⟨k + 1, o - 1, by omega, by omega, iv_eq (by omega), by go_num, Lib.hid ⟨HN.out, fun _ => by omega⟩⟩
            case measure => simp [intOf]; omega
        · have T2 : (((byt l k).toNat : Int) == 41) = false := u8_ne h41
          have HN := Lib.hid (HR.out.1.trans (codeA_other hlt h40 h41))
          clear h40 h41
          go_wp2_with fail
          go_round
          case rel => exact ⟨k + 1, o, by omega, by omega, rfl, by go_num, Lib.hid ⟨HN.out, fun _ => hop⟩⟩
          case measure => simp [intOf]; omega
    · have HN := Lib.hid (HR.out.1.trans (codeA_end (by omega)))
      go_wp2_with fail
      go_ret2
      exact ⟨ret_code0 HN.out, rfl⟩

/-- a byte and a number -/
def bnVal (r : UInt8 × Nat) : Value := .tuple #[.int .u8 (r.1.toNat : Int), .int .i64 (r.2 : Int)]
/-- what Unquote says of an escape in quotes -/
theorem unq_two {l : List UInt8} (h : 2 ≤ l.length) (h0 : byt l 0 = 92) (h1 : ¬ byt l 1 = 120) :
    ((unesc l).2 = 2 ∧ unqL (34 :: (l.take 2 ++ [34])) = ([(unesc l).1], 0, 0)) ∨ (unesc l = (0, 0) ∧ (unqL (34 :: (l.take 2 ++ [34]))).2.1 = 8) := by
  match l, h with
  | a :: b :: t, _ =>
    have ha : a = 92 := h0
    have hb : ¬ b = 120 := h1
    subst ha
    simp only [List.take, List.cons_append, List.nil_append]
    by_cases h34 : b = 34 ∨ b = 92
    · left; rcases h34 with rfl | rfl <;> simp [unesc, unqL, scan]
    · by_cases h110 : b = 110
      · left; subst h110; simp [unesc, unqL, scan]
      · by_cases h116 : b = 116
        · left; subst h116; simp [unesc, unqL, scan]
        · by_cases h114 : b = 114
          · left; subst h114; simp [unesc, unqL, scan]
          · right; simp [unesc, unqL, scan, h34, h110, h116, h114, hb]
theorem unq_four {l : List UInt8} (h : 4 ≤ l.length) (h0 : byt l 0 = 92) (h1 : byt l 1 = 120) :
    ((unesc l).2 = 4 ∧ unqL (34 :: (l.take 4 ++ [34])) = ([(unesc l).1], 0, 0)) ∨ (unesc l = (0, 0) ∧ (unqL (34 :: (l.take 4 ++ [34]))).2.1 = 8) := by
  match l, h with
  | a :: b :: c :: d :: t, _ =>
    have ha : a = 92 := h0
    have hb : b = 120 := h1
    subst ha; subst hb
    simp only [List.take, List.cons_append, List.nil_append]
    cases hx : hexTwo c d with
    | some x => left; simp [unesc, unqL, scan, hx]
    | none => right; simp [unesc, unqL, scan, hx]
theorem unesc_short {l : List UInt8} (h : l.length < 2) : unesc l = (0, 0) := by
  match l, h with
  | [], _ => rfl
  | [_], _ => rfl
theorem unesc_short4 {l : List UInt8} (h : l.length < 4) (h1 : byt l 1 = 120) : unesc l = (0, 0) := by
  match l, h with
  | [], _ => rfl
  | [_], _ => rfl
  | [_, b], _ => have : b = 120 := h1; subst this; rfl
  | [_, b, _], _ => have : b = 120 := h1; subst this; rfl
theorem pre_hex {l : List UInt8} (h : 2 ≤ l.length) (h0 : byt l 0 = 92) (h1 : byt l 1 = 120) : Lib.hasPrefix l [92, 120] = true := by
  match l, h with
  | a :: b :: t, _ =>
    have ha : a = 92 := h0
    have hb : b = 120 := h1
    subst ha; subst hb; simp [Lib.hasPrefix]
theorem pre_nohex {l : List UInt8} (h1 : ¬ byt l 1 = 120) : Lib.hasPrefix l [92, 120] = false := by
  match l with
  | [] => rfl
  | [_] => simp [Lib.hasPrefix, List.isPrefixOf]
  | a :: b :: t =>
    have hb : ¬ b = 120 := h1
    simp [Lib.hasPrefix, List.isPrefixOf]; intro _ e; exact absurd e.symm hb
theorem ret_bn {r : UInt8 × Nat} {b n : Int} (h1 : b = (r.1.toNat : Int)) (h2 : n = (r.2 : Int)) : Ending.returned (.tuple #[.int .u8 b, .int .i64 n]) = .returned (bnVal r) := by rw [h1, h2]; rfl

set_option maxRecDepth 100000 in
set_option maxHeartbeats 1000000 in
theorem tescape_any (l : List UInt8) (hl : l.length ≤ 1000000) (h0 : byt l 0 = 92) (w : World) (hE : ErrOk w) : Calls Tryz.prog 16 #[.string (S l)] w fun e w' => e = .returned (bnVal (unesc l)) ∧ Below w.heap.size w w' := by
  have HE := Lib.hid hE
  clear hE
  by_cases h120 : byt l 1 = 120
  · have hlen2 : 2 ≤ l.length := by
      rcases Nat.lt_or_ge 1 l.length with h | h
      · exact h
      · exfalso
        have : byt l 1 = 0 := by simp [byt, List.getD, List.getElem?_eq_none h]
        rw [this] at h120; exact absurd h120 (by decide)
    have HP := Lib.hid (pre_hex hlen2 h0 h120)
    by_cases h4 : l.length < 4
    · have HN := Lib.hid (unesc_short4 h4 h120)
      clear h0 h120
      go_enter Tryz.func16, Tryz.ntmps16
      go_wp2_with (go_at_call 14; refine (Tryz.strings_HasPrefix _ _ _).mono ?_; rintro e w' ⟨rfl, rfl⟩; rw [S_data, show Lib.hasPrefix l _ = true from HP.out])
      go_ret2
      exact ⟨ret_bn (by rw [HN.out]; rfl) (by rw [HN.out]; rfl), Below.refl _ _⟩
    · have hlen4 : 4 ≤ l.length := by omega
      have HU := Lib.hid (unq_four hlen4 h0 h120)
      have HV := Lib.hid (show ct (ct [34] (sl l 0 4)) [34] = 34 :: (l.take 4 ++ [34]) by rw [sl_to]; simp [ct])
      have hs4 : (sl l 0 4).length = 4 := by rw [sl_len l 0 4 (by omega) hlen4]
      have hsl : (ct (ct [34] (sl l 0 4)) [34]).length ≤ 1000000 := by have := sl_le l 0 4; simp [ct]; omega
      clear h0 h120 h4
      go_enter Tryz.func16, Tryz.ntmps16
      go_wp2_with (go_at_call 14; refine (Tryz.strings_HasPrefix _ _ _).mono ?_; rintro e w' ⟨rfl, rfl⟩; rw [S_data, show Lib.hasPrefix l _ = true from HP.out])
      refine (Unquote_any (ct (ct [34] (sl l 0 4)) [34]) hsl _ HE.out).mono ?_
      rintro e w1 ⟨rfl, hb⟩
      rw [HV.out]
      rcases HU.out with ⟨hu, hq⟩ | ⟨hu, hq⟩
      · rw [hq]
        have HN := Lib.hid hu
        have HB := Lib.hid hb
        clear hu hq hb
        unfold uqVal
        go_wp2_with fail
        go_ret2
        exact ⟨ret_bn rfl (by rw [HN.out]; rfl), by have h1 := HB.out; have h2 := h1.size; go_grown⟩
      · have HN := Lib.hid hu
        have HB := Lib.hid hb
        obtain ⟨⟨x, e1, p⟩, hx⟩ : ∃ x, unqL (34 :: (l.take 4 ++ [34])) = x := ⟨_, rfl⟩
        rw [hx] at hq ⊢
        simp only at hq
        subst hq
        clear hu hb hx
        unfold uqVal
        go_wp2_with fail
        go_ret2
        exact ⟨ret_bn (by rw [HN.out]; rfl) (by rw [HN.out]; rfl), by have h1 := HB.out; have h2 := h1.size; go_grown⟩
  · have HP := Lib.hid (pre_nohex h120)
    by_cases h2 : l.length < 2
    · have HN := Lib.hid (unesc_short h2)
      clear h0 h120
      go_enter Tryz.func16, Tryz.ntmps16
      go_wp2_with (go_at_call 14; refine (Tryz.strings_HasPrefix _ _ _).mono ?_; rintro e w' ⟨rfl, rfl⟩; rw [S_data, show Lib.hasPrefix l _ = false from HP.out])
      go_ret2
      exact ⟨ret_bn (by rw [HN.out]; rfl) (by rw [HN.out]; rfl), Below.refl _ _⟩
    · have hlen2 : 2 ≤ l.length := by omega
      have HU := Lib.hid (unq_two hlen2 h0 h120)
      have HV := Lib.hid (show ct (ct [34] (sl l 0 2)) [34] = 34 :: (l.take 2 ++ [34]) by rw [sl_to]; simp [ct])
      have hs4 : (sl l 0 2).length = 2 := by rw [sl_len l 0 2 (by omega) hlen2]
      have hsl : (ct (ct [34] (sl l 0 2)) [34]).length ≤ 1000000 := by have := sl_le l 0 2; simp [ct]; omega
      clear h0 h120 h2
      go_enter Tryz.func16, Tryz.ntmps16
      go_wp2_with (go_at_call 14; refine (Tryz.strings_HasPrefix _ _ _).mono ?_; rintro e w' ⟨rfl, rfl⟩; rw [S_data, show Lib.hasPrefix l _ = false from HP.out])
      refine (Unquote_any (ct (ct [34] (sl l 0 2)) [34]) hsl _ HE.out).mono ?_
      rintro e w1 ⟨rfl, hb⟩
      rw [HV.out]
      rcases HU.out with ⟨hu, hq⟩ | ⟨hu, hq⟩
      · rw [hq]
        have HN := Lib.hid hu
        have HB := Lib.hid hb
        clear hu hq hb
        unfold uqVal
        go_wp2_with fail
        go_ret2
        exact ⟨ret_bn rfl (by rw [HN.out]; rfl), by have h1 := HB.out; have h2 := h1.size; go_grown⟩
      · have HN := Lib.hid hu
        have HB := Lib.hid hb
        obtain ⟨⟨x, e1, p⟩, hx⟩ : ∃ x, unqL (34 :: (l.take 2 ++ [34])) = x := ⟨_, rfl⟩
        rw [hx] at hq ⊢
        simp only at hq
        subst hq
        clear hu hb hx
        unfold uqVal
        go_wp2_with fail
        go_ret2
        exact ⟨ret_bn (by rw [HN.out]; rfl) (by rw [HN.out]; rfl), by have h1 := HB.out; have h2 := h1.size; go_grown⟩
end Go.Proofs.YtadbilonialjnaaGreatDoor
