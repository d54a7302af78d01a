/- Walks of the steps: Text. -/
import Derived.Test.YtpekkdgaeadepaaDoorStA
import Derived.Test.YtpekkdgaeadepaaDoorNumOk
import Derived.Test.YtpekkdgaeadepaaDoorDigits
namespace Go.Proofs.YtpekkdgaeadepaaDoor
open Go.RowKit

theorem itoa_nat (n : Nat) : Lib.itoa (n : Int) = Lib.decDigits n := Lib.itoa_nonneg n
theorem Itoa_any (n : Nat) (hn : n ≤ 1000000) (w : World) (hE : NumOk w) : Calls Tryd.prog 26 #[.int .i64 (n : Int)] w fun e w' => e = .returned (.string (S (Lib.decDigits n))) ∧ Below w.heap.size w w' := by
  refine (Tryd.strconv_Itoa (n : Int) (by omega) (by omega) w hE.tab).mono ?_
  rintro e w' ⟨rfl, k, os, rfl⟩
  exact ⟨by rw [itoa_nat]; rfl, Lib.below_grow _ w (Nat.le_refl _) k os⟩
theorem body_snoc (L : List Stp) (j : Nat) (h : j < L.length) : bodyS (L.take (j + 1)) = bodyS (L.take j) ++ bitS L[j] (j == 0) := by
  cases L with
  | nil => simp at h
  | cons x r =>
    cases j with
    | zero => simp [bodyS, restS]
    | succ j =>
      simp only [List.length_cons, Nat.add_lt_add_iff_right] at h
      rw [List.take_succ_cons, List.take_succ_cons]
      show bitS x true ++ restS (r.take (j + 1)) = bitS x true ++ restS (r.take j) ++ bitS r[j] (j + 1 == 0)
      unfold restS
      rw [List.take_add_one, List.flatMap_append, List.getElem?_eq_getElem h]
      simp
/-- bounds of a list of steps -/
def LimS (L : List Stp) : Prop := L.length ≤ 1000 ∧ ∀ x ∈ L, x.lab.length ≤ 1000
theorem bit_len (x : Stp) (b : Bool) (h : x.lab.length ≤ 1000) (hi : x.idx ≤ 1000000) : (bitS x b).length ≤ 4100 := by
  unfold bitS
  have hq := quote_len x.lab
  have hd := (dec_len x.idx.toNat 7 (by omega) (by omega)).2
  have hl : (labelL x.lab).length ≤ 4002 := by unfold labelL; split <;> omega
  repeat' split
  all_goals simp
  all_goals omega
theorem body_len (L : List Stp) (hL : LimS L) (hk : okL L = true) : ∀ j, j ≤ L.length → (bodyS (L.take j)).length ≤ 4100 * j := by
  intro j
  induction j with
  | zero => intro _; simp [bodyS]
  | succ j ih =>
    intro hj
    rw [body_snoc L j hj, List.length_append]
    have h1 := ih (by omega)
    have hm : L[j] ∈ L := List.getElem_mem _
    have hok : okS L[j] = true := List.all_eq_true.1 hk _ hm
    have h2 := bit_len L[j] (j == 0) (hL.2 _ hm) (by
      unfold okS at hok
      split at hok
      · simp at hok; omega
      · simp at hok; omega)
    omega
theorem textS_bad (L : List Stp) (h : okL L = false) : textS L = [63] := by unfold textS; rw [h]; rfl
theorem textS_nil : textS [] = [46] := rfl
theorem textS_body (L : List Stp) (h : okL L = true) (h0 : L ≠ []) : textS L = bodyS L := by unfold textS; rw [h, if_neg (by decide), if_neg h0]
theorem okS_of (L : List Stp) (h : okL L = true) (j : Nat) (hj : j < L.length) : okS L[j] = true := List.all_eq_true.1 h _ (List.getElem_mem hj)
theorem okS_idx {i : Int} (h : okS ⟨[], i⟩ = true) : ∃ n : Nat, i = n ∧ n ≤ 1000000 := by
  simp [okS] at h; exact ⟨i.toNat, by omega, by omega⟩
theorem bit_idx (n : Nat) (b : Bool) : bitS ⟨[], (n : Int)⟩ b = 91 :: (Lib.decDigits n ++ [93]) := by simp [bitS]
theorem bit_lab (l : List UInt8) (i : Int) (b : Bool) (h : l ≠ []) : bitS ⟨l, i⟩ b = if b then labelL l else 46 :: labelL l := by simp [bitS, h]
set_option maxHeartbeats 2000000 in
theorem Text_any (v : Value) (L : List Stp) (w : World) (hv : SlS w v L) (hL : LimS L) (hE : NumOk w) : Calls Tryd.prog 15 #[v] w fun e w' => e = .returned (.string (S (textS L))) ∧ Below w.heap.size w w' := by
  rcases bool_two (okL L) with hk | hk
  · have HK := Lib.hid hk
    have HT := Lib.hid (textS_bad L hk)
    have HV := Lib.hid (Valid_any v L w hv (by have := hL.1; omega))
    clear hk hE hL hv
    go_enter Tryd.func15, Tryd.ntmps15
    go_wp2_with fail
    refine HV.out.mono ?_
    rintro e w1 ⟨rfl, hb1⟩
    rw [HK.out]
    go_wp2_with fail
    go_ret
    exact ⟨ret_S HT.out.symm, hb1⟩
  · have HK := Lib.hid hk
    have HV := Lib.hid (Valid_any v L w hv (by have := hL.1; omega))
    rcases hv with ⟨⟨p0, cap0, rfl⟩, rfl⟩ | ⟨B, o, cap, rfl, hc, hB, hx⟩
    · clear hk hE hL
      go_enter Tryd.func15, Tryd.ntmps15
      go_wp2_with fail
      refine HV.out.mono ?_
      rintro e w1 ⟨rfl, hb1⟩
      rw [HK.out]
      go_wp2_with fail
      go_ret
      exact ⟨rfl, hb1⟩
    · by_cases h0 : L.length = 0
      · have hn : L = [] := List.eq_nil_of_length_eq_zero h0
        subst hn
        clear hk hE hL h0 hx
        go_enter Tryd.func15, Tryd.ntmps15
        go_wp2_with fail
        refine HV.out.mono ?_
        rintro e w1 ⟨rfl, hb1⟩
        rw [HK.out]
        go_wp2_with fail
        go_ret
        exact ⟨rfl, hb1⟩
      · have HT := Lib.hid (textS_body L hk (fun h => h0 (by rw [h]; rfl)))
        have HBL := Lib.hid (body_len L hL hk)
        have HE := Lib.hid hE
        have HX := Lib.hid hx
        have HL := Lib.hid hL
        have hl1 : L.length ≤ 1000 := hL.1
        have h0' : ((L.length : Int) == 0) = false := by rw [beq_eq_false_iff_ne]; omega
        clear hk hE hx hL
        go_enter Tryd.func15, Tryd.ntmps15
        go_wp2_with fail
        refine HV.out.mono ?_
        rintro e w1 ⟨rfl, hb1⟩
        rw [HK.out]
        have HB1 := Lib.hid hb1
        clear hb1
        go_wp2_with fail
        go_loopw [3, 14] (fun v i wr => ∃ j : Nat, i = .int .i64 (j : Int) ∧ j ≤ L.length ∧ v = .string (S (bodyS (L.take j))) ∧ Hid (Below w.heap.size w wr)) (fun _ i _ => L.length - (intOf i).toNat)
        case atStart => exact ⟨0, rfl, Nat.zero_le _, rfl, HB1⟩
        case round =>
          obtain ⟨j, rfl, hj, rfl, HW⟩ := hrel
          by_cases hlt : j < L.length
          · have hx0 := sl_cells hB HX.out HW.out j hlt
            have hok := okS_of L HK.out j hlt
            have hlj := HL.out.2 _ (List.getElem_mem hlt)
            have hacc := HBL.out j hj
            have HN := Lib.hid (body_snoc L j hlt)
            obtain ⟨⟨lj, ij⟩, hxj⟩ : ∃ x, L[j] = x := ⟨_, rfl⟩
            rw [hxj] at hx0 hok hlj HN
            obtain ⟨c0, c1⟩ := hx0
            clear hxj
            simp only at c0 c1 hlj
            obtain ⟨acc, ha⟩ : ∃ a, bodyS (L.take j) = a := ⟨_, rfl⟩
            rw [ha] at hacc HN ⊢
            clear ha
            by_cases hl0 : lj = []
            · subst hl0
              obtain ⟨n, rfl, hn⟩ := okS_idx hok
              rw [bit_idx] at HN
              have hd := (dec_len n 7 (by omega) (by omega)).2
              obtain ⟨dg, hdg⟩ : ∃ d, Lib.decDigits n = d := ⟨_, rfl⟩
              have HD := Lib.hid hdg
              rw [hdg] at HN hd
              clear hdg hok hlj
              go_wp2_with fail
              refine (Itoa_any n hn _ (HE.out.below (HW.out.alloc HW.out.size _))).mono ?_
              rintro e w2 ⟨rfl, hb2⟩
              have HB2 := Lib.hid ((HW.out.alloc HW.out.size _).trans (hb2.mono (by simp; exact Nat.le_succ_of_le HW.out.size)))
              clear hb2
              rw [HD.out]
              go_wp2_with fail
              go_roundw
              case rel => exact ⟨j + 1, rfl, hlt, by rw [HN.out]; simp [ct], HB2⟩
              case measure => simp [intOf]; omega
            · have he : lj.isEmpty = false := by cases lj with
                | nil => exact absurd rfl hl0
                | cons => rfl
              rw [bit_lab lj ij _ hl0] at HN
              have hq := quote_len lj
              have hll : (labelL lj).length ≤ 4002 := by unfold labelL; split <;> omega
              obtain ⟨ll, hll0⟩ : ∃ d, labelL lj = d := ⟨_, rfl⟩
              have HLL := Lib.hid hll0
              rw [hll0] at HN hll
              clear hll0 hok hl0 hq
              rcases Nat.eq_zero_or_pos j with hj0 | hj0
              · subst hj0
                simp only [Nat.zero_mul, Nat.add_zero] at c0 c1
                go_wp2_with fail
                refine (Label_any lj (by omega) _).mono ?_
                rintro e w2 ⟨rfl, hb2⟩
                have HB2 := Lib.hid ((HW.out.alloc HW.out.size _).trans (hb2.mono (by simp; exact Nat.le_succ_of_le HW.out.size)))
                clear hb2
                rw [HLL.out]
                go_wp2_with fail
                go_roundw
                case rel => exact ⟨1, rfl, hlt, by have h := HN.out; simp only [Nat.zero_add] at h; rw [h]; simp [ct], HB2⟩
                case measure => simp [intOf]; omega
              · have hj1 : ((j : Int) == 0) = false := by rw [beq_eq_false_iff_ne]; omega
                have hj2 : (j == 0) = false := by rw [beq_eq_false_iff_ne]; omega
                rw [hj2] at HN
                go_wp2_with fail
                refine (Label_any lj (by omega) _).mono ?_
                rintro e w2 ⟨rfl, hb2⟩
                have HB2 := Lib.hid ((HW.out.alloc HW.out.size _).trans (hb2.mono (by simp; exact Nat.le_succ_of_le HW.out.size)))
                clear hb2
                rw [HLL.out]
                go_wp2_with fail
                go_roundw
                case rel => exact ⟨j + 1, rfl, hlt, by rw [HN.out]; simp [ct], HB2⟩
                case measure => simp [intOf]; omega
          · go_wp2_with fail
            go_ret
            exact ⟨ret_S (by rw [HT.out, List.take_of_length_le (by omega)]), HW.out⟩
set_option maxHeartbeats 2000000 in
theorem refText_any (v : Value) (L : List Stp) (w : World) (hv : SlS w v L) (hL : LimS L) : Calls Tryd.prog 16 #[v] w fun e w' => e = .returned (.string (S (textS L))) ∧ Below w.heap.size w w' := by
  rcases bool_two (okL L) with hk | hk
  · have HK := Lib.hid hk
    have HT := Lib.hid (textS_bad L hk)
    have HV := Lib.hid (refValid_any v L w hv (by have := hL.1; omega))
    clear hk hL hv
    go_enter Tryd.func16, Tryd.ntmps16
    go_wp2_with fail
    refine HV.out.mono ?_
    rintro e w1 ⟨rfl, hb1⟩
    rw [HK.out]
    go_wp2_with fail
    go_ret
    exact ⟨ret_S HT.out.symm, hb1⟩
  · have HK := Lib.hid hk
    have HV := Lib.hid (refValid_any v L w hv (by have := hL.1; omega))
    rcases hv with ⟨⟨p0, cap0, rfl⟩, rfl⟩ | ⟨B, o, cap, rfl, hc, hB, hx⟩
    · clear hk hL
      go_enter Tryd.func16, Tryd.ntmps16
      go_wp2_with fail
      refine HV.out.mono ?_
      rintro e w1 ⟨rfl, hb1⟩
      rw [HK.out]
      go_wp2_with fail
      go_ret
      exact ⟨rfl, hb1⟩
    · by_cases h0 : L.length = 0
      · have hn : L = [] := List.eq_nil_of_length_eq_zero h0
        subst hn
        clear hk hL h0 hx
        go_enter Tryd.func16, Tryd.ntmps16
        go_wp2_with fail
        refine HV.out.mono ?_
        rintro e w1 ⟨rfl, hb1⟩
        rw [HK.out]
        go_wp2_with fail
        go_ret
        exact ⟨rfl, hb1⟩
      · have HT := Lib.hid (textS_body L hk (fun h => h0 (by rw [h]; rfl)))
        have HBL := Lib.hid (body_len L hL hk)
        have HX := Lib.hid hx
        have HL := Lib.hid hL
        have hl1 : L.length ≤ 1000 := hL.1
        have h0' : ((L.length : Int) == 0) = false := by rw [beq_eq_false_iff_ne]; omega
        clear hk hx hL
        go_enter Tryd.func16, Tryd.ntmps16
        go_wp2_with fail
        refine HV.out.mono ?_
        rintro e w1 ⟨rfl, hb1⟩
        rw [HK.out]
        have HB1 := Lib.hid hb1
        clear hb1
        go_wp2_with fail
        go_loopw [3, 4] (fun v i wr => ∃ j : Nat, i = .int .i64 (j : Int) ∧ j ≤ L.length ∧ v = .string (S (bodyS (L.take j))) ∧ Hid (Below w.heap.size w wr)) (fun _ i _ => L.length - (intOf i).toNat)
        case atStart => exact ⟨0, rfl, Nat.zero_le _, rfl, HB1⟩
        case round =>
          obtain ⟨j, rfl, hj, rfl, HW⟩ := hrel
          by_cases hlt : j < L.length
          · have hx0 := sl_cells hB HX.out HW.out j hlt
            have hok := okS_of L HK.out j hlt
            have hlj := HL.out.2 _ (List.getElem_mem hlt)
            have hacc := HBL.out j hj
            have HN := Lib.hid (body_snoc L j hlt)
            obtain ⟨⟨lj, ij⟩, hxj⟩ : ∃ x, L[j] = x := ⟨_, rfl⟩
            rw [hxj] at hx0 hok hlj HN
            obtain ⟨c0, c1⟩ := hx0
            clear hxj
            simp only at c0 c1 hlj
            obtain ⟨acc, ha⟩ : ∃ a, bodyS (L.take j) = a := ⟨_, rfl⟩
            rw [ha] at hacc HN ⊢
            clear ha
            by_cases hl0 : lj = []
            · subst hl0
              obtain ⟨n, rfl, hn⟩ := okS_idx hok
              rw [bit_idx] at HN
              have hd := (dec_len n 7 (by omega) (by omega)).2
              obtain ⟨dg, hdg⟩ : ∃ d, Lib.decDigits n = d := ⟨_, rfl⟩
              have HD := Lib.hid hdg
              rw [hdg] at HN hd
              clear hdg hok hlj
              go_wp2_with fail
              refine (Digits_one n (by omega) _).mono ?_
              rintro e w2 ⟨rfl, hb2⟩
              have HB2 := Lib.hid (HW.out.trans (hb2.mono HW.out.size))
              clear hb2
              rw [HD.out]
              go_wp2_with fail
              go_roundw
              case rel => exact ⟨j + 1, rfl, hlt, by rw [HN.out]; simp [ct], HB2⟩
              case measure => simp [intOf]; omega
            · have he : lj.isEmpty = false := by cases lj with
                | nil => exact absurd rfl hl0
                | cons => rfl
              rw [bit_lab lj ij _ hl0] at HN
              have hq := quote_len lj
              have hll : (labelL lj).length ≤ 4002 := by unfold labelL; split <;> omega
              obtain ⟨ll, hll0⟩ : ∃ d, labelL lj = d := ⟨_, rfl⟩
              have HLL := Lib.hid hll0
              rw [hll0] at HN hll
              clear hll0 hok hl0 hq
              rcases Nat.eq_zero_or_pos j with hj0 | hj0
              · subst hj0
                simp only [Nat.zero_mul, Nat.add_zero] at c0 c1
                go_wp2_with fail
                refine (refLabel_any lj (by omega) _).mono ?_
                rintro e w2 ⟨rfl, hb2⟩
                have HB2 := Lib.hid (HW.out.trans (hb2.mono HW.out.size))
                clear hb2
                rw [HLL.out]
                go_wp2_with fail
                go_roundw
                case rel => exact ⟨1, rfl, hlt, by have h := HN.out; simp only [Nat.zero_add] at h; rw [h]; simp [ct], HB2⟩
                case measure => simp [intOf]; omega
              · have hj1 : ((j : Int) == 0) = false := by rw [beq_eq_false_iff_ne]; omega
                have hj2 : (j == 0) = false := by rw [beq_eq_false_iff_ne]; omega
                rw [hj2] at HN
                go_wp2_with fail
                refine (refLabel_any lj (by omega) _).mono ?_
                rintro e w2 ⟨rfl, hb2⟩
                have HB2 := Lib.hid (HW.out.trans (hb2.mono HW.out.size))
                clear hb2
                rw [HLL.out]
                go_wp2_with fail
                go_roundw
                case rel => exact ⟨j + 1, rfl, hlt, by rw [HN.out]; simp [ct], HB2⟩
                case measure => simp [intOf]; omega
          · go_wp2_with fail
            go_ret
            exact ⟨ret_S (by rw [HT.out, List.take_of_length_le (by omega)]), HW.out⟩
end Go.Proofs.YtpekkdgaeadepaaDoor
