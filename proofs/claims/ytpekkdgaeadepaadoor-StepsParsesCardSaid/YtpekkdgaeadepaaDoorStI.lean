/- Walks of the steps: index. -/
import Derived.Test.YtpekkdgaeadepaaDoorStL
import Derived.Lib.AtoiAll
import Derived.Test.YtpekkdgaeadepaaDoorDigits
namespace Go.Proofs.YtpekkdgaeadepaaDoor
open Go.RowKit

theorem valA_le (a : Nat) (l : List UInt8) : a ≤ valA a l := by
  rw [valA_eq]
  exact Nat.le_trans (Nat.le_mul_of_pos_right a (Nat.pow_pos (by decide))) (Nat.le_add_right _ _)
theorem uint10_digits (l : List UInt8) : ∀ a, (∀ c ∈ l, dgt c) → valA a l ≤ 100000000 → Lib.parseUint10 a l = .ok (valA a l) := by
  induction l with
  | nil => intro a _ _; rfl
  | cons c l ih =>
    intro a hd hv
    have hc := hd c (List.mem_cons_self ..)
    rw [valA_cons] at hv ⊢
    have hm := valA_le (a * 10 + (c.toNat - 48)) l
    simp only [Lib.parseUint10]
    rw [if_pos (show 48 ≤ c.toNat ∧ c.toNat ≤ 57 from hc), if_neg (by omega), if_neg (by omega)]
    exact ih _ (fun x hx => hd x (List.mem_cons_of_mem _ hx)) hv
theorem parseMag_digits (l : List UInt8) (h : ∀ c ∈ l, dgt c) (hn : l ≠ []) (hv : valD l ≤ 100000000) : Lib.atoiAll l = .ok (valD l : Int) := by
  have hm : Lib.parseMag l = .ok (valD l) := by unfold Lib.parseMag; rw [if_neg hn]; exact uint10_digits l 0 h hv
  cases l with
  | nil => exact absurd rfl hn
  | cons c r =>
    have hc := h c (List.mem_cons_self ..)
    have n2 : ¬ c.toNat = 45 := by have := hc.1; omega
    have n3 : ¬ c.toNat = 43 := by have := hc.1; omega
    unfold Lib.atoiAll
    simp only [n3, n2, or_self, if_false]
    rw [hm]
    simp only [not_false_eq_true, true_and, false_and, if_false]
    rw [if_neg (by omega)]
theorem AtoiD_any (l : List UInt8) (hl : l.length ≤ 1000000) (h : ∀ c ∈ l, dgt c) (hn : l ≠ []) (hv : valD l ≤ 100000000) (w : World) : Calls Tryd.prog 46 #[.string (S l)] w fun e w' => e = .returned (.tuple #[.int .i64 (valD l : Int), .nilIface]) ∧ Below w.heap.size w w' := by
  refine (Tryd.strconv_Atoi_ok (S l) (by show l.length ≤ _; omega) _ (parseMag_digits l h hn hv) w).mono ?_
  rintro e w' ⟨rfl, hw⟩
  refine ⟨rfl, ?_⟩
  rcases hw with rfl | ⟨t, rfl⟩
  · exact Below.refl _ _
  · exact Go.Joins.below_bytesWorld _ _ _ _ (Nat.le_refl _)
def digB (c : UInt8) : Bool := decide (48 ≤ c.toNat) && decide (c.toNat ≤ 57)
theorem digB_iff (c : UInt8) : digB c = true ↔ dgt c := by unfold digB dgt; simp
/-- the scan of an index: it stops (true), or the offset of the fault -/
def iscan (t : List UInt8) : Nat → Nat → Nat × Bool
  | 0, i => (i, true)
  | f + 1, i =>
    if t.length ≤ i then (i, true) else if digB (byt t i) = false then (i, true)
    else if decide (1 < i) && isB (byt t 1) 48 then (i, false)
    else if 1000000 < valD (sl t 1 (i + 1)) then (i, false) else iscan t f (i + 1)
def idxQ (t : List UInt8) (q : Nat × Bool) : Stp × Nat × Bool :=
  if q.2 = false then (noS, q.1, false) else if q.1 == 1 || decide (t.length ≤ q.1) || !isB (byt t q.1) 93 then (noS, q.1, false) else (⟨[], (valD (sl t 1 q.1) : Int)⟩, q.1 + 1, true)
def idxP (t : List UInt8) : Stp × Nat × Bool := idxQ t (iscan t t.length 1)
theorem sl_snoc (t : List UInt8) (i : Nat) (h1 : 1 ≤ i) (h : i < t.length) : sl t 1 (i + 1) = sl t 1 i ++ [byt t i] := by
  have hk : i - 1 < (t.drop 1).length := by rw [List.length_drop]; omega
  unfold sl
  rw [show i + 1 - 1 = (i - 1) + 1 by omega, List.take_succ_eq_append_getElem hk, byt_get t i h]
  congr 2
  rw [List.getElem_drop]
  congr 1; omega
theorem valD_snoc (d : List UInt8) (c : UInt8) : valD (d ++ [c]) = valD d * 10 + (c.toNat - 48) := by
  rw [valD_app, valD_one]; simp
set_option maxRecDepth 100000 in
set_option maxHeartbeats 4000000 in
theorem index_any (t : List UInt8) (ht : t.length ≤ 100000) (h0 : 0 < t.length) (w : World) : Calls Tryd.prog 31 #[.string (S t)] w fun e w' => e = .returned (rdv (idxP t)) ∧ Below w.heap.size w w' := by
  obtain ⟨r, hr⟩ : ∃ r, idxP t = r := ⟨_, rfl⟩
  rw [hr]
  obtain ⟨q, hq⟩ : ∃ q, iscan t t.length 1 = q := ⟨_, rfl⟩
  unfold idxP at hr
  rw [hq] at hr
  have HR := Lib.hid hr
  have HQ0 := Lib.hid hq
  clear hr hq
  go_enter Tryd.func31, Tryd.ntmps31
  go_wp2_with fail
  go_step3
  go_wp2_with fail
  go_step3
  go_wp2_with fail
  have hB0 := Blk.new w #[.string ⟨#[]⟩, .int .i64 0] 37
  have hb0 : Below w.heap.size w (w.alloc (.cells #[.string ⟨#[]⟩, .int .i64 0] 37)) := by go_grown
  generalize w.alloc (.cells #[.string ⟨#[]⟩, .int .i64 0] 37) = W0 at hB0 hb0 ⊢
  go_loopg [5] t.length (fun f v wr => ∃ i : Nat, v = .int .i64 (i : Int) ∧ 1 ≤ i ∧ i ≤ t.length ∧ t.length ≤ i + f ∧ Hid (iscan t f i = q ∧ Blk wr w.heap.size #[.string ⟨#[]⟩, .int .i64 0] 37 ∧ Below w.heap.size w wr ∧ (∀ c ∈ sl t 1 i, dgt c) ∧ valD (sl t 1 i) ≤ 1000000))
  case atStart => exact ⟨1, rfl, Nat.le_refl _, h0, by omega, Lib.hid ⟨HQ0.out, hB0, hb0, by simp [sl], by simp [sl, valD, valA]⟩⟩
  case round =>
    clear hB0 hb0 HQ0
    obtain ⟨i, rfl, hi1, hi2, hif, HQ⟩ := hrel
    have BN := HQ.out.2.1
    have f0 := BN.frozen 0
    have f1 := BN.frozen 1
    have x0 := BN.cell 0
    have x1 := BN.cell 1
    simp at x0 x1
    have HW := Lib.hid HQ.out.2.2.1
    have BNH := Lib.hid BN
    clear BN
    have i0 : (0 : Int) ≤ (i : Int) := by omega
    have i1 : (i : Int) ≤ (t.length : Int) := by omega
    by_cases hlt : i < t.length
    · obtain ⟨f, hf⟩ : ∃ f, gk = f + 1 := ⟨gk - 1, by omega⟩
      have hqq := HQ.out.1
      rw [hf, iscan, if_neg (by omega)] at hqq
      have HD := Lib.hid HQ.out.2.2.2
      have hsn := Lib.hid (sl_snoc t i hi1 hlt)
      have i2 : (i : Int) < (t.length : Int) := by omega
      obtain ⟨c, hc⟩ : ∃ c, byt t i = c := ⟨_, rfl⟩
      rw [hc] at hqq hsn
      have HQQ := Lib.hid hqq
      have HC := Lib.hid hc
      clear hqq HQ
      by_cases hdg : 48 ≤ c.toNat ∧ c.toNat ≤ 57
      · have hdc : dgt c := hdg
        have hqq := HQQ.out
        rw [if_neg (by rw [(digB_iff c).2 hdc]; decide)] at hqq
        have HQ2 := Lib.hid hqq
        clear hqq HQQ
        have d1 : decide ((c.toNat : Int) < 48) = false := by first | (simp; done) | (simp; omega)
        have d2 : decide ((57 : Int) < (c.toNat : Int)) = false := by first | (simp; done) | (simp; omega)
        by_cases hz : 1 < i ∧ ((byt t 1).toNat : Int) = 48
        · obtain ⟨hz1, hz2⟩ := hz
          have z1 : decide ((1 : Int) < (i : Int)) = true := by first | (simp; done) | (simp; omega)
          have z2 : (((byt t 1).toNat : Int) == 48) = true := by simp [hz2]
          have hqq := HQ2.out
          rw [if_pos (by rw [decide_eq_true hz1]; exact z2)] at hqq
          subst hqq
          have hr := HR.out
          unfold idxQ at hr
          simp only [if_true] at hr
          subst hr
          clear HQ2 hz2
          go_wp2_with fail
          try rw [Exit.noGoto_ret]
          exact bodyPost_ret (v := rdv _) (by simp [results, Tryd.results31, go_sem, rdv, noS, S_nil, x0, x1]) rfl ⟨rfl, (HW.out.setCell (Nat.le_refl _) _).setCell (Nat.le_refl _) _⟩
        · have hcond : (decide (1 < i) && isB (byt t 1) 48) = false := by
            cases h1 : decide (1 < i) with
            | false => rfl
            | true =>
              rw [Bool.true_and]
              unfold isB
              rw [beq_eq_false_iff_ne]
              exact fun h => hz ⟨of_decide_eq_true h1, h⟩
          have hqq := HQ2.out
          rw [if_neg (by rw [hcond]; decide), hsn.out] at hqq
          have HQ3 := Lib.hid hqq
          clear hqq HQ2
          have hv := valD_snoc (sl t 1 i) c
          have hvb : valD (sl t 1 i ++ [c]) ≤ 100000000 := by rw [hv]; have := HD.out.2; omega
          have hdd : ∀ x ∈ sl t 1 i ++ [c], dgt x := fun x hx => by
            rcases List.mem_append.1 hx with h | h
            · exact HD.out.1 x h
            · rw [List.mem_singleton.1 h]; exact hdc
          rw [← hsn.out] at hvb hdd HQ3
          have HAT := fun W => AtoiD_any (sl t 1 (i + 1)) (by have := sl_le t 1 (i + 1); omega) hdd (by rw [hsn.out]; simp) hvb W
          have HAT := Lib.hid HAT
          have i3 : (i : Int) + 1 ≤ (t.length : Int) := by omega
          have i4 : ((i : Int) + 1).toNat = i + 1 := by omega
          obtain ⟨vn, hvn⟩ : ∃ v, valD (sl t 1 (i + 1)) = v := ⟨_, rfl⟩
          rw [hvn] at HAT HQ3 hvb
          have HVN := Lib.hid hvn
          have HDD := Lib.hid hdd
          clear hvn hv hdd
          have hways : (decide ((1 : Int) < (i : Int)) = false) ∨ (decide ((1 : Int) < (i : Int)) = true ∧ (((byt t 1).toNat : Int) == 48) = false) := by
            by_cases h1 : 1 < i
            · exact .inr ⟨by simp; omega, by rw [beq_eq_false_iff_ne]; exact fun h => hz ⟨h1, h⟩⟩
            · exact .inl (by simp; omega)
          clear hz hcond
          rcases hways with z1 | ⟨z1, z2⟩
          all_goals
            go_wp2_with fail
            refine (HAT.out _).mono ?_
            rintro e w1 ⟨rfl, hb1⟩
            have B1 := BNH.out.below hb1
            have HW1 := Lib.hid (HW.out.trans (hb1.mono HW.out.size))
            clear hb1 x0 x1 f0 f1
            have f0 := B1.frozen 0
            have f1 := B1.frozen 1
            have x0 := B1.cell 0
            have x1 := B1.cell 1
            simp at x0 x1
            by_cases hbig : 1000000 < vn
            · have hqq := HQ3.out
              rw [if_pos hbig] at hqq
              subst hqq
              have hr := HR.out
              unfold idxQ at hr
              simp only [if_true] at hr
              subst hr
              have b1 : decide ((1000000 : Int) < (vn : Int)) = true := by first | (simp; done) | (simp; omega)
              clear HQ3
              go_wp2_with fail
              try rw [Exit.noGoto_ret]
              exact bodyPost_ret (v := rdv _) (by simp [results, Tryd.results31, go_sem, rdv, noS, S_nil, x0, x1]) rfl ⟨rfl, (HW1.out.setCell (Nat.le_refl _) _).setCell (Nat.le_refl _) _⟩
            · have hqq := HQ3.out
              rw [if_neg hbig] at hqq
              have b1 : decide ((1000000 : Int) < (vn : Int)) = false := by first | (simp; done) | (simp; omega)
              go_wp2_with fail
              go_roundg f
              case measure => omega
              case rel => exact ⟨i + 1, rfl, by omega, by omega, by omega, Lib.hid ⟨hqq, B1, HW1.out, HDD.out, by rw [HVN.out]; omega⟩⟩
      · have hqq := HQQ.out
        rw [if_pos (by cases h : digB c with
          | false => rfl
          | true => exact absurd ((digB_iff c).1 h) hdg)] at hqq
        subst hqq
        have HRQ := Lib.hid HR.out
        clear HQQ
        have g3 : decide ((t.length : Int) ≤ (i : Int)) = false := by first | (simp; done) | (simp; omega)
        have hways : (decide ((c.toNat : Int) < 48) = true) ∨ (decide ((c.toNat : Int) < 48) = false ∧ decide ((57 : Int) < (c.toNat : Int)) = true) := by
          by_cases h1 : c.toNat < 48
          · exact .inl (by simp; omega)
          · exact .inr ⟨by simp; omega, by simp; omega⟩
        clear hdg
        by_cases hone : i = 1
        · subst hone
          have hr := HRQ.out
          unfold idxQ at hr
          simp only [Bool.true_eq_false, if_false] at hr
          rw [if_pos (by simp)] at hr
          subst hr
          rcases hways with d1 | ⟨d1, d2⟩
          all_goals
            go_wp2_with fail
            try rw [Exit.noGoto_ret]
            exact bodyPost_ret (v := rdv _) (by simp [results, Tryd.results31, go_sem, rdv, noS, S_nil, x0, x1]) rfl ⟨rfl, (HW.out.setCell (Nat.le_refl _) _).setCell (Nat.le_refl _) _⟩
        · have o1 : ((i : Int) == 1) = false := by rw [beq_eq_false_iff_ne]; omega
          rcases (bool_two (isB c 93)).symm with h93 | h93
          · have e93 : ((c.toNat : Int) == 93) = true := h93
            have e93' : ((c.toNat : Int) != 93) = false := by rw [bne, e93]; rfl
            have hr := HRQ.out
            unfold idxQ at hr
            simp only [Bool.true_eq_false, if_false] at hr
            rw [if_neg (by rw [HC.out, h93, decide_eq_false (show ¬ t.length ≤ i by omega), beq_eq_false_iff_ne.2 hone]; decide)] at hr
            subst hr
            have hne : sl t 1 i ≠ [] := by
              intro h
              have := sl_len t 1 i hi1 hi2
              rw [h] at this; simp at this; omega
            have HAT := fun W => AtoiD_any (sl t 1 i) (by have := sl_le t 1 i; omega) HD.out.1 hne (by have := HD.out.2; omega) W
            have HAT := Lib.hid HAT
            have i5 : (1 : Int) ≤ (i : Int) := by omega
            clear h93 hone hne
            rcases hways with d1 | ⟨d1, d2⟩
            all_goals
              go_wp2_with fail
              refine (HAT.out _).mono ?_
              rintro e w1 ⟨rfl, hb1⟩
              have B1 := BNH.out.below hb1
              have HW1 := Lib.hid (HW.out.trans (hb1.mono HW.out.size))
              clear hb1 x0 x1 f0 f1
              have f0 := B1.frozen 0
              have f1 := B1.frozen 1
              have x0 := B1.cell 0
              have x1 := B1.cell 1
              simp at x0 x1
              go_wp2_with fail
              try rw [Exit.noGoto_ret]
              exact bodyPost_ret (v := rdv _) (by simp [results, Tryd.results31, go_sem, rdv, S_nil, x0, x1]) rfl ⟨rfl, (HW1.out.setCell (Nat.le_refl _) _).setCell (Nat.le_refl _) _⟩
          · have e93 : ((c.toNat : Int) == 93) = false := h93
            have e93' : ((c.toNat : Int) != 93) = true := by rw [bne, e93]; rfl
            have hr := HRQ.out
            unfold idxQ at hr
            simp only [Bool.true_eq_false, if_false] at hr
            rw [if_pos (by rw [HC.out, h93]; simp)] at hr
            subst hr
            clear h93 hone
            rcases hways with d1 | ⟨d1, d2⟩
            all_goals
              go_wp2_with fail
              try rw [Exit.noGoto_ret]
              exact bodyPost_ret (v := rdv _) (by simp [results, Tryd.results31, go_sem, rdv, noS, S_nil, x0, x1]) rfl ⟨rfl, (HW.out.setCell (Nat.le_refl _) _).setCell (Nat.le_refl _) _⟩
    · have hil : i = t.length := by omega
      subst hil
      have hq := HQ.out.1
      have hq2 : iscan t gk t.length = (t.length, true) := by
        cases gk with
        | zero => rfl
        | succ f => rw [iscan, if_pos (by omega)]
      rw [hq2] at hq
      subst hq
      have hr := HR.out
      unfold idxQ at hr
      simp only [Bool.true_eq_false, if_false] at hr
      rw [if_pos (by rw [decide_eq_true (Nat.le_refl t.length)]; simp)] at hr
      subst hr
      clear HQ hq2
      by_cases hone : t.length = 1
      · have o1 : ((t.length : Int) == 1) = true := by simp [hone]
        clear hone
        go_wp2_with fail
        try rw [Exit.noGoto_ret]
        exact bodyPost_ret (v := rdv _) (by simp [results, Tryd.results31, go_sem, rdv, noS, S_nil, x0, x1]) rfl ⟨rfl, (HW.out.setCell (Nat.le_refl _) _).setCell (Nat.le_refl _) _⟩
      · have o1 : ((t.length : Int) == 1) = false := by rw [beq_eq_false_iff_ne]; omega
        go_wp2_with fail
        try rw [Exit.noGoto_ret]
        exact bodyPost_ret (v := rdv _) (by simp [results, Tryd.results31, go_sem, rdv, noS, S_nil, x0, x1]) rfl ⟨rfl, (HW.out.setCell (Nat.le_refl _) _).setCell (Nat.le_refl _) _⟩
end Go.Proofs.YtpekkdgaeadepaaDoor
