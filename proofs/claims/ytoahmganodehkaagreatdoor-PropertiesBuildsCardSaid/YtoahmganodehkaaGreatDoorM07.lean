/- Walks of the numbers: the specification's digits. -/
import Derived.LoopTactic
import Derived.Outline
import Derived.Test.YtoahmganodehkaaGreatDoorM01
import Derived.Test.YtoahmganodehkaaGreatDoorProg
import Derived.Test.YtoahmganodehkaaGreatDoorM05
import Derived.Lib.AtoiAll
import Derived.Test.YtoahmganodehkaaGreatDoorM03
import Derived.Laws.AppendOwn
import Derived.Deep.AppendLies
namespace Go.Proofs.YtoahmganodehkaaGreatDoor
set_option linter.unusedSimpArgs false
set_option linter.unusedVariables false
section
open Go.RowKit

theorem digs_len (k : Nat) : ∀ n least, n < 10 ^ k → least ≤ k → (digs n least).length ≤ k := by
  induction k with
  | zero => intro n least h1 h2; rw [show n = 0 by simp at h1; exact h1, show least = 0 by omega, digs_nil]; simp
  | succ k ih =>
    intro n least h1 h2
    by_cases h : n = 0 ∧ least = 0
    · rw [h.1, h.2, digs_nil]; simp
    · rw [digs_more n least h, List.length_append]
      have := ih (n / 10) (least - 1) (by rw [Nat.pow_succ] at h1; omega) (by omega)
      simp; omega
set_option maxHeartbeats 400000 in
theorem Digits_any (n least : Nat) (hn : n ≤ 1000000000000000) (hl : least ≤ 20) (w : World) :
    Calls Tryz.prog 87 #[.int .i64 (n : Int), .int .i64 (least : Int)] w fun e w' => e = .returned (.string (S (digs n least))) ∧ Below w.heap.size w w' := by
  have hlen := digs_len 20 n least (by omega) hl
  have HLEN := Lib.hid hlen; clear hlen
  go_enter Tryz.func87, Tryz.ntmps87
  go_wp2_with fail
  go_loopw [0, 5] (fun n' s wr => ∃ (m : Nat) (l : List UInt8), n' = .int .i64 (m : Int) ∧ s = .string (S l) ∧ m ≤ 1000000000000000 ∧ Hid (digs n least = digs m (least - l.length) ++ l) ∧ Below w.heap.size w wr)
    (fun n' s _ => (intOf n').toNat + (least - strLen s))
  case atStart => exact ⟨n, [], rfl, rfl, hn, Lib.hid (by simp), Below.refl _ _⟩
  case round =>
    obtain ⟨m, l, rfl, rfl, hm, HD, hB⟩ := hrel
    have hlb : l.length ≤ 20 := by
      have h1 := HLEN.out; rw [HD.out, List.length_append] at h1; omega
    by_cases hstop : m = 0 ∧ least ≤ l.length
    · obtain ⟨rfl, hst⟩ := hstop
      have HF := Lib.hid (show digs n least = l by rw [HD.out, show least - l.length = 0 by omega, digs_nil]; rfl)
      go_wp2_with fail
      go_ret
      exact ⟨ret_S (by rw [HF.out]), hB⟩
    · obtain ⟨d, hd⟩ : ∃ d, m % 10 = d := ⟨_, rfl⟩
      obtain ⟨q, hq⟩ : ∃ q, m / 10 = q := ⟨_, rfl⟩
      have hdb : d < 10 := by omega
      have hqb : q ≤ m := by omega
      have HN := Lib.hid (show digs n least = digs q (least - (ct [dch d] l).length) ++ ct [dch d] l by
        rw [HD.out, digs_more m _ (by omega), hd, hq, ct_eq, List.append_assoc]
        simp only [List.length_append, List.length_cons, List.length_nil]
        rw [show least - (0 + 1 + l.length) = least - l.length - 1 by omega])
      have ed : (m : Int) % 10 = (d : Int) := by omega
      have eq : (m : Int) / 10 = (q : Int) := by omega
      have hmeas : q < m ∨ (m = 0 ∧ q = 0 ∧ l.length < least) := by omega
      obtain ⟨c, hc⟩ : ∃ c, dch d = c := ⟨_, rfl⟩
      have ec : 48 + (d : Int) = (c.toNat : Int) := by rw [← hc, dch_nat d hdb]; omega
      rw [hc] at HN
      have hcv := fun W => conv_one (P := Tryz.prog) W 138 9 5 5 c 1 Tryz.underlying138 Tryz.underlying5 Tryz.underlying9
      clear hc hd hq
      have hM := Lib.hid hmeas
      rcases hmeas with hlt | ⟨hm0, -, hls⟩
      · have hm1 : decide (0 < m) = true := by simp; omega
        clear hstop hlt
        go_wp2_with fail
        go_roundw
        case rel => exact ⟨q, ct [c] l, rfl, rfl, by omega, HN, hB.alloc hB.size _⟩
        case measure => have := hM.out; simp [intOf, strLen, S_size, ct_len]; omega
      · have hm1 : decide (0 < m) = false := by simp; omega
        clear hstop hm0
        go_wp2_with fail
        go_roundw
        case rel => exact ⟨q, ct [c] l, rfl, rfl, by omega, HN, hB.alloc hB.size _⟩
        case measure => have := hM.out; simp [intOf, strLen, S_size, ct_len]; omega
theorem Digits_one (n : Nat) (hn : n ≤ 1000000000000000) (w : World) :
    Calls Tryz.prog 87 #[.int .i64 (n : Int), .int .i64 1] w fun e w' => e = .returned (.string (S (Lib.decDigits n))) ∧ Below w.heap.size w w' := by
  have h := Digits_any n 1 hn (by decide) w
  rw [digs_one] at h; exact h
theorem Digits_four (n : Nat) (hn : n < 10000) (w : World) :
    Calls Tryz.prog 87 #[.int .i64 (n : Int), .int .i64 4] w fun e w' => e = .returned (.string (S (pad4 n))) ∧ Below w.heap.size w w' := by
  have h := Digits_any n 4 (by omega) (by decide) w
  rw [digs_four n hn] at h; exact h
end
section
open Go.RowKit

theorem valA_le (a : Nat) (l : List UInt8) : a ≤ valA a l := by
  rw [valA_eq]
  exact Nat.le_trans (Nat.le_mul_of_pos_right a (Nat.pow_pos (by decide))) (Nat.le_add_right _ _)
theorem uint10_digits (l : List UInt8) : ∀ a, (∀ c ∈ l, dgt c) → valA a l ≤ 100000000 → Lib.parseUint10 a l = .ok (valA a l) := by
  induction l with
  | nil => intro a _ _; rfl
  | cons c l ih =>
    intro a hd hv
    have hc := hd c (List.mem_cons_self ..)
    rw [valA_cons] at hv ⊢
    have hm := valA_le (a * 10 + (c.toNat - 48)) l
    simp only [Lib.parseUint10]
    rw [if_pos (show 48 ≤ c.toNat ∧ c.toNat ≤ 57 from hc), if_neg (by omega), if_neg (by omega)]
    exact ih _ (fun x hx => hd x (List.mem_cons_of_mem _ hx)) hv
theorem parseMag_digits (l : List UInt8) (h : ∀ c ∈ l, dgt c) (hn : l ≠ []) (hv : valD l ≤ 100000000) : Lib.atoiAll l = .ok (valD l : Int) := by
  have hm : Lib.parseMag l = .ok (valD l) := by unfold Lib.parseMag; rw [if_neg hn]; exact uint10_digits l 0 h hv
  cases l with
  | nil => exact absurd rfl hn
  | cons c r =>
    have hc := h c (List.mem_cons_self ..)
    have n2 : ¬ c.toNat = 45 := by have := hc.1; omega
    have n3 : ¬ c.toNat = 43 := by have := hc.1; omega
    unfold Lib.atoiAll
    simp only [n3, n2, or_self, if_false]
    rw [hm]
    simp only [not_false_eq_true, true_and, false_and, if_false]
    rw [if_neg (by omega)]
theorem AtoiD_any (l : List UInt8) (hl : l.length ≤ 1000000) (h : ∀ c ∈ l, dgt c) (hn : l ≠ []) (hv : valD l ≤ 100000000) (w : World) : Calls Tryz.prog 137 #[.string (S l)] w fun e w' => e = .returned (.tuple #[.int .i64 (valD l : Int), .nilIface]) ∧ Below w.heap.size w w' := by
  refine (Tryz.strconv_Atoi_ok (S l) (by show l.length ≤ _; omega) _ (parseMag_digits l h hn hv) w).mono ?_
  rintro e w' ⟨rfl, hw⟩
  refine ⟨rfl, ?_⟩
  rcases hw with rfl | ⟨t, rfl⟩
  · exact Below.refl _ _
  · exact Go.Joins.below_bytesWorld _ _ _ _ (Nat.le_refl _)
def digB (c : UInt8) : Bool := decide (48 ≤ c.toNat) && decide (c.toNat ≤ 57)
theorem digB_iff (c : UInt8) : digB c = true ↔ dgt c := by unfold digB dgt; simp
/-- the scan of an index: it stops (true), or the offset of the fault -/
def iscan (t : List UInt8) : Nat → Nat → Nat × Bool
  | 0, i => (i, true)
  | f + 1, i =>
    if t.length ≤ i then (i, true) else if digB (byt t i) = false then (i, true)
    else if decide (1 < i) && isB (byt t 1) 48 then (i, false)
    else if 1000000 < valD (sl t 1 (i + 1)) then (i, false) else iscan t f (i + 1)
def idxQ (t : List UInt8) (q : Nat × Bool) : Stp × Nat × Bool :=
  if q.2 = false then (noS, q.1, false) else if q.1 == 1 || decide (t.length ≤ q.1) || !isB (byt t q.1) 93 then (noS, q.1, false) else (⟨[], (valD (sl t 1 q.1) : Int)⟩, q.1 + 1, true)
def idxP (t : List UInt8) : Stp × Nat × Bool := idxQ t (iscan t t.length 1)
theorem sl_snoc (t : List UInt8) (i : Nat) (h1 : 1 ≤ i) (h : i < t.length) : sl t 1 (i + 1) = sl t 1 i ++ [byt t i] := by
  have hk : i - 1 < (t.drop 1).length := by rw [List.length_drop]; omega
  unfold sl
  rw [show i + 1 - 1 = (i - 1) + 1 by omega, List.take_succ_eq_append_getElem hk, byt_get t i h]
  congr 2
  rw [List.getElem_drop]
  congr 1; omega
theorem valD_snoc (d : List UInt8) (c : UInt8) : valD (d ++ [c]) = valD d * 10 + (c.toNat - 48) := by
  rw [valD_app, valD_one]; simp
set_option maxRecDepth 100000 in
set_option maxHeartbeats 4000000 in
theorem index_any (t : List UInt8) (ht : t.length ≤ 100000) (h0 : 0 < t.length) (w : World) : Calls Tryz.prog 96 #[.string (S t)] w fun e w' => e = .returned (rdv (idxP t)) ∧ Below w.heap.size w w' := by
  obtain ⟨r, hr⟩ : ∃ r, idxP t = r := ⟨_, rfl⟩
  rw [hr]
  obtain ⟨q, hq⟩ : ∃ q, iscan t t.length 1 = q := ⟨_, rfl⟩
  unfold idxP at hr
  rw [hq] at hr
  have HR := Lib.hid hr
  have HQ0 := Lib.hid hq
  clear hr hq
  go_enter Tryz.func96, Tryz.ntmps96
  go_wp2_with fail
  go_step3
  go_wp2_with fail
  go_step3
  go_wp2_with fail
  have hB0 := Blk.new w #[.string ⟨#[]⟩, .int .i64 0] 44
  have hb0 : Below w.heap.size w (w.alloc (.cells #[.string ⟨#[]⟩, .int .i64 0] 44)) := by go_grown
  generalize w.alloc (.cells #[.string ⟨#[]⟩, .int .i64 0] 44) = W0 at hB0 hb0 ⊢
  go_loopg [5] t.length (fun f v wr => ∃ i : Nat, v = .int .i64 (i : Int) ∧ 1 ≤ i ∧ i ≤ t.length ∧ t.length ≤ i + f ∧ Hid (iscan t f i = q ∧ Blk wr w.heap.size #[.string ⟨#[]⟩, .int .i64 0] 44 ∧ Below w.heap.size w wr ∧ (∀ c ∈ sl t 1 i, dgt c) ∧ valD (sl t 1 i) ≤ 1000000))
  case atStart => exact ⟨1, rfl, Nat.le_refl _, h0, by omega, Lib.hid ⟨HQ0.out, hB0, hb0, by simp [sl], by simp [sl, valD, valA]⟩⟩
  case round =>
    clear hB0 hb0 HQ0
    obtain ⟨i, rfl, hi1, hi2, hif, HQ⟩ := hrel
    have BN := HQ.out.2.1
    have f0 := BN.frozen 0
    have f1 := BN.frozen 1
    have x0 := BN.cell 0
    have x1 := BN.cell 1
    simp at x0 x1
    have HW := Lib.hid HQ.out.2.2.1
    have BNH := Lib.hid BN
    clear BN
    have i0 : (0 : Int) ≤ (i : Int) := by omega
    have i1 : (i : Int) ≤ (t.length : Int) := by omega
    by_cases hlt : i < t.length
    · obtain ⟨f, hf⟩ : ∃ f, gk = f + 1 := ⟨gk - 1, by omega⟩
      have hqq := HQ.out.1
      rw [hf, iscan, if_neg (by omega)] at hqq
      have HD := Lib.hid HQ.out.2.2.2
      have hsn := Lib.hid (sl_snoc t i hi1 hlt)
      have i2 : (i : Int) < (t.length : Int) := by omega
      obtain ⟨c, hc⟩ : ∃ c, byt t i = c := ⟨_, rfl⟩
      rw [hc] at hqq hsn
      have HQQ := Lib.hid hqq
      have HC := Lib.hid hc
      clear hqq HQ
      by_cases hdg : 48 ≤ c.toNat ∧ c.toNat ≤ 57
      · have hdc : dgt c := hdg
        have hqq := HQQ.out
        rw [if_neg (by rw [(digB_iff c).2 hdc]; decide)] at hqq
        have HQ2 := Lib.hid hqq
        clear hqq HQQ
        have d1 : decide ((c.toNat : Int) < 48) = false := by first | (simp; done) | (simp; omega)
        have d2 : decide ((57 : Int) < (c.toNat : Int)) = false := by first | (simp; done) | (simp; omega)
        by_cases hz : 1 < i ∧ ((byt t 1).toNat : Int) = 48
        · obtain ⟨hz1, hz2⟩ := hz
          have z1 : decide ((1 : Int) < (i : Int)) = true := by first | (simp; done) | (simp; omega)
          have z2 : (((byt t 1).toNat : Int) == 48) = true := by simp [hz2]
          have hqq := HQ2.out
          rw [if_pos (by rw [decide_eq_true hz1]; exact z2)] at hqq
          subst hqq
          have hr := HR.out
          unfold idxQ at hr
          simp only [if_true] at hr
          subst hr
          clear HQ2 hz2
          go_wp2_with fail
          try rw [Exit.noGoto_ret]
          exact bodyPost_ret (v := rdv _) (by simp [results, Tryz.results96, go_sem, rdv, noS, S_nil, x0, x1]) rfl ⟨rfl, (HW.out.setCell (Nat.le_refl _) _).setCell (Nat.le_refl _) _⟩
        · have hcond : (decide (1 < i) && isB (byt t 1) 48) = false := by
            cases h1 : decide (1 < i) with
            | false => rfl
            | true =>
              rw [Bool.true_and]
              unfold isB
              rw [beq_eq_false_iff_ne]
              exact fun h => hz ⟨of_decide_eq_true h1, h⟩
          have hqq := HQ2.out
          rw [if_neg (by rw [hcond]; decide), hsn.out] at hqq
          have HQ3 := Lib.hid hqq
          clear hqq HQ2
          have hv := valD_snoc (sl t 1 i) c
          have hvb : valD (sl t 1 i ++ [c]) ≤ 100000000 := by rw [hv]; have := HD.out.2; omega
          have hdd : ∀ x ∈ sl t 1 i ++ [c], dgt x := fun x hx => by
            rcases List.mem_append.1 hx with h | h
            · exact HD.out.1 x h
            · rw [List.mem_singleton.1 h]; exact hdc
          rw [← hsn.out] at hvb hdd HQ3
          have HAT := fun W => AtoiD_any (sl t 1 (i + 1)) (by have := sl_le t 1 (i + 1); omega) hdd (by rw [hsn.out]; simp) hvb W
          have HAT := Lib.hid HAT
          have i3 : (i : Int) + 1 ≤ (t.length : Int) := by omega
          have i4 : ((i : Int) + 1).toNat = i + 1 := by omega
          obtain ⟨vn, hvn⟩ : ∃ v, valD (sl t 1 (i + 1)) = v := ⟨_, rfl⟩
          rw [hvn] at HAT HQ3 hvb
          have HVN := Lib.hid hvn
          have HDD := Lib.hid hdd
          clear hvn hv hdd
          have hways : (decide ((1 : Int) < (i : Int)) = false) ∨ (decide ((1 : Int) < (i : Int)) = true ∧ (((byt t 1).toNat : Int) == 48) = false) := by
            by_cases h1 : 1 < i
            · exact .inr ⟨by simp; omega, by rw [beq_eq_false_iff_ne]; exact fun h => hz ⟨h1, h⟩⟩
            · exact .inl (by simp; omega)
          clear hz hcond
          rcases hways with z1 | ⟨z1, z2⟩
          all_goals
            go_wp2_with fail
            refine (HAT.out _).mono ?_
            rintro e w1 ⟨rfl, hb1⟩
            have B1 := BNH.out.below hb1
            have HW1 := Lib.hid (HW.out.trans (hb1.mono HW.out.size))
            clear hb1 x0 x1 f0 f1
            have f0 := B1.frozen 0
            have f1 := B1.frozen 1
            have x0 := B1.cell 0
            have x1 := B1.cell 1
            simp at x0 x1
            by_cases hbig : 1000000 < vn
            · have hqq := HQ3.out
              rw [if_pos hbig] at hqq
              subst hqq
              have hr := HR.out
              unfold idxQ at hr
              simp only [if_true] at hr
              subst hr
              have b1 : decide ((1000000 : Int) < (vn : Int)) = true := by first | (simp; done) | (simp; omega)
              clear HQ3
              go_wp2_with fail
              try rw [Exit.noGoto_ret]
              exact bodyPost_ret (v := rdv _) (by simp [results, Tryz.results96, go_sem, rdv, noS, S_nil, x0, x1]) rfl ⟨rfl, (HW1.out.setCell (Nat.le_refl _) _).setCell (Nat.le_refl _) _⟩
            · have hqq := HQ3.out
              rw [if_neg hbig] at hqq
              have b1 : decide ((1000000 : Int) < (vn : Int)) = false := by first | (simp; done) | (simp; omega)
              go_wp2_with fail
              go_roundg f
              case measure => omega
              case rel => exact ⟨i + 1, rfl, by omega, by omega, by omega, Lib.hid ⟨hqq, B1, HW1.out, HDD.out, by rw [HVN.out]; omega⟩⟩
      · have hqq := HQQ.out
        rw [if_pos (by cases h : digB c with
          | false => rfl
          | true => exact absurd ((digB_iff c).1 h) hdg)] at hqq
        subst hqq
        have HRQ := Lib.hid HR.out
        clear HQQ
        have g3 : decide ((t.length : Int) ≤ (i : Int)) = false := by first | (simp; done) | (simp; omega)
        have hways : (decide ((c.toNat : Int) < 48) = true) ∨ (decide ((c.toNat : Int) < 48) = false ∧ decide ((57 : Int) < (c.toNat : Int)) = true) := by
          by_cases h1 : c.toNat < 48
          · exact .inl (by simp; omega)
          · exact .inr ⟨by simp; omega, by simp; omega⟩
        clear hdg
        by_cases hone : i = 1
        · subst hone
          have hr := HRQ.out
          unfold idxQ at hr
          simp only [Bool.true_eq_false, if_false] at hr
          rw [if_pos (by simp)] at hr
          subst hr
          rcases hways with d1 | ⟨d1, d2⟩
          all_goals
            go_wp2_with fail
            try rw [Exit.noGoto_ret]
            exact bodyPost_ret (v := rdv _) (by simp [results, Tryz.results96, go_sem, rdv, noS, S_nil, x0, x1]) rfl ⟨rfl, (HW.out.setCell (Nat.le_refl _) _).setCell (Nat.le_refl _) _⟩
        · have o1 : ((i : Int) == 1) = false := by rw [beq_eq_false_iff_ne]; omega
          rcases (bool_two (isB c 93)).symm with h93 | h93
          · have e93 : ((c.toNat : Int) == 93) = true := h93
            have e93' : ((c.toNat : Int) != 93) = false := by rw [bne, e93]; rfl
            have hr := HRQ.out
            unfold idxQ at hr
            simp only [Bool.true_eq_false, if_false] at hr
            rw [if_neg (by rw [HC.out, h93, decide_eq_false (show ¬ t.length ≤ i by omega), beq_eq_false_iff_ne.2 hone]; decide)] at hr
            subst hr
            have hne : sl t 1 i ≠ [] := by
              intro h
              have := sl_len t 1 i hi1 hi2
              rw [h] at this; simp at this; omega
            have HAT := fun W => AtoiD_any (sl t 1 i) (by have := sl_le t 1 i; omega) HD.out.1 hne (by have := HD.out.2; omega) W
            have HAT := Lib.hid HAT
            have i5 : (1 : Int) ≤ (i : Int) := by omega
            clear h93 hone hne
            rcases hways with d1 | ⟨d1, d2⟩
            all_goals
              go_wp2_with fail
              refine (HAT.out _).mono ?_
              rintro e w1 ⟨rfl, hb1⟩
              have B1 := BNH.out.below hb1
              have HW1 := Lib.hid (HW.out.trans (hb1.mono HW.out.size))
              clear hb1 x0 x1 f0 f1
              have f0 := B1.frozen 0
              have f1 := B1.frozen 1
              have x0 := B1.cell 0
              have x1 := B1.cell 1
              simp at x0 x1
              go_wp2_with fail
              try rw [Exit.noGoto_ret]
              exact bodyPost_ret (v := rdv _) (by simp [results, Tryz.results96, go_sem, rdv, S_nil, x0, x1]) rfl ⟨rfl, (HW1.out.setCell (Nat.le_refl _) _).setCell (Nat.le_refl _) _⟩
          · have e93 : ((c.toNat : Int) == 93) = false := h93
            have e93' : ((c.toNat : Int) != 93) = true := by rw [bne, e93]; rfl
            have hr := HRQ.out
            unfold idxQ at hr
            simp only [Bool.true_eq_false, if_false] at hr
            rw [if_pos (by rw [HC.out, h93]; simp)] at hr
            subst hr
            clear h93 hone
            rcases hways with d1 | ⟨d1, d2⟩
            all_goals
              go_wp2_with fail
              try rw [Exit.noGoto_ret]
              exact bodyPost_ret (v := rdv _) (by simp [results, Tryz.results96, go_sem, rdv, noS, S_nil, x0, x1]) rfl ⟨rfl, (HW.out.setCell (Nat.le_refl _) _).setCell (Nat.le_refl _) _⟩
    · have hil : i = t.length := by omega
      subst hil
      have hq := HQ.out.1
      have hq2 : iscan t gk t.length = (t.length, true) := by
        cases gk with
        | zero => rfl
        | succ f => rw [iscan, if_pos (by omega)]
      rw [hq2] at hq
      subst hq
      have hr := HR.out
      unfold idxQ at hr
      simp only [Bool.true_eq_false, if_false] at hr
      rw [if_pos (by rw [decide_eq_true (Nat.le_refl t.length)]; simp)] at hr
      subst hr
      clear HQ hq2
      by_cases hone : t.length = 1
      · have o1 : ((t.length : Int) == 1) = true := by simp [hone]
        clear hone
        go_wp2_with fail
        try rw [Exit.noGoto_ret]
        exact bodyPost_ret (v := rdv _) (by simp [results, Tryz.results96, go_sem, rdv, noS, S_nil, x0, x1]) rfl ⟨rfl, (HW.out.setCell (Nat.le_refl _) _).setCell (Nat.le_refl _) _⟩
      · have o1 : ((t.length : Int) == 1) = false := by rw [beq_eq_false_iff_ne]; omega
        go_wp2_with fail
        try rw [Exit.noGoto_ret]
        exact bodyPost_ret (v := rdv _) (by simp [results, Tryz.results96, go_sem, rdv, noS, S_nil, x0, x1]) rfl ⟨rfl, (HW.out.setCell (Nat.le_refl _) _).setCell (Nat.le_refl _) _⟩
end
section
open Go.RowKit

theorem itoa_nat (n : Nat) : Lib.itoa (n : Int) = Lib.decDigits n := Lib.itoa_nonneg n
theorem Itoa_any (n : Nat) (hn : n ≤ 1000000) (w : World) (hE : NumOk w) : Calls Tryz.prog 57 #[.int .i64 (n : Int)] w fun e w' => e = .returned (.string (S (Lib.decDigits n))) ∧ Below w.heap.size w w' := by
  refine (Tryz.strconv_Itoa (n : Int) (by omega) (by omega) w hE.tab).mono ?_
  rintro e w' ⟨rfl, k, os, rfl⟩
  exact ⟨by rw [itoa_nat]; rfl, Lib.below_grow _ w (Nat.le_refl _) k os⟩
theorem body_snoc (L : List Stp) (j : Nat) (h : j < L.length) : bodyS (L.take (j + 1)) = bodyS (L.take j) ++ bitS L[j] (j == 0) := by
  cases L with
  | nil => simp at h
  | cons x r =>
    cases j with
    | zero => simp [bodyS, restS]
    | succ j =>
      simp only [List.length_cons, Nat.add_lt_add_iff_right] at h
      rw [List.take_succ_cons, List.take_succ_cons]
      show bitS x true ++ restS (r.take (j + 1)) = bitS x true ++ restS (r.take j) ++ bitS r[j] (j + 1 == 0)
      unfold restS
      rw [List.take_add_one, List.flatMap_append, List.getElem?_eq_getElem h]
      simp
/-- bounds of a list of steps -/
def LimS (L : List Stp) : Prop := L.length ≤ 1000 ∧ ∀ x ∈ L, x.lab.length ≤ 1000
theorem bit_len (x : Stp) (b : Bool) (h : x.lab.length ≤ 1000) (hi : x.idx ≤ 1000000) : (bitS x b).length ≤ 4100 := by
  unfold bitS
  have hq := quote_len x.lab
  have hd := (dec_len x.idx.toNat 7 (by omega) (by omega)).2
  have hl : (labelL x.lab).length ≤ 4002 := by unfold labelL; split <;> omega
  repeat' split
  all_goals simp
  all_goals omega
theorem body_len (L : List Stp) (hL : LimS L) (hk : okL L = true) : ∀ j, j ≤ L.length → (bodyS (L.take j)).length ≤ 4100 * j := by
  intro j
  induction j with
  | zero => intro _; simp [bodyS]
  | succ j ih =>
    intro hj
    rw [body_snoc L j hj, List.length_append]
    have h1 := ih (by omega)
    have hm : L[j] ∈ L := List.getElem_mem _
    have hok : okS L[j] = true := List.all_eq_true.1 hk _ hm
    have h2 := bit_len L[j] (j == 0) (hL.2 _ hm) (by
      unfold okS at hok
      split at hok
      · simp at hok; omega
      · simp at hok; omega)
    omega
theorem textS_bad (L : List Stp) (h : okL L = false) : textS L = [63] := by unfold textS; rw [h]; rfl
theorem textS_nil : textS [] = [46] := rfl
theorem textS_body (L : List Stp) (h : okL L = true) (h0 : L ≠ []) : textS L = bodyS L := by unfold textS; rw [h, if_neg (by decide), if_neg h0]
theorem okS_of (L : List Stp) (h : okL L = true) (j : Nat) (hj : j < L.length) : okS L[j] = true := List.all_eq_true.1 h _ (List.getElem_mem hj)
theorem okS_idx {i : Int} (h : okS ⟨[], i⟩ = true) : ∃ n : Nat, i = n ∧ n ≤ 1000000 := by
  simp [okS] at h; exact ⟨i.toNat, by omega, by omega⟩
theorem bit_idx (n : Nat) (b : Bool) : bitS ⟨[], (n : Int)⟩ b = 91 :: (Lib.decDigits n ++ [93]) := by simp [bitS]
theorem bit_lab (l : List UInt8) (i : Int) (b : Bool) (h : l ≠ []) : bitS ⟨l, i⟩ b = if b then labelL l else 46 :: labelL l := by simp [bitS, h]
set_option maxHeartbeats 2000000 in
theorem Text_any (v : Value) (L : List Stp) (w : World) (hv : SlS w v L) (hL : LimS L) (hE : NumOk w) : Calls Tryz.prog 30 #[v] w fun e w' => e = .returned (.string (S (textS L))) ∧ Below w.heap.size w w' := by
  rcases bool_two (okL L) with hk | hk
  · have HK := Lib.hid hk
    have HT := Lib.hid (textS_bad L hk)
    have HV := Lib.hid (Valid_any v L w hv (by have := hL.1; omega))
    clear hk hE hL hv
    go_enter Tryz.func30, Tryz.ntmps30
    go_wp2_with fail
    refine HV.out.mono ?_
    rintro e w1 ⟨rfl, hb1⟩
    rw [HK.out]
    go_wp2_with fail
    go_ret
    exact ⟨ret_S HT.out.symm, hb1⟩
  · have HK := Lib.hid hk
    have HV := Lib.hid (Valid_any v L w hv (by have := hL.1; omega))
    rcases hv with ⟨⟨p0, cap0, rfl⟩, rfl⟩ | ⟨B, o, cap, rfl, hc, hB, hx⟩
    · clear hk hE hL
      go_enter Tryz.func30, Tryz.ntmps30
      go_wp2_with fail
      refine HV.out.mono ?_
      rintro e w1 ⟨rfl, hb1⟩
      rw [HK.out]
      go_wp2_with fail
      go_ret
      exact ⟨rfl, hb1⟩
    · by_cases h0 : L.length = 0
      · have hn : L = [] := List.eq_nil_of_length_eq_zero h0
        subst hn
        clear hk hE hL h0 hx
        go_enter Tryz.func30, Tryz.ntmps30
        go_wp2_with fail
        refine HV.out.mono ?_
        rintro e w1 ⟨rfl, hb1⟩
        rw [HK.out]
        go_wp2_with fail
        go_ret
        exact ⟨rfl, hb1⟩
      · have HT := Lib.hid (textS_body L hk (fun h => h0 (by rw [h]; rfl)))
        have HBL := Lib.hid (body_len L hL hk)
        have HE := Lib.hid hE
        have HX := Lib.hid hx
        have HL := Lib.hid hL
        have hl1 : L.length ≤ 1000 := hL.1
        have h0' : ((L.length : Int) == 0) = false := by rw [beq_eq_false_iff_ne]; omega
        clear hk hE hx hL
        go_enter Tryz.func30, Tryz.ntmps30
        go_wp2_with fail
        refine HV.out.mono ?_
        rintro e w1 ⟨rfl, hb1⟩
        rw [HK.out]
        have HB1 := Lib.hid hb1
        clear hb1
        go_wp2_with fail
        go_loopw [3, 14] (fun v i wr => ∃ j : Nat, i = .int .i64 (j : Int) ∧ j ≤ L.length ∧ v = .string (S (bodyS (L.take j))) ∧ Hid (Below w.heap.size w wr)) (fun _ i _ => L.length - (intOf i).toNat)
        case atStart => exact ⟨0, rfl, Nat.zero_le _, rfl, HB1⟩
        case round =>
          obtain ⟨j, rfl, hj, rfl, HW⟩ := hrel
          by_cases hlt : j < L.length
          · have hx0 := sl_cells hB HX.out HW.out j hlt
            have hok := okS_of L HK.out j hlt
            have hlj := HL.out.2 _ (List.getElem_mem hlt)
            have hacc := HBL.out j hj
            have HN := Lib.hid (body_snoc L j hlt)
            obtain ⟨⟨lj, ij⟩, hxj⟩ : ∃ x, L[j] = x := ⟨_, rfl⟩
            rw [hxj] at hx0 hok hlj HN
            obtain ⟨c0, c1⟩ := hx0
            clear hxj
            simp only at c0 c1 hlj
            obtain ⟨acc, ha⟩ : ∃ a, bodyS (L.take j) = a := ⟨_, rfl⟩
            rw [ha] at hacc HN ⊢
            clear ha
            by_cases hl0 : lj = []
            · subst hl0
              obtain ⟨n, rfl, hn⟩ := okS_idx hok
              rw [bit_idx] at HN
              have hd := (dec_len n 7 (by omega) (by omega)).2
              obtain ⟨dg, hdg⟩ : ∃ d, Lib.decDigits n = d := ⟨_, rfl⟩
              have HD := Lib.hid hdg
              rw [hdg] at HN hd
              clear hdg hok hlj
              go_wp2_with fail
              refine (Itoa_any n hn _ (HE.out.below (HW.out.alloc HW.out.size _))).mono ?_
              rintro e w2 ⟨rfl, hb2⟩
              have HB2 := Lib.hid ((HW.out.alloc HW.out.size _).trans (hb2.mono (by simp; exact Nat.le_succ_of_le HW.out.size)))
              clear hb2
              rw [HD.out]
              go_wp2_with fail
              go_roundw
              case rel => exact ⟨j + 1, rfl, hlt, by rw [HN.out]; simp [ct], HB2⟩
              case measure => simp [intOf]; omega
            · have he : lj.isEmpty = false := by cases lj with
                | nil => exact absurd rfl hl0
                | cons => rfl
              rw [bit_lab lj ij _ hl0] at HN
              have hq := quote_len lj
              have hll : (labelL lj).length ≤ 4002 := by unfold labelL; split <;> omega
              obtain ⟨ll, hll0⟩ : ∃ d, labelL lj = d := ⟨_, rfl⟩
              have HLL := Lib.hid hll0
              rw [hll0] at HN hll
              clear hll0 hok hl0 hq
              rcases Nat.eq_zero_or_pos j with hj0 | hj0
              · subst hj0
                simp only [Nat.zero_mul, Nat.add_zero] at c0 c1
                go_wp2_with fail
                refine (Label_any lj (by omega) _).mono ?_
                rintro e w2 ⟨rfl, hb2⟩
                have HB2 := Lib.hid ((HW.out.alloc HW.out.size _).trans (hb2.mono (by simp; exact Nat.le_succ_of_le HW.out.size)))
                clear hb2
                rw [HLL.out]
                go_wp2_with fail
                go_roundw
                case rel => exact ⟨1, rfl, hlt, by have h := HN.out; simp only [Nat.zero_add] at h; rw [h]; simp [ct], HB2⟩
                case measure => simp [intOf]; omega
              · have hj1 : ((j : Int) == 0) = false := by rw [beq_eq_false_iff_ne]; omega
                have hj2 : (j == 0) = false := by rw [beq_eq_false_iff_ne]; omega
                rw [hj2] at HN
                go_wp2_with fail
                refine (Label_any lj (by omega) _).mono ?_
                rintro e w2 ⟨rfl, hb2⟩
                have HB2 := Lib.hid ((HW.out.alloc HW.out.size _).trans (hb2.mono (by simp; exact Nat.le_succ_of_le HW.out.size)))
                clear hb2
                rw [HLL.out]
                go_wp2_with fail
                go_roundw
                case rel => exact ⟨j + 1, rfl, hlt, by rw [HN.out]; simp [ct], HB2⟩
                case measure => simp [intOf]; omega
          · go_wp2_with fail
            go_ret
            exact ⟨ret_S (by rw [HT.out, List.take_of_length_le (by omega)]), HW.out⟩
set_option maxHeartbeats 2000000 in
theorem refText_any (v : Value) (L : List Stp) (w : World) (hv : SlS w v L) (hL : LimS L) : Calls Tryz.prog 48 #[v] w fun e w' => e = .returned (.string (S (textS L))) ∧ Below w.heap.size w w' := by
  rcases bool_two (okL L) with hk | hk
  · have HK := Lib.hid hk
    have HT := Lib.hid (textS_bad L hk)
    have HV := Lib.hid (refValid_any v L w hv (by have := hL.1; omega))
    clear hk hL hv
    go_enter Tryz.func48, Tryz.ntmps48
    go_wp2_with fail
    refine HV.out.mono ?_
    rintro e w1 ⟨rfl, hb1⟩
    rw [HK.out]
    go_wp2_with fail
    go_ret
    exact ⟨ret_S HT.out.symm, hb1⟩
  · have HK := Lib.hid hk
    have HV := Lib.hid (refValid_any v L w hv (by have := hL.1; omega))
    rcases hv with ⟨⟨p0, cap0, rfl⟩, rfl⟩ | ⟨B, o, cap, rfl, hc, hB, hx⟩
    · clear hk hL
      go_enter Tryz.func48, Tryz.ntmps48
      go_wp2_with fail
      refine HV.out.mono ?_
      rintro e w1 ⟨rfl, hb1⟩
      rw [HK.out]
      go_wp2_with fail
      go_ret
      exact ⟨rfl, hb1⟩
    · by_cases h0 : L.length = 0
      · have hn : L = [] := List.eq_nil_of_length_eq_zero h0
        subst hn
        clear hk hL h0 hx
        go_enter Tryz.func48, Tryz.ntmps48
        go_wp2_with fail
        refine HV.out.mono ?_
        rintro e w1 ⟨rfl, hb1⟩
        rw [HK.out]
        go_wp2_with fail
        go_ret
        exact ⟨rfl, hb1⟩
      · have HT := Lib.hid (textS_body L hk (fun h => h0 (by rw [h]; rfl)))
        have HBL := Lib.hid (body_len L hL hk)
        have HX := Lib.hid hx
        have HL := Lib.hid hL
        have hl1 : L.length ≤ 1000 := hL.1
        have h0' : ((L.length : Int) == 0) = false := by rw [beq_eq_false_iff_ne]; omega
        clear hk hx hL
        go_enter Tryz.func48, Tryz.ntmps48
        go_wp2_with fail
        refine HV.out.mono ?_
        rintro e w1 ⟨rfl, hb1⟩
        rw [HK.out]
        have HB1 := Lib.hid hb1
        clear hb1
        go_wp2_with fail
        go_loopw [3, 4] (fun v i wr => ∃ j : Nat, i = .int .i64 (j : Int) ∧ j ≤ L.length ∧ v = .string (S (bodyS (L.take j))) ∧ Hid (Below w.heap.size w wr)) (fun _ i _ => L.length - (intOf i).toNat)
        case atStart => exact ⟨0, rfl, Nat.zero_le _, rfl, HB1⟩
        case round =>
          obtain ⟨j, rfl, hj, rfl, HW⟩ := hrel
          by_cases hlt : j < L.length
          · have hx0 := sl_cells hB HX.out HW.out j hlt
            have hok := okS_of L HK.out j hlt
            have hlj := HL.out.2 _ (List.getElem_mem hlt)
            have hacc := HBL.out j hj
            have HN := Lib.hid (body_snoc L j hlt)
            obtain ⟨⟨lj, ij⟩, hxj⟩ : ∃ x, L[j] = x := ⟨_, rfl⟩
            rw [hxj] at hx0 hok hlj HN
            obtain ⟨c0, c1⟩ := hx0
            clear hxj
            simp only at c0 c1 hlj
            obtain ⟨acc, ha⟩ : ∃ a, bodyS (L.take j) = a := ⟨_, rfl⟩
            rw [ha] at hacc HN ⊢
            clear ha
            by_cases hl0 : lj = []
            · subst hl0
              obtain ⟨n, rfl, hn⟩ := okS_idx hok
              rw [bit_idx] at HN
              have hd := (dec_len n 7 (by omega) (by omega)).2
              obtain ⟨dg, hdg⟩ : ∃ d, Lib.decDigits n = d := ⟨_, rfl⟩
              have HD := Lib.hid hdg
              rw [hdg] at HN hd
              clear hdg hok hlj
              go_wp2_with fail
              refine (Digits_one n (by omega) _).mono ?_
              rintro e w2 ⟨rfl, hb2⟩
              have HB2 := Lib.hid (HW.out.trans (hb2.mono HW.out.size))
              clear hb2
              rw [HD.out]
              go_wp2_with fail
              go_roundw
              case rel => exact ⟨j + 1, rfl, hlt, by rw [HN.out]; simp [ct], HB2⟩
              case measure => simp [intOf]; omega
            · have he : lj.isEmpty = false := by cases lj with
                | nil => exact absurd rfl hl0
                | cons => rfl
              rw [bit_lab lj ij _ hl0] at HN
              have hq := quote_len lj
              have hll : (labelL lj).length ≤ 4002 := by unfold labelL; split <;> omega
              obtain ⟨ll, hll0⟩ : ∃ d, labelL lj = d := ⟨_, rfl⟩
              have HLL := Lib.hid hll0
              rw [hll0] at HN hll
              clear hll0 hok hl0 hq
              rcases Nat.eq_zero_or_pos j with hj0 | hj0
              · subst hj0
                simp only [Nat.zero_mul, Nat.add_zero] at c0 c1
                go_wp2_with fail
                refine (refLabel_any lj (by omega) _).mono ?_
                rintro e w2 ⟨rfl, hb2⟩
                have HB2 := Lib.hid (HW.out.trans (hb2.mono HW.out.size))
                clear hb2
                rw [HLL.out]
                go_wp2_with fail
                go_roundw
                case rel => exact ⟨1, rfl, hlt, by have h := HN.out; simp only [Nat.zero_add] at h; rw [h]; simp [ct], HB2⟩
                case measure => simp [intOf]; omega
              · have hj1 : ((j : Int) == 0) = false := by rw [beq_eq_false_iff_ne]; omega
                have hj2 : (j == 0) = false := by rw [beq_eq_false_iff_ne]; omega
                rw [hj2] at HN
                go_wp2_with fail
                refine (refLabel_any lj (by omega) _).mono ?_
                rintro e w2 ⟨rfl, hb2⟩
                have HB2 := Lib.hid (HW.out.trans (hb2.mono HW.out.size))
                clear hb2
                rw [HLL.out]
                go_wp2_with fail
                go_roundw
                case rel => exact ⟨j + 1, rfl, hlt, by rw [HN.out]; simp [ct], HB2⟩
                case measure => simp [intOf]; omega
          · go_wp2_with fail
            go_ret
            exact ⟨ret_S (by rw [HT.out, List.take_of_length_le (by omega)]), HW.out⟩
end
section
open Go.RowKit

/-! bounds of the readers -/
theorem runW_le (t : List UInt8) : runW t ≤ t.length := by unfold runW; exact List.Sublist.length_le (List.takeWhile_sublist _)
theorem wrongN_le (l : List UInt8) : wrongN l ≤ l.length := by
  unfold wrongN
  cases h : (List.range l.length).find? (badAt l) with
  | none => simp
  | some k => have := List.mem_of_find?_eq_some h; simp at this ⊢; omega
theorem identB_nil : identB [] = false := rfl
theorem nameP_le (t : List UInt8) : (nameP t).2.1 ≤ t.length + 1 ∧ ((nameP t).2.2 = true → 1 ≤ (nameP t).2.1 ∧ (nameP t).2.1 ≤ t.length) := by
  have h1 := runW_le t
  unfold nameP
  split
  · rename_i h
    refine ⟨by simp only; omega, fun _ => ⟨?_, h1⟩⟩
    rcases Nat.eq_zero_or_pos (runW t) with h0 | h0
    · rw [h0] at h; rw [List.take_zero, identB_nil] at h; cases h
    · exact h0
  · have := wrongN_le (t.take (runW t))
    rw [List.length_take] at this
    exact ⟨by simp only; omega, fun h => by cases h⟩
theorem qscan_le (t : List UInt8) : ∀ f i, i ≤ t.length → (qscan t f i).1 ≤ t.length + 1
  | 0, i, h => by rw [qscan]; simp only; omega
  | f + 1, i, h => by
    rw [qscan]
    split
    · simp only; omega
    · split
      · simp only; omega
      · split
        · have he := escP_le (sl t i t.length)
          have hs := sl_len t i t.length h (Nat.le_refl _)
          rw [hs] at he
          split
          · rename_i h1; exact qscan_le t f _ (by have := he.2 h1; omega)
          · simp only; omega
        · split
          · exact qscan_le t f _ (by omega)
          · simp only; omega
theorem labQ_le (t : List UInt8) (q : Nat × Bool) (hq : q.1 ≤ t.length + 1) : (labQ t q).2.1 ≤ t.length + 1 ∧ ((labQ t q).2.2 = true → 1 ≤ (labQ t q).2.1 ∧ (labQ t q).2.1 ≤ t.length) := by
  unfold labQ
  split
  · exact ⟨hq, fun h => by cases h⟩
  · split
    · exact ⟨by simp only; omega, fun h => by cases h⟩
    · split
      · exact ⟨hq, fun h => by cases h⟩
      · exact ⟨by simp only; omega, fun _ => ⟨by simp only; omega, by simp only; omega⟩⟩
theorem labP_le (t : List UInt8) : (labP t).2.1 ≤ t.length + 1 ∧ ((labP t).2.2 = true → 1 ≤ (labP t).2.1 ∧ (labP t).2.1 ≤ t.length) := by
  unfold labP
  split
  · exact nameP_le t
  · rename_i h
    have hl : 1 ≤ t.length := by cases t with
      | nil => exact absurd rfl h
      | cons => simp
    exact labQ_le t _ (qscan_le t _ _ hl)
theorem iscan_le (t : List UInt8) : ∀ f i, i ≤ t.length → (iscan t f i).1 ≤ t.length
  | 0, i, h => by rw [iscan]; exact h
  | f + 1, i, h => by
    rw [iscan]
    split
    · exact h
    · split
      · exact h
      · split
        · exact h
        · split
          · exact h
          · exact iscan_le t f _ (by omega)
theorem idxP_le (t : List UInt8) (h0 : 0 < t.length) : (idxP t).2.1 ≤ t.length + 1 ∧ ((idxP t).2.2 = true → 1 ≤ (idxP t).2.1 ∧ (idxP t).2.1 ≤ t.length) := by
  have hq := iscan_le t t.length 1 h0
  unfold idxP
  generalize iscan t t.length 1 = q at hq
  unfold idxQ
  split
  · exact ⟨by simp only; omega, fun h => by cases h⟩
  · split
    · exact ⟨by simp only; omega, fun h => by cases h⟩
    · rename_i h1
      simp at h1
      exact ⟨by simp only; omega, fun _ => ⟨by simp only; omega, by simp only; omega⟩⟩
/-- the reader at an offset: what it hands back and where it has begun -/
def rdAt (s : List UInt8) (a : Nat) (L : List Stp) : (Stp × Nat × Bool) × Nat :=
  if decide (a < s.length) && isB (byt s a) 91 then (idxP (sl s a s.length), a) else if L.isEmpty then (labP (sl s a s.length), a) else (labP (sl s (a + 1) s.length), a + 1)
def pgo (s : List UInt8) : Nat → Nat → List Stp → List Stp × Nat × Nat
  | 0, _, L => (L, 0, 0)
  | f + 1, a, L =>
    if !decide (a < s.length) && !L.isEmpty then (L, 0, 0)
    else if !(decide (a < s.length) && isB (byt s a) 91) && (!L.isEmpty && !isB (byt s a) 46) then ([], 8, a)
    else if (rdAt s a L).1.2.2 then pgo s f ((rdAt s a L).2 + (rdAt s a L).1.2.1) (L ++ [(rdAt s a L).1.1]) else ([], 8, (rdAt s a L).2 + (rdAt s a L).1.2.1)
def parseP (s : List UInt8) : List Stp × Nat × Nat :=
  if 65536 < s.length then ([], 2, 0) else if s == [46] then ([], 0, 0) else if !s.isEmpty && isB (byt s 0) 46 then ([], 8, 1) else pgo s (s.length + 1) 0 []
/-! the list in memory -/
def flatC (L : List Stp) : List Value := L.flatMap fun x => [.string (S x.lab), .int .i64 x.idx]
theorem flat_snoc (L : List Stp) (x : Stp) : flatC (L ++ [x]) = flatC L ++ [.string (S x.lab), .int .i64 x.idx] := by unfold flatC; simp
theorem flatC_len (L : List Stp) : (flatC L).length = L.length * 2 := by
  induction L with
  | nil => rfl
  | cons x r ih => unfold flatC at *; simp [ih]; omega
theorem flat_get : ∀ (L : List Stp) (j : Nat) (x : Stp), L[j]? = some x → (flatC L)[j * 2]? = some (.string (S x.lab)) ∧ (flatC L)[j * 2 + 1]? = some (.int .i64 x.idx)
  | [], _, _, h => by simp at h
  | y :: r, 0, x, h => by simp at h; subst h; exact ⟨rfl, rfl⟩
  | y :: r, j + 1, x, h => by
    have := flat_get r j x (by simpa using h)
    rw [show (j + 1) * 2 = j * 2 + 2 by omega, show j * 2 + 2 + 1 = (j * 2 + 1) + 2 by omega]
    exact this
/-- the list's row after the fault's variable is written -/
theorem own_SlS {W : World} {base : Nat} {v : Value} {L : List Stp} (h : W.ownsRow base 44 2 v L.length (flatC L)) (W' : World) (hs : W.heap.size ≤ W'.heap.size) (hc : ∀ g o u, base ≤ g → W.cell? ⟨g, o, none⟩ = some u → W'.cell? ⟨g, o, none⟩ = some u) : SlS W' v L := by
  rcases h.2 with ⟨hv, h0⟩ | ⟨g, cap, cur, rfl, hb, hg, hcap, hm, hsp, ht⟩
  · exact .inl ⟨⟨_, _, hv⟩, List.eq_nil_of_length_eq_zero h0⟩
  · refine .inr ⟨g, 0, cap, rfl, hcap, Nat.lt_of_lt_of_le (Array.getElem?_eq_some_iff.1 hg).1 hs, fun j x hj => ?_⟩
    obtain ⟨h1, h2⟩ := flat_get L j x hj
    have k1 := h.cells (g := g) rfl _ _ h1
    have k2 := h.cells (g := g) rfl _ _ h2
    rw [Lib.add_plain, Nat.zero_add] at k1 k2
    rw [Nat.zero_add]
    exact ⟨hc _ _ _ hb k1, hc _ _ _ hb k2⟩
theorem set_keeps {W : World} {B base : Nat} (hB : B < base) (u0 u1 : Value) : ∀ g o u, base ≤ g → W.cell? ⟨g, o, none⟩ = some u → ((W.setCell ⟨B, 0, none⟩ u0).setCell ⟨B, 1, none⟩ u1).cell? ⟨g, o, none⟩ = some u := by
  intro g o u hg h
  rw [World.cell?_setCell_other _ _ _ _ (by intro e; injection e; omega), World.cell?_setCell_other _ _ _ _ (by intro e; injection e; omega)]
  exact h
/-- a slice of steps in memory, in a block from N on -/
def SlF (N : Nat) (W : World) (v : Value) (L : List Stp) : Prop :=
  ((∃ p cap, v = .slice p 0 cap) ∧ L = []) ∨ ∃ B o cap, v = .slice (some ⟨B, o, none⟩) L.length cap ∧ N ≤ B ∧ L.length ≤ cap ∧ B < W.heap.size ∧
    ∀ j x, L[j]? = some x → W.cell? ⟨B, o + j * 2, none⟩ = some (.string (S x.lab)) ∧ W.cell? ⟨B, o + j * 2 + 1, none⟩ = some (.int .i64 x.idx)
theorem SlF.sls {N : Nat} {W : World} {v : Value} {L : List Stp} (h : SlF N W v L) : SlS W v L := by
  rcases h with h | ⟨B, o, cap, h1, -, h2⟩
  · exact .inl h
  · exact .inr ⟨B, o, cap, h1, h2⟩
theorem own_SlF {N : Nat} {W : World} {base : Nat} {v : Value} {L : List Stp} (h : W.ownsRow base 44 2 v L.length (flatC L)) (hN : N ≤ base) (W' : World) (hs : W.heap.size ≤ W'.heap.size) (hc : ∀ g o u, base ≤ g → W.cell? ⟨g, o, none⟩ = some u → W'.cell? ⟨g, o, none⟩ = some u) : SlF N W' v L := by
  rcases own_SlS h W' hs hc with h1 | ⟨B, o, cap, rfl, h1⟩
  · exact .inl h1
  · refine .inr ⟨B, o, cap, rfl, ?_, h1⟩
    rcases h.2 with ⟨hv, h0⟩ | ⟨g, cap, cur, hv, hb, -⟩
    · injection hv with hv; cases hv
    · injection hv with hv; injection hv with hv; injection hv with hv; omega
def ParR (r : List Stp × Nat × Nat) (w : World) (e : Ending) (w' : World) : Prop :=
  ∃ v, e = .returned (.tuple #[v, .agg #[.int .i64 (r.2.1 : Int), .int .i64 (r.2.2 : Int)]]) ∧ SlF w.heap.size w' v r.1 ∧ Below w.heap.size w w'
theorem infoStp : (Tryz.prog.info? 44).map (fun i => (i.zero, i.size, i.bytes)) = some (some (.agg #[.string ⟨#[]⟩, .int .i64 0]), 2, 24) := by kernel_rfl
end
section
open Go.RowKit

theorem own_form {W : World} {base : Nat} {e : TypeId} {size : Nat} {v : Value} {n : Nat} {xs : List Value} (h : W.ownsRow base e size v n xs) : ∃ p cap, v = .slice p n cap := by
  rcases h.2 with ⟨hv, h0⟩ | ⟨g, cap, cur, hv, -⟩
  · exact ⟨none, 0, by rw [hv, h0]⟩
  · exact ⟨_, cap, hv⟩
set_option maxRecDepth 100000 in
set_option maxHeartbeats 16000000 in
theorem Parse_any (s : List UInt8) (hs : s.length ≤ 70000) (w : World) (hE : StOk w) : Calls Tryz.prog 53 #[.string (S s)] w (ParR (parseP s) w) := by
  obtain ⟨r, hr⟩ : ∃ r, parseP s = r := ⟨_, rfl⟩
  rw [hr]
  have HE := Lib.hid hE
  clear hE
  unfold parseP at hr
  by_cases hbig : 65536 < s.length
  · rw [if_pos hbig] at hr
    subst hr
    go_enter Tryz.func53, Tryz.ntmps53
    go_wp2_with fail
    exact bodyPost_ret (v := .tuple #[.slice none 0 0, .agg #[.int .i64 2, .int .i64 0]]) (by simp [results, Tryz.results53, go_sem]) rfl ⟨_, rfl, .inl ⟨⟨_, _, rfl⟩, rfl⟩, by go_grown⟩
  rw [if_neg hbig] at hr
  rcases (bool_two (s == [46])).symm with hd | hd
  · rw [if_pos hd] at hr
    subst hr
    go_enter Tryz.func53, Tryz.ntmps53
    go_wp2_with fail
    exact bodyPost_ret (v := .tuple #[.slice none 0 0, .agg #[.int .i64 0, .int .i64 0]]) (by simp [results, Tryz.results53, go_sem]) rfl ⟨_, rfl, .inl ⟨⟨_, _, rfl⟩, rfl⟩, by go_grown⟩
  rw [if_neg (by rw [hd]; decide)] at hr
  have hways : (s.isEmpty = true) ∨ (s.isEmpty = false ∧ 0 < s.length ∧ (((byt s 0).toNat : Int) == 46) = false) ∨ (s.isEmpty = false ∧ 0 < s.length ∧ (((byt s 0).toNat : Int) == 46) = true) := by
    cases s with
    | nil => exact .inl rfl
    | cons c t => rcases bool_two (((byt (c :: t) 0).toNat : Int) == 46) with h | h
                  · exact .inr (.inl ⟨rfl, by simp, h⟩)
                  · exact .inr (.inr ⟨rfl, by simp, h⟩)
  have hfin : ((s.isEmpty = true) ∨ (s.isEmpty = false ∧ 0 < s.length ∧ (((byt s 0).toNat : Int) == 46) = false)) → pgo s (s.length + 1) 0 [] = r := by
    intro h
    rw [if_neg (by rcases h with h | ⟨h, -, h'⟩
                   · rw [h]; simp
                   · rw [h, show isB (byt s 0) 46 = false from h']; simp)] at hr
    exact hr
  have g0 : decide ((65536 : Int) < (s.length : Int)) = false := by first | (simp; done) | (simp; omega)
  rcases hways with he | ⟨he, h0, h46⟩ | ⟨he, h0, h46⟩
  rotate_right
  · rw [if_pos (by rw [he, show isB (byt s 0) 46 = true from h46]; rfl)] at hr
    subst hr
    have hd' : (s != [46]) = true := by rw [bne, hd]; rfl
    go_enter Tryz.func53, Tryz.ntmps53
    go_wp2_with fail
    exact bodyPost_ret (v := .tuple #[.slice none 0 0, .agg #[.int .i64 8, .int .i64 1]]) (by simp [results, Tryz.results53, go_sem]) rfl ⟨_, rfl, .inl ⟨⟨_, _, rfl⟩, rfl⟩, by go_grown⟩
  · have hse : s = [] := by cases s with
      | nil => rfl
      | cons => cases he
    subst hse
    have hr2 : r = ([], 8, 0) := (hfin (.inl rfl)).symm.trans (by decide)
    subst hr2
    have HLB : Hid (labP [] = (noS, 0, false)) := Lib.hid (by decide)
    clear hfin hr
    go_enter Tryz.func53, Tryz.ntmps53
    go_wp2_with fail
    have hB0 := Blk.new w #[.int .i64 0, .int .i64 0] 29
    have hb0 : Below w.heap.size w (w.alloc (.cells #[.int .i64 0, .int .i64 0] 29)) := by go_grown
    generalize w.alloc (.cells #[.int .i64 0, .int .i64 0] 29) = W0 at hB0 hb0 ⊢
    go_loopw [4, 5] (fun v i wr => v = .slice none 0 0 ∧ i = .int .i64 0 ∧ wr = W0) (fun _ _ _ => 0)
    case atStart => exact ⟨rfl, rfl, rfl⟩
    case round =>
      obtain ⟨rfl, rfl, rfl⟩ := hrel
      go_wp2_with fail
      refine (label_any [] (by decide) _ (HE.out.below hb0)).mono ?_
      rintro e w1 ⟨rfl, hb1⟩
      rw [HLB.out]
      unfold rdv
      have B1 := hB0.below hb1
      have HW1 := Lib.hid (hb0.trans (hb1.mono hb0.size))
      have f0 := B1.frozen 0
      have f1 := B1.frozen 1
      have x0 := B1.cell 0
      have x1 := B1.cell 1
      have hlB := B1.lt
      simp at x0 x1
      clear hb1
      have hn1 : ¬ w.heap.size = w1.heap.size := by omega
      have hn2 : ¬ w1.heap.size = w.heap.size := by omega
      go_wp2_with fail
      exact bodyPost_ret (v := .tuple #[.slice none 0 0, .agg #[.int .i64 8, .int .i64 0]]) (by simp [results, Tryz.results53, go_sem, x0, x1, hlB]) rfl ⟨_, rfl, .inl ⟨⟨_, _, rfl⟩, rfl⟩, by first | exact ((HW1.out.setCell (Nat.le_refl _) _).setCell (Nat.le_refl _) _).alloc (by simp; omega) _ | exact ((HW1.out.alloc HW1.out.size _).setCell (Nat.le_refl _) _).setCell (Nat.le_refl _) _⟩
  · have HQ0 := Lib.hid (hfin (.inr ⟨he, h0, h46⟩))
    clear hfin hr
    obtain ⟨i0, hi, hz0, hz1, hz2⟩ := info_parts infoStp
    go_enter Tryz.func53, Tryz.ntmps53
    go_wp2_with fail
    have hB0 := Blk.new w #[.int .i64 0, .int .i64 0] 29
    have hb0 : Below w.heap.size w (w.alloc (.cells #[.int .i64 0, .int .i64 0] 29)) := by go_grown
    have hs0 : w.heap.size + 1 ≤ (w.alloc (.cells #[.int .i64 0, .int .i64 0] 29)).heap.size := by simp
    generalize w.alloc (.cells #[.int .i64 0, .int .i64 0] 29) = W0 at hB0 hb0 hs0 ⊢
    have HB0 := Lib.hid hB0
    have Hb0 := Lib.hid hb0
    go_loopg [4, 5] (s.length + 1) (fun f v i wr => ∃ (a : Nat) (L : List Stp), i = .int .i64 (a : Int) ∧ a ≤ s.length ∧ s.length + 1 ≤ a + f ∧ L.length ≤ a ∧ wr.ownsRow (w.heap.size + 1) 44 2 v L.length (flatC L) ∧ Hid (pgo s f a L = r ∧ Below (w.heap.size + 1) W0 wr))
    case atStart => exact ⟨0, [], rfl, Nat.zero_le _, by omega, Nat.le_refl _, World.ownsRow_nil _ _ _ _, Lib.hid ⟨HQ0.out, Below.refl _ _⟩⟩
    case round =>
      clear hB0 hb0 HQ0
      obtain ⟨a, L, rfl, ha, hf0, hLa, hown, HQ⟩ := hrel
      obtain ⟨f, hf⟩ : ∃ f, gk = f + 1 := ⟨gk - 1, by omega⟩
      have HBB := Lib.hid HQ.out.2
      have BN := HB0.out.underB HQ.out.2 (Nat.lt_succ_self _)
      have HW := Lib.hid (Hb0.out.trans (HQ.out.2.mono (Nat.le_succ _)))
      have hsz : w.heap.size + 1 ≤ wr.heap.size := Nat.le_trans hs0 HQ.out.2.size
      have BNH := Lib.hid BN
      have hqq := HQ.out.1
      rw [hf, pgo] at hqq
      clear HQ
      have f0 := BN.frozen 0
      have f1 := BN.frozen 1
      have x0 := BN.cell 0
      have x1 := BN.cell 1
      simp at x0 x1
      clear BN
      have a0 : (0 : Int) ≤ (a : Int) := by omega
      have a1 : (a : Int) ≤ (s.length : Int) := by omega
      obtain ⟨vp, vc, rfl⟩ := own_form hown
      by_cases hL : L = []
      · subst hL
        simp only [List.isEmpty_nil, Bool.not_true, Bool.and_false, Bool.false_and, Bool.false_eq_true, if_false] at hqq
        by_cases hlt : a < s.length
        · have a2 : (a : Int) < (s.length : Int) := by omega
          rcases (bool_two (isB (byt s a) 91)).symm with h91 | h91
          · have e91 : (((byt s a).toNat : Int) == 91) = true := h91
            unfold rdAt at hqq
            simp only [decide_eq_true hlt, h91, Bool.and_self, if_true] at hqq
            clear h91
            have hle := idxP_le (sl s a s.length) (by rw [sl_len s a s.length (by omega) (Nat.le_refl _)]; omega)
            obtain ⟨⟨⟨xl, xi⟩, xn, xo⟩, hrd⟩ : ∃ x, idxP (sl s (a) s.length) = x := ⟨_, rfl⟩
            have HRD := Lib.hid hrd
            rw [hrd] at hqq hle
            simp only at hqq hle
            have HQQ := Lib.hid hqq
            have hsl : (sl s (a) s.length).length = s.length - (a) := sl_len s (a) s.length (by omega) (Nat.le_refl _)
            rw [hsl] at hle
            have hsl2 : (sl s (a) s.length).length ≤ 100000 := by omega
            clear hqq hrd
            go_wp2_with fail
            refine (index_any _ hsl2 (by rw [hsl]; omega) _).mono ?_
            rintro e w1 ⟨rfl, hb1⟩
            rw [HRD.out]
            unfold rdv
            have B1 := BNH.out.below hb1
            have HW1 := Lib.hid (HW.out.trans (hb1.mono HW.out.size))
            have HB1 := Lib.hid (HBB.out.trans (hb1.mono hsz))
            have own1 := own_under hown hb1
            have hsz1 : w.heap.size + 1 ≤ w1.heap.size := Nat.le_trans hsz hb1.size
            clear hb1 x0 x1 f0 f1 hown
            have hlB := B1.lt
            have f0 := B1.frozen 0
            have f1 := B1.frozen 1
            have x0 := B1.cell 0
            have x1 := B1.cell 1
            simp at x0 x1
            rcases bool_two xo with rfl | rfl
            · have hq := HQQ.out
              simp only [Bool.false_eq_true, if_false] at hq
              subst hq
              have hn : xn ≤ s.length + 1 := by omega
              have hn1 : ¬ w.heap.size = w1.heap.size := by omega
              have hn2 : ¬ w1.heap.size = w.heap.size := by omega
              go_wp2_with fail
              exact bodyPost_ret (v := .tuple #[.slice none 0 0, .agg #[.int .i64 8, .int .i64 (((a) + xn : Nat) : Int)]]) (by simp [results, Tryz.results53, go_sem, x0, x1, hlB]) rfl ⟨_, rfl, .inl ⟨⟨_, _, rfl⟩, rfl⟩, by first | exact ((HW1.out.setCell (Nat.le_refl _) _).setCell (Nat.le_refl _) _).alloc (by simp; omega) _ | exact ((HW1.out.alloc HW1.out.size _).setCell (Nat.le_refl _) _).setCell (Nat.le_refl _) _⟩
            · have hq := HQQ.out
              simp only [if_true] at hq
              have HQ4 := Lib.hid hq
              have hn := hle.2 rfl
              clear hq HQQ
              go_wp2_with (at_builtin; refine wpList_append_own _ rfl _ _ 40 rfl (w.heap.size + 1) 44 i0 (.agg #[.string ⟨#[]⟩, .int .i64 0]) 2 24 Tryz.underlying40 hi hz0 hz1 hz2 rfl (by decide) _ _ _ rfl ((own1.alloc _).alloc _) ⟨w1.heap.size + 1, 0, none⟩ 1 1 [.string (S xl), .int .i64 xi] rfl rfl (by have h := cell_two_new (w1.alloc (.cells #[.string (S xl), .int .i64 xi] 44)) (.string (S xl)) (.int .i64 xi) 44; simpa using h) (by simp [Value.oneCell']) (by unfold maxLen; omega) (by omega) (by simp; omega) ?_; intro v' w2 hown2 hgrow _)
              have HB2 := Lib.hid (own_below1 (HB1.out.alloc hsz1 _) (own1.alloc _) hgrow (by simp; omega))
              have hown3 : w2.ownsRow (w.heap.size + 1) 44 2 v' (([] : List Stp) ++ [(⟨xl, xi⟩ : Stp)]).length (flatC (([] : List Stp) ++ [(⟨xl, xi⟩ : Stp)])) := by rw [flat_snoc, List.length_append]; exact hown2
              clear hgrow own1 x0 x1 f0 f1
              go_wp2_with fail
              go_roundg f
              case measure => omega
              case rel => exact ⟨(a) + xn, ([] : List Stp) ++ [(⟨xl, xi⟩ : Stp)], rfl, by omega, by omega, by simp; omega, hown3, Lib.hid ⟨HQ4.out, HB2.out⟩⟩
          · have e91 : (((byt s a).toNat : Int) == 91) = false := h91
            unfold rdAt at hqq
            simp only [decide_eq_true hlt, h91, Bool.and_false, Bool.false_eq_true, if_false, List.isEmpty_nil, if_true] at hqq
            clear h91
            have hle := labP_le (sl s a s.length)
            obtain ⟨⟨⟨xl, xi⟩, xn, xo⟩, hrd⟩ : ∃ x, labP (sl s (a) s.length) = x := ⟨_, rfl⟩
            have HRD := Lib.hid hrd
            rw [hrd] at hqq hle
            simp only at hqq hle
            have HQQ := Lib.hid hqq
            have hsl : (sl s (a) s.length).length = s.length - (a) := sl_len s (a) s.length (by omega) (Nat.le_refl _)
            rw [hsl] at hle
            have hsl2 : (sl s (a) s.length).length ≤ 100000 := by omega
            clear hqq hrd
            go_wp2_with fail
            refine (label_any _ hsl2 _ (HE.out.below HW.out)).mono ?_
            rintro e w1 ⟨rfl, hb1⟩
            rw [HRD.out]
            unfold rdv
            have B1 := BNH.out.below hb1
            have HW1 := Lib.hid (HW.out.trans (hb1.mono HW.out.size))
            have HB1 := Lib.hid (HBB.out.trans (hb1.mono hsz))
            have own1 := own_under hown hb1
            have hsz1 : w.heap.size + 1 ≤ w1.heap.size := Nat.le_trans hsz hb1.size
            clear hb1 x0 x1 f0 f1 hown
            have hlB := B1.lt
            have f0 := B1.frozen 0
            have f1 := B1.frozen 1
            have x0 := B1.cell 0
            have x1 := B1.cell 1
            simp at x0 x1
            rcases bool_two xo with rfl | rfl
            · have hq := HQQ.out
              simp only [Bool.false_eq_true, if_false] at hq
              subst hq
              have hn : xn ≤ s.length + 1 := by omega
              have hn1 : ¬ w.heap.size = w1.heap.size := by omega
              have hn2 : ¬ w1.heap.size = w.heap.size := by omega
              go_wp2_with fail
              exact bodyPost_ret (v := .tuple #[.slice none 0 0, .agg #[.int .i64 8, .int .i64 (((a) + xn : Nat) : Int)]]) (by simp [results, Tryz.results53, go_sem, x0, x1, hlB]) rfl ⟨_, rfl, .inl ⟨⟨_, _, rfl⟩, rfl⟩, by first | exact ((HW1.out.setCell (Nat.le_refl _) _).setCell (Nat.le_refl _) _).alloc (by simp; omega) _ | exact ((HW1.out.alloc HW1.out.size _).setCell (Nat.le_refl _) _).setCell (Nat.le_refl _) _⟩
            · have hq := HQQ.out
              simp only [if_true] at hq
              have HQ4 := Lib.hid hq
              have hn := hle.2 rfl
              clear hq HQQ
              go_wp2_with (at_builtin; refine wpList_append_own _ rfl _ _ 40 rfl (w.heap.size + 1) 44 i0 (.agg #[.string ⟨#[]⟩, .int .i64 0]) 2 24 Tryz.underlying40 hi hz0 hz1 hz2 rfl (by decide) _ _ _ rfl ((own1.alloc _).alloc _) ⟨w1.heap.size + 1, 0, none⟩ 1 1 [.string (S xl), .int .i64 xi] rfl rfl (by have h := cell_two_new (w1.alloc (.cells #[.string (S xl), .int .i64 xi] 44)) (.string (S xl)) (.int .i64 xi) 44; simpa using h) (by simp [Value.oneCell']) (by unfold maxLen; omega) (by omega) (by simp; omega) ?_; intro v' w2 hown2 hgrow _)
              have HB2 := Lib.hid (own_below1 (HB1.out.alloc hsz1 _) (own1.alloc _) hgrow (by simp; omega))
              have hown3 : w2.ownsRow (w.heap.size + 1) 44 2 v' (([] : List Stp) ++ [(⟨xl, xi⟩ : Stp)]).length (flatC (([] : List Stp) ++ [(⟨xl, xi⟩ : Stp)])) := by rw [flat_snoc, List.length_append]; exact hown2
              clear hgrow own1 x0 x1 f0 f1
              go_wp2_with fail
              go_roundg f
              case measure => omega
              case rel => exact ⟨(a) + xn, ([] : List Stp) ++ [(⟨xl, xi⟩ : Stp)], rfl, by omega, by omega, by simp; omega, hown3, Lib.hid ⟨HQ4.out, HB2.out⟩⟩
        · have hal : a = s.length := by omega
          subst hal
          have a3 : decide ((s.length : Int) < (s.length : Int)) = false := by first | (simp; done) | (simp; omega)
          have hsl0 : sl s s.length s.length = [] := by rw [sl_from]; simp
          have HLB : Hid (labP [] = (noS, 0, false)) := Lib.hid (by decide)
          unfold rdAt at hqq
          simp only [decide_eq_false hlt, Bool.false_and, Bool.false_eq_true, if_false, List.isEmpty_nil, if_true, hsl0, HLB.out, Nat.add_zero] at hqq
          subst hqq
          clear hown hlt
          go_wp2_with fail
          refine (label_any [] (by decide) _ (HE.out.below HW.out)).mono ?_
          rintro e w1 ⟨rfl, hb1⟩
          rw [HLB.out]
          unfold rdv
          have B1 := BNH.out.below hb1
          have HW1 := Lib.hid (HW.out.trans (hb1.mono HW.out.size))
          clear hb1 x0 x1 f0 f1
          have hlB := B1.lt
          have f0 := B1.frozen 0
          have f1 := B1.frozen 1
          have x0 := B1.cell 0
          have x1 := B1.cell 1
          simp at x0 x1
          have hn1 : ¬ w.heap.size = w1.heap.size := by omega
          have hn2 : ¬ w1.heap.size = w.heap.size := by omega
          go_wp2_with fail
          exact bodyPost_ret (v := .tuple #[.slice none 0 0, .agg #[.int .i64 8, .int .i64 ((s.length : Nat) : Int)]]) (by simp [results, Tryz.results53, go_sem, x0, x1, hlB]) rfl ⟨_, rfl, .inl ⟨⟨_, _, rfl⟩, rfl⟩, by first | exact ((HW1.out.setCell (Nat.le_refl _) _).setCell (Nat.le_refl _) _).alloc (by simp; omega) _ | exact ((HW1.out.alloc HW1.out.size _).setCell (Nat.le_refl _) _).setCell (Nat.le_refl _) _⟩
      · have hLe : L.isEmpty = false := by cases L with
          | nil => exact absurd rfl hL
          | cons => rfl
        have hLl : 0 < L.length := List.length_pos_iff.2 hL
        have l1 : ((L.length : Int) == 0) = false := by rw [beq_eq_false_iff_ne]; omega
        have l2 : decide ((0 : Int) < (L.length : Int)) = true := by first | (simp; done) | (simp; omega)
        simp only [hLe, Bool.not_false, Bool.and_true, Bool.true_and] at hqq
        by_cases hlt : a < s.length
        · have a2 : (a : Int) < (s.length : Int) := by omega
          simp only [decide_eq_true hlt, Bool.not_true, Bool.false_eq_true, if_false, Bool.true_and] at hqq
          rcases (bool_two (isB (byt s a) 91)).symm with h91 | h91
          · have e91 : (((byt s a).toNat : Int) == 91) = true := h91
            unfold rdAt at hqq
            simp only [decide_eq_true hlt, h91, Bool.and_self, Bool.not_true, Bool.false_and, Bool.false_eq_true, if_false, if_true] at hqq
            clear h91 hL
            have hle := idxP_le (sl s a s.length) (by rw [sl_len s a s.length (by omega) (Nat.le_refl _)]; omega)
            obtain ⟨⟨⟨xl, xi⟩, xn, xo⟩, hrd⟩ : ∃ x, idxP (sl s (a) s.length) = x := ⟨_, rfl⟩
            have HRD := Lib.hid hrd
            rw [hrd] at hqq hle
            simp only at hqq hle
            have HQQ := Lib.hid hqq
            have hsl : (sl s (a) s.length).length = s.length - (a) := sl_len s (a) s.length (by omega) (Nat.le_refl _)
            rw [hsl] at hle
            have hsl2 : (sl s (a) s.length).length ≤ 100000 := by omega
            clear hqq hrd
            go_wp2_with fail
            refine (index_any _ hsl2 (by rw [hsl]; omega) _).mono ?_
            rintro e w1 ⟨rfl, hb1⟩
            rw [HRD.out]
            unfold rdv
            have B1 := BNH.out.below hb1
            have HW1 := Lib.hid (HW.out.trans (hb1.mono HW.out.size))
            have HB1 := Lib.hid (HBB.out.trans (hb1.mono hsz))
            have own1 := own_under hown hb1
            have hsz1 : w.heap.size + 1 ≤ w1.heap.size := Nat.le_trans hsz hb1.size
            clear hb1 x0 x1 f0 f1 hown
            have hlB := B1.lt
            have f0 := B1.frozen 0
            have f1 := B1.frozen 1
            have x0 := B1.cell 0
            have x1 := B1.cell 1
            simp at x0 x1
            rcases bool_two xo with rfl | rfl
            · have hq := HQQ.out
              simp only [Bool.false_eq_true, if_false] at hq
              subst hq
              have hn : xn ≤ s.length + 1 := by omega
              have hn1 : ¬ w.heap.size = w1.heap.size := by omega
              have hn2 : ¬ w1.heap.size = w.heap.size := by omega
              go_wp2_with fail
              exact bodyPost_ret (v := .tuple #[.slice none 0 0, .agg #[.int .i64 8, .int .i64 (((a) + xn : Nat) : Int)]]) (by simp [results, Tryz.results53, go_sem, x0, x1, hlB]) rfl ⟨_, rfl, .inl ⟨⟨_, _, rfl⟩, rfl⟩, by first | exact ((HW1.out.setCell (Nat.le_refl _) _).setCell (Nat.le_refl _) _).alloc (by simp; omega) _ | exact ((HW1.out.alloc HW1.out.size _).setCell (Nat.le_refl _) _).setCell (Nat.le_refl _) _⟩
            · have hq := HQQ.out
              simp only [if_true] at hq
              have HQ4 := Lib.hid hq
              have hn := hle.2 rfl
              clear hq HQQ
              go_wp2_with (at_builtin; refine wpList_append_own _ rfl _ _ 40 rfl (w.heap.size + 1) 44 i0 (.agg #[.string ⟨#[]⟩, .int .i64 0]) 2 24 Tryz.underlying40 hi hz0 hz1 hz2 rfl (by decide) _ _ _ rfl ((own1.alloc _).alloc _) ⟨w1.heap.size + 1, 0, none⟩ 1 1 [.string (S xl), .int .i64 xi] rfl rfl (by have h := cell_two_new (w1.alloc (.cells #[.string (S xl), .int .i64 xi] 44)) (.string (S xl)) (.int .i64 xi) 44; simpa using h) (by simp [Value.oneCell']) (by unfold maxLen; omega) (by omega) (by simp; omega) ?_; intro v' w2 hown2 hgrow _)
              have HB2 := Lib.hid (own_below1 (HB1.out.alloc hsz1 _) (own1.alloc _) hgrow (by simp; omega))
              have hown3 : w2.ownsRow (w.heap.size + 1) 44 2 v' (L ++ [(⟨xl, xi⟩ : Stp)]).length (flatC (L ++ [(⟨xl, xi⟩ : Stp)])) := by rw [flat_snoc, List.length_append]; exact hown2
              clear hgrow own1 x0 x1 f0 f1
              go_wp2_with fail
              go_roundg f
              case measure => omega
              case rel => exact ⟨(a) + xn, L ++ [(⟨xl, xi⟩ : Stp)], rfl, by omega, by omega, by simp; omega, hown3, Lib.hid ⟨HQ4.out, HB2.out⟩⟩
          · have e91 : (((byt s a).toNat : Int) == 91) = false := h91
            rcases (bool_two (isB (byt s a) 46)).symm with h46 | h46
            · have e46 : (((byt s a).toNat : Int) == 46) = true := h46
              have e46' : (((byt s a).toNat : Int) != 46) = false := by rw [bne, e46]; rfl
              unfold rdAt at hqq
              simp only [decide_eq_true hlt, h91, h46, hLe, Bool.and_false, Bool.not_false, Bool.not_true, Bool.false_eq_true, if_false] at hqq
              clear h91 h46 hL
              have hle := labP_le (sl s (a + 1) s.length)
              obtain ⟨⟨⟨xl, xi⟩, xn, xo⟩, hrd⟩ : ∃ x, labP (sl s (a + 1) s.length) = x := ⟨_, rfl⟩
              have HRD := Lib.hid hrd
              rw [hrd] at hqq hle
              simp only at hqq hle
              have HQQ := Lib.hid hqq
              have hsl : (sl s (a + 1) s.length).length = s.length - (a + 1) := sl_len s (a + 1) s.length (by omega) (Nat.le_refl _)
              rw [hsl] at hle
              have hsl2 : (sl s (a + 1) s.length).length ≤ 100000 := by omega
              clear hqq hrd
              go_wp2_with fail
              refine (label_any _ hsl2 _ (HE.out.below HW.out)).mono ?_
              rintro e w1 ⟨rfl, hb1⟩
              rw [HRD.out]
              unfold rdv
              have B1 := BNH.out.below hb1
              have HW1 := Lib.hid (HW.out.trans (hb1.mono HW.out.size))
              have HB1 := Lib.hid (HBB.out.trans (hb1.mono hsz))
              have own1 := own_under hown hb1
              have hsz1 : w.heap.size + 1 ≤ w1.heap.size := Nat.le_trans hsz hb1.size
              clear hb1 x0 x1 f0 f1 hown
              have hlB := B1.lt
              have f0 := B1.frozen 0
              have f1 := B1.frozen 1
              have x0 := B1.cell 0
              have x1 := B1.cell 1
              simp at x0 x1
              rcases bool_two xo with rfl | rfl
              · have hq := HQQ.out
                simp only [Bool.false_eq_true, if_false] at hq
                subst hq
                have hn : xn ≤ s.length + 1 := by omega
                have hn1 : ¬ w.heap.size = w1.heap.size := by omega
                have hn2 : ¬ w1.heap.size = w.heap.size := by omega
                go_wp2_with fail
                exact bodyPost_ret (v := .tuple #[.slice none 0 0, .agg #[.int .i64 8, .int .i64 (((a + 1) + xn : Nat) : Int)]]) (by simp [results, Tryz.results53, go_sem, x0, x1, hlB]) rfl ⟨_, rfl, .inl ⟨⟨_, _, rfl⟩, rfl⟩, by first | exact ((HW1.out.setCell (Nat.le_refl _) _).setCell (Nat.le_refl _) _).alloc (by simp; omega) _ | exact ((HW1.out.alloc HW1.out.size _).setCell (Nat.le_refl _) _).setCell (Nat.le_refl _) _⟩
              · have hq := HQQ.out
                simp only [if_true] at hq
                have HQ4 := Lib.hid hq
                have hn := hle.2 rfl
                clear hq HQQ
                go_wp2_with (at_builtin; refine wpList_append_own _ rfl _ _ 40 rfl (w.heap.size + 1) 44 i0 (.agg #[.string ⟨#[]⟩, .int .i64 0]) 2 24 Tryz.underlying40 hi hz0 hz1 hz2 rfl (by decide) _ _ _ rfl ((own1.alloc _).alloc _) ⟨w1.heap.size + 1, 0, none⟩ 1 1 [.string (S xl), .int .i64 xi] rfl rfl (by have h := cell_two_new (w1.alloc (.cells #[.string (S xl), .int .i64 xi] 44)) (.string (S xl)) (.int .i64 xi) 44; simpa using h) (by simp [Value.oneCell']) (by unfold maxLen; omega) (by omega) (by simp; omega) ?_; intro v' w2 hown2 hgrow _)
                have HB2 := Lib.hid (own_below1 (HB1.out.alloc hsz1 _) (own1.alloc _) hgrow (by simp; omega))
                have hown3 : w2.ownsRow (w.heap.size + 1) 44 2 v' (L ++ [(⟨xl, xi⟩ : Stp)]).length (flatC (L ++ [(⟨xl, xi⟩ : Stp)])) := by rw [flat_snoc, List.length_append]; exact hown2
                clear hgrow own1 x0 x1 f0 f1
                go_wp2_with fail
                go_roundg f
                case measure => omega
                case rel => exact ⟨(a + 1) + xn, L ++ [(⟨xl, xi⟩ : Stp)], rfl, by omega, by omega, by simp; omega, hown3, Lib.hid ⟨HQ4.out, HB2.out⟩⟩
            · have e46 : (((byt s a).toNat : Int) == 46) = false := h46
              have e46' : (((byt s a).toNat : Int) != 46) = true := by rw [bne, e46]; rfl
              simp only [h91, h46, Bool.not_false, Bool.and_self, if_true] at hqq
              subst hqq
              clear h91 h46 hL
              go_wp2_with fail
              exact bodyPost_ret (v := .tuple #[.slice none 0 0, .agg #[.int .i64 8, .int .i64 ((a : Nat) : Int)]]) (by simp [results, Tryz.results53, go_sem, x0, x1]) rfl ⟨_, rfl, .inl ⟨⟨_, _, rfl⟩, rfl⟩, (HW.out.setCell (Nat.le_refl _) _).setCell (Nat.le_refl _) _⟩
        · have a3 : decide ((a : Int) < (s.length : Int)) = false := by first | (simp; done) | (simp; omega)
          simp only [decide_eq_false hlt, Bool.not_false, if_true] at hqq
          subst hqq
          clear hL
          go_wp2_with fail
          exact bodyPost_ret (v := .tuple #[.slice vp L.length vc, .agg #[.int .i64 0, .int .i64 0]]) (by simp [results, Tryz.results53, go_sem, x0, x1]) rfl ⟨_, rfl, own_SlF hown (Nat.le_succ _) _ (by simp) (set_keeps (Nat.lt_succ_self _) _ _), (HW.out.setCell (Nat.le_refl _) _).setCell (Nat.le_refl _) _⟩
end
section
open Go.RowKit

theorem lvI_at : ∀ (its : List Dat) (o i : Nat) (h : i < its.length), lvI (its.take (i + 1)) o = lvI (its.take i) o ++ (lvD its[i]).map (fun p => ⟨[], ((o + i : Nat) : Int)⟩ :: p)
  | x :: r, o, 0, _ => by simp [lvI]
  | x :: r, o, i + 1, h => by
    have ih := lvI_at r (o + 1) i (by simpa using h)
    rw [List.take_succ_cons, List.take_succ_cons, lvI, lvI, ih, List.append_assoc, show o + 1 + i = o + (i + 1) by omega]; rfl
theorem lvM_at : ∀ (mem : List (List UInt8 × Dat)) (i : Nat) (h : i < mem.length), lvM (mem.take (i + 1)) = lvM (mem.take i) ++ (lvD mem[i].2).map (fun p => ⟨mem[i].1, 0⟩ :: p)
  | (l, x) :: r, 0, _ => by simp [lvM]
  | (l, x) :: r, i + 1, h => by
    have ih := lvM_at r i (by simpa using h)
    rw [List.take_succ_cons, List.take_succ_cons, lvM, lvM, ih, List.append_assoc]; rfl
/-- how many leaves -/
theorem lvI_len (its : List Dat) (h : ∀ x ∈ its, (lvD x).length ≤ trD x) : ∀ o, (lvI its o).length ≤ trI its := by
  induction its with
  | nil => intro o; simp [lvI]
  | cons x r ih =>
    intro o
    rw [lvI, List.length_append, List.length_map, trI]
    have := h x (List.mem_cons_self ..)
    have := ih (fun y hy => h y (List.mem_cons_of_mem _ hy)) (o + 1)
    omega
/-! what a call keeps: all but the variable's box and its row -/
structure Kps (W W' : World) (Bo : Nat) (v v' : Value) : Prop where
  size : W.heap.size ≤ W'.heap.size
  blk : ∀ k, k < W.heap.size → k ≠ Bo → some k ≠ v.ownBlock → W'.heap[k]? = W.heap[k]?
  own : v'.ownBlock = v.ownBlock ∨ ∃ b, v'.ownBlock = some b ∧ W.heap.size ≤ b
theorem Kps.refl (W : World) (Bo : Nat) (v : Value) : Kps W W Bo v v := ⟨Nat.le_refl _, fun _ _ _ _ => rfl, .inl rfl⟩
theorem Kps.trans {a b c : World} {Bo : Nat} {v v' v'' : Value} (h : Kps a b Bo v v') (k : Kps b c Bo v' v'') : Kps a c Bo v v'' := by
  refine ⟨Nat.le_trans h.size k.size, fun j hj h1 h2 => ?_, ?_⟩
  · refine (k.blk j (Nat.lt_of_lt_of_le hj h.size) h1 ?_).trans (h.blk j hj h1 h2)
    rcases h.own with e | ⟨b, e, hb⟩
    · rw [e]; exact h2
    · rw [e]; intro e; injection e; omega
  · rcases k.own with e | ⟨b, e, hb⟩
    · rw [e]; exact h.own
    · exact .inr ⟨b, e, Nat.le_trans h.size hb⟩
theorem Kps.below {W W' : World} (Bo : Nat) (v : Value) (h : Below W.heap.size W W') : Kps W W' Bo v v := ⟨h.size, fun k hk _ _ => h.block k hk, .inl rfl⟩
/-- the state of the walk to the leaves -/
structure LvS (N : Nat) (w : World) (Bo Bv : Nat) (v : Value) (T : List (List Stp × Value)) (W : World) : Prop where
  bo : Blk W Bo #[v] 68
  bv : Blk W Bv #[.func (.func 63) #[] #[.pointer (some ⟨Bo, 0, none⟩), .pointer (some ⟨Bv, 0, none⟩)]] 91
  own : W.ownsRow N 40 1 v T.length (T.map fun t => t.2)
  paths : ∀ t ∈ T, SlK W (fun B => N ≤ B ∧ some B ≠ v.ownBlock) t.2 t.1
  nw : N ≤ W.heap.size
  lo : Bo < N
  lv : Bv < N
  ne : Bo ≠ Bv
  wo : w.heap.size ≤ Bo
  wv : w.heap.size ≤ Bv
  bel : Below w.heap.size w W
theorem own_ge {W : World} {b : Nat} {e : TypeId} {s : Nat} {v : Value} {k : Nat} {xs : List Value} (h : W.ownsRow b e s v k xs) {B : Nat} (hB : v.ownBlock = some B) : b ≤ B ∧ B < W.heap.size := by
  rcases own_head h with ⟨rfl, -⟩ | ⟨g, cap, rfl, hb, -, hg, ek⟩
  · simp [Value.ownBlock] at hB
  · rw [ek] at hB; injection hB with hB; subst hB; exact ⟨hb, hg⟩
theorem LvS.below {N : Nat} {w : World} {Bo Bv : Nat} {v : Value} {T : List (List Stp × Value)} {W W' : World} (h : LvS N w Bo Bv v T W) (hb : Below W.heap.size W W') : LvS N w Bo Bv v T W' :=
  ⟨h.bo.below hb, h.bv.below hb, own_under h.own hb, fun t ht => (h.paths t ht).under hb, Nat.le_trans h.nw hb.size, h.lo, h.lv, h.ne, h.wo, h.wv, h.bel.trans (hb.mono h.bel.size)⟩
theorem LvS.new_ne {N : Nat} {w : World} {Bo Bv : Nat} {v : Value} {T : List (List Stp × Value)} {W : World} (h : LvS N w Bo Bv v T W) : some W.heap.size ≠ v.ownBlock := fun e => by
  have := (own_ge h.own e.symm).2
  omega
theorem LvS.bo_ne {N : Nat} {w : World} {Bo Bv : Nat} {v : Value} {T : List (List Stp × Value)} {W : World} (h : LvS N w Bo Bv v T W) : some Bo ≠ v.ownBlock := fun e => by
  have := (own_ge h.own e.symm).1
  have := h.lo; omega
/-- one more path -/
theorem LvS.push {N : Nat} {w : World} {Bo Bv : Nat} {v v' pv : Value} {T : List (List Stp × Value)} {W W' : World} {P : List Stp} (h : LvS N w Bo Bv v T W) (hp : SlK W (fun B => N ≤ B ∧ some B ≠ v.ownBlock) pv P)
    (ho : W'.ownsRow N 40 1 v' (T.length + 1) (T.map (fun t => t.2) ++ [pv])) (hg : W.grownBy W' v.ownBlock) (ha : v'.ownBlock = v.ownBlock ∨ ∃ b, v'.ownBlock = some b ∧ W.heap.size ≤ b) :
    LvS N w Bo Bv v' (T ++ [(P, pv)]) (W'.setCell ⟨Bo, 0, none⟩ v') ∧ Kps W (W'.setCell ⟨Bo, 0, none⟩ v') Bo v v' := by
  have ho2 : ∀ B, v.ownBlock = some B → N ≤ B := fun B hB => (own_ge h.own hB).1
  have hBo : some Bo ≠ v.ownBlock := fun e => by have := ho2 Bo e.symm; have := h.lo; omega
  have hBv : some Bv ≠ v.ownBlock := fun e => by have := ho2 Bv e.symm; have := h.lv; omega
  have kb : ∀ k, k < W.heap.size → k ≠ Bo → some k ≠ v.ownBlock → (W'.setCell ⟨Bo, 0, none⟩ v').heap[k]? = W.heap[k]? := by
    intro k hk h1 h2
    rw [← hg.block k hk h2]
    simp only [World.setCell, Array.getElem?_modify, if_neg (Ne.symm h1)]
  have kps : Kps W (W'.setCell ⟨Bo, 0, none⟩ v') Bo v v' := ⟨by simpa using hg.size, kb, ha⟩
  have hnew : ∀ B, N ≤ B ∧ some B ≠ v.ownBlock → B < W.heap.size → N ≤ B ∧ some B ≠ v'.ownBlock := by
    intro B hB hlt
    refine ⟨hB.1, ?_⟩
    rcases ha with e | ⟨b, e, hb⟩
    · rw [e]; exact hB.2
    · rw [e]; intro e; injection e; omega
  have keep : ∀ {q : Value} {L : List Stp}, SlK W (fun B => N ≤ B ∧ some B ≠ v.ownBlock) q L → SlK (W'.setCell ⟨Bo, 0, none⟩ v') (fun B => N ≤ B ∧ some B ≠ v'.ownBlock) q L := by
    intro q L hq
    refine hq.kept kps.size fun B hB hk => ⟨hnew B hk hB, fun o => ?_⟩
    exact World.cell?_of_block (kb B hB (by have := h.lo; omega) hk.2)
  refine ⟨⟨?_, ?_, ?_, ?_, Nat.le_trans h.nw kps.size, h.lo, h.lv, h.ne, h.wo, h.wv, ?_⟩, kps⟩
  · exact (h.bo.kept hg hBo).set 0 v'
  · exact (h.bv.kept hg hBv).set_other 0 v' h.ne
  · rw [List.length_append, List.map_append]
    refine ⟨ho.1, ?_⟩
    rcases ho.2 with hn | ⟨g, cap, cur, e, hb0, hg0, hr⟩
    · exact .inl hn
    · refine .inr ⟨g, cap, cur, e, hb0, ?_, hr⟩
      rw [← hg0]
      have : Bo ≠ g := by have := h.lo; omega
      simp only [World.setCell, Array.getElem?_modify, if_neg this]
  · intro t ht
    rcases List.mem_append.1 ht with ht | ht
    · exact keep (h.paths t ht)
    · rw [List.mem_singleton.1 ht]; exact keep hp
  · refine (h.bel.grown hg h.bel.size ?_).setCell h.wo _
    intro k hk
    have := ho2 k hk
    have := h.lo; have := h.wo
    omega
/-- what the closure hands back -/
def VisP (N : Nat) (w : World) (Bo Bv : Nat) (v : Value) (T : List (List Stp × Value)) (LL : List (List Stp)) (W : World) (e : Ending) (W' : World) : Prop :=
  e = .returned (.tuple #[]) ∧ ∃ v' T', LvS N w Bo Bv v' T' W' ∧ T'.map (fun t => t.1) = T.map (fun t => t.1) ++ LL ∧ Kps W W' Bo v v'
theorem infoStps : (Tryz.prog.info? 40).map (fun i => (i.zero, i.size, i.bytes)) = some (some (.slice none 0 0), 1, 24) := by kernel_rfl
theorem slk_form {W : World} {ok : Nat → Prop} {v : Value} {L : List Stp} (h : SlK W ok v L) : ∃ p cap, v = .slice p L.length cap := by
  obtain ⟨p, cap, B, o, e, -⟩ := h
  exact ⟨p, cap, e⟩
set_option maxRecDepth 100000 in
set_option maxHeartbeats 4000000 in
/-- the closure at a leaf -/
theorem visit_leaf {N : Nat} {w W : World} {Bo Bv : Nat} {v pv : Value} {T : List (List Stp × Value)} {P : List Stp} (d : Dat) (p q : Option Addr) (cap caq : Nat) (h : LvS N w Bo Bv v T W) (hp : SlK W (fun B => N ≤ B ∧ some B ≠ v.ownBlock) pv P) (hT : T.length ≤ 1000000) :
    Calls Tryz.prog 63 #[.agg #[.int .i64 d.k, .int .i64 d.n, .string (S d.s), .slice p 0 cap, .slice q 0 caq], pv, .pointer (some ⟨Bo, 0, none⟩), .pointer (some ⟨Bv, 0, none⟩)] W (VisP N w Bo Bv v T [P] W) := by
  obtain ⟨i0, hi, hz0, hz1, hz2⟩ := info_parts infoStps
  obtain ⟨pp, pc, rfl⟩ := slk_form hp
  obtain ⟨vp, vc, rfl⟩ := own_form5 h.own
  have HH := Lib.hid h
  have HP := Lib.hid hp
  have c0 := h.bo.cell 0
  have f0 := h.bo.frozen 0
  have hlt := h.bo.lt
  simp at c0
  clear h hp
  go_enter Tryz.func63, Tryz.ntmps63
  go_wp2_with (at_builtin; refine wpList_append_own_at _ rfl _ _ 68 rfl N 40 i0 (.slice none 0 0) 1 24 Tryz.underlying68 hi hz0 hz1 hz2 rfl (by decide) (.slice vp T.length vc) T.length (T.map fun t => t.2) rfl ((HH.out.own.alloc _).alloc _) ⟨W.heap.size + 1, 0, none⟩ 1 1 [.slice pp P.length pc] rfl rfl (cells_new_at (by simp) rfl) (by simp [Value.oneCell']) (by unfold maxLen; omega) (by omega) (by have := HH.out.nw; simp; omega) ?_; intro v' w2 hown2 hgrow _ hat; obtain ⟨vp2, vc2, rfl⟩ := own_form5 hown2; have d1 := ((HH.out.bo.alloc (.cells #[.int .i64 d.k, .int .i64 d.n, .string (S d.s), .slice p 0 cap, .slice q 0 caq] 26)).alloc (.cells #[.slice pp P.length pc] 40)).kept hgrow HH.out.bo_ne; have e0 := d1.cell 0; have e1 := d1.frozen 0; have e2 := d1.lt; simp at e0; have d2 := ((Blk.new W #[.int .i64 d.k, .int .i64 d.n, .string (S d.s), .slice p 0 cap, .slice q 0 caq] 26).alloc (.cells #[.slice pp P.length pc] 40)).kept hgrow HH.out.new_ne; have b3 := d2.cell 3; have b4 := d2.cell 4; simp at b3 b4; have b5 : W.heap.size < w2.heap.size := d2.lt; have HO := Lib.hid hown2; have HG := Lib.hid hgrow; have HAT := Lib.hid hat; clear hown2 hgrow hat d1 d2)
  refine wp_loop_rounds 1 ?_
  rw [rounds_succ]
  go_wp2_with fail
  refine wp_loop_rounds 1 ?_
  rw [rounds_succ]
  go_wp2_with fail
  go_end0
  refine ⟨rfl, .slice vp2 (T.length + 1) vc2, T ++ [(P, .slice pp P.length pc)], ?_⟩
  have hb : Below W.heap.size W ((W.alloc (.cells #[.int .i64 d.k, .int .i64 d.n, .string (S d.s), .slice p 0 cap, .slice q 0 caq] 26)).alloc (.cells #[.slice pp P.length pc] 40)) := ((Below.refl _ _).alloc (Nat.le_refl _) _).alloc (by simp) _
  have hp2 := (HP.out).under hb
  obtain ⟨q1, q2⟩ := (HH.out.below hb).push hp2 HO.out HG.out (by
    rcases HAT.out with e | e
    · exact .inl e
    · exact .inr ⟨_, e, Nat.le_refl _⟩)
  exact ⟨q1, by simp, (Kps.below Bo _ hb).trans q2⟩
end
section

/-- the entries turned by k -/
def rotL (L : List Ent) (k : Nat) : List Ent := L.drop k ++ L.take k
theorem rot_len (L : List Ent) (k : Nat) : (rotL L k).length = L.length := by unfold rotL; simp; omega
theorem rot_perm (L : List Ent) (k : Nat) : (rotL L k).Perm L := by
  have h := List.perm_append_comm (l₁ := L.drop k) (l₂ := L.take k)
  rw [List.take_append_drop] at h
  exact h
theorem rot_get (L : List Ent) (k i : Nat) (hk : k < L.length) (hi : i < L.length) (h : i < (rotL L k).length) : (rotL L k)[i] = L[(i + k) % L.length]'(Nat.mod_lt _ (by omega)) := by
  have e : ∀ (M : List Ent) (_ : M = L.drop k ++ L.take k) (h : i < M.length), M[i] = L[(i + k) % L.length]'(Nat.mod_lt _ (by omega)) := by
    intro M hM h
    subst hM
    by_cases h1 : i < L.length - k
    · rw [List.getElem_append_left (by rw [List.length_drop]; exact h1), List.getElem_drop]
      have : (i + k) % L.length = k + i := by rw [Nat.mod_eq_of_lt (by omega)]; omega
      simp only [this]
    · rw [List.getElem_append_right (by rw [List.length_drop]; omega), List.getElem_take]
      have : (i + k) % L.length = i - (L.length - k) := by
        rw [show i + k = (i - (L.length - k)) + L.length by omega, Nat.add_mod_right, Nat.mod_eq_of_lt (by omega)]
      simp only [List.length_drop, this]
  exact e _ rfl h
theorem rev_get (L : List Ent) (i : Nat) (hi : i < L.length) (h : i < L.reverse.length) : L.reverse[i] = L[L.length - 1 - i]'(by omega) := by simp
/-- the entries in another order -/
theorem order_law {d : Dat} (hc : chk d 1 = 0) (hb : lbD d = true) (hl : limD d = true) (k : Nat) : buildD (rotL (entsD d) k) = (d, 0) ∧ buildD (entsD d).reverse = (d, 0) :=
  ⟨build_flat hc hb hl (rot_perm _ k), build_flat hc hb hl (List.reverse_perm _)⟩
def nullD : Dat := .mk 1 0 [] [] []
def stepA : Stp := ⟨[97], 0⟩
/-- one more entry at or below another one -/
theorem clash_law {d : Dat} (hc : chk d 1 = 0) (hb : lbD d = true) (hl : limD d = true) (k : Nat) (hk : k < (entsD d).length) (deep : Bool) :
    buildD (entsD d ++ [((entsD d)[k].1 ++ (if deep then [stepA] else []), nullD)]) = (dat0, 6) := by
  have hkk := flat_kinds hc hb hl
  have hm := List.getElem_mem hk
  have ho : okL (entsD d)[k].1 = true := by
    unfold kindsB at hkk
    have := List.all_eq_true.1 hkk _ hm
    rw [Bool.and_eq_true] at this
    exact this.1
  refine build_clash hkk hm ⟨?_, show leafB nullD = true by decide⟩ (List.prefix_append ..)
  cases deep with
  | true =>
    show okL ((entsD d)[k].1 ++ [stepA]) = true
    unfold okL at *
    rw [List.all_append, ho]; decide
  | false =>
    show okL ((entsD d)[k].1 ++ []) = true
    rw [List.append_nil]; exact ho
theorem small_iff {d : Dat} (h : smallD d = true) : limD d = true ∧ trD d ≤ 40 := by
  refine ⟨small_lim h, ?_⟩
  unfold smallD at h
  rw [Bool.and_eq_true, decide_eq_true_eq] at h
  exact sz_small h.1
theorem lv_len : ∀ (n : Nat) (d : Dat), SizeOf.sizeOf d < n → (lvD d).length ≤ trD d
  | 0, _, h => absurd h (Nat.not_lt_zero _)
  | n + 1, d, hn => by
    rw [lvD_eq, trD_eq]
    have hI : ∀ (its : List Dat) (i : Nat), (∀ x ∈ its, SizeOf.sizeOf x < n) → (lvI its i).length ≤ trI its := by
      intro its
      induction its with
      | nil => intro i _; rw [lvI, trI]; exact Nat.le_refl _
      | cons x r ih =>
        intro i h
        have h1 := lv_len n x (h x (List.mem_cons_self ..))
        have h2 := ih (i + 1) fun y hy => h y (List.mem_cons_of_mem _ hy)
        rw [lvI, trI, List.length_append, List.length_map]
        omega
    have hM : ∀ (mem : List (List UInt8 × Dat)), (∀ p ∈ mem, SizeOf.sizeOf p.2 < n) → (lvM mem).length ≤ trM mem := by
      intro mem
      induction mem with
      | nil => intro _; rw [lvM, trM]; exact Nat.le_refl _
      | cons p r ih =>
        obtain ⟨l, x⟩ := p
        intro h
        have h1 := lv_len n x (h (l, x) (List.mem_cons_self ..))
        have h2 := ih fun y hy => h y (List.mem_cons_of_mem _ hy)
        rw [lvM, trM, List.length_append, List.length_map]
        omega
    have h1 := hI d.its 0 fun x hx => by have := dat_it hx; omega
    have h2 := hM d.mem fun p hp => by have := dat_mg hp; omega
    split
    · simp; omega
    · rw [List.length_append]; omega
theorem ents_len (d : Dat) : (entsD d).length ≤ trD d := by
  unfold entsD
  rw [List.length_map]
  exact lv_len _ d (Nat.lt_succ_self _)
/-- the paths to the leaves are as long as the data is deep -/
theorem path_len : ∀ (n : Nat) (d : Dat) (lv : Nat), SizeOf.sizeOf d < n → chk d lv = 0 → ∀ p ∈ lvD d, p.length + lv ≤ 16
  | 0, _, _, h, _ => absurd h (Nat.not_lt_zero _)
  | n + 1, d, lv, hn, hc => by
    obtain ⟨h1, -, h3, h4⟩ := chk_zero.1 hc
    rw [lvD_eq]
    have hI : ∀ (its : List Dat) (i : Nat), (∀ x ∈ its, SizeOf.sizeOf x < n ∧ chk x (lv + 1) = 0) → ∀ p ∈ lvI its i, p.length + lv ≤ 16 := by
      intro its
      induction its with
      | nil => intro i _ p hp; rw [lvI] at hp; simp at hp
      | cons x r ih =>
        intro i h p hp
        rw [lvI] at hp
        rcases List.mem_append.1 hp with hp | hp
        · obtain ⟨q, hq, rfl⟩ := List.mem_map.1 hp
          have := path_len n x (lv + 1) (h x (List.mem_cons_self ..)).1 (h x (List.mem_cons_self ..)).2 q hq
          simp; omega
        · exact ih (i + 1) (fun y hy => h y (List.mem_cons_of_mem _ hy)) p hp
    have hM : ∀ (mem : List (List UInt8 × Dat)), (∀ q ∈ mem, SizeOf.sizeOf q.2 < n ∧ chk q.2 (lv + 1) = 0) → ∀ p ∈ lvM mem, p.length + lv ≤ 16 := by
      intro mem
      induction mem with
      | nil => intro _ p hp; rw [lvM] at hp; simp at hp
      | cons q r ih =>
        obtain ⟨l, x⟩ := q
        intro h p hp
        rw [lvM] at hp
        rcases List.mem_append.1 hp with hp | hp
        · obtain ⟨q, hq, rfl⟩ := List.mem_map.1 hp
          have := path_len n x (lv + 1) (h (l, x) (List.mem_cons_self ..)).1 (h (l, x) (List.mem_cons_self ..)).2 q hq
          simp; omega
        · exact ih (fun y hy => h y (List.mem_cons_of_mem _ hy)) p hp
    split
    · intro p hp; simp at hp; rw [hp]; simp; exact h1
    · intro p hp
      rcases List.mem_append.1 hp with hp | hp
      · exact hI d.its 0 (fun x hx => ⟨by have := dat_it hx; omega, h3 x hx⟩) p hp
      · exact hM d.mem (fun q hq => ⟨by have := dat_mg hq; omega, h4 q hq⟩) p hp
end
section
open Go.RowKit

theorem lvI_app : ∀ (a b : List Dat) (o : Nat), lvI (a ++ b) o = lvI a o ++ lvI b (o + a.length)
  | [], b, o => by simp [lvI]
  | x :: a, b, o => by rw [List.cons_append, lvI, lvI, lvI_app a b (o + 1), List.append_assoc, List.length_cons, show o + 1 + a.length = o + (a.length + 1) by omega]
theorem lvM_app : ∀ (a b : List (List UInt8 × Dat)), lvM (a ++ b) = lvM a ++ lvM b
  | [], b => by simp [lvM]
  | (l, x) :: a, b => by rw [List.cons_append, lvM, lvM, lvM_app a b, List.append_assoc]
theorem lvI_take (its : List Dat) (i : Nat) : (lvI (its.take i) 0).length ≤ (lvI its 0).length := by
  have h := lvI_app (its.take i) (its.drop i) 0
  rw [List.take_append_drop] at h
  rw [h, List.length_append]; omega
theorem lvM_take (mem : List (List UInt8 × Dat)) (i : Nat) : (lvM (mem.take i)).length ≤ (lvM mem).length := by
  have h := lvM_app (mem.take i) (mem.drop i)
  rw [List.take_append_drop] at h
  rw [h, List.length_append]; omega
theorem flatC_oneC (L : List Stp) : ∀ u ∈ flatC L, u.oneCell' = true := by
  intro u hu
  obtain ⟨t, ht, hu⟩ := List.mem_flatMap.1 hu
  simp only [List.mem_cons, List.not_mem_nil, or_false] at hu
  rcases hu with rfl | rfl <;> rfl
theorem flatC_get : ∀ (T : List Stp) (j : Nat) (h : j < T.length) (i : Nat), i < 2 → (flatC T)[j * 2 + i]? = ([.string (S T[j].lab), .int .i64 T[j].idx] : List Value)[i]?
  | t :: r, 0, _, i, hi => by
    unfold flatC
    rw [List.flatMap_cons, Nat.zero_mul, Nat.zero_add, List.getElem?_append_left (by simp; omega)]; rfl
  | t :: r, j + 1, h, i, hi => by
    have := flatC_get r j (by simpa using h) i hi
    unfold flatC at *
    rw [List.flatMap_cons, List.getElem?_append_right (by simp; omega), show (j + 1) * 2 + i - ([.string (S t.lab), .int .i64 t.idx] : List Value).length = j * 2 + i by simp; omega, this]; rfl
theorem SlK.src {W : World} {ok : Nat → Prop} {p : Option Addr} {cap n : Nat} {L : List Stp} (h : SlK W ok (.slice p n cap) L) : n = L.length ∧ (p = none → n = 0) ∧ ∀ a, p = some a → ∀ j u, (flatC L)[j]? = some u → W.cell? (a.add j) = some u := by
  obtain ⟨p', cap', B, o, e, hp, hc⟩ := h
  injection e with e1 e2 e3
  subst e1; subst e2; subst e3
  refine ⟨rfl, fun h0 => ?_, fun a ha i u hu => ?_⟩
  · rcases Nat.eq_zero_or_pos L.length with h | h
    · exact h
    · obtain ⟨h1, -⟩ := hp h
      rw [h0] at h1; cases h1
  · have hi : i < L.length * 2 := by
      have := (List.getElem?_eq_some_iff.1 hu).1
      rw [flatC_len] at this; exact this
    have hj : i / 2 < L.length := by omega
    have hm : i % 2 < 2 := Nat.mod_lt _ (by decide)
    have e : i = i / 2 * 2 + i % 2 := by omega
    have hg := flatC_get L (i / 2) hj (i % 2) hm
    rw [← e, hu] at hg
    obtain ⟨h1, -, -, -⟩ := hp (by omega)
    rw [ha] at h1
    injection h1 with h1
    subst h1
    rw [Lib.add_plain, e]
    have q1 := hc (i / 2) hj
    generalize i % 2 = r at hg hm
    generalize i / 2 = k at *
    rw [← Nat.add_assoc]
    match r, hm, hg with
    | 0, _, hg => injection hg with hg; rw [hg]; exact q1.1
    | 1, _, hg => injection hg with hg; rw [hg]; exact q1.2
theorem own_less {W : World} {b b' : Nat} {e : TypeId} {s : Nat} {v : Value} {k : Nat} {xs : List Value} (h : W.ownsRow b e s v k xs) (hb : b' ≤ b) : W.ownsRow b' e s v k xs := by
  refine ⟨h.1, ?_⟩
  rcases h.2 with h | ⟨g, cap, cur, h1, h2, h3⟩
  · exact .inl h
  · exact .inr ⟨g, cap, cur, h1, Nat.le_trans hb h2, h3⟩
theorem own_SlK {W : World} {base : Nat} {v : Value} {L : List Stp} {ok : Nat → Prop} (h : W.ownsRow base 44 2 v L.length (flatC L)) (hok : ∀ B, base ≤ B → B < W.heap.size → v.ownBlock = some B → ok B) : SlK W ok v L := by
  rcases own_head h with ⟨rfl, h0⟩ | ⟨g, cap, rfl, hb, hc, hg, ek⟩
  · refine ⟨none, 0, 0, 0, by rw [h0], fun h => by omega, fun j h => by omega⟩
  · refine ⟨_, cap, g, 0, rfl, fun _ => ⟨rfl, hc, hg, hok g hb hg ek⟩, fun j h' => ?_⟩
    have c0 := h.cells (g := g) rfl (j * 2 + 0) _ (flatC_get L j h' 0 (by omega))
    have c1 := h.cells (g := g) rfl (j * 2 + 1) _ (flatC_get L j h' 1 (by omega))
    rw [Lib.add_plain, Nat.zero_add] at c0 c1
    rw [Nat.zero_add]
    exact ⟨c0, c1⟩
theorem below_al1 {N : Nat} {w W : World} (h : Below N w W) (hN : N ≤ w.heap.size) (o : Obj) : Below N w (W.alloc o) := h.alloc (Nat.le_trans hN h.size) o
theorem Kps.blk' {W W' : World} {Bo : Nat} {v v' : Value} (h : Kps W W' Bo v v') {B : Nat} {cs : Array Value} {t : TypeId} (hB : Blk W B cs t) (h1 : B ≠ Bo) (h2 : some B ≠ v.ownBlock) : Blk W' B cs t := (h.blk B hB.lt h1 h2).trans hB
theorem Kps.slk {W W' : World} {Bo N : Nat} {v v' pv : Value} {P : List Stp} (h : Kps W W' Bo v v') (hB : Bo < N) (hp : SlK W (fun B => N ≤ B ∧ some B ≠ v.ownBlock) pv P) : SlK W' (fun B => N ≤ B ∧ some B ≠ v'.ownBlock) pv P := by
  refine hp.kept h.size fun B hlt hk => ⟨⟨hk.1, ?_⟩, fun o => World.cell?_of_block (h.blk B hlt (by omega) hk.2)⟩
  rcases h.own with e | ⟨b, e, hb⟩
  · rw [e]; exact hk.2
  · rw [e]; intro e; injection e; omega
end
end Go.Proofs.YtoahmganodehkaaGreatDoor
