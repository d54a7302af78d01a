import Derived.LoopTactic
import Derived.Outline
import Derived.Test.YtoahmganodehkaaGreatDoorN01
import Derived.Test.YtoahmganodehkaaGreatDoorProg
import Derived.Test.YtoahmganodehkaaGreatDoorN04
import Derived.Lib.AtoiAll
import Derived.Test.YtoahmganodehkaaGreatDoorN02
import Derived.Laws.AppendOwn
namespace Go.Proofs.YtoahmganodehkaaGreatDoor
set_option linter.unusedSimpArgs false
set_option linter.unusedVariables false
section
open Go.RowKit
theorem digs_len (k : Nat) : ∀ n least, n < 10 ^ k → least ≤ k → (digs n least).length ≤ k := by
 induction k with
 | zero => intro n least h1 h2; rw [show n = 0 by simp at h1; exact h1, show least = 0 by omega, digs_nil]; simp
 | succ k ih =>
   intro n least h1 h2
   by_cases h : n = 0 ∧ least = 0
   · rw [h.1, h.2, digs_nil]; simp
   · rw [digs_more n least h, List.length_append]
     have := ih (n / 10) (least - 1) (by rw [Nat.pow_succ] at h1; omega) (by omega)
     simp; omega
set_option maxHeartbeats 400000 in
theorem Digits_any (n least : Nat) (hn : n ≤ 1000000000000000) (hl : least ≤ 20) (w : World) :
   Calls Tryz.prog 87 #[.int .i64 (n : Int), .int .i64 (least : Int)] w fun e w' => e = .returned (.string (S (digs n least))) ∧ Below w.heap.size w w' := by
 have hlen := digs_len 20 n least (by omega) hl
 have HLEN := Lib.hid hlen; clear hlen
 go_enter Tryz.func87, Tryz.ntmps87
 go_wp2_with fail
 go_loopw [0, 5] (fun n' s wr => ∃ (m : Nat) (l : List UInt8), n' = .int .i64 (m : Int) ∧ s = .string (S l) ∧ m ≤ 1000000000000000 ∧ Hid (digs n least = digs m (least - l.length) ++ l) ∧ Below w.heap.size w wr)
   (fun n' s _ => (intOf n').toNat + (least - strLen s))
 case atStart => exact ⟨n, [], rfl, rfl, hn, Lib.hid (by simp), Below.refl _ _⟩
 case round =>
   obtain ⟨m, l, rfl, rfl, hm, HD, hB⟩ := hrel
   have hlb : l.length ≤ 20 := by
     have h1 := HLEN.out; rw [HD.out, List.length_append] at h1; omega
   by_cases hstop : m = 0 ∧ least ≤ l.length
   · obtain ⟨rfl, hst⟩ := hstop
     have HF := Lib.hid (show digs n least = l by rw [HD.out, show least - l.length = 0 by omega, digs_nil]; rfl)
     go_wp2_with fail
     go_ret
     exact ⟨ret_S (by rw [HF.out]), hB⟩
   · obtain ⟨d, hd⟩ : ∃ d, m % 10 = d := ⟨_, rfl⟩
     obtain ⟨q, hq⟩ : ∃ q, m / 10 = q := ⟨_, rfl⟩
     have hdb : d < 10 := by omega
     have hqb : q ≤ m := by omega
     have HN := Lib.hid (show digs n least = digs q (least - (ct [dch d] l).length) ++ ct [dch d] l by
       rw [HD.out, digs_more m _ (by omega), hd, hq, ct_eq, List.append_assoc]
       simp only [List.length_append, List.length_cons, List.length_nil]
       rw [show least - (0 + 1 + l.length) = least - l.length - 1 by omega])
     have ed : (m : Int) % 10 = (d : Int) := by omega
     have eq : (m : Int) / 10 = (q : Int) := by omega
     have hmeas : q < m ∨ (m = 0 ∧ q = 0 ∧ l.length < least) := by omega
     obtain ⟨c, hc⟩ : ∃ c, dch d = c := ⟨_, rfl⟩
     have ec : 48 + (d : Int) = (c.toNat : Int) := by rw [← hc, dch_nat d hdb]; omega
     rw [hc] at HN
     have hcv := fun W => conv_one (P := Tryz.prog) W 138 9 5 5 c 1 Tryz.underlying138 Tryz.underlying5 Tryz.underlying9
     clear hc hd hq
     have hM := Lib.hid hmeas
     rcases hmeas with hlt | ⟨hm0, -, hls⟩
     · have hm1 : decide (0 < m) = true := by simp; omega
       clear hstop hlt
       go_wp2_with fail
       go_roundw
       case rel => exact ⟨q, ct [c] l, rfl, rfl, by omega, HN, hB.alloc hB.size _⟩
       case measure => have := hM.out; simp [intOf, strLen, S_size, ct_len]; omega
     · have hm1 : decide (0 < m) = false := by simp; omega
       clear hstop hm0
       go_wp2_with fail
       go_roundw
       case rel => exact ⟨q, ct [c] l, rfl, rfl, by omega, HN, hB.alloc hB.size _⟩
       case measure => have := hM.out; simp [intOf, strLen, S_size, ct_len]; omega
theorem Digits_one (n : Nat) (hn : n ≤ 1000000000000000) (w : World) :
   Calls Tryz.prog 87 #[.int .i64 (n : Int), .int .i64 1] w fun e w' => e = .returned (.string (S (Lib.decDigits n))) ∧ Below w.heap.size w w' := by
 have h := Digits_any n 1 hn (by decide) w
 rw [digs_one] at h; exact h
theorem Digits_four (n : Nat) (hn : n < 10000) (w : World) :
   Calls Tryz.prog 87 #[.int .i64 (n : Int), .int .i64 4] w fun e w' => e = .returned (.string (S (pad4 n))) ∧ Below w.heap.size w w' := by
 have h := Digits_any n 4 (by omega) (by decide) w
 rw [digs_four n hn] at h; exact h
end
section
open Go.RowKit
theorem valA_le (a : Nat) (l : List UInt8) : a ≤ valA a l := by
 rw [valA_eq]
 exact Nat.le_trans (Nat.le_mul_of_pos_right a (Nat.pow_pos (by decide))) (Nat.le_add_right _ _)
theorem uint10_digits (l : List UInt8) : ∀ a, (∀ c ∈ l, dgt c) → valA a l ≤ 100000000 → Lib.parseUint10 a l = .ok (valA a l) := by
 induction l with
 | nil => intro a _ _; rfl
 | cons c l ih =>
   intro a hd hv
   have hc := hd c (List.mem_cons_self ..)
   rw [valA_cons] at hv ⊢
   have hm := valA_le (a * 10 + (c.toNat - 48)) l
   simp only [Lib.parseUint10]
   rw [if_pos (show 48 ≤ c.toNat ∧ c.toNat ≤ 57 from hc), if_neg (by omega), if_neg (by omega)]
   exact ih _ (fun x hx => hd x (List.mem_cons_of_mem _ hx)) hv
theorem parseMag_digits (l : List UInt8) (h : ∀ c ∈ l, dgt c) (hn : l ≠ []) (hv : valD l ≤ 100000000) : Lib.atoiAll l = .ok (valD l : Int) := by
 have hm : Lib.parseMag l = .ok (valD l) := by unfold Lib.parseMag; rw [if_neg hn]; exact uint10_digits l 0 h hv
 cases l with
 | nil => exact absurd rfl hn
 | cons c r =>
   have hc := h c (List.mem_cons_self ..)
   have n2 : ¬ c.toNat = 45 := by have := hc.1; omega
   have n3 : ¬ c.toNat = 43 := by have := hc.1; omega
   unfold Lib.atoiAll
   simp only [n3, n2, or_self, if_false]
   rw [hm]
   simp only [not_false_eq_true, true_and, false_and, if_false]
   rw [if_neg (by omega)]
theorem AtoiD_any (l : List UInt8) (hl : l.length ≤ 1000000) (h : ∀ c ∈ l, dgt c) (hn : l ≠ []) (hv : valD l ≤ 100000000) (w : World) : Calls Tryz.prog 137 #[.string (S l)] w fun e w' => e = .returned (.tuple #[.int .i64 (valD l : Int), .nilIface]) ∧ Below w.heap.size w w' := by
 refine (Tryz.strconv_Atoi_ok (S l) (by show l.length ≤ _; omega) _ (parseMag_digits l h hn hv) w).mono ?_
 rintro e w' ⟨rfl, hw⟩
 refine ⟨rfl, ?_⟩
 rcases hw with rfl | ⟨t, rfl⟩
 · exact Below.refl _ _
 · exact Go.Joins.below_bytesWorld _ _ _ _ (Nat.le_refl _)
def digB (c : UInt8) : Bool := decide (48 ≤ c.toNat) && decide (c.toNat ≤ 57)
theorem digB_iff (c : UInt8) : digB c = true ↔ dgt c := by unfold digB dgt; simp
def iscan (t : List UInt8) : Nat → Nat → Nat × Bool
 | 0, i => (i, true)
 | f + 1, i =>
   if t.length ≤ i then (i, true) else if digB (byt t i) = false then (i, true)
   else if decide (1 < i) && isB (byt t 1) 48 then (i, false)
   else if 1000000 < valD (sl t 1 (i + 1)) then (i, false) else iscan t f (i + 1)
def idxQ (t : List UInt8) (q : Nat × Bool) : Stp × Nat × Bool :=
 if q.2 = false then (noS, q.1, false) else if q.1 == 1 || decide (t.length ≤ q.1) || !isB (byt t q.1) 93 then (noS, q.1, false) else (⟨[], (valD (sl t 1 q.1) : Int)⟩, q.1 + 1, true)
def idxP (t : List UInt8) : Stp × Nat × Bool := idxQ t (iscan t t.length 1)
theorem sl_snoc (t : List UInt8) (i : Nat) (h1 : 1 ≤ i) (h : i < t.length) : sl t 1 (i + 1) = sl t 1 i ++ [byt t i] := by
 have hk : i - 1 < (t.drop 1).length := by rw [List.length_drop]; omega
 unfold sl
 rw [show i + 1 - 1 = (i - 1) + 1 by omega, List.take_succ_eq_append_getElem hk, byt_get t i h]
 congr 2
 rw [List.getElem_drop]
 congr 1; omega
theorem valD_snoc (d : List UInt8) (c : UInt8) : valD (d ++ [c]) = valD d * 10 + (c.toNat - 48) := by
 rw [valD_app, valD_one]; simp
set_option maxRecDepth 100000 in
set_option maxHeartbeats 4000000 in
theorem index_any (t : List UInt8) (ht : t.length ≤ 100000) (h0 : 0 < t.length) (w : World) : Calls Tryz.prog 96 #[.string (S t)] w fun e w' => e = .returned (rdv (idxP t)) ∧ Below w.heap.size w w' := by
 obtain ⟨r, hr⟩ : ∃ r, idxP t = r := ⟨_, rfl⟩
 rw [hr]
 obtain ⟨q, hq⟩ : ∃ q, iscan t t.length 1 = q := ⟨_, rfl⟩
 unfold idxP at hr
 rw [hq] at hr
 have HR := Lib.hid hr
 have HQ0 := Lib.hid hq
 clear hr hq
 go_enter Tryz.func96, Tryz.ntmps96
 go_wp2_with fail
 go_step3
 go_wp2_with fail
 go_step3
 go_wp2_with fail
 have hB0 := Blk.new w #[.string ⟨#[]⟩, .int .i64 0] 44
 have hb0 : Below w.heap.size w (w.alloc (.cells #[.string ⟨#[]⟩, .int .i64 0] 44)) := by go_grown
 generalize w.alloc (.cells #[.string ⟨#[]⟩, .int .i64 0] 44) = W0 at hB0 hb0 ⊢
 go_loopg [5] t.length (fun f v wr => ∃ i : Nat, v = .int .i64 (i : Int) ∧ 1 ≤ i ∧ i ≤ t.length ∧ t.length ≤ i + f ∧ Hid (iscan t f i = q ∧ Blk wr w.heap.size #[.string ⟨#[]⟩, .int .i64 0] 44 ∧ Below w.heap.size w wr ∧ (∀ c ∈ sl t 1 i, dgt c) ∧ valD (sl t 1 i) ≤ 1000000))
 case atStart => exact ⟨1, rfl, Nat.le_refl _, h0, by omega, Lib.hid ⟨HQ0.out, hB0, hb0, by simp [sl], by simp [sl, valD, valA]⟩⟩
 case round =>
   clear hB0 hb0 HQ0
   obtain ⟨i, rfl, hi1, hi2, hif, HQ⟩ := hrel
   have BN := HQ.out.2.1
   have f0 := BN.frozen 0
   have f1 := BN.frozen 1
   have x0 := BN.cell 0
   have x1 := BN.cell 1
   simp at x0 x1
   have HW := Lib.hid HQ.out.2.2.1
   have BNH := Lib.hid BN
   clear BN
   have i0 : (0 : Int) ≤ (i : Int) := by omega
   have i1 : (i : Int) ≤ (t.length : Int) := by omega
   by_cases hlt : i < t.length
   · obtain ⟨f, hf⟩ : ∃ f, gk = f + 1 := ⟨gk - 1, by omega⟩
     have hqq := HQ.out.1
     rw [hf, iscan, if_neg (by omega)] at hqq
     have HD := Lib.hid HQ.out.2.2.2
     have hsn := Lib.hid (sl_snoc t i hi1 hlt)
     have i2 : (i : Int) < (t.length : Int) := by omega
     obtain ⟨c, hc⟩ : ∃ c, byt t i = c := ⟨_, rfl⟩
     rw [hc] at hqq hsn
     have HQQ := Lib.hid hqq
     have HC := Lib.hid hc
     clear hqq HQ
     by_cases hdg : 48 ≤ c.toNat ∧ c.toNat ≤ 57
     · have hdc : dgt c := hdg
       have hqq := HQQ.out
       rw [if_neg (by rw [(digB_iff c).2 hdc]; decide)] at hqq
       have HQ2 := Lib.hid hqq
       clear hqq HQQ
       have d1 : decide ((c.toNat : Int) < 48) = false := by first | (simp; done) | (simp; omega)
       have d2 : decide ((57 : Int) < (c.toNat : Int)) = false := by first | (simp; done) | (simp; omega)
       by_cases hz : 1 < i ∧ ((byt t 1).toNat : Int) = 48
       · obtain ⟨hz1, hz2⟩ := hz
         have z1 : decide ((1 : Int) < (i : Int)) = true := by first | (simp; done) | (simp; omega)
         have z2 : (((byt t 1).toNat : Int) == 48) = true := by simp [hz2]
         have hqq := HQ2.out
         rw [if_pos (by rw [decide_eq_true hz1]; exact z2)] at hqq
         subst hqq
         have hr := HR.out
         unfold idxQ at hr
         simp only [if_true] at hr
         subst hr
         clear HQ2 hz2
         go_wp2_with fail
         try rw [Exit.noGoto_ret]
         exact bodyPost_ret (v := rdv _) (by simp [results, Tryz.results96, go_sem, rdv, noS, S_nil, x0, x1]) rfl ⟨rfl, (HW.out.setCell (Nat.le_refl _) _).setCell (Nat.le_refl _) _⟩
       · have hcond : (decide (1 < i) && isB (byt t 1) 48) = false := by
           cases h1 : decide (1 < i) with
           | false => rfl
           | true =>
             rw [Bool.true_and]
             unfold isB
             rw [beq_eq_false_iff_ne]
             exact fun h => hz ⟨of_decide_eq_true h1, h⟩
         have hqq := HQ2.out
         rw [if_neg (by rw [hcond]; decide), hsn.out] at hqq
         have HQ3 := Lib.hid hqq
         clear hqq HQ2
         have hv := valD_snoc (sl t 1 i) c
         have hvb : valD (sl t 1 i ++ [c]) ≤ 100000000 := by rw [hv]; have := HD.out.2; omega
         have hdd : ∀ x ∈ sl t 1 i ++ [c], dgt x := fun x hx => by
           rcases List.mem_append.1 hx with h | h
           · exact HD.out.1 x h
           · rw [List.mem_singleton.1 h]; exact hdc
         rw [← hsn.out] at hvb hdd HQ3
         have HAT := fun W => AtoiD_any (sl t 1 (i + 1)) (by have := sl_le t 1 (i + 1); omega) hdd (by rw [hsn.out]; simp) hvb W
         have HAT := Lib.hid HAT
         have i3 : (i : Int) + 1 ≤ (t.length : Int) := by omega
         have i4 : ((i : Int) + 1).toNat = i + 1 := by omega
         obtain ⟨vn, hvn⟩ : ∃ v, valD (sl t 1 (i + 1)) = v := ⟨_, rfl⟩
         rw [hvn] at HAT HQ3 hvb
         have HVN := Lib.hid hvn
         have HDD := Lib.hid hdd
         clear hvn hv hdd
         have hways : (decide ((1 : Int) < (i : Int)) = false) ∨ (decide ((1 : Int) < (i : Int)) = true ∧ (((byt t 1).toNat : Int) == 48) = false) := by
           by_cases h1 : 1 < i
           · exact .inr ⟨by simp; omega, by rw [beq_eq_false_iff_ne]; exact fun h => hz ⟨h1, h⟩⟩
           · exact .inl (by simp; omega)
         clear hz hcond
         rcases hways with z1 | ⟨z1, z2⟩
         all_goals
           go_wp2_with fail
           refine (HAT.out _).mono ?_
           rintro e w1 ⟨rfl, hb1⟩
           have B1 := BNH.out.below hb1
           have HW1 := Lib.hid (HW.out.trans (hb1.mono HW.out.size))
           clear hb1 x0 x1 f0 f1
           have f0 := B1.frozen 0
           have f1 := B1.frozen 1
           have x0 := B1.cell 0
           have x1 := B1.cell 1
           simp at x0 x1
           by_cases hbig : 1000000 < vn
           · have hqq := HQ3.out
             rw [if_pos hbig] at hqq
             subst hqq
             have hr := HR.out
             unfold idxQ at hr
             simp only [if_true] at hr
             subst hr
             have b1 : decide ((1000000 : Int) < (vn : Int)) = true := by first | (simp; done) | (simp; omega)
             clear HQ3
             go_wp2_with fail
             try rw [Exit.noGoto_ret]
             exact bodyPost_ret (v := rdv _) (by simp [results, Tryz.results96, go_sem, rdv, noS, S_nil, x0, x1]) rfl ⟨rfl, (HW1.out.setCell (Nat.le_refl _) _).setCell (Nat.le_refl _) _⟩
           · have hqq := HQ3.out
             rw [if_neg hbig] at hqq
             have b1 : decide ((1000000 : Int) < (vn : Int)) = false := by first | (simp; done) | (simp; omega)
             go_wp2_with fail
             go_roundg f
             case measure => omega
             case rel => exact ⟨i + 1, rfl, by omega, by omega, by omega, Lib.hid ⟨hqq, B1, HW1.out, HDD.out, by rw [HVN.out]; omega⟩⟩
     · have hqq := HQQ.out
       rw [if_pos (by cases h : digB c with
         | false => rfl
         | true => exact absurd ((digB_iff c).1 h) hdg)] at hqq
       subst hqq
       have HRQ := Lib.hid HR.out
       clear HQQ
       have g3 : decide ((t.length : Int) ≤ (i : Int)) = false := by first | (simp; done) | (simp; omega)
       have hways : (decide ((c.toNat : Int) < 48) = true) ∨ (decide ((c.toNat : Int) < 48) = false ∧ decide ((57 : Int) < (c.toNat : Int)) = true) := by
         by_cases h1 : c.toNat < 48
         · exact .inl (by simp; omega)
         · exact .inr ⟨by simp; omega, by simp; omega⟩
       clear hdg
       by_cases hone : i = 1
       · subst hone
         have hr := HRQ.out
         unfold idxQ at hr
         simp only [Bool.true_eq_false, if_false] at hr
         rw [if_pos (by simp)] at hr
         subst hr
         rcases hways with d1 | ⟨d1, d2⟩
         all_goals
           go_wp2_with fail
           try rw [Exit.noGoto_ret]
           exact bodyPost_ret (v := rdv _) (by simp [results, Tryz.results96, go_sem, rdv, noS, S_nil, x0, x1]) rfl ⟨rfl, (HW.out.setCell (Nat.le_refl _) _).setCell (Nat.le_refl _) _⟩
       · have o1 : ((i : Int) == 1) = false := by rw [beq_eq_false_iff_ne]; omega
         rcases (bool_two (isB c 93)).symm with h93 | h93
         · have e93 : ((c.toNat : Int) == 93) = true := h93
           have e93' : ((c.toNat : Int) != 93) = false := by rw [bne, e93]; rfl
           have hr := HRQ.out
           unfold idxQ at hr
           simp only [Bool.true_eq_false, if_false] at hr
           rw [if_neg (by rw [HC.out, h93, decide_eq_false (show ¬ t.length ≤ i by omega), beq_eq_false_iff_ne.2 hone]; decide)] at hr
           subst hr
           have hne : sl t 1 i ≠ [] := by
             intro h
             have := sl_len t 1 i hi1 hi2
             rw [h] at this; simp at this; omega
           have HAT := fun W => AtoiD_any (sl t 1 i) (by have := sl_le t 1 i; omega) HD.out.1 hne (by have := HD.out.2; omega) W
           have HAT := Lib.hid HAT
           have i5 : (1 : Int) ≤ (i : Int) := by omega
           clear h93 hone hne
           rcases hways with d1 | ⟨d1, d2⟩
           all_goals
             go_wp2_with fail
             refine (HAT.out _).mono ?_
             rintro e w1 ⟨rfl, hb1⟩
             have B1 := BNH.out.below hb1
             have HW1 := Lib.hid (HW.out.trans (hb1.mono HW.out.size))
             clear hb1 x0 x1 f0 f1
             have f0 := B1.frozen 0
             have f1 := B1.frozen 1
             have x0 := B1.cell 0
             have x1 := B1.cell 1
             simp at x0 x1
             go_wp2_with fail
             try rw [Exit.noGoto_ret]
             exact bodyPost_ret (v := rdv _) (by simp [results, Tryz.results96, go_sem, rdv, S_nil, x0, x1]) rfl ⟨rfl, (HW1.out.setCell (Nat.le_refl _) _).setCell (Nat.le_refl _) _⟩
         · have e93 : ((c.toNat : Int) == 93) = false := h93
           have e93' : ((c.toNat : Int) != 93) = true := by rw [bne, e93]; rfl
           have hr := HRQ.out
           unfold idxQ at hr
           simp only [Bool.true_eq_false, if_false] at hr
           rw [if_pos (by rw [HC.out, h93]; simp)] at hr
           subst hr
           clear h93 hone
           rcases hways with d1 | ⟨d1, d2⟩
           all_goals
             go_wp2_with fail
             try rw [Exit.noGoto_ret]
             exact bodyPost_ret (v := rdv _) (by simp [results, Tryz.results96, go_sem, rdv, noS, S_nil, x0, x1]) rfl ⟨rfl, (HW.out.setCell (Nat.le_refl _) _).setCell (Nat.le_refl _) _⟩
   · have hil : i = t.length := by omega
     subst hil
     have hq := HQ.out.1
     have hq2 : iscan t gk t.length = (t.length, true) := by
       cases gk with
       | zero => rfl
       | succ f => rw [iscan, if_pos (by omega)]
     rw [hq2] at hq
     subst hq
     have hr := HR.out
     unfold idxQ at hr
     simp only [Bool.true_eq_false, if_false] at hr
     rw [if_pos (by rw [decide_eq_true (Nat.le_refl t.length)]; simp)] at hr
     subst hr
     clear HQ hq2
     by_cases hone : t.length = 1
     · have o1 : ((t.length : Int) == 1) = true := by simp [hone]
       clear hone
       go_wp2_with fail
       try rw [Exit.noGoto_ret]
       exact bodyPost_ret (v := rdv _) (by simp [results, Tryz.results96, go_sem, rdv, noS, S_nil, x0, x1]) rfl ⟨rfl, (HW.out.setCell (Nat.le_refl _) _).setCell (Nat.le_refl _) _⟩
     · have o1 : ((t.length : Int) == 1) = false := by rw [beq_eq_false_iff_ne]; omega
       go_wp2_with fail
       try rw [Exit.noGoto_ret]
       exact bodyPost_ret (v := rdv _) (by simp [results, Tryz.results96, go_sem, rdv, noS, S_nil, x0, x1]) rfl ⟨rfl, (HW.out.setCell (Nat.le_refl _) _).setCell (Nat.le_refl _) _⟩
end
section
open Go.RowKit
theorem itoa_nat (n : Nat) : Lib.itoa (n : Int) = Lib.decDigits n := Lib.itoa_nonneg n
theorem Itoa_any (n : Nat) (hn : n ≤ 1000000) (w : World) (hE : NumOk w) : Calls Tryz.prog 57 #[.int .i64 (n : Int)] w fun e w' => e = .returned (.string (S (Lib.decDigits n))) ∧ Below w.heap.size w w' := by
 refine (Tryz.strconv_Itoa (n : Int) (by omega) (by omega) w hE.tab).mono ?_
 rintro e w' ⟨rfl, k, os, rfl⟩
 exact ⟨by rw [itoa_nat]; rfl, Lib.below_grow _ w (Nat.le_refl _) k os⟩
theorem body_snoc (L : List Stp) (j : Nat) (h : j < L.length) : bodyS (L.take (j + 1)) = bodyS (L.take j) ++ bitS L[j] (j == 0) := by
 cases L with
 | nil => simp at h
 | cons x r =>
   cases j with
   | zero => simp [bodyS, restS]
   | succ j =>
     simp only [List.length_cons, Nat.add_lt_add_iff_right] at h
     rw [List.take_succ_cons, List.take_succ_cons]
     show bitS x true ++ restS (r.take (j + 1)) = bitS x true ++ restS (r.take j) ++ bitS r[j] (j + 1 == 0)
     unfold restS
     rw [List.take_add_one, List.flatMap_append, List.getElem?_eq_getElem h]
     simp
def LimS (L : List Stp) : Prop := L.length ≤ 1000 ∧ ∀ x ∈ L, x.lab.length ≤ 1000
theorem bit_len (x : Stp) (b : Bool) (h : x.lab.length ≤ 1000) (hi : x.idx ≤ 1000000) : (bitS x b).length ≤ 4100 := by
 unfold bitS
 have hq := quote_len x.lab
 have hd := (dec_len x.idx.toNat 7 (by omega) (by omega)).2
 have hl : (labelL x.lab).length ≤ 4002 := by unfold labelL; split <;> omega
 repeat' split
 all_goals simp
 all_goals omega
theorem body_len (L : List Stp) (hL : LimS L) (hk : okL L = true) : ∀ j, j ≤ L.length → (bodyS (L.take j)).length ≤ 4100 * j := by
 intro j
 induction j with
 | zero => intro _; simp [bodyS]
 | succ j ih =>
   intro hj
   rw [body_snoc L j hj, List.length_append]
   have h1 := ih (by omega)
   have hm : L[j] ∈ L := List.getElem_mem _
   have hok : okS L[j] = true := List.all_eq_true.1 hk _ hm
   have h2 := bit_len L[j] (j == 0) (hL.2 _ hm) (by
     unfold okS at hok
     split at hok
     · simp at hok; omega
     · simp at hok; omega)
   omega
theorem textS_bad (L : List Stp) (h : okL L = false) : textS L = [63] := by unfold textS; rw [h]; rfl
theorem textS_body (L : List Stp) (h : okL L = true) (h0 : L ≠ []) : textS L = bodyS L := by unfold textS; rw [h, if_neg (by decide), if_neg h0]
theorem okS_of (L : List Stp) (h : okL L = true) (j : Nat) (hj : j < L.length) : okS L[j] = true := List.all_eq_true.1 h _ (List.getElem_mem hj)
theorem okS_idx {i : Int} (h : okS ⟨[], i⟩ = true) : ∃ n : Nat, i = n ∧ n ≤ 1000000 := by
 simp [okS] at h; exact ⟨i.toNat, by omega, by omega⟩
theorem bit_idx (n : Nat) (b : Bool) : bitS ⟨[], (n : Int)⟩ b = 91 :: (Lib.decDigits n ++ [93]) := by simp [bitS]
theorem bit_lab (l : List UInt8) (i : Int) (b : Bool) (h : l ≠ []) : bitS ⟨l, i⟩ b = if b then labelL l else 46 :: labelL l := by simp [bitS, h]
set_option maxHeartbeats 2000000 in
theorem Text_any (v : Value) (L : List Stp) (w : World) (hv : SlS w v L) (hL : LimS L) (hE : NumOk w) : Calls Tryz.prog 30 #[v] w fun e w' => e = .returned (.string (S (textS L))) ∧ Below w.heap.size w w' := by
 rcases bool_two (okL L) with hk | hk
 · have HK := Lib.hid hk
   have HT := Lib.hid (textS_bad L hk)
   have HV := Lib.hid (Valid_any v L w hv (by have := hL.1; omega))
   clear hk hE hL hv
   go_enter Tryz.func30, Tryz.ntmps30
   go_wp2_with fail
   refine HV.out.mono ?_
   rintro e w1 ⟨rfl, hb1⟩
   rw [HK.out]
   go_wp2_with fail
   go_ret
   exact ⟨ret_S HT.out.symm, hb1⟩
 · have HK := Lib.hid hk
   have HV := Lib.hid (Valid_any v L w hv (by have := hL.1; omega))
   rcases hv with ⟨⟨p0, cap0, rfl⟩, rfl⟩ | ⟨B, o, cap, rfl, hc, hB, hx⟩
   · clear hk hE hL
     go_enter Tryz.func30, Tryz.ntmps30
     go_wp2_with fail
     refine HV.out.mono ?_
     rintro e w1 ⟨rfl, hb1⟩
     rw [HK.out]
     go_wp2_with fail
     go_ret
     exact ⟨rfl, hb1⟩
   · by_cases h0 : L.length = 0
     · have hn : L = [] := List.eq_nil_of_length_eq_zero h0
       subst hn
       clear hk hE hL h0 hx
       go_enter Tryz.func30, Tryz.ntmps30
       go_wp2_with fail
       refine HV.out.mono ?_
       rintro e w1 ⟨rfl, hb1⟩
       rw [HK.out]
       go_wp2_with fail
       go_ret
       exact ⟨rfl, hb1⟩
     · have HT := Lib.hid (textS_body L hk (fun h => h0 (by rw [h]; rfl)))
       have HBL := Lib.hid (body_len L hL hk)
       have HE := Lib.hid hE
       have HX := Lib.hid hx
       have HL := Lib.hid hL
       have hl1 : L.length ≤ 1000 := hL.1
       have h0' : ((L.length : Int) == 0) = false := by rw [beq_eq_false_iff_ne]; omega
       clear hk hE hx hL
       go_enter Tryz.func30, Tryz.ntmps30
       go_wp2_with fail
       refine HV.out.mono ?_
       rintro e w1 ⟨rfl, hb1⟩
       rw [HK.out]
       have HB1 := Lib.hid hb1
       clear hb1
       go_wp2_with fail
       go_loopw [3, 14] (fun v i wr => ∃ j : Nat, i = .int .i64 (j : Int) ∧ j ≤ L.length ∧ v = .string (S (bodyS (L.take j))) ∧ Hid (Below w.heap.size w wr)) (fun _ i _ => L.length - (intOf i).toNat)
       case atStart => exact ⟨0, rfl, Nat.zero_le _, rfl, HB1⟩
       case round =>
         obtain ⟨j, rfl, hj, rfl, HW⟩ := hrel
         by_cases hlt : j < L.length
         · have hx0 := sl_cells hB HX.out HW.out j hlt
           have hok := okS_of L HK.out j hlt
           have hlj := HL.out.2 _ (List.getElem_mem hlt)
           have hacc := HBL.out j hj
           have HN := Lib.hid (body_snoc L j hlt)
           obtain ⟨⟨lj, ij⟩, hxj⟩ : ∃ x, L[j] = x := ⟨_, rfl⟩
           rw [hxj] at hx0 hok hlj HN
           obtain ⟨c0, c1⟩ := hx0
           clear hxj
           simp only at c0 c1 hlj
           obtain ⟨acc, ha⟩ : ∃ a, bodyS (L.take j) = a := ⟨_, rfl⟩
           rw [ha] at hacc HN ⊢
           clear ha
           by_cases hl0 : lj = []
           · subst hl0
             obtain ⟨n, rfl, hn⟩ := okS_idx hok
             rw [bit_idx] at HN
             have hd := (dec_len n 7 (by omega) (by omega)).2
             obtain ⟨dg, hdg⟩ : ∃ d, Lib.decDigits n = d := ⟨_, rfl⟩
             have HD := Lib.hid hdg
             rw [hdg] at HN hd
             clear hdg hok hlj
             go_wp2_with fail
             refine (Itoa_any n hn _ (HE.out.below (HW.out.alloc HW.out.size _))).mono ?_
             rintro e w2 ⟨rfl, hb2⟩
             have HB2 := Lib.hid ((HW.out.alloc HW.out.size _).trans (hb2.mono (by simp; exact Nat.le_succ_of_le HW.out.size)))
             clear hb2
             rw [HD.out]
             go_wp2_with fail
             go_roundw
             case rel => exact ⟨j + 1, rfl, hlt, by rw [HN.out]; simp [ct], HB2⟩
             case measure => simp [intOf]; omega
           · have he : lj.isEmpty = false := by cases lj with
               | nil => exact absurd rfl hl0
               | cons => rfl
             rw [bit_lab lj ij _ hl0] at HN
             have hq := quote_len lj
             have hll : (labelL lj).length ≤ 4002 := by unfold labelL; split <;> omega
             obtain ⟨ll, hll0⟩ : ∃ d, labelL lj = d := ⟨_, rfl⟩
             have HLL := Lib.hid hll0
             rw [hll0] at HN hll
             clear hll0 hok hl0 hq
             rcases Nat.eq_zero_or_pos j with hj0 | hj0
             · subst hj0
               simp only [Nat.zero_mul, Nat.add_zero] at c0 c1
               go_wp2_with fail
               refine (Label_any lj (by omega) _).mono ?_
               rintro e w2 ⟨rfl, hb2⟩
               have HB2 := Lib.hid ((HW.out.alloc HW.out.size _).trans (hb2.mono (by simp; exact Nat.le_succ_of_le HW.out.size)))
               clear hb2
               rw [HLL.out]
               go_wp2_with fail
               go_roundw
               case rel => exact ⟨1, rfl, hlt, by have h := HN.out; simp only [Nat.zero_add] at h; rw [h]; simp [ct], HB2⟩
               case measure => simp [intOf]; omega
             · have hj1 : ((j : Int) == 0) = false := by rw [beq_eq_false_iff_ne]; omega
               have hj2 : (j == 0) = false := by rw [beq_eq_false_iff_ne]; omega
               rw [hj2] at HN
               go_wp2_with fail
               refine (Label_any lj (by omega) _).mono ?_
               rintro e w2 ⟨rfl, hb2⟩
               have HB2 := Lib.hid ((HW.out.alloc HW.out.size _).trans (hb2.mono (by simp; exact Nat.le_succ_of_le HW.out.size)))
               clear hb2
               rw [HLL.out]
               go_wp2_with fail
               go_roundw
               case rel => exact ⟨j + 1, rfl, hlt, by rw [HN.out]; simp [ct], HB2⟩
               case measure => simp [intOf]; omega
         · go_wp2_with fail
           go_ret
           exact ⟨ret_S (by rw [HT.out, List.take_of_length_le (by omega)]), HW.out⟩
end
section
open Go.RowKit
theorem runW_le (t : List UInt8) : runW t ≤ t.length := by unfold runW; exact List.Sublist.length_le (List.takeWhile_sublist _)
theorem wrongN_le (l : List UInt8) : wrongN l ≤ l.length := by
 unfold wrongN
 cases h : (List.range l.length).find? (badAt l) with
 | none => simp
 | some k => have := List.mem_of_find?_eq_some h; simp at this ⊢; omega
theorem identB_nil : identB [] = false := rfl
theorem nameP_le (t : List UInt8) : (nameP t).2.1 ≤ t.length + 1 ∧ ((nameP t).2.2 = true → 1 ≤ (nameP t).2.1 ∧ (nameP t).2.1 ≤ t.length) := by
 have h1 := runW_le t
 unfold nameP
 split
 · rename_i h
   refine ⟨by simp only; omega, fun _ => ⟨?_, h1⟩⟩
   rcases Nat.eq_zero_or_pos (runW t) with h0 | h0
   · rw [h0] at h; rw [List.take_zero, identB_nil] at h; cases h
   · exact h0
 · have := wrongN_le (t.take (runW t))
   rw [List.length_take] at this
   exact ⟨by simp only; omega, fun h => by cases h⟩
theorem qscan_le (t : List UInt8) : ∀ f i, i ≤ t.length → (qscan t f i).1 ≤ t.length + 1
 | 0, i, h => by rw [qscan]; simp only; omega
 | f + 1, i, h => by
   rw [qscan]
   split
   · simp only; omega
   · split
     · simp only; omega
     · split
       · have he := escP_le (sl t i t.length)
         have hs := sl_len t i t.length h (Nat.le_refl _)
         rw [hs] at he
         split
         · rename_i h1; exact qscan_le t f _ (by have := he.2 h1; omega)
         · simp only; omega
       · split
         · exact qscan_le t f _ (by omega)
         · simp only; omega
theorem labQ_le (t : List UInt8) (q : Nat × Bool) (hq : q.1 ≤ t.length + 1) : (labQ t q).2.1 ≤ t.length + 1 ∧ ((labQ t q).2.2 = true → 1 ≤ (labQ t q).2.1 ∧ (labQ t q).2.1 ≤ t.length) := by
 unfold labQ
 split
 · exact ⟨hq, fun h => by cases h⟩
 · split
   · exact ⟨by simp only; omega, fun h => by cases h⟩
   · split
     · exact ⟨hq, fun h => by cases h⟩
     · exact ⟨by simp only; omega, fun _ => ⟨by simp only; omega, by simp only; omega⟩⟩
theorem labP_le (t : List UInt8) : (labP t).2.1 ≤ t.length + 1 ∧ ((labP t).2.2 = true → 1 ≤ (labP t).2.1 ∧ (labP t).2.1 ≤ t.length) := by
 unfold labP
 split
 · exact nameP_le t
 · rename_i h
   have hl : 1 ≤ t.length := by cases t with
     | nil => exact absurd rfl h
     | cons => simp
   exact labQ_le t _ (qscan_le t _ _ hl)
theorem iscan_le (t : List UInt8) : ∀ f i, i ≤ t.length → (iscan t f i).1 ≤ t.length
 | 0, i, h => by rw [iscan]; exact h
 | f + 1, i, h => by
   rw [iscan]
   split
   · exact h
   · split
     · exact h
     · split
       · exact h
       · split
         · exact h
         · exact iscan_le t f _ (by omega)
theorem idxP_le (t : List UInt8) (h0 : 0 < t.length) : (idxP t).2.1 ≤ t.length + 1 ∧ ((idxP t).2.2 = true → 1 ≤ (idxP t).2.1 ∧ (idxP t).2.1 ≤ t.length) := by
 have hq := iscan_le t t.length 1 h0
 unfold idxP
 generalize iscan t t.length 1 = q at hq
 unfold idxQ
 split
 · exact ⟨by simp only; omega, fun h => by cases h⟩
 · split
   · exact ⟨by simp only; omega, fun h => by cases h⟩
   · rename_i h1
     simp at h1
     exact ⟨by simp only; omega, fun _ => ⟨by simp only; omega, by simp only; omega⟩⟩
def rdAt (s : List UInt8) (a : Nat) (L : List Stp) : (Stp × Nat × Bool) × Nat :=
 if decide (a < s.length) && isB (byt s a) 91 then (idxP (sl s a s.length), a) else if L.isEmpty then (labP (sl s a s.length), a) else (labP (sl s (a + 1) s.length), a + 1)
def pgo (s : List UInt8) : Nat → Nat → List Stp → List Stp × Nat × Nat
 | 0, _, L => (L, 0, 0)
 | f + 1, a, L =>
   if !decide (a < s.length) && !L.isEmpty then (L, 0, 0)
   else if !(decide (a < s.length) && isB (byt s a) 91) && (!L.isEmpty && !isB (byt s a) 46) then ([], 8, a)
   else if (rdAt s a L).1.2.2 then pgo s f ((rdAt s a L).2 + (rdAt s a L).1.2.1) (L ++ [(rdAt s a L).1.1]) else ([], 8, (rdAt s a L).2 + (rdAt s a L).1.2.1)
def parseP (s : List UInt8) : List Stp × Nat × Nat :=
 if 65536 < s.length then ([], 2, 0) else if s == [46] then ([], 0, 0) else if !s.isEmpty && isB (byt s 0) 46 then ([], 8, 1) else pgo s (s.length + 1) 0 []
def flatC (L : List Stp) : List Value := L.flatMap fun x => [.string (S x.lab), .int .i64 x.idx]
theorem flat_snoc (L : List Stp) (x : Stp) : flatC (L ++ [x]) = flatC L ++ [.string (S x.lab), .int .i64 x.idx] := by unfold flatC; simp
theorem flatC_len (L : List Stp) : (flatC L).length = L.length * 2 := by
 induction L with
 | nil => rfl
 | cons x r ih => unfold flatC at *; simp [ih]; omega
theorem flat_get : ∀ (L : List Stp) (j : Nat) (x : Stp), L[j]? = some x → (flatC L)[j * 2]? = some (.string (S x.lab)) ∧ (flatC L)[j * 2 + 1]? = some (.int .i64 x.idx)
 | [], _, _, h => by simp at h
 | y :: r, 0, x, h => by simp at h; subst h; exact ⟨rfl, rfl⟩
 | y :: r, j + 1, x, h => by
   have := flat_get r j x (by simpa using h)
   rw [show (j + 1) * 2 = j * 2 + 2 by omega, show j * 2 + 2 + 1 = (j * 2 + 1) + 2 by omega]
   exact this
theorem own_SlS {W : World} {base : Nat} {v : Value} {L : List Stp} (h : W.ownsRow base 44 2 v L.length (flatC L)) (W' : World) (hs : W.heap.size ≤ W'.heap.size) (hc : ∀ g o u, base ≤ g → W.cell? ⟨g, o, none⟩ = some u → W'.cell? ⟨g, o, none⟩ = some u) : SlS W' v L := by
 rcases h.2 with ⟨hv, h0⟩ | ⟨g, cap, cur, rfl, hb, hg, hcap, hm, hsp, ht⟩
 · exact .inl ⟨⟨_, _, hv⟩, List.eq_nil_of_length_eq_zero h0⟩
 · refine .inr ⟨g, 0, cap, rfl, hcap, Nat.lt_of_lt_of_le (Array.getElem?_eq_some_iff.1 hg).1 hs, fun j x hj => ?_⟩
   obtain ⟨h1, h2⟩ := flat_get L j x hj
   have k1 := h.cells (g := g) rfl _ _ h1
   have k2 := h.cells (g := g) rfl _ _ h2
   rw [Lib.add_plain, Nat.zero_add] at k1 k2
   rw [Nat.zero_add]
   exact ⟨hc _ _ _ hb k1, hc _ _ _ hb k2⟩
theorem set_keeps {W : World} {B base : Nat} (hB : B < base) (u0 u1 : Value) : ∀ g o u, base ≤ g → W.cell? ⟨g, o, none⟩ = some u → ((W.setCell ⟨B, 0, none⟩ u0).setCell ⟨B, 1, none⟩ u1).cell? ⟨g, o, none⟩ = some u := by
 intro g o u hg h
 rw [World.cell?_setCell_other _ _ _ _ (by intro e; injection e; omega), World.cell?_setCell_other _ _ _ _ (by intro e; injection e; omega)]
 exact h
def SlF (N : Nat) (W : World) (v : Value) (L : List Stp) : Prop :=
 ((∃ p cap, v = .slice p 0 cap) ∧ L = []) ∨ ∃ B o cap, v = .slice (some ⟨B, o, none⟩) L.length cap ∧ N ≤ B ∧ L.length ≤ cap ∧ B < W.heap.size ∧
   ∀ j x, L[j]? = some x → W.cell? ⟨B, o + j * 2, none⟩ = some (.string (S x.lab)) ∧ W.cell? ⟨B, o + j * 2 + 1, none⟩ = some (.int .i64 x.idx)
theorem SlF.sls {N : Nat} {W : World} {v : Value} {L : List Stp} (h : SlF N W v L) : SlS W v L := by
 rcases h with h | ⟨B, o, cap, h1, -, h2⟩
 · exact .inl h
 · exact .inr ⟨B, o, cap, h1, h2⟩
theorem own_SlF {N : Nat} {W : World} {base : Nat} {v : Value} {L : List Stp} (h : W.ownsRow base 44 2 v L.length (flatC L)) (hN : N ≤ base) (W' : World) (hs : W.heap.size ≤ W'.heap.size) (hc : ∀ g o u, base ≤ g → W.cell? ⟨g, o, none⟩ = some u → W'.cell? ⟨g, o, none⟩ = some u) : SlF N W' v L := by
 rcases own_SlS h W' hs hc with h1 | ⟨B, o, cap, rfl, h1⟩
 · exact .inl h1
 · refine .inr ⟨B, o, cap, rfl, ?_, h1⟩
   rcases h.2 with ⟨hv, h0⟩ | ⟨g, cap, cur, hv, hb, -⟩
   · injection hv with hv; cases hv
   · injection hv with hv; injection hv with hv; injection hv with hv; omega
def ParR (r : List Stp × Nat × Nat) (w : World) (e : Ending) (w' : World) : Prop :=
 ∃ v, e = .returned (.tuple #[v, .agg #[.int .i64 (r.2.1 : Int), .int .i64 (r.2.2 : Int)]]) ∧ SlF w.heap.size w' v r.1 ∧ Below w.heap.size w w'
theorem infoStp : (Tryz.prog.info? 44).map (fun i => (i.zero, i.size, i.bytes)) = some (some (.agg #[.string ⟨#[]⟩, .int .i64 0]), 2, 24) := by kernel_rfl
end
end Go.Proofs.YtoahmganodehkaaGreatDoor
