import Derived.Test.YtoahmganodehkaaGreatDoorN02
import Derived.Handy
import Derived.Lib.Hide
import Derived.Test.YtoahmganodehkaaGreatDoorN01
import Derived.Test.YtoahmganodehkaaGreatDoorProg
import Derived.Lib.ItoaWalk
import Derived.Lib.AppendIntMem
import Derived.Lib.SmallJoins
import Derived.BigCall
import Derived.BigGuard
import Derived.Test.YtoahmganodehkaaGreatDoorShelf
import Derived.LoopTactic
import Derived.Outline
import Derived.Lib.ConvBytes
namespace Go.Proofs.YtoahmganodehkaaGreatDoor
set_option linter.unusedSimpArgs false
set_option linter.unusedVariables false
section
open Go.RowKit
theorem letterB_nat (c : UInt8) : letterB c = (decide (97 ≤ c.toNat ∧ c.toNat ≤ 122) || decide (65 ≤ c.toNat ∧ c.toNat ≤ 90)) := by
 unfold letterB
 rw [Bool.eq_iff_iff]; simp [UInt8.le_iff_toNat_le]
theorem digitB_nat (c : UInt8) : digitB c = decide (48 ≤ c.toNat ∧ c.toNat ≤ 57) := by
 unfold digitB
 rw [Bool.eq_iff_iff]; simp [UInt8.le_iff_toNat_le]
theorem ret_bool {a b : Bool} (h : a = b) : Ending.returned (.bool a) = .returned (.bool b) := by rw [h]
theorem ret_i64 {a b : Int} (h : a = b) : Ending.returned (.int .i64 a) = .returned (.int .i64 b) := by rw [h]
set_option maxHeartbeats 400000 in
theorem letter_any (c : UInt8) (w : World) : Calls Tryz.prog 146 #[.int .u8 (c.toNat : Int)] w fun e w' => e = .returned (.bool (letterB c)) ∧ w = w' := by
 have hlt := c.toNat_lt
 have hn := letterB_nat c
 generalize letterB c = b at hn ⊢
 have HN := Lib.hid hn
 clear hn
 go_enter Tryz.func146, Tryz.ntmps146
 go_wp2
 all_goals
   go_ret
   exact ⟨ret_bool (by rw [HN.out, Bool.eq_iff_iff]; first | (simp; omega) | (simp [*]; done)), rfl⟩
set_option maxHeartbeats 400000 in
theorem Letter_any (c : UInt8) (w : World) : Calls Tryz.prog 167 #[.int .u8 (c.toNat : Int)] w fun e w' => e = .returned (.bool (letterB c)) ∧ w = w' := by
 have hlt := c.toNat_lt
 have hn := letterB_nat c
 generalize letterB c = b at hn ⊢
 have HN := Lib.hid hn
 clear hn
 go_enter Tryz.func167, Tryz.ntmps167
 go_wp2
 all_goals
   go_ret
   exact ⟨ret_bool (by rw [HN.out, Bool.eq_iff_iff]; first | (simp; omega) | (simp [*]; done)), rfl⟩
set_option maxHeartbeats 400000 in
theorem Digit_any (c : UInt8) (w : World) : Calls Tryz.prog 168 #[.int .u8 (c.toNat : Int)] w fun e w' => e = .returned (.bool (digitB c)) ∧ w = w' := by
 have hlt := c.toNat_lt
 have hn := digitB_nat c
 generalize digitB c = b at hn ⊢
 have HN := Lib.hid hn
 clear hn
 go_enter Tryz.func168, Tryz.ntmps168
 go_wp2
 all_goals
   go_ret
   exact ⟨ret_bool (by rw [HN.out, Bool.eq_iff_iff]; first | (simp; omega) | (simp [*]; done)), rfl⟩
end
section
open Go.RowKit
def pr (x : Int × Int) : Value := .tuple #[.int .i64 x.1, .int .i64 x.2]
def OkB (x : Int × Int) (w : World) (e : Ending) (w' : World) : Prop := e = .returned (pr x) ∧ Below w.heap.size w w'
theorem ret_u64 {a b : Int} (h : a = b) : Ending.returned (.int .u64 a) = .returned (.int .u64 b) := by rw [h]
theorem ret_pr {a b : Int} {x : Int × Int} (h : x = (a, b)) : Ending.returned (.tuple #[.int .i64 a, .int .i64 b]) = .returned (pr x) := by rw [h]; rfl
theorem fxValid_any (u : Int) (w : World) : Calls Tryz.prog 132 #[.int .i64 u] w fun e w' => e = .returned (.bool (vld u)) ∧ w = w' := by
 have HN := Lib.hid (show vld u = (decide (-1000000000000000 ≤ u) && decide (u ≤ 1000000000000000)) from rfl)
 generalize vld u = b at HN
 by_cases h1 : -1000000000000000 ≤ u
 all_goals
   go_enter Tryz.func132, Tryz.ntmps132
   go_wp2_with fail
   go_ret
   exact ⟨ret_bool (by rw [HN.out, Bool.eq_iff_iff]; simp; omega), rfl⟩
theorem fxRefValid_any (u : Int) (w : World) : Calls Tryz.prog 118 #[.int .i64 u] w fun e w' => e = .returned (.bool (vld u)) ∧ w = w' := by
 have HN := Lib.hid (show vld u = (decide (-1000000000000000 ≤ u) && decide (u ≤ 1000000000000000)) from rfl)
 generalize vld u = b at HN
 by_cases h1 : -1000000000000000 ≤ u
 all_goals
   go_enter Tryz.func118, Tryz.ntmps118
   go_wp2_with fail
   go_ret
   exact ⟨ret_bool (by rw [HN.out, Bool.eq_iff_iff]; simp; omega), rfl⟩
theorem size_any (u : Int) (h : vld u = true) (w : World) : Calls Tryz.prog 141 #[.int .i64 u] w fun e w' => e = .returned (.int .u64 (u.natAbs : Int)) ∧ w = w' := by
 rw [vld_iff] at h
 by_cases h1 : u < 0
 all_goals
   go_enter Tryz.func141, Tryz.ntmps141
   go_wp2_with fail
   go_ret
   exact ⟨ret_u64 (by omega), rfl⟩
theorem size_at (u : Int) (a : Nat) (h : vld u = true) (ha : Hid (u.natAbs = a)) (w : World) : Calls Tryz.prog 141 #[.int .i64 u] w fun e w' => e = .returned (.int .u64 (a : Int)) ∧ w = w' :=
 (size_any u h w).mono fun e w' ⟨he, hw⟩ => ⟨by rw [he, ha.out], hw⟩
theorem abs_any (u : Int) (h : vld u = true) (w : World) : Calls Tryz.prog 164 #[.int .i64 u] w fun e w' => e = .returned (.int .i64 (u.natAbs : Int)) ∧ w = w' := by
 rw [vld_iff] at h
 by_cases h1 : u < 0
 all_goals
   go_enter Tryz.func164, Tryz.ntmps164
   go_wp2_with fail
   go_ret
   exact ⟨ret_i64 (by omega), rfl⟩
end
section
open Go.RowKit Go.Lib Go.Sort
theorem iFormatUint_any (u : Nat) (hu64 : u < 18446744073709551616) (w : World) (htab : Lib.TabIs Tryz.prog w "internal/strconv.uint64pow10" .u64 Lib.pow10Tab) :
   Calls Tryz.prog 186 #[.int .u64 (u : Int), .int .i64 10] w fun e w' => e = .returned (.string (S (Lib.decDigits u))) ∧ Below w.heap.size w w' := by
 by_cases hs : u < 100
 · go_enter Tryz.func186, Tryz.ntmps186
   go_wp2_with (go_at_call 190; refine (Tryz.internal_strconv_small u hs _).mono ?_; rintro e w' ⟨rfl, rfl⟩)
   go_ret
   exact ⟨rfl, Below.refl _ _⟩
 · have hu1 : 1 ≤ u := by omega
   have hnd20 : Lib.nDigits u ≤ 20 := by have := Lib.numDigits_eq u hu1 hu64; split at this <;> omega
   have hb3 : Lib.nDigits u ≤ 23 := by omega
   have hal : Tryz.prog.arrayLen 196 = 24 := by kernel_rfl
   have hsl1 : ∀ W, (Instr.sliceAt 196 (.pointer (some ⟨w.heap.size, 0, none⟩)) none (some (.int .i64 (Lib.nDigits u : Int))) none).run Tryz.prog W = .ok (.slice (some ⟨w.heap.size, 0, none⟩) (Lib.nDigits u) 24) W := fun W => by
     rw [run_sliceAt_array_h W 196 ⟨w.heap.size, 0, none⟩ (by simp [Program.arrayLen, Program.elem, Tryz.underlying196]) .i64 (Lib.nDigits u : Int) (by omega) (by rw [hal]; omega)]
     go_simp
   have hH0 := Lib.holds_zero0 w 196 (Lib.nDigits u) (by omega)
   have hfmt := Tryz.internal_strconv_formatBase10 w.heap.size 0 24 u (Array.replicate (Lib.nDigits u) 0) (w.alloc (.cells Lib.zeros24 196)) hH0 (by rw [Array.size_replicate]; exact Lib.lt_pow_nDigits u) hu64 (by rw [Array.size_replicate]; omega)
   rw [Array.size_replicate] at hfmt
   have HH0 := Lib.hid hH0
   have HF := Lib.hid hfmt
   clear hH0 hal hfmt
   have n1 : decide ((u : Int) < 100) = false := by rw [decide_eq_false_iff_not]; omega
   go_enter Tryz.func186, Tryz.ntmps186
   go_wp2_with (go_at_call 191; refine (Tryz.internal_strconv_numDigits u hu1 hu64 _ (Lib.tabIs_alloc htab _)).mono ?_; rintro e w' ⟨rfl, rfl⟩)
   go_at_call 192
   refine HF.out.mono ?_
   rintro e w' ⟨rfl, k, v', dk, rfl, hF⟩
   have hcv : (convert 138 9 (.slice (some ⟨w.heap.size, 0, none⟩) (Lib.nDigits u) 24)).run Tryz.prog ((putRow (fun (b : UInt8) => Value.int .u8 (b.toNat : Int)) (w.alloc (.cells Lib.zeros24 196)) w.heap.size 0 dk).drewN k) = .ok (.string ⟨(Lib.decDigits u).toArray⟩) ((putRow (fun (b : UInt8) => Value.int .u8 (b.toNat : Int)) (w.alloc (.cells Lib.zeros24 196)) w.heap.size 0 dk).drewN k) := by
     have h := run_convert_bytes_back (P := Tryz.prog) ((putRow (fun (b : UInt8) => Value.int .u8 (b.toNat : Int)) (w.alloc (.cells Lib.zeros24 196)) w.heap.size 0 dk).drewN k) 138 9 5 ⟨w.heap.size, 0, none⟩ 24 (Lib.decDigits u) Tryz.underlying138 Tryz.underlying5 Tryz.underlying9 (fun j hj => by
       rw [Lib.row_is_numeral hF j hj, Lib.add_plain, World.cell?_drewN]
       exact cell?_putRow (fun (b : UInt8) => Value.int .u8 (b.toNat : Int)) _ w.heap.size 0 _ dk HH0.out (by rw [hF.size, Array.size_replicate]) j (by rw [hF.size]; rw [Lib.decDigits_length] at hj; exact hj))
     rw [Lib.decDigits_length] at h
     exact h
   go_wp2
   go_ret
   obtain ⟨os, eo⟩ := Lib.fin_at w (.cells Lib.zeros24 196) dk k 0
   exact ⟨rfl, by rw [eo]; exact Lib.below_grow _ w (Nat.le_refl _) k os⟩
theorem FormatUint_any (u : Nat) (hu64 : u < 18446744073709551616) (w : World) (htab : Lib.TabIs Tryz.prog w "internal/strconv.uint64pow10" .u64 Lib.pow10Tab) :
   Calls Tryz.prog 142 #[.int .u64 (u : Int), .int .i64 10] w fun e w' => e = .returned (.string (S (Lib.decDigits u))) ∧ Below w.heap.size w w' := by
 have H := Lib.hid (iFormatUint_any u hu64 w htab)
 clear htab
 go_enter Tryz.func142, Tryz.ntmps142
 go_wp2_with (go_at_call 186; refine H.out.mono ?_; rintro e w1 ⟨rfl, hb⟩)
 go_ret
 exact ⟨rfl, hb⟩
end
section
open Go.RowKit
theorem FormatUint_at (k : Int) (u : Nat) (hk : Hid (k = (u : Int))) (hu64 : u < 18446744073709551616) (w : World) (hE : NumOk w) :
   Calls Tryz.prog 142 #[.int .u64 k, .int .i64 10] w fun e w' => e = .returned (.string (S (Lib.decDigits u))) ∧ Below w.heap.size w w' := by
 rw [hk.out]; exact FormatUint_any u hu64 w hE.tab
theorem text_frac {f : Nat} {m : List UInt8} (h : trimZ (pad4 f) = m) : fracL f = if m = [] then [] else 46 :: m := by unfold fracL; rw [h]
set_option maxHeartbeats 1000000 in
theorem fxText_any (u : Int) (w : World) (hE : NumOk w) : Calls Tryz.prog 99 #[.int .i64 u] w fun e w' => e = .returned (.string (S (textI u))) ∧ Below w.heap.size w w' := by
 cases hu : vld u
 · go_enter Tryz.func99, Tryz.ntmps99
   go_wp2_with (go_at_call 132; refine (fxValid_any _ _).mono ?_; rintro e w' ⟨rfl, rfl⟩; rw [hu])
   go_ret
   exact ⟨ret_S (by unfold textI; rw [hu]; rfl), Below.refl _ _⟩
 · have HE := Lib.hid hE; clear hE
   have hA' := abs_lt hu
   obtain ⟨a, hA⟩ : ∃ a, u.natAbs = a := ⟨_, rfl⟩
   have HT := Lib.hid (textI_val u hu)
   rw [hA] at HT hA'
   have HA := Lib.hid hA; clear hA
   obtain ⟨x, hx⟩ : ∃ x, a / 10000 = x := ⟨_, rfl⟩
   obtain ⟨f, hf⟩ : ∃ f, a % 10000 = f := ⟨_, rfl⟩
   rw [hx, hf] at HT
   have ex : (a : Int) / 10000 = (x : Int) := by omega
   have ef : (a : Int) % 10000 = (f : Int) := by omega
   have hxb : x ≤ 100000000000 := by omega
   have hfb : f ≤ 9999 := by omega
   clear hx hf
   have HK := Lib.hid (show (f : Int) + 10000 = ((10000 + f : Nat) : Int) by omega)
   obtain ⟨P, hP⟩ : ∃ P, pad4 f = P := ⟨_, rfl⟩
   have hPl : P.length = 4 := by rw [← hP]; rfl
   obtain ⟨L, hL⟩ : ∃ L, Lib.decDigits (10000 + f) = L := ⟨_, rfl⟩
   have hL2 : L = 49 :: P := by rw [← hL, dec_10000 f (by omega), hP]
   have hLl : L.length = 5 := by rw [hL2, List.length_cons, hPl]
   have eL : sl L 1 5 = P := by rw [hL2]; unfold sl; rw [List.drop_succ_cons, List.drop_zero, List.take_of_length_le (by omega)]
   have HL := Lib.hid hL
   have HP := Lib.hid hP
   obtain ⟨D, hD⟩ : ∃ D, Lib.decDigits x = D := ⟨_, rfl⟩
   have hDl : D.length ≤ 12 := by rw [← hD]; exact (dec_len x 12 (by omega) (by omega)).2
   rw [hD] at HT
   have HD := Lib.hid hD
   clear hP hL hL2 hD
   have HC0 := Lib.hid (show ∃ q : List UInt8, q = P from ⟨_, rfl⟩)
   clear HC0
   cases d1 : decide (u < 0)
   all_goals
     go_enter Tryz.func99, Tryz.ntmps99
     go_wp2_with (first
       | (go_at_call 132; refine (fxValid_any _ _).mono ?_; rintro e w' ⟨rfl, rfl⟩; rw [hu])
       | (go_at_call 141; refine (size_at u a hu HA _).mono ?_; rintro e w' ⟨rfl, rfl⟩))
     refine (FormatUint_any x (by omega) _ HE.out.tab).mono ?_
     rintro e w1 ⟨rfl, hb1⟩
     rw [HD.out]
     have HB1 := Lib.hid hb1; clear hb1
     go_wp2_with fail
     refine (FormatUint_at _ (10000 + f) HK (by omega) _ (HE.out.below HB1.out)).mono ?_
     rintro e w2 ⟨rfl, hb2⟩
     rw [HL.out]
     have HB2 := Lib.hid hb2; clear hb2
     go_wp2_with fail
     have hP4 : P.length ≤ 4 := by omega
     clear eL hPl hLl ex ef hxb
     go_loop [5] (fun v => ∃ m : List UInt8, v = .string (S m) ∧ m.length ≤ 4 ∧ Hid (trimZ P = trimZ m)) (fun v => strLen v)
     case atStart => exact ⟨P, rfl, by omega, Lib.hid rfl⟩
     case round =>
       obtain ⟨m, rfl, hm4, HM⟩ := hrel
       by_cases hm0 : m.length = 0
       · obtain rfl := List.eq_nil_of_length_eq_zero hm0
         clear hm0
         go_wp2_with fail
         go_ret
         exact ⟨ret_S (by rw [HT.out, text_frac (HP.out.symm ▸ HM.out.trans (by rw [trimZ_off [] (by simp)]))]; simp at d1; simp [d1, ct]), HB1.out.trans (HB2.out.mono HB1.out.size)⟩
       · have hpos : 0 < m.length := by omega
         by_cases hz : byt m (m.length - 1) = 48
         · have T : (((byt m (m.length - 1)).toNat : Int) == 48) = true := by rw [hz]; rfl
           have HN := Lib.hid (trimZ_on m ⟨hpos, hz⟩)
           clear hz
           go_wp2_with fail
           go_round
           case rel => exact ⟨_, rfl, by rw [sl_to, List.length_take]; omega, Lib.hid (by rw [sl_to, HM.out, HN.out])⟩
           case measure => simp [strLen, S_size, sl_to]; omega
         · have T : (((byt m (m.length - 1)).toNat : Int) == 48) = false := by rw [beq_eq_false_iff_ne]; intro e; exact hz (UInt8.toNat_inj.1 (by rw [show (48 : UInt8).toNat = 48 from rfl]; omega))
           have HN := Lib.hid (trimZ_off m (fun h => hz h.2))
           have hne : m ≠ [] := by intro e; subst e; simp at hpos
           have HE2 := Lib.hid hne
           have hie : m.isEmpty = false := by cases m; (exact absurd rfl hne); rfl
           clear hz hne
           go_wp2_with fail
           go_ret
           exact ⟨ret_S (by rw [HT.out, text_frac (HP.out.symm ▸ HM.out.trans HN.out), if_neg HE2.out]; simp at d1; simp [d1, ct]), HB1.out.trans (HB2.out.mono HB1.out.size)⟩
end
section
open Go.RowKit
set_option maxRecDepth 100000 in
set_option maxHeartbeats 4000000 in
theorem makeLeaf_any {d : Dat} {vi vm : Value} {ok : Nat → Prop} {w : World} (hr : Rep w ok d vi vm) (hl : leafB d = true) (hlim : limD d = true) :
   Calls Tryz.prog 73 #[.agg #[.int .i64 d.k, .int .i64 d.n, .string (S d.s), vi, vm]] w fun e w' => e = .returned (.tuple #[dv d (.slice none 0 0) (.slice none 0 0), .int .i64 0]) ∧ Below w.heap.size w w' := by
 obtain ⟨hc, hi, hm⟩ := leaf_iff.1 hl
 obtain ⟨-, ho, -, -⟩ := chk_zero.1 hc
 have HP := Lib.hid (own_zero ho).1
 have HIM := Lib.hid (And.intro hi hm)
 have HREP := Lib.hid hr
 have HCK := Lib.hid (fun w' => (Check_any (w := w') (rep_leaf w' ok hi hm none none 0 0) hlim))
 simp only [hc] at HCK
 clear hr hl hlim hc hi hm ho
 go_enter Tryz.func73, Tryz.ntmps73
 go_upto_region 1 with fail
 have hS : GetS w d vi vm ((w.alloc (.cells #[.int .i64 d.k, .int .i64 d.n, .string (S d.s), vi, vm] 26)).alloc (.cells #[.int .i64 0, .int .i64 0, .string ⟨#[]⟩, .slice none 0 0, .slice none 0 0] 26)) := two_new w _ _ _ _
 generalize (w.alloc (.cells #[.int .i64 d.k, .int .i64 d.n, .string (S d.s), vi, vm] 26)).alloc (.cells #[.int .i64 0, .int .i64 0, .string ⟨#[]⟩, .slice none 0 0, .slice none 0 0] 26) = W at hS ⊢
 obtain ⟨⟨c0, c1, c2, c3, c4⟩, -, hlw⟩ := hS.facts
 have HS := Lib.hid hS
 clear hS
 go_wp2_with fail
 refine (cleanLeaf_any (HREP.out.under HS.out.2.2) HP.out HIM.out.1 HIM.out.2).mono ?_
 rintro e w1 ⟨rfl, hb⟩
 have hS1 := HS.out.below hb
 clear hb HS c0 c1 c2 c3 c4 hlw
 simp only [dv]
 have hN : Blk (w1.alloc (.cells #[.int .i64 d.k, .int .i64 d.n, .string (S d.s), .slice none 0 0, .slice none 0 0] 26)) w1.heap.size #[.int .i64 d.k, .int .i64 d.n, .string (S d.s), .slice none 0 0, .slice none 0 0] 26 := Blk.new w1 _ _
 have hS2 := hS1.below ((Below.refl _ _).alloc (Nat.le_refl _) (.cells #[.int .i64 d.k, .int .i64 d.n, .string (S d.s), .slice none 0 0, .slice none 0 0] 26))
 clear hS1
 go_upto_region 2 with fail
 generalize w1.alloc (.cells #[.int .i64 d.k, .int .i64 d.n, .string (S d.s), .slice none 0 0, .slice none 0 0] 26) = w2 at hN hS2 ⊢
 have n0 := hN.cell 0
 have n1 := hN.cell 1
 have n2 := hN.cell 2
 have n3 := hN.cell 3
 have n4 := hN.cell 4
 simp at n0 n1 n2 n3 n4
 have hNl := hN.lt
 have HN := Lib.hid hN
 have HS2 := Lib.hid hS2
 clear hN hS2
 go_wp2_with fail
 refine (HCK.out _).mono ?_
 rintro e w3 ⟨rfl, hb⟩
 have hN := HN.out.below hb
 obtain ⟨-, b2, hB⟩ := HS2.out.below hb
 have HB := Lib.hid hB
 clear n0 n1 n2 n3 n4 hNl hB
 have n0 := hN.cell 0
 have n1 := hN.cell 1
 have n2 := hN.cell 2
 have n3 := hN.cell 3
 have n4 := hN.cell 4
 simp at n0 n1 n2 n3 n4
 have hNl := hN.lt
 have z0 := b2.cell 0
 have z1 := b2.cell 1
 have z2 := b2.cell 2
 have z3 := b2.cell 3
 have z4 := b2.cell 4
 have y0 := b2.frozen 0
 have y1 := b2.frozen 1
 have y2 := b2.frozen 2
 have y3 := b2.frozen 3
 have y4 := b2.frozen 4
 simp at z0 z1 z2 z3 z4
 have hlw := b2.lt
 clear b2 hN HCK hb
 go_wp2_with fail
 refine bodyPost_ret (v := .tuple #[dv d (.slice none 0 0) (.slice none 0 0), .int .i64 0]) (by simp [results, Tryz.results73, go_sem, dv, show S [] = ⟨#[]⟩ from rfl, z0, z1, z2, z3, z4, y0, y1, y2, y3, y4, hlw]) rfl ⟨rfl, ?_⟩
 exact ((((HB.out.setCell (Nat.le_add_right _ 1) _).setCell (Nat.le_add_right _ 1) _).setCell (Nat.le_add_right _ 1) _).setCell (Nat.le_add_right _ 1) _).setCell (Nat.le_add_right _ 1) _
theorem joinNone_any (p : Option Addr) (cap : Nat) (s : ByteArray) (w : World) : Calls Tryz.prog 143 #[.slice p 0 cap, .string s] w fun e w' => e = .returned (.string (S [])) ∧ w = w' := by
 go_enter Tryz.func143, Tryz.ntmps143
 go_wp2_with fail
 go_ret
 exact ⟨rfl, rfl⟩
theorem joinD_any (a b : List UInt8) (ha : a.length ≤ 1000) (hb : b.length ≤ 1000) (p : Option Addr) (cap : Nat) (w : World) : Calls Tryz.prog 100 #[.string (S a), .string (S b), .slice p 0 cap] w fun e w' => e = .returned (.string (S (a ++ b))) ∧ w = w' := by
 have HE := Lib.hid (show ct (ct a []) b = a ++ b by simp [ct])
 go_enter Tryz.func100, Tryz.ntmps100
 go_wp2_with (go_at_call 143; refine (joinNone_any _ _ _ _).mono ?_; rintro e w' ⟨rfl, rfl⟩)
 go_ret
 exact ⟨by rw [← HE.out]; rfl, rfl⟩
set_option maxRecDepth 100000 in
theorem text_1 (p q : Option Addr) (cap caq : Nat) (w : World) :
   Calls Tryz.prog 55 #[.agg #[.int .i64 1, .int .i64 0, .string (S []), .slice p 0 cap, .slice q 0 caq]] w fun e w' => e = .returned (.string (S [110, 117, 108, 108])) ∧ Below w.heap.size w w' := by
 go_enter Tryz.func55, Tryz.ntmps55
 go_wp2_with fail
 refine wp_loop_rounds 1 ?_
 rw [rounds_succ]
 go_wp2_with fail
 refine wp_loop_rounds 1 ?_
 rw [rounds_succ]
 go_wp2_with fail
 go_ret
 exact ⟨rfl, by go_grown⟩
set_option maxRecDepth 100000 in
theorem text_2t (p q : Option Addr) (cap caq : Nat) (w : World) :
   Calls Tryz.prog 55 #[.agg #[.int .i64 2, .int .i64 1, .string (S []), .slice p 0 cap, .slice q 0 caq]] w fun e w' => e = .returned (.string (S [116, 114, 117, 101])) ∧ Below w.heap.size w w' := by
 go_enter Tryz.func55, Tryz.ntmps55
 go_wp2_with fail
 refine wp_loop_rounds 1 ?_
 rw [rounds_succ]
 go_wp2_with fail
 refine wp_loop_rounds 1 ?_
 rw [rounds_succ]
 go_wp2_with fail
 go_ret
 exact ⟨rfl, by go_grown⟩
set_option maxRecDepth 100000 in
theorem text_2f (n : Int) (p q : Option Addr) (cap caq : Nat) (w : World) (hn : (n == 1) = false) :
   Calls Tryz.prog 55 #[.agg #[.int .i64 2, .int .i64 n, .string (S []), .slice p 0 cap, .slice q 0 caq]] w fun e w' => e = .returned (.string (S [102, 97, 108, 115, 101])) ∧ Below w.heap.size w w' := by
 go_enter Tryz.func55, Tryz.ntmps55
 go_wp2_with fail
 refine wp_loop_rounds 1 ?_
 rw [rounds_succ]
 go_wp2_with fail
 refine wp_loop_rounds 1 ?_
 rw [rounds_succ]
 go_wp2_with fail
 go_ret
 exact ⟨rfl, by go_grown⟩
set_option maxRecDepth 100000 in
theorem text_3 (n : Int) (p q : Option Addr) (cap caq : Nat) (w : World) (hE : NumOk w) :
   Calls Tryz.prog 55 #[.agg #[.int .i64 3, .int .i64 n, .string (S []), .slice p 0 cap, .slice q 0 caq]] w fun e w' => e = .returned (.string (S (textI n))) ∧ Below w.heap.size w w' := by
 have HE := Lib.hid hE
 clear hE
 go_enter Tryz.func55, Tryz.ntmps55
 go_wp2_with fail
 refine wp_loop_rounds 1 ?_
 rw [rounds_succ]
 go_wp2_with fail
 refine wp_loop_rounds 1 ?_
 rw [rounds_succ]
 go_wp2_with (go_at_call 99; refine (fxText_any n _ (HE.out.below (by go_grown))).mono ?_; rintro e w' ⟨rfl, hb⟩; have HB := Lib.hid (((Below.refl _ w).alloc (Nat.le_refl _) _).trans (hb.mono (by simp))); clear hb)
 go_ret
 exact ⟨rfl, by exact HB.out⟩
set_option maxRecDepth 100000 in
theorem text_4 (s : List UInt8) (p q : Option Addr) (cap caq : Nat) (w : World) (hs : s.length ≤ 1000000) :
   Calls Tryz.prog 55 #[.agg #[.int .i64 4, .int .i64 0, .string (S s), .slice p 0 cap, .slice q 0 caq]] w fun e w' => e = .returned (.string (S (quoteL s))) ∧ Below w.heap.size w w' := by
 go_enter Tryz.func55, Tryz.ntmps55
 go_wp2_with fail
 refine wp_loop_rounds 1 ?_
 rw [rounds_succ]
 go_wp2_with fail
 refine wp_loop_rounds 1 ?_
 rw [rounds_succ]
 go_wp2_with (go_at_call 94; refine (quote_any s hs _).mono ?_; rintro e w' ⟨rfl, hb⟩; have HB := Lib.hid (((Below.refl _ w).alloc (Nat.le_refl _) _).trans (hb.mono (by simp))); clear hb)
 go_ret
 exact ⟨rfl, by exact HB.out⟩
set_option maxRecDepth 100000 in
theorem text_5 (p q : Option Addr) (cap caq : Nat) (w : World) :
   Calls Tryz.prog 55 #[.agg #[.int .i64 5, .int .i64 0, .string (S []), .slice p 0 cap, .slice q 0 caq]] w fun e w' => e = .returned (.string (S [91, 93])) ∧ Below w.heap.size w w' := by
 go_enter Tryz.func55, Tryz.ntmps55
 go_wp2_with fail
 refine wp_loop_rounds 1 ?_
 rw [rounds_succ]
 go_wp2_with fail
 refine wp_loop_rounds 1 ?_
 rw [rounds_succ]
 go_wp2_with (go_at_call 100; refine (joinD_any [91] [93] (by decide) (by decide) _ _ _).mono ?_; rintro e w' ⟨rfl, rfl⟩)
 go_ret
 exact ⟨rfl, by go_grown⟩
set_option maxRecDepth 100000 in
theorem text_6 (p q : Option Addr) (cap caq : Nat) (w : World) :
   Calls Tryz.prog 55 #[.agg #[.int .i64 6, .int .i64 0, .string (S []), .slice p 0 cap, .slice q 0 caq]] w fun e w' => e = .returned (.string (S [123, 125])) ∧ Below w.heap.size w w' := by
 go_enter Tryz.func55, Tryz.ntmps55
 go_wp2_with fail
 refine wp_loop_rounds 1 ?_
 rw [rounds_succ]
 go_wp2_with fail
 refine wp_loop_rounds 1 ?_
 rw [rounds_succ]
 go_wp2_with (go_at_call 100; refine (joinD_any [123] [125] (by decide) (by decide) _ _ _).mono ?_; rintro e w' ⟨rfl, rfl⟩)
 go_ret
 exact ⟨rfl, by go_grown⟩
theorem textLeaf_any {d : Dat} {vi vm : Value} {ok : Nat → Prop} {w : World} (hr : Rep w ok d vi vm) (hp : plainB d = true) (hi : d.its = []) (hm : d.mem = []) (hs : d.s.length ≤ 1000000) (hE : NumOk w) :
   Calls Tryz.prog 55 #[.agg #[.int .i64 d.k, .int .i64 d.n, .string (S d.s), vi, vm]] w fun e w' => e = .returned (.string (S (leafT d))) ∧ Below w.heap.size w w' := by
 obtain ⟨p, cap, rfl, -, -⟩ := hr.items
 obtain ⟨q, caq, rfl, -, -⟩ := hr.members
 obtain ⟨⟨h1, h6⟩, h2, h4, -, -⟩ := plain_iff.1 hp
 rw [hi, hm]
 clear hr hp
 have hd := dat_leaf hi hm
 generalize d.k = k at *
 generalize d.n = n at *
 generalize d.s = s at *
 subst hd
 have hk : k = 1 ∨ k = 2 ∨ k = 3 ∨ k = 4 ∨ k = 5 ∨ k = 6 := by omega
 rcases hk with rfl | rfl | rfl | rfl | rfl | rfl
 · obtain rfl : n = 0 := by simpa using h2
   obtain rfl : s = [] := by simpa using h4
   exact text_1 _ _ _ _ _
 · obtain rfl : s = [] := by simpa using h4
   by_cases hn : n = 1
   · subst hn; exact text_2t _ _ _ _ _
   · have : leafT (.mk 2 n [] [] []) = [102, 97, 108, 115, 101] := by simp [leafT, Dat.k, Dat.n, hn]
     rw [this]
     exact text_2f n _ _ _ _ _ (by simpa using hn)
 · obtain rfl : s = [] := by simpa using h4
   exact text_3 _ _ _ _ _ _ hE
 · obtain rfl : n = 0 := by simpa using h2
   exact text_4 _ _ _ _ _ _ hs
 · obtain rfl : n = 0 := by simpa using h2
   obtain rfl : s = [] := by simpa using h4
   exact text_5 _ _ _ _ _
 · obtain rfl : n = 0 := by simpa using h2
   obtain rfl : s = [] := by simpa using h4
   exact text_6 _ _ _ _ _
theorem TextLeaf_any {d : Dat} {vi vm : Value} {ok : Nat → Prop} {w : World} (hr : Rep w ok d vi vm) (hl : leafB d = true) (hlim : limD d = true) (hE : NumOk w) :
   Calls Tryz.prog 29 #[.agg #[.int .i64 d.k, .int .i64 d.n, .string (S d.s), vi, vm]] w fun e w' => e = .returned (.tuple #[.string (S (leafT d)), .int .i64 0]) ∧ Below w.heap.size w w' := by
 obtain ⟨hc, hi, hm⟩ := leaf_iff.1 hl
 obtain ⟨-, ho, -, -⟩ := chk_zero.1 hc
 have HP := Lib.hid (own_zero ho).1
 have HIM := Lib.hid (And.intro hi hm)
 have HREP := Lib.hid hr
 have HE := Lib.hid hE
 have HSL := Lib.hid (lim_len hlim).2.2
 have HCK := Lib.hid (fun w' (hb : Below w.heap.size w w') => (Check_any (hr.under hb) hlim))
 simp only [hc] at HCK
 clear hr hl hlim hc hi hm ho hE
 go_enter Tryz.func29, Tryz.ntmps29
 go_upto_region 1 with fail
 have hS : CkS w.heap.size w d vi vm (w.alloc (.cells #[.int .i64 d.k, .int .i64 d.n, .string (S d.s), vi, vm] 26)) := CkS.new w d _ _
 generalize w.alloc (.cells #[.int .i64 d.k, .int .i64 d.n, .string (S d.s), vi, vm] 26) = W at hS ⊢
 obtain ⟨c0, c1, c2, c3, c4, hlw⟩ := hS.cells
 have HS := Lib.hid hS
 clear hS
 go_wp2_with fail
 refine (HCK.out _ HS.out.2).mono ?_
 rintro e w1 ⟨rfl, hb⟩
 have HS1 := Lib.hid (HS.out.below hb)
 clear hb HS c0 c1 c2 c3 c4 hlw HCK
 obtain ⟨c0, c1, c2, c3, c4, hlw⟩ := HS1.out.cells
 go_wp2_with fail
 refine (textLeaf_any (HREP.out.under HS1.out.2) HP.out HIM.out.1 HIM.out.2 HSL.out (HE.out.below HS1.out.2)).mono ?_
 rintro e w2 ⟨rfl, hb⟩
 have HB := Lib.hid (HS1.out.below hb).2
 clear hb
 go_wp2_with fail
 go_ret2
 exact ⟨rfl, HB.out⟩
end
section
open Go.RowKit
def wd (ws : List (List UInt8)) (j : Nat) : List UInt8 := ws.getD j []
theorem wd_get (ws : List (List UInt8)) (j : Nat) (h : j < ws.length) : wd ws j = ws[j] := by simp [wd, List.getD, List.getElem?_eq_getElem h]
def WordsAt (w : World) (b : Nat) (ws : List (List UInt8)) : Prop := ∀ j, j < ws.length → w.cell? ⟨b, j, none⟩ = some (.string (S (wd ws j)))
theorem contains_step {ws : List (List UInt8)} {x : List UInt8} {k : Nat} (hk : k < ws.length) (h : x ∉ ws.take k) (hne : (x == wd ws k) = false) : x ∉ ws.take (k + 1) := by
 rw [List.take_succ_eq_append_getElem hk, List.mem_append]
 rintro (hm | hm)
 · exact h hm
 · simp at hm; rw [wd_get ws k hk, hm] at hne; simp at hne
def IdxPost (ws : List (List UInt8)) (x : List UInt8) (e : Ending) : Prop := ∃ r : Int, e = .returned (.int .i64 r) ∧ decide (0 ≤ r) = ws.contains x
set_option maxHeartbeats 400000 in
theorem Index_any (b cap : Nat) (ws : List (List UInt8)) (x : List UInt8) (w : World) (hn : ws.length ≤ 1000000) (hc : WordsAt w b ws) :
   Calls Tryz.prog 194 #[.slice (some ⟨b, 0, none⟩) ws.length cap, .string (S x)] w fun e w' => IdxPost ws x e ∧ w = w' := by
 have HC := Lib.hid hc; clear hc
 go_enter Tryz.func194, Tryz.ntmps194
 go_wp2_with fail
 go_loop [8] (fun i => ∃ k : Nat, k ≤ ws.length ∧ i = .int .i64 k ∧ Hid (x ∉ ws.take k)) (fun i => ws.length - (intOf i).toNat)
 case atStart => exact ⟨0, by omega, rfl, by show x ∉ ws.take 0; simp⟩
 case round =>
   obtain ⟨k, hk, rfl, hh⟩ := hrel
   by_cases hlt : k < ws.length
   · have hcell := HC.out k hlt
     by_cases he : (x == wd ws k) = true
     · go_wp2
       go_ret
       have hm : ws.contains x = true := by
         rw [List.contains_iff_mem]
         have : x = wd ws k := by simpa using he
         rw [this, wd_get ws k hlt]; exact List.getElem_mem hlt
       exact ⟨⟨(k : Int), rfl, by rw [hm]; simp⟩, rfl⟩
     · have he' : (x == wd ws k) = false := by simpa using he
       clear he
       go_wp2
       go_round
       case rel => exact ⟨k + 1, by omega, by go_num, contains_step hlt hh.out he'⟩
       case measure => simp [intOf]; omega
   · go_wp2
     go_ret
     have hm : ws.contains x = false := by
       have := hh.out
       rw [List.take_of_length_le (by omega)] at this
       rw [← Bool.not_eq_true, List.contains_iff_mem]; exact this
     exact ⟨⟨-1, rfl, by rw [hm]; decide⟩, rfl⟩
set_option maxHeartbeats 400000 in
theorem Contains_any (b cap : Nat) (ws : List (List UInt8)) (x : List UInt8) (w : World) (hn : ws.length ≤ 1000000) (hc : WordsAt w b ws) :
   Calls Tryz.prog 145 #[.slice (some ⟨b, 0, none⟩) ws.length cap, .string (S x)] w fun e w' => e = .returned (.bool (ws.contains x)) ∧ w = w' := by
 have H := Lib.hid (Index_any b cap ws x w hn hc)
 clear hc
 generalize hq : ws.contains x = q
 have HQ := Lib.hid hq; clear hq
 go_enter Tryz.func145, Tryz.ntmps145
 go_wp2_with fail
 refine H.out.mono ?_
 rintro e w' ⟨⟨r, rfl, hr⟩, rfl⟩
 have HR := Lib.hid hr; clear hr H
 go_wp2
 go_ret
 exact ⟨ret_bool (HR.out.trans HQ.out), rfl⟩
theorem words_at (w : World) (t : TypeId) : WordsAt (w.alloc (.cells #[.string ⟨#[110, 117, 108, 108]⟩, .string ⟨#[116, 114, 117, 101]⟩, .string ⟨#[102, 97, 108, 115, 101]⟩, .string ⟨#[98, 111, 111, 108]⟩, .string ⟨#[105, 110, 116]⟩, .string ⟨#[110, 117, 109, 98, 101, 114]⟩, .string ⟨#[115, 116, 114, 105, 110, 103]⟩, .string ⟨#[108, 101, 116]⟩, .string ⟨#[105, 102]⟩, .string ⟨#[102, 111, 114]⟩, .string ⟨#[105, 110]⟩, .string ⟨#[112, 97, 99, 107, 97, 103, 101]⟩, .string ⟨#[105, 109, 112, 111, 114, 116]⟩] t)) w.heap.size wordsL := by
 intro j hj
 have hj' : j < 13 := hj
 rw [World.cell?_alloc_mark]
 match j, hj' with
 | 0, _ => rfl
 | 1, _ => rfl
 | 2, _ => rfl
 | 3, _ => rfl
 | 4, _ => rfl
 | 5, _ => rfl
 | 6, _ => rfl
 | 7, _ => rfl
 | 8, _ => rfl
 | 9, _ => rfl
 | 10, _ => rfl
 | 11, _ => rfl
 | 12, _ => rfl
end
section
open Go.RowKit
def idByte (c : UInt8) : Bool := letterB c || c == 95 || digitB c
theorem idTail_nil {m : List UInt8} (h : m.length = 0) : idTail m = false := by rw [List.eq_nil_of_length_eq_zero h]; rfl
theorem idTail_pos {m : List UInt8} (h : 0 < m.length) (hL : letterB (byt m 0) = true) : idTail m = m.all idByte := by
 cases m with
 | nil => simp at h
 | cons c t => show (letterB c && _) = _; rw [show letterB c = true from hL]; rfl
theorem idTail_neg {m : List UInt8} (h : 0 < m.length) (hL : letterB (byt m 0) = false) : idTail m = false := by
 cases m with
 | nil => simp at h
 | cons c t => show (letterB c && _) = _; rw [show letterB c = false from hL]; rfl
theorem all_snoc {m : List UInt8} {k : Nat} (hk : k < m.length) (h : (m.take k).all idByte = true) (hb : idByte (byt m k) = true) : (m.take (k + 1)).all idByte = true := by
 rw [take_byt m k hk, List.all_append, h]; simp [hb]
theorem all_false {m : List UInt8} {k : Nat} (hk : k < m.length) (hb : idByte (byt m k) = false) : m.all idByte = false := by
 rw [← Bool.not_eq_true, List.all_eq_true]
 intro h
 have := h (byt m k) (by rw [byt_get m k hk]; exact List.getElem_mem hk)
 rw [hb] at this; cases this
theorem idByte_cases {c : UInt8} (h : idByte c = true) : letterB c = true ∨ (letterB c = false ∧ ((c.toNat : Int) != 95) = false) ∨ (letterB c = false ∧ ((c.toNat : Int) != 95) = true ∧ 48 ≤ c.toNat ∧ c.toNat ≤ 57) := by
 cases hl : letterB c with
 | true => exact .inl rfl
 | false =>
   unfold idByte at h
   rw [hl] at h
   by_cases h95 : c = 95
   · subst h95; exact .inr (.inl ⟨rfl, rfl⟩)
   · have : ((c.toNat : Int) == 95) = false := u8_ne h95
     rw [show (c == 95) = false by simpa using h95, digitB_nat] at h
     simp at h
     exact .inr (.inr ⟨rfl, by simp only [bne, this]; rfl, h.1, h.2⟩)
theorem idByte_no {c : UInt8} (h : idByte c = false) : letterB c = false ∧ ((c.toNat : Int) != 95) = true ∧ ¬ (48 ≤ c.toNat ∧ c.toNat ≤ 57) := by
 unfold idByte at h
 simp only [Bool.or_eq_false_iff] at h
 obtain ⟨⟨h1, h2⟩, h3⟩ := h
 have : ((c.toNat : Int) == 95) = false := u8_ne (by simpa using h2)
 rw [digitB_nat] at h3
 exact ⟨h1, by simp only [bne, this]; rfl, by simpa using h3⟩
theorem identB_big {l : List UInt8} (h : 32 < l.length) : identB l = false := by unfold identB; rw [if_pos (.inl h)]
theorem identB_word {l : List UInt8} (h : wordsL.contains l = true) : identB l = false := by unfold identB; rw [if_pos (.inr h)]
theorem identB_rest {l : List UInt8} (h : ¬ 32 < l.length) (hw : wordsL.contains l = false) (h0 : 0 < l.length) : identB l = if byt l 0 = 35 ∨ byt l 0 = 95 then idTail (l.drop 1) else idTail l := by
 unfold identB
 rw [if_neg (by rw [hw]; simp; omega)]
 cases l with
 | nil => simp at h0
 | cons c t => rfl
set_option maxRecDepth 100000 in
set_option maxHeartbeats 2000000 in
theorem Ident_any (l : List UInt8) (hl : l.length ≤ 1000000) (w : World) :
   Calls Tryz.prog 103 #[.string (S l)] w fun e w' => e = .returned (.bool (identB l)) ∧ Below w.heap.size w w' := by
 generalize hr : identB l = r
 have HI := Lib.hid hr; clear hr
 by_cases hbig : 32 < l.length
 · have hr : r = false := by rw [← HI.out, identB_big hbig]
   have HR := Lib.hid hr; clear hr
   go_enter Tryz.func103, Tryz.ntmps103
   go_wp2_with fail
   go_ret
   exact ⟨ret_bool HR.out.symm, by go_grown⟩
 have hw := Lib.hid (words_at w 9)
 have hbig' : l.length ≤ 32 := by omega
 generalize hq : wordsL.contains l = q
 have HQ := Lib.hid hq; clear hq
 cases q with
 | true =>
   have hr : r = false := by rw [← HI.out, identB_word HQ.out]
   have HR := Lib.hid hr; clear hr
   go_enter Tryz.func103, Tryz.ntmps103
   go_wp2_with fail
   refine (Contains_any w.heap.size 13 wordsL l _ (by decide) hw.out).mono ?_
   rintro e w' ⟨rfl, rfl⟩
   rw [HQ.out]
   go_wp2_with fail
   go_ret
   exact ⟨ret_bool HR.out.symm, by go_grown⟩
 | false =>
   by_cases h0 : l.length = 0
   · have hr : r = false := by rw [← HI.out, List.eq_nil_of_length_eq_zero h0]; rfl
     have HR := Lib.hid hr; clear hr
     have hz : ((l.length : Int) == 0) = true := by rw [h0]; rfl
     go_enter Tryz.func103, Tryz.ntmps103
     go_wp2_with fail
     refine (Contains_any w.heap.size 13 wordsL l _ (by decide) hw.out).mono ?_
     rintro e w' ⟨rfl, rfl⟩
     rw [HQ.out]
     go_wp2_with fail
     go_ret
     exact ⟨ret_bool HR.out.symm, by go_grown⟩
   have h0' : 0 < l.length := by omega
   have hrest := identB_rest hbig HQ.out h0'
   clear h0
   by_cases h35 : byt l 0 = 35
   · rw [if_pos (.inl h35), HI.out, ← sl_from l 1] at hrest
     have HT := Lib.hid hrest; clear hrest
     have hml : (sl l 1 l.length).length ≤ 32 := by have := sl_le l 1 l.length; omega
     go_enter Tryz.func103, Tryz.ntmps103
     go_wp2_with fail
     refine (Contains_any w.heap.size 13 wordsL l _ (by decide) hw.out).mono ?_
     rintro e w' ⟨rfl, rfl⟩
     rw [HQ.out]
     by_cases hm0 : (sl l 1 l.length).length = 0
     · have hr : r = false := by rw [HT.out, idTail_nil hm0]
       have HR := Lib.hid hr; clear hr
       have hz : (((sl l 1 l.length).length : Int) == 0) = true := by rw [hm0]; rfl
       go_wp2_with fail
       go_ret
       exact ⟨ret_bool HR.out.symm, by go_grown⟩
     have hm1 : 0 < (sl l 1 l.length).length := by omega
     have hz : (((sl l 1 l.length).length : Int) == 0) = false := beq_eq_false_iff_ne.2 (by omega)
     clear hm0
     by_cases hL : letterB (byt (sl l 1 l.length) 0) = true
     · have hr : r = (sl l 1 l.length).all idByte := by rw [HT.out, idTail_pos hm1 hL]
       have HR := Lib.hid hr; clear hr
       go_wp2_with (go_at_call 146; refine (letter_any _ _).mono ?_; rintro e w' ⟨rfl, rfl⟩)
       clear hL hz
       go_loop [40] (fun i => ∃ k : Nat, k ≤ (sl l 1 l.length).length ∧ i = .int .i64 k ∧ Hid (((sl l 1 l.length).take k).all idByte = true)) (fun i => (sl l 1 l.length).length - (intOf i).toNat)
       case atStart => exact ⟨0, by omega, rfl, rfl⟩
       case round =>
         obtain ⟨k, hk, rfl, hh⟩ := hrel
         by_cases hlt : k < (sl l 1 l.length).length
         · by_cases hb : idByte (byt (sl l 1 l.length) k) = true
           · have hnext := Lib.hid (all_snoc hlt hh.out hb)
             rcases idByte_cases hb with h1 | ⟨h1, h2⟩ | ⟨h1, h2, h3, h4⟩
             · go_wp2_with (go_at_call 146; refine (letter_any _ _).mono ?_; rintro e w' ⟨rfl, rfl⟩)
               go_round
               case rel => exact ⟨k + 1, by omega, by go_num, hnext.out⟩
               case measure => simp [intOf]; omega
             · go_wp2_with (go_at_call 146; refine (letter_any _ _).mono ?_; rintro e w' ⟨rfl, rfl⟩)
               go_round
               case rel => exact ⟨k + 1, by omega, by go_num, hnext.out⟩
               case measure => simp [intOf]; omega
             · go_wp2_with (go_at_call 146; refine (letter_any _ _).mono ?_; rintro e w' ⟨rfl, rfl⟩)
               go_round
               case rel => exact ⟨k + 1, by omega, by go_num, hnext.out⟩
               case measure => simp [intOf]; omega
           · have hbf : idByte (byt (sl l 1 l.length) k) = false := by simpa using hb
             have hrf := Lib.hid (all_false hlt hbf)
             obtain ⟨h1, h2, h3⟩ := idByte_no hbf
             clear hb hbf
             by_cases h4 : (byt (sl l 1 l.length) k).toNat < 48
             · go_wp2_with (go_at_call 146; refine (letter_any _ _).mono ?_; rintro e w' ⟨rfl, rfl⟩)
               go_ret
               exact ⟨ret_bool (by rw [HR.out, hrf.out]), by go_grown⟩
             · have h5 : 57 < (byt (sl l 1 l.length) k).toNat := by omega
               go_wp2_with (go_at_call 146; refine (letter_any _ _).mono ?_; rintro e w' ⟨rfl, rfl⟩)
               go_ret
               exact ⟨ret_bool (by rw [HR.out, hrf.out]), by go_grown⟩
         · have hall := hh.out
           rw [List.take_of_length_le (by omega)] at hall
           have HA := Lib.hid hall; clear hall
           go_wp2_with fail
           go_ret
           exact ⟨ret_bool (by rw [HR.out, HA.out]), by go_grown⟩
     · have hLf : letterB (byt (sl l 1 l.length) 0) = false := by simpa using hL
       have hr : r = false := by rw [HT.out, idTail_neg hm1 hLf]
       have HR := Lib.hid hr; clear hr hL
       go_wp2_with (go_at_call 146; refine (letter_any _ _).mono ?_; rintro e w' ⟨rfl, rfl⟩)
       go_ret
       exact ⟨ret_bool HR.out.symm, by go_grown⟩
   by_cases h95 : byt l 0 = 95
   · rw [if_pos (.inr h95), HI.out, ← sl_from l 1] at hrest
     have HT := Lib.hid hrest; clear hrest h35
     have hml : (sl l 1 l.length).length ≤ 32 := by have := sl_le l 1 l.length; omega
     go_enter Tryz.func103, Tryz.ntmps103
     go_wp2_with fail
     refine (Contains_any w.heap.size 13 wordsL l _ (by decide) hw.out).mono ?_
     rintro e w' ⟨rfl, rfl⟩
     rw [HQ.out]
     by_cases hm0 : (sl l 1 l.length).length = 0
     · have hr : r = false := by rw [HT.out, idTail_nil hm0]
       have HR := Lib.hid hr; clear hr
       have hz : (((sl l 1 l.length).length : Int) == 0) = true := by rw [hm0]; rfl
       go_wp2_with fail
       go_ret
       exact ⟨ret_bool HR.out.symm, by go_grown⟩
     have hm1 : 0 < (sl l 1 l.length).length := by omega
     have hz : (((sl l 1 l.length).length : Int) == 0) = false := beq_eq_false_iff_ne.2 (by omega)
     clear hm0
     by_cases hL : letterB (byt (sl l 1 l.length) 0) = true
     · have hr : r = (sl l 1 l.length).all idByte := by rw [HT.out, idTail_pos hm1 hL]
       have HR := Lib.hid hr; clear hr
       go_wp2_with (go_at_call 146; refine (letter_any _ _).mono ?_; rintro e w' ⟨rfl, rfl⟩)
       clear hL hz
       go_loop [40] (fun i => ∃ k : Nat, k ≤ (sl l 1 l.length).length ∧ i = .int .i64 k ∧ Hid (((sl l 1 l.length).take k).all idByte = true)) (fun i => (sl l 1 l.length).length - (intOf i).toNat)
       case atStart => exact ⟨0, by omega, rfl, rfl⟩
       case round =>
         obtain ⟨k, hk, rfl, hh⟩ := hrel
         by_cases hlt : k < (sl l 1 l.length).length
         · by_cases hb : idByte (byt (sl l 1 l.length) k) = true
           · have hnext := Lib.hid (all_snoc hlt hh.out hb)
             rcases idByte_cases hb with h1 | ⟨h1, h2⟩ | ⟨h1, h2, h3, h4⟩
             · go_wp2_with (go_at_call 146; refine (letter_any _ _).mono ?_; rintro e w' ⟨rfl, rfl⟩)
               go_round
               case rel => exact ⟨k + 1, by omega, by go_num, hnext.out⟩
               case measure => simp [intOf]; omega
             · go_wp2_with (go_at_call 146; refine (letter_any _ _).mono ?_; rintro e w' ⟨rfl, rfl⟩)
               go_round
               case rel => exact ⟨k + 1, by omega, by go_num, hnext.out⟩
               case measure => simp [intOf]; omega
             · go_wp2_with (go_at_call 146; refine (letter_any _ _).mono ?_; rintro e w' ⟨rfl, rfl⟩)
               go_round
               case rel => exact ⟨k + 1, by omega, by go_num, hnext.out⟩
               case measure => simp [intOf]; omega
           · have hbf : idByte (byt (sl l 1 l.length) k) = false := by simpa using hb
             have hrf := Lib.hid (all_false hlt hbf)
             obtain ⟨h1, h2, h3⟩ := idByte_no hbf
             clear hb hbf
             by_cases h4 : (byt (sl l 1 l.length) k).toNat < 48
             · go_wp2_with (go_at_call 146; refine (letter_any _ _).mono ?_; rintro e w' ⟨rfl, rfl⟩)
               go_ret
               exact ⟨ret_bool (by rw [HR.out, hrf.out]), by go_grown⟩
             · have h5 : 57 < (byt (sl l 1 l.length) k).toNat := by omega
               go_wp2_with (go_at_call 146; refine (letter_any _ _).mono ?_; rintro e w' ⟨rfl, rfl⟩)
               go_ret
               exact ⟨ret_bool (by rw [HR.out, hrf.out]), by go_grown⟩
         · have hall := hh.out
           rw [List.take_of_length_le (by omega)] at hall
           have HA := Lib.hid hall; clear hall
           go_wp2_with fail
           go_ret
           exact ⟨ret_bool (by rw [HR.out, HA.out]), by go_grown⟩
     · have hLf : letterB (byt (sl l 1 l.length) 0) = false := by simpa using hL
       have hr : r = false := by rw [HT.out, idTail_neg hm1 hLf]
       have HR := Lib.hid hr; clear hr hL
       go_wp2_with (go_at_call 146; refine (letter_any _ _).mono ?_; rintro e w' ⟨rfl, rfl⟩)
       go_ret
       exact ⟨ret_bool HR.out.symm, by go_grown⟩
   · rw [if_neg (by simp [h35, h95]), HI.out] at hrest
     have HT := Lib.hid hrest; clear hrest
     have e35 : (((byt l 0).toNat : Int) == 35) = false := u8_ne h35
     have e95 : (((byt l 0).toNat : Int) == 95) = false := u8_ne h95
     clear h35 h95
     go_enter Tryz.func103, Tryz.ntmps103
     go_wp2_with fail
     refine (Contains_any w.heap.size 13 wordsL l _ (by decide) hw.out).mono ?_
     rintro e w' ⟨rfl, rfl⟩
     rw [HQ.out]
     by_cases hm0 : l.length = 0
     · have hr : r = false := by rw [HT.out, idTail_nil hm0]
       have HR := Lib.hid hr; clear hr
       have hz : ((l.length : Int) == 0) = true := by rw [hm0]; rfl
       go_wp2_with fail
       go_ret
       exact ⟨ret_bool HR.out.symm, by go_grown⟩
     have hm1 : 0 < l.length := by omega
     have hz : ((l.length : Int) == 0) = false := beq_eq_false_iff_ne.2 (by omega)
     clear hm0
     by_cases hL : letterB (byt l 0) = true
     · have hr : r = l.all idByte := by rw [HT.out, idTail_pos hm1 hL]
       have HR := Lib.hid hr; clear hr
       go_wp2_with (go_at_call 146; refine (letter_any _ _).mono ?_; rintro e w' ⟨rfl, rfl⟩)
       clear hL hz
       go_loop [40] (fun i => ∃ k : Nat, k ≤ l.length ∧ i = .int .i64 k ∧ Hid ((l.take k).all idByte = true)) (fun i => l.length - (intOf i).toNat)
       case atStart => exact ⟨0, by omega, rfl, rfl⟩
       case round =>
         obtain ⟨k, hk, rfl, hh⟩ := hrel
         by_cases hlt : k < l.length
         · by_cases hb : idByte (byt l k) = true
           · have hnext := Lib.hid (all_snoc hlt hh.out hb)
             rcases idByte_cases hb with h1 | ⟨h1, h2⟩ | ⟨h1, h2, h3, h4⟩
             · go_wp2_with (go_at_call 146; refine (letter_any _ _).mono ?_; rintro e w' ⟨rfl, rfl⟩)
               go_round
               case rel => exact ⟨k + 1, by omega, by go_num, hnext.out⟩
               case measure => simp [intOf]; omega
             · go_wp2_with (go_at_call 146; refine (letter_any _ _).mono ?_; rintro e w' ⟨rfl, rfl⟩)
               go_round
               case rel => exact ⟨k + 1, by omega, by go_num, hnext.out⟩
               case measure => simp [intOf]; omega
             · go_wp2_with (go_at_call 146; refine (letter_any _ _).mono ?_; rintro e w' ⟨rfl, rfl⟩)
               go_round
               case rel => exact ⟨k + 1, by omega, by go_num, hnext.out⟩
               case measure => simp [intOf]; omega
           · have hbf : idByte (byt l k) = false := by simpa using hb
             have hrf := Lib.hid (all_false hlt hbf)
             obtain ⟨h1, h2, h3⟩ := idByte_no hbf
             clear hb hbf
             by_cases h4 : (byt l k).toNat < 48
             · go_wp2_with (go_at_call 146; refine (letter_any _ _).mono ?_; rintro e w' ⟨rfl, rfl⟩)
               go_ret
               exact ⟨ret_bool (by rw [HR.out, hrf.out]), by go_grown⟩
             · have h5 : 57 < (byt l k).toNat := by omega
               go_wp2_with (go_at_call 146; refine (letter_any _ _).mono ?_; rintro e w' ⟨rfl, rfl⟩)
               go_ret
               exact ⟨ret_bool (by rw [HR.out, hrf.out]), by go_grown⟩
         · have hall := hh.out
           rw [List.take_of_length_le (by omega)] at hall
           have HA := Lib.hid hall; clear hall
           go_wp2_with fail
           go_ret
           exact ⟨ret_bool (by rw [HR.out, HA.out]), by go_grown⟩
     · have hLf : letterB (byt l 0) = false := by simpa using hL
       have hr : r = false := by rw [HT.out, idTail_neg hm1 hLf]
       have HR := Lib.hid hr; clear hr hL
       go_wp2_with (go_at_call 146; refine (letter_any _ _).mono ?_; rintro e w' ⟨rfl, rfl⟩)
       go_ret
       exact ⟨ret_bool HR.out.symm, by go_grown⟩
end
section
open Go.RowKit
theorem byt_drop (l : List UInt8) (f : Nat) : byt (l.drop f) 0 = byt l f := by
 simp [byt, List.getD, List.getElem?_drop]
theorem byt_drop' (l : List UInt8) (f k : Nat) (h : f ≤ k) : byt (l.drop f) (k - f) = byt l k := by
 simp only [byt, List.getD, List.getElem?_drop]; rw [show f + (k - f) = k by omega]
theorem all_snoc_drop {l : List UInt8} {f k : Nat} (hf : f ≤ k) (hk : k < l.length) (h : ((l.drop f).take (k - f)).all idByte = true) (hb : idByte (byt l k) = true) : ((l.drop f).take (k + 1 - f)).all idByte = true := by
 rw [show k + 1 - f = (k - f) + 1 by omega]
 exact all_snoc (by rw [List.length_drop]; omega) h (by rw [byt_drop' l f k hf]; exact hb)
theorem all_false_drop {l : List UInt8} {f k : Nat} (hf : f ≤ k) (hk : k < l.length) (hb : idByte (byt l k) = false) : (l.drop f).all idByte = false :=
 all_false (k := k - f) (by rw [List.length_drop]; omega) (by rw [byt_drop' l f k hf]; exact hb)
theorem idByte_cases2 {c : UInt8} (h : idByte c = true) : letterB c = true ∨ (letterB c = false ∧ digitB c = true) ∨ (letterB c = false ∧ digitB c = false ∧ ((c.toNat : Int) != 95) = false) := by
 unfold idByte at h
 cases hl : letterB c with
 | true => exact .inl rfl
 | false =>
   cases hd : digitB c with
   | true => exact .inr (.inl ⟨rfl, rfl⟩)
   | false =>
     rw [hl, hd] at h
     have : c = 95 := by simpa using h
     subst this
     exact .inr (.inr ⟨rfl, rfl, rfl⟩)
theorem idByte_no2 {c : UInt8} (h : idByte c = false) : letterB c = false ∧ digitB c = false ∧ ((c.toNat : Int) != 95) = true := by
 obtain ⟨h1, h2, _⟩ := idByte_no h
 unfold idByte at h
 simp only [Bool.or_eq_false_iff] at h
 exact ⟨h1, h.2, h2⟩
theorem Words_any (w : World) : Calls Tryz.prog 166 #[] w fun e w' => e = .returned (.slice (some ⟨w.heap.size, 0, none⟩) 13 13) ∧ w' = w.alloc (.cells #[.string ⟨#[110, 117, 108, 108]⟩, .string ⟨#[116, 114, 117, 101]⟩, .string ⟨#[102, 97, 108, 115, 101]⟩, .string ⟨#[98, 111, 111, 108]⟩, .string ⟨#[105, 110, 116]⟩, .string ⟨#[110, 117, 109, 98, 101, 114]⟩, .string ⟨#[115, 116, 114, 105, 110, 103]⟩, .string ⟨#[108, 101, 116]⟩, .string ⟨#[105, 102]⟩, .string ⟨#[102, 111, 114]⟩, .string ⟨#[105, 110]⟩, .string ⟨#[112, 97, 99, 107, 97, 103, 101]⟩, .string ⟨#[105, 109, 112, 111, 114, 116]⟩] 9) := by
 go_enter Tryz.func166, Tryz.ntmps166
 go_wp2
 go_ret
 exact ⟨rfl, rfl⟩
set_option maxRecDepth 100000 in
set_option maxHeartbeats 2000000 in
theorem refIdent_any (l : List UInt8) (hl : l.length ≤ 1000000) (w : World) :
   Calls Tryz.prog 123 #[.string (S l)] w fun e w' => e = .returned (.bool (identB l)) ∧ Below w.heap.size w w' := by
 generalize hr : identB l = r
 have HI := Lib.hid hr; clear hr
 by_cases hbig : 32 < l.length
 · have hr : r = false := by rw [← HI.out, identB_big hbig]
   have HR := Lib.hid hr; clear hr
   go_enter Tryz.func123, Tryz.ntmps123
   go_wp2_with fail
   go_ret
   exact ⟨ret_bool HR.out.symm, Below.refl _ _⟩
 by_cases h0 : l.length = 0
 · have hr : r = false := by rw [← HI.out, List.eq_nil_of_length_eq_zero h0]; rfl
   have HR := Lib.hid hr; clear hr
   have hz : (l.length : Int) < 1 := by omega
   go_enter Tryz.func123, Tryz.ntmps123
   go_wp2_with fail
   go_ret
   exact ⟨ret_bool HR.out.symm, Below.refl _ _⟩
 have hw := words_at w 9
 have hbw : Below w.heap.size w (w.alloc (.cells #[.string ⟨#[110, 117, 108, 108]⟩, .string ⟨#[116, 114, 117, 101]⟩, .string ⟨#[102, 97, 108, 115, 101]⟩, .string ⟨#[98, 111, 111, 108]⟩, .string ⟨#[105, 110, 116]⟩, .string ⟨#[110, 117, 109, 98, 101, 114]⟩, .string ⟨#[115, 116, 114, 105, 110, 103]⟩, .string ⟨#[108, 101, 116]⟩, .string ⟨#[105, 102]⟩, .string ⟨#[102, 111, 114]⟩, .string ⟨#[105, 110]⟩, .string ⟨#[112, 97, 99, 107, 97, 103, 101]⟩, .string ⟨#[105, 109, 112, 111, 114, 116]⟩] 9)) := (Below.refl _ _).alloc (Nat.le_refl _) _
 obtain ⟨W1, hW1⟩ : ∃ W1, W1 = w.alloc (.cells #[.string ⟨#[110, 117, 108, 108]⟩, .string ⟨#[116, 114, 117, 101]⟩, .string ⟨#[102, 97, 108, 115, 101]⟩, .string ⟨#[98, 111, 111, 108]⟩, .string ⟨#[105, 110, 116]⟩, .string ⟨#[110, 117, 109, 98, 101, 114]⟩, .string ⟨#[115, 116, 114, 105, 110, 103]⟩, .string ⟨#[108, 101, 116]⟩, .string ⟨#[105, 102]⟩, .string ⟨#[102, 111, 114]⟩, .string ⟨#[105, 110]⟩, .string ⟨#[112, 97, 99, 107, 97, 103, 101]⟩, .string ⟨#[105, 109, 112, 111, 114, 116]⟩] 9) := ⟨_, rfl⟩
 rw [← hW1] at hw hbw
 have HW := Lib.hid hw; have hBw := hbw; have HE := Lib.hid hW1; clear hw hbw hW1
 have hbig' : l.length ≤ 32 := by omega
 have h0' : 0 < l.length := by omega
 clear h0
 go_enter Tryz.func123, Tryz.ntmps123
 go_wp2_with fail
 refine (Words_any _).mono ?_
 rintro e w' ⟨rfl, hw'⟩
 rw [← HE.out] at hw'
 subst hw'
 go_wp2_with fail
 go_loop [17] (fun i => ∃ k : Nat, k ≤ 13 ∧ i = .int .i64 k ∧ Hid (l ∉ wordsL.take k)) (fun i => 13 - (intOf i).toNat)
 case atStart => exact ⟨0, by omega, rfl, by show l ∉ wordsL.take 0; simp⟩
 case round =>
   obtain ⟨k, hk, rfl, hh⟩ := hrel
   by_cases hlt : k < 13
   · have hcell := HW.out k hlt
     by_cases he : (l == wd wordsL k) = true
     · have hm : wordsL.contains l = true := by
         rw [List.contains_iff_mem]
         have : l = wd wordsL k := by simpa using he
         rw [this, wd_get wordsL k hlt]; exact List.getElem_mem hlt
       have hr : r = false := by rw [← HI.out, identB_word hm]
       have HR := Lib.hid hr; clear hr hm
       go_wp2_with fail
       go_ret
       exact ⟨ret_bool HR.out.symm, hBw⟩
     · have he' : (l == wd wordsL k) = false := by simpa using he
       clear he
       go_wp2_with fail
       go_round
       case rel => exact ⟨k + 1, by omega, by go_num, contains_step hlt hh.out he'⟩
       case measure => simp [intOf]; omega
   · have hm : wordsL.contains l = false := by
       have := hh.out
       rw [List.take_of_length_le (by show 13 ≤ k; omega)] at this
       rw [← Bool.not_eq_true, List.contains_iff_mem]; exact this
     have hrest := identB_rest hbig hm h0'
     clear hm
     by_cases h35 : byt l 0 = 35
     · rw [if_pos (.inl h35), HI.out] at hrest
       have HT := Lib.hid hrest; clear hrest
       by_cases hm0 : l.length = 1
       · have hr : r = false := by rw [HT.out, idTail_nil (by rw [List.length_drop]; omega)]
         have HR := Lib.hid hr; clear hr
         have hz : (l.length : Int) ≤ 1 := by omega
         go_wp2_with fail
         go_ret
         exact ⟨ret_bool HR.out.symm, hBw⟩
       have hm1 : 1 < l.length := by omega
       clear hm0
       by_cases hL : letterB (byt l 1) = true
       · have hr : r = (l.drop 1).all idByte := by rw [HT.out, idTail_pos (by rw [List.length_drop]; omega) (by rw [byt_drop]; exact hL)]
         have HR := Lib.hid hr; clear hr
         go_wp2_with (first | (go_at_call 167; refine (Letter_any _ _).mono ?_; rintro e w' ⟨rfl, rfl⟩) | (go_at_call 168; refine (Digit_any _ _).mono ?_; rintro e w' ⟨rfl, rfl⟩))
         clear hL
         go_loop [6] (fun i => ∃ k : Nat, 1 ≤ k ∧ k ≤ l.length ∧ i = .int .i64 k ∧ Hid (((l.drop 1).take (k - 1)).all idByte = true)) (fun i => l.length - (intOf i).toNat)
         case atStart => exact ⟨1, by omega, by omega, rfl, by show (List.take _ _).all idByte = true; simp⟩
         case round =>
           obtain ⟨k, hk0, hk, rfl, hh⟩ := hrel
           by_cases hlt : k < l.length
           · by_cases hb : idByte (byt l k) = true
             · have hnext : Hid (((l.drop 1).take (k + 1 - 1)).all idByte = true) := all_snoc_drop hk0 hlt hh.out hb
               rcases idByte_cases2 hb with h1 | ⟨h1, h2⟩ | ⟨h1, h2, h3⟩
               · go_wp2_with (first | (go_at_call 167; refine (Letter_any _ _).mono ?_; rintro e w' ⟨rfl, rfl⟩) | (go_at_call 168; refine (Digit_any _ _).mono ?_; rintro e w' ⟨rfl, rfl⟩))
                 go_round
                 case rel => exact ⟨k + 1, by omega, by omega, by go_num, hnext⟩
                 case measure => simp [intOf]; omega
               · go_wp2_with (first | (go_at_call 167; refine (Letter_any _ _).mono ?_; rintro e w' ⟨rfl, rfl⟩) | (go_at_call 168; refine (Digit_any _ _).mono ?_; rintro e w' ⟨rfl, rfl⟩))
                 go_round
                 case rel => exact ⟨k + 1, by omega, by omega, by go_num, hnext⟩
                 case measure => simp [intOf]; omega
               · go_wp2_with (first | (go_at_call 167; refine (Letter_any _ _).mono ?_; rintro e w' ⟨rfl, rfl⟩) | (go_at_call 168; refine (Digit_any _ _).mono ?_; rintro e w' ⟨rfl, rfl⟩))
                 go_round
                 case rel => exact ⟨k + 1, by omega, by omega, by go_num, hnext⟩
                 case measure => simp [intOf]; omega
             · have hbf : idByte (byt l k) = false := by simpa using hb
               have hrf : Hid ((l.drop 1).all idByte = false) := all_false_drop hk0 hlt hbf
               obtain ⟨h1, h2, h3⟩ := idByte_no2 hbf
               clear hb hbf
               go_wp2_with (first | (go_at_call 167; refine (Letter_any _ _).mono ?_; rintro e w' ⟨rfl, rfl⟩) | (go_at_call 168; refine (Digit_any _ _).mono ?_; rintro e w' ⟨rfl, rfl⟩))
               go_ret
               exact ⟨ret_bool (by rw [HR.out, hrf.out]), hBw⟩
           · have hall := hh.out
             rw [List.take_of_length_le (by rw [List.length_drop]; omega)] at hall
             have HA := Lib.hid hall; clear hall
             go_wp2_with fail
             go_ret
             exact ⟨ret_bool (by rw [HR.out, HA.out]), hBw⟩
       · have hLf : letterB (byt l 1) = false := by simpa using hL
         have hr : r = false := by rw [HT.out, idTail_neg (by rw [List.length_drop]; omega) (by rw [byt_drop]; exact hLf)]
         have HR := Lib.hid hr; clear hr hL
         go_wp2_with (first | (go_at_call 167; refine (Letter_any _ _).mono ?_; rintro e w' ⟨rfl, rfl⟩) | (go_at_call 168; refine (Digit_any _ _).mono ?_; rintro e w' ⟨rfl, rfl⟩))
         go_ret
         exact ⟨ret_bool HR.out.symm, hBw⟩
     by_cases h95 : byt l 0 = 95
     · rw [if_pos (.inr h95), HI.out] at hrest
       have HT := Lib.hid hrest; clear hrest h35
       by_cases hm0 : l.length = 1
       · have hr : r = false := by rw [HT.out, idTail_nil (by rw [List.length_drop]; omega)]
         have HR := Lib.hid hr; clear hr
         have hz : (l.length : Int) ≤ 1 := by omega
         go_wp2_with fail
         go_ret
         exact ⟨ret_bool HR.out.symm, hBw⟩
       have hm1 : 1 < l.length := by omega
       clear hm0
       by_cases hL : letterB (byt l 1) = true
       · have hr : r = (l.drop 1).all idByte := by rw [HT.out, idTail_pos (by rw [List.length_drop]; omega) (by rw [byt_drop]; exact hL)]
         have HR := Lib.hid hr; clear hr
         go_wp2_with (first | (go_at_call 167; refine (Letter_any _ _).mono ?_; rintro e w' ⟨rfl, rfl⟩) | (go_at_call 168; refine (Digit_any _ _).mono ?_; rintro e w' ⟨rfl, rfl⟩))
         clear hL
         go_loop [6] (fun i => ∃ k : Nat, 1 ≤ k ∧ k ≤ l.length ∧ i = .int .i64 k ∧ Hid (((l.drop 1).take (k - 1)).all idByte = true)) (fun i => l.length - (intOf i).toNat)
         case atStart => exact ⟨1, by omega, by omega, rfl, by show (List.take _ _).all idByte = true; simp⟩
         case round =>
           obtain ⟨k, hk0, hk, rfl, hh⟩ := hrel
           by_cases hlt : k < l.length
           · by_cases hb : idByte (byt l k) = true
             · have hnext : Hid (((l.drop 1).take (k + 1 - 1)).all idByte = true) := all_snoc_drop hk0 hlt hh.out hb
               rcases idByte_cases2 hb with h1 | ⟨h1, h2⟩ | ⟨h1, h2, h3⟩
               · go_wp2_with (first | (go_at_call 167; refine (Letter_any _ _).mono ?_; rintro e w' ⟨rfl, rfl⟩) | (go_at_call 168; refine (Digit_any _ _).mono ?_; rintro e w' ⟨rfl, rfl⟩))
                 go_round
                 case rel => exact ⟨k + 1, by omega, by omega, by go_num, hnext⟩
                 case measure => simp [intOf]; omega
               · go_wp2_with (first | (go_at_call 167; refine (Letter_any _ _).mono ?_; rintro e w' ⟨rfl, rfl⟩) | (go_at_call 168; refine (Digit_any _ _).mono ?_; rintro e w' ⟨rfl, rfl⟩))
                 go_round
                 case rel => exact ⟨k + 1, by omega, by omega, by go_num, hnext⟩
                 case measure => simp [intOf]; omega
               · go_wp2_with (first | (go_at_call 167; refine (Letter_any _ _).mono ?_; rintro e w' ⟨rfl, rfl⟩) | (go_at_call 168; refine (Digit_any _ _).mono ?_; rintro e w' ⟨rfl, rfl⟩))
                 go_round
                 case rel => exact ⟨k + 1, by omega, by omega, by go_num, hnext⟩
                 case measure => simp [intOf]; omega
             · have hbf : idByte (byt l k) = false := by simpa using hb
               have hrf : Hid ((l.drop 1).all idByte = false) := all_false_drop hk0 hlt hbf
               obtain ⟨h1, h2, h3⟩ := idByte_no2 hbf
               clear hb hbf
               go_wp2_with (first | (go_at_call 167; refine (Letter_any _ _).mono ?_; rintro e w' ⟨rfl, rfl⟩) | (go_at_call 168; refine (Digit_any _ _).mono ?_; rintro e w' ⟨rfl, rfl⟩))
               go_ret
               exact ⟨ret_bool (by rw [HR.out, hrf.out]), hBw⟩
           · have hall := hh.out
             rw [List.take_of_length_le (by rw [List.length_drop]; omega)] at hall
             have HA := Lib.hid hall; clear hall
             go_wp2_with fail
             go_ret
             exact ⟨ret_bool (by rw [HR.out, HA.out]), hBw⟩
       · have hLf : letterB (byt l 1) = false := by simpa using hL
         have hr : r = false := by rw [HT.out, idTail_neg (by rw [List.length_drop]; omega) (by rw [byt_drop]; exact hLf)]
         have HR := Lib.hid hr; clear hr hL
         go_wp2_with (first | (go_at_call 167; refine (Letter_any _ _).mono ?_; rintro e w' ⟨rfl, rfl⟩) | (go_at_call 168; refine (Digit_any _ _).mono ?_; rintro e w' ⟨rfl, rfl⟩))
         go_ret
         exact ⟨ret_bool HR.out.symm, hBw⟩
     · rw [if_neg (by simp [h35, h95]), HI.out] at hrest
       have HT : Hid (r = idTail (l.drop 0)) := hrest
       clear hrest
       have e35 : (((byt l 0).toNat : Int) == 35) = false := u8_ne h35
       have e95 : (((byt l 0).toNat : Int) == 95) = false := u8_ne h95
       clear h35 h95
       have hnil : ¬ l = [] := by intro h; rw [h] at h0'; simp at h0'
       have hm1 : 0 < l.length := by omega
       by_cases hL : letterB (byt l 0) = true
       · have hr : r = (l.drop 0).all idByte := by rw [HT.out, idTail_pos (by rw [List.length_drop]; omega) (by rw [byt_drop]; exact hL)]
         have HR := Lib.hid hr; clear hr
         go_wp2_with (first | (go_at_call 167; refine (Letter_any _ _).mono ?_; rintro e w' ⟨rfl, rfl⟩) | (go_at_call 168; refine (Digit_any _ _).mono ?_; rintro e w' ⟨rfl, rfl⟩))
         clear hL
         go_loop [6] (fun i => ∃ k : Nat, 0 ≤ k ∧ k ≤ l.length ∧ i = .int .i64 k ∧ Hid (((l.drop 0).take (k - 0)).all idByte = true)) (fun i => l.length - (intOf i).toNat)
         case atStart => exact ⟨0, by omega, by omega, rfl, by show (List.take _ _).all idByte = true; simp⟩
         case round =>
           obtain ⟨k, hk0, hk, rfl, hh⟩ := hrel
           by_cases hlt : k < l.length
           · by_cases hb : idByte (byt l k) = true
             · have hnext : Hid (((l.drop 0).take (k + 1 - 0)).all idByte = true) := all_snoc_drop hk0 hlt hh.out hb
               rcases idByte_cases2 hb with h1 | ⟨h1, h2⟩ | ⟨h1, h2, h3⟩
               · go_wp2_with (first | (go_at_call 167; refine (Letter_any _ _).mono ?_; rintro e w' ⟨rfl, rfl⟩) | (go_at_call 168; refine (Digit_any _ _).mono ?_; rintro e w' ⟨rfl, rfl⟩))
                 go_round
                 case rel => exact ⟨k + 1, by omega, by omega, by go_num, hnext⟩
                 case measure => simp [intOf]; omega
               · go_wp2_with (first | (go_at_call 167; refine (Letter_any _ _).mono ?_; rintro e w' ⟨rfl, rfl⟩) | (go_at_call 168; refine (Digit_any _ _).mono ?_; rintro e w' ⟨rfl, rfl⟩))
                 go_round
                 case rel => exact ⟨k + 1, by omega, by omega, by go_num, hnext⟩
                 case measure => simp [intOf]; omega
               · go_wp2_with (first | (go_at_call 167; refine (Letter_any _ _).mono ?_; rintro e w' ⟨rfl, rfl⟩) | (go_at_call 168; refine (Digit_any _ _).mono ?_; rintro e w' ⟨rfl, rfl⟩))
                 go_round
                 case rel => exact ⟨k + 1, by omega, by omega, by go_num, hnext⟩
                 case measure => simp [intOf]; omega
             · have hbf : idByte (byt l k) = false := by simpa using hb
               have hrf : Hid ((l.drop 0).all idByte = false) := all_false_drop hk0 hlt hbf
               obtain ⟨h1, h2, h3⟩ := idByte_no2 hbf
               clear hb hbf
               go_wp2_with (first | (go_at_call 167; refine (Letter_any _ _).mono ?_; rintro e w' ⟨rfl, rfl⟩) | (go_at_call 168; refine (Digit_any _ _).mono ?_; rintro e w' ⟨rfl, rfl⟩))
               go_ret
               exact ⟨ret_bool (by rw [HR.out, hrf.out]), hBw⟩
           · have hall := hh.out
             rw [List.take_of_length_le (by rw [List.length_drop]; omega)] at hall
             have HA := Lib.hid hall; clear hall
             go_wp2_with fail
             go_ret
             exact ⟨ret_bool (by rw [HR.out, HA.out]), hBw⟩
       · have hLf : letterB (byt l 0) = false := by simpa using hL
         have hr : r = false := by rw [HT.out, idTail_neg (by rw [List.length_drop]; omega) (by rw [byt_drop]; exact hLf)]
         have HR := Lib.hid hr; clear hr hL
         go_wp2_with (first | (go_at_call 167; refine (Letter_any _ _).mono ?_; rintro e w' ⟨rfl, rfl⟩) | (go_at_call 168; refine (Digit_any _ _).mono ?_; rintro e w' ⟨rfl, rfl⟩))
         go_ret
         exact ⟨ret_bool HR.out.symm, hBw⟩
end
section
open Go.RowKit
def hexI (c : UInt8) : Int := match hexVal c with | some v => v.toNat | none => -1
theorem hexI_nat (c : UInt8) : hexI c = if 48 ≤ c.toNat ∧ c.toNat ≤ 57 then (c.toNat : Int) - 48 else if 97 ≤ c.toNat ∧ c.toNat ≤ 102 then (c.toNat : Int) - 87 else if 65 ≤ c.toNat ∧ c.toNat ≤ 70 then (c.toNat : Int) - 55 else -1 :=
 forall_u8 (P := fun c => hexI c = if 48 ≤ c.toNat ∧ c.toNat ≤ 57 then (c.toNat : Int) - 48 else if 97 ≤ c.toNat ∧ c.toNat ≤ 102 then (c.toNat : Int) - 87 else if 65 ≤ c.toNat ∧ c.toNat ≤ 70 then (c.toNat : Int) - 55 else -1) (by decide +kernel) c
set_option maxHeartbeats 400000 in
theorem Hex_any (c : UInt8) (w : World) : Calls Tryz.prog 212 #[.int .u8 (c.toNat : Int)] w fun e w' => e = .returned (.int .i64 (hexI c)) ∧ w = w' := by
 have hlt := c.toNat_lt
 have hn := hexI_nat c
 generalize hexI c = b at hn ⊢
 have HN := Lib.hid hn
 clear hn
 have hd := digitB_nat c
 by_cases h0 : 48 ≤ c.toNat ∧ c.toNat ≤ 57
 · have hd' : digitB c = true := by rw [hd]; simpa using h0
   clear hd
   obtain ⟨h1, h2⟩ := h0
   go_enter Tryz.func212, Tryz.ntmps212
   go_wp2_with (go_at_call 168; refine (Digit_any _ _).mono ?_; rintro e w' ⟨rfl, rfl⟩)
   go_ret
   exact ⟨ret_i64 (by rw [HN.out, if_pos ⟨h1, h2⟩]), rfl⟩
 · have hd' : digitB c = false := by rw [hd]; simpa using h0
   clear hd
   go_enter Tryz.func212, Tryz.ntmps212
   go_wp2_with (go_at_call 168; refine (Digit_any _ _).mono ?_; rintro e w' ⟨rfl, rfl⟩)
   all_goals
     go_ret
     exact ⟨ret_i64 (by rw [HN.out, if_neg h0]; (repeat' split) <;> omega), rfl⟩
end
section
open Go.RowKit
def low (c : UInt8) : UInt8 := c ||| 32
theorem hexI_lower (c : UInt8) : hexI c = if 48 ≤ c.toNat ∧ c.toNat ≤ 57 then (c.toNat : Int) - 48 else if 97 ≤ (low c).toNat ∧ (low c).toNat ≤ 102 then ((low c).toNat : Int) - 87 else -1 :=
 forall_u8 (P := fun c => hexI c = if 48 ≤ c.toNat ∧ c.toNat ≤ 57 then (c.toNat : Int) - 48 else if 97 ≤ (low c).toNat ∧ (low c).toNat ≤ 102 then ((low c).toNat : Int) - 87 else -1) (by decide +kernel) c
theorem or32 (c : UInt8) : bits .or .u8 (c.toNat : Int) 32 = ((low c).toNat : Int) :=
 forall_u8 (P := fun c => bits .or .u8 (c.toNat : Int) 32 = ((low c).toNat : Int)) (by decide +kernel) c
set_option maxHeartbeats 400000 in
theorem lower_any (c : UInt8) (w : World) : Calls Tryz.prog 233 #[.int .u8 (c.toNat : Int)] w fun e w' => e = .returned (.int .u8 ((low c).toNat : Int)) ∧ w = w' := by
 have ho := or32 c
 go_enter Tryz.func233, Tryz.ntmps233
 go_wp2
 go_ret
 exact ⟨rfl, rfl⟩
def pu16 (a b : UInt8) : Value := if 0 ≤ hexI a ∧ 0 ≤ hexI b then .tuple #[.int .u64 (16 * hexI a + hexI b), .nilIface] else .tuple #[.int .u64 0, .iface 217 (.int .i64 2)]
theorem lo48 (c : UInt8) (h : c.toNat < 48) : (low c).toNat < 97 :=
 forall_u8 (P := fun c => c.toNat < 48 → (low c).toNat < 97) (by decide +kernel) c h
set_option maxHeartbeats 4000000 in
set_option maxRecDepth 100000 in
theorem ParseUint16_in (a b : UInt8) (w : World) : Calls Tryz.prog 216 #[.string (S [a, b]), .int .i64 16, .int .i64 8] w fun e w' => e = .returned (pu16 a b) ∧ Below w.heap.size w w' := by
 have hcv := Lib.run_convert_string_bytes (P := Tryz.prog) w 9 138 5 (S [a, b]) (u := .string) Tryz.underlying9 Tryz.underlying138 Tryz.underlying5
 have hsz : (S [a, b]).size = 2 := rfl
 rw [hsz] at hcv
 clear hsz
 have hB0 : (Lib.bytesWorld w 5 (S [a, b])).cell? ⟨w.heap.size, 0, none⟩ = some (.int .u8 (a.toNat : Int)) := Lib.bytesWorld_cell w 5 (S [a, b]) 0 (by show 0 < 2; omega)
 have hB1 : (Lib.bytesWorld w 5 (S [a, b])).cell? ⟨w.heap.size, 1, none⟩ = some (.int .u8 (b.toNat : Int)) := Lib.bytesWorld_cell w 5 (S [a, b]) 1 (by show 1 < 2; omega)
 have hbel : Below w.heap.size w (Lib.bytesWorld w 5 (S [a, b])) := Joins.below_bytesWorld _ w _ _ (Nat.le_refl _)
 obtain ⟨W1, hW1⟩ : ∃ W1, W1 = Lib.bytesWorld w 5 (S [a, b]) := ⟨_, rfl⟩
 rw [← hW1] at hcv hB0 hB1 hbel
 clear hW1
 generalize hp : pu16 a b = r
 unfold pu16 at hp
 have HP := Lib.hid hp
 clear hp
 have ha := hexI_lower a
 have hb := hexI_lower b
 have la := a.toNat_lt
 have lb := b.toNat_lt
 have la' := (low a).toNat_lt
 have lb' := (low b).toNat_lt
 generalize hexI a = va at ha HP
 generalize hexI b = vb at hb HP
 have HA := Lib.hid ha
 have HB := Lib.hid hb
 clear ha hb
 go_enter Tryz.func216, Tryz.ntmps216
 go_wp2_with fail
 clear hcv
 go_loop [12, 13, 101] (fun vu vn vi => ∃ (k : Nat) (n : Int), vu = .bool false ∧ vn = .int .u64 n ∧ vi = .int .i64 k ∧ 0 ≤ n ∧ n ≤ 255 ∧ Hid ((k = 0 ∧ n = 0) ∨ (k = 1 ∧ n = va ∧ 0 ≤ va ∧ va ≤ 15) ∨ (k = 2 ∧ n = 16 * va + vb ∧ 0 ≤ va ∧ 0 ≤ vb)))
   (fun _ _ vi => 2 - (intOf vi).toNat)
 case atStart => exact ⟨0, 0, rfl, rfl, rfl, by omega, by omega, .inl ⟨rfl, rfl⟩⟩
 case round =>
   obtain ⟨k, n, rfl, rfl, rfl, hn0, hn1, hh⟩ := hrel
   rcases hh.out with ⟨rfl, rfl⟩ | ⟨rfl, rfl, h1, h2⟩ | ⟨rfl, hn, h1, h2⟩
   · clear hh
     by_cases d0 : 48 ≤ a.toNat
     · by_cases d1 : a.toNat ≤ 57
       · have hv : va = (a.toNat : Int) - 48 := by rw [HA.out, if_pos ⟨d0, d1⟩]
         have HV := Lib.hid hv; clear hv
         go_wp2_with (go_at_call 233; refine (lower_any _ _).mono ?_; rintro e w' ⟨rfl, rfl⟩)
         go_round
         case rel => exact ⟨1, (a.toNat : Int) - 48, rfl, by go_num, rfl, by omega, by omega, .inr (.inl ⟨rfl, HV.out.symm, by rw [HV.out]; omega, by rw [HV.out]; omega⟩)⟩
         case measure => simp [intOf]
       · by_cases h95 : a = 95
         · subst h95
           have hl : (low 95).toNat = 127 := by decide
           have hv : va = -1 := by rw [HA.out, if_neg (by decide), if_neg (by decide)]
           have hr : r = .tuple #[.int .u64 0, .iface 217 (.int .i64 2)] := by rw [← HP.out, if_neg (by omega)]
           have HR := Lib.hid hr; clear hr hv
           go_wp2_with (go_at_call 233; refine (lower_any 95 _).mono ?_; rintro e w' ⟨rfl, rfl⟩)
           go_ret2
           exact ⟨by rw [HR.out]; rfl, hbel⟩
         have e95 : ((a.toNat : Int) == 95) = false := u8_ne h95
         by_cases x0 : 97 ≤ (low a).toNat
         · by_cases x1 : (low a).toNat ≤ 102
           · have hv : va = ((low a).toNat : Int) - 87 := by rw [HA.out, if_neg (by omega), if_pos ⟨x0, x1⟩]
             have HV := Lib.hid hv; clear hv
             go_wp2_with (go_at_call 233; refine (lower_any _ _).mono ?_; rintro e w' ⟨rfl, rfl⟩)
             go_round
             case rel => exact ⟨1, ((low a).toNat : Int) - 87, rfl, by go_num, rfl, by omega, by omega, .inr (.inl ⟨rfl, HV.out.symm, by rw [HV.out]; omega, by rw [HV.out]; omega⟩)⟩
             case measure => simp [intOf]
           · by_cases x2 : (low a).toNat ≤ 122
             · have hv : va = -1 := by rw [HA.out, if_neg (by omega), if_neg (by omega)]
               have hr : r = .tuple #[.int .u64 0, .iface 217 (.int .i64 2)] := by rw [← HP.out, if_neg (by omega)]
               have HR := Lib.hid hr; clear hr hv
               go_wp2_with (go_at_call 233; refine (lower_any _ _).mono ?_; rintro e w' ⟨rfl, rfl⟩)
               go_ret2
               exact ⟨by rw [HR.out]; rfl, hbel⟩
             · have hv : va = -1 := by rw [HA.out, if_neg (by omega), if_neg (by omega)]
               have hr : r = .tuple #[.int .u64 0, .iface 217 (.int .i64 2)] := by rw [← HP.out, if_neg (by omega)]
               have HR := Lib.hid hr; clear hr hv
               go_wp2_with (go_at_call 233; refine (lower_any _ _).mono ?_; rintro e w' ⟨rfl, rfl⟩)
               go_ret2
               exact ⟨by rw [HR.out]; rfl, hbel⟩
         · have hv : va = -1 := by rw [HA.out, if_neg (by omega), if_neg (by omega)]
           have hr : r = .tuple #[.int .u64 0, .iface 217 (.int .i64 2)] := by rw [← HP.out, if_neg (by omega)]
           have HR := Lib.hid hr; clear hr hv
           go_wp2_with (go_at_call 233; refine (lower_any _ _).mono ?_; rintro e w' ⟨rfl, rfl⟩)
           go_ret2
           exact ⟨by rw [HR.out]; rfl, hbel⟩
     · have x0 := lo48 a (by omega)
       have hv : va = -1 := by rw [HA.out, if_neg (by omega), if_neg (by omega)]
       have hr : r = .tuple #[.int .u64 0, .iface 217 (.int .i64 2)] := by rw [← HP.out, if_neg (by omega)]
       have HR := Lib.hid hr; clear hr hv
       go_wp2_with (go_at_call 233; refine (lower_any _ _).mono ?_; rintro e w' ⟨rfl, rfl⟩)
       go_ret2
       exact ⟨by rw [HR.out]; rfl, hbel⟩
   · clear hh
     by_cases d0 : 48 ≤ b.toNat
     · by_cases d1 : b.toNat ≤ 57
       · have hv : vb = (b.toNat : Int) - 48 := by rw [HB.out, if_pos ⟨d0, d1⟩]
         have HV := Lib.hid hv; clear hv
         go_wp2_with (go_at_call 233; refine (lower_any _ _).mono ?_; rintro e w' ⟨rfl, rfl⟩)
         go_round
         case rel => exact ⟨2, 16 * n + ((b.toNat : Int) - 48), rfl, by go_num, rfl, by omega, by omega, .inr (.inr ⟨rfl, by rw [HV.out], h1, by rw [HV.out]; omega⟩)⟩
         case measure => simp [intOf]
       · by_cases h95 : b = 95
         · subst h95
           have hl : (low 95).toNat = 127 := by decide
           have hv : vb = -1 := by rw [HB.out, if_neg (by decide), if_neg (by decide)]
           have hr : r = .tuple #[.int .u64 0, .iface 217 (.int .i64 2)] := by rw [← HP.out, if_neg (by omega)]
           have HR := Lib.hid hr; clear hr hv
           go_wp2_with (go_at_call 233; refine (lower_any 95 _).mono ?_; rintro e w' ⟨rfl, rfl⟩)
           go_ret2
           exact ⟨by rw [HR.out]; rfl, hbel⟩
         have e95 : ((b.toNat : Int) == 95) = false := u8_ne h95
         by_cases x0 : 97 ≤ (low b).toNat
         · by_cases x1 : (low b).toNat ≤ 102
           · have hv : vb = ((low b).toNat : Int) - 87 := by rw [HB.out, if_neg (by omega), if_pos ⟨x0, x1⟩]
             have HV := Lib.hid hv; clear hv
             go_wp2_with (go_at_call 233; refine (lower_any _ _).mono ?_; rintro e w' ⟨rfl, rfl⟩)
             go_round
             case rel => exact ⟨2, 16 * n + (((low b).toNat : Int) - 87), rfl, by go_num, rfl, by omega, by omega, .inr (.inr ⟨rfl, by rw [HV.out], h1, by rw [HV.out]; omega⟩)⟩
             case measure => simp [intOf]
           · by_cases x2 : (low b).toNat ≤ 122
             · have hv : vb = -1 := by rw [HB.out, if_neg (by omega), if_neg (by omega)]
               have hr : r = .tuple #[.int .u64 0, .iface 217 (.int .i64 2)] := by rw [← HP.out, if_neg (by omega)]
               have HR := Lib.hid hr; clear hr hv
               go_wp2_with (go_at_call 233; refine (lower_any _ _).mono ?_; rintro e w' ⟨rfl, rfl⟩)
               go_ret2
               exact ⟨by rw [HR.out]; rfl, hbel⟩
             · have hv : vb = -1 := by rw [HB.out, if_neg (by omega), if_neg (by omega)]
               have hr : r = .tuple #[.int .u64 0, .iface 217 (.int .i64 2)] := by rw [← HP.out, if_neg (by omega)]
               have HR := Lib.hid hr; clear hr hv
               go_wp2_with (go_at_call 233; refine (lower_any _ _).mono ?_; rintro e w' ⟨rfl, rfl⟩)
               go_ret2
               exact ⟨by rw [HR.out]; rfl, hbel⟩
         · have hv : vb = -1 := by rw [HB.out, if_neg (by omega), if_neg (by omega)]
           have hr : r = .tuple #[.int .u64 0, .iface 217 (.int .i64 2)] := by rw [← HP.out, if_neg (by omega)]
           have HR := Lib.hid hr; clear hr hv
           go_wp2_with (go_at_call 233; refine (lower_any _ _).mono ?_; rintro e w' ⟨rfl, rfl⟩)
           go_ret2
           exact ⟨by rw [HR.out]; rfl, hbel⟩
     · have x0 := lo48 b (by omega)
       have hv : vb = -1 := by rw [HB.out, if_neg (by omega), if_neg (by omega)]
       have hr : r = .tuple #[.int .u64 0, .iface 217 (.int .i64 2)] := by rw [← HP.out, if_neg (by omega)]
       have HR := Lib.hid hr; clear hr hv
       go_wp2_with (go_at_call 233; refine (lower_any _ _).mono ?_; rintro e w' ⟨rfl, rfl⟩)
       go_ret2
       exact ⟨by rw [HR.out]; rfl, hbel⟩
   · clear hh
     have hr : r = .tuple #[.int .u64 n, .nilIface] := by rw [← HP.out, if_pos ⟨h1, h2⟩, hn]
     have HR := Lib.hid hr; clear hr hn
     go_wp2
     go_ret2
     exact ⟨by rw [HR.out]; rfl, hbel⟩
end
section
open Go.RowKit
theorem unesc_end (l : List UInt8) (i : Nat) (h : l.length ≤ i + 1) : unesc (l.drop i) = (0, 0) := by
 have : (l.drop i).length ≤ 1 := by rw [List.length_drop]; omega
 match hd : l.drop i, this with
 | [], _ => rfl
 | [_], _ => rfl
theorem unesc_at (l : List UInt8) (i : Nat) (h : i + 1 < l.length) : unesc (l.drop i) =
   if byt l (i + 1) = 34 ∨ byt l (i + 1) = 92 then (byt l (i + 1), 2) else if byt l (i + 1) = 110 then (10, 2) else if byt l (i + 1) = 116 then (9, 2) else if byt l (i + 1) = 114 then (13, 2)
   else if byt l (i + 1) = 120 then (if i + 3 < l.length then (match hexTwo (byt l (i + 2)) (byt l (i + 3)) with | some x => (x, 4) | none => (0, 0)) else (0, 0)) else (0, 0) := by
 rw [drop_byt l i (by omega), drop_byt l (i + 1) h]
 simp only [unesc]
 by_cases h3 : i + 3 < l.length
 · rw [if_pos h3, drop_byt l (i + 1 + 1) (by omega), drop_byt l (i + 1 + 1 + 1) (by omega)]
   rfl
 · rw [if_neg h3]
   have : (l.drop (i + 1 + 1)).length ≤ 1 := by rw [List.length_drop]; omega
   match hd : l.drop (i + 1 + 1), this with
   | [], _ => rfl
   | [_], _ => rfl
theorem hexTwo_none {a b : UInt8} (h : hexI a < 0 ∨ hexI b < 0) : hexTwo a b = none := by
 unfold hexI at h; unfold hexTwo
 rcases h with h | h
 · cases ha : hexVal a with
   | none => rfl
   | some v => rw [ha] at h; simp at h; omega
 · cases hb : hexVal b with
   | none => cases hexVal a <;> rfl
   | some v => rw [hb] at h; simp at h; omega
theorem hexI_lt (c : UInt8) : -1 ≤ hexI c ∧ hexI c < 16 := by
 rw [hexI_nat]; (repeat' split) <;> omega
theorem hexTwo_some {a b : UInt8} (ha : 0 ≤ hexI a) (hb : 0 ≤ hexI b) : ∃ x, hexTwo a b = some x ∧ (x.toNat : Int) = 16 * hexI a + hexI b := by
 have h1 := hexI_lt a
 have h2 := hexI_lt b
 unfold hexI at *; unfold hexTwo
 cases hva : hexVal a with
 | none => rw [hva] at ha; simp at ha
 | some v =>
   cases hvb : hexVal b with
   | none => rw [hvb] at hb; simp at hb
   | some u =>
     rw [hva] at h1; rw [hvb] at h2
     simp at h1 h2
     refine ⟨_, rfl, ?_⟩
     simp
     omega
def uneVal (r : UInt8 × Nat) : Value := .tuple #[.int .u8 (r.1.toNat : Int), .int .i64 (r.2 : Int)]
theorem ret_une {r : UInt8 × Nat} {a : UInt8} {n : Nat} (h : r = (a, n)) : Ending.returned (.tuple #[.int .u8 (a.toNat : Int), .int .i64 (n : Int)]) = .returned (uneVal r) := by rw [h]; rfl
set_option maxHeartbeats 1000000 in
theorem Escape_any (l : List UInt8) (i : Nat) (hl : l.length ≤ 1000000) (hi : i < l.length) (h92 : byt l i = 92) (w : World) :
   Calls Tryz.prog 170 #[.string (S l), .int .i64 (i : Int)] w fun e w' => e = .returned (uneVal (unesc (l.drop i))) ∧ Below w.heap.size w w' := by
 by_cases h1 : l.length ≤ i + 1
 · have hf := Lib.hid (unesc_end l i h1)
   generalize unesc (l.drop i) = r at hf ⊢
   go_enter Tryz.func170, Tryz.ntmps170
   go_wp2
   go_ret2
   exact ⟨ret_une hf.out, Below.refl _ _⟩
 have h1' : i + 1 < l.length := by omega
 have hf := unesc_at l i h1'
 generalize unesc (l.drop i) = r at hf ⊢
 clear h1
 by_cases d34 : byt l (i + 1) = 34
 · rw [if_pos (.inl d34), d34] at hf
   have HF := Lib.hid hf; clear hf
   go_enter Tryz.func170, Tryz.ntmps170
   go_wp2
   go_ret2
   exact ⟨ret_une HF.out, Below.refl _ _⟩
 by_cases d92 : byt l (i + 1) = 92
 · rw [if_pos (.inr d92), d92] at hf
   have HF := Lib.hid hf; clear hf
   go_enter Tryz.func170, Tryz.ntmps170
   go_wp2
   go_ret2
   exact ⟨ret_une HF.out, Below.refl _ _⟩
 rw [if_neg (by simp [d34, d92])] at hf
 have e34 : (((byt l (i + 1)).toNat : Int) == 34) = false := u8_ne d34
 have e92 : (((byt l (i + 1)).toNat : Int) == 92) = false := u8_ne d92
 clear d34 d92
 by_cases d110 : byt l (i + 1) = 110
 · rw [if_pos d110] at hf
   have HF := Lib.hid hf; clear hf
   go_enter Tryz.func170, Tryz.ntmps170
   go_wp2
   go_ret2
   exact ⟨ret_une HF.out, Below.refl _ _⟩
 rw [if_neg d110] at hf
 have e110 : (((byt l (i + 1)).toNat : Int) == 110) = false := u8_ne d110
 clear d110
 by_cases d116 : byt l (i + 1) = 116
 · rw [if_pos d116] at hf
   have HF := Lib.hid hf; clear hf
   go_enter Tryz.func170, Tryz.ntmps170
   go_wp2
   go_ret2
   exact ⟨ret_une HF.out, Below.refl _ _⟩
 rw [if_neg d116] at hf
 have e116 : (((byt l (i + 1)).toNat : Int) == 116) = false := u8_ne d116
 clear d116
 by_cases d114 : byt l (i + 1) = 114
 · rw [if_pos d114] at hf
   have HF := Lib.hid hf; clear hf
   go_enter Tryz.func170, Tryz.ntmps170
   go_wp2
   go_ret2
   exact ⟨ret_une HF.out, Below.refl _ _⟩
 rw [if_neg d114] at hf
 have e114 : (((byt l (i + 1)).toNat : Int) == 114) = false := u8_ne d114
 clear d114
 by_cases d120 : byt l (i + 1) = 120
 · rw [if_pos d120] at hf
   by_cases h3 : i + 3 < l.length
   · rw [if_pos h3] at hf
     have a1 := hexI_lt (byt l (i + 2))
     have a2 := hexI_lt (byt l (i + 3))
     by_cases n1 : hexI (byt l (i + 2)) < 0
     · rw [hexTwo_none (.inl n1)] at hf
       have HF := Lib.hid hf; clear hf
       go_enter Tryz.func170, Tryz.ntmps170
       go_wp2_with (go_at_call 212; refine (Hex_any _ _).mono ?_; rintro e w' ⟨rfl, rfl⟩)
       go_ret2
       exact ⟨ret_une HF.out, Below.refl _ _⟩
     by_cases n2 : hexI (byt l (i + 3)) < 0
     · rw [hexTwo_none (.inr n2)] at hf
       have HF := Lib.hid hf; clear hf
       go_enter Tryz.func170, Tryz.ntmps170
       go_wp2_with (go_at_call 212; refine (Hex_any _ _).mono ?_; rintro e w' ⟨rfl, rfl⟩)
       go_ret2
       exact ⟨ret_une HF.out, Below.refl _ _⟩
     obtain ⟨x, hx, hxv⟩ := hexTwo_some (a := byt l (i + 2)) (b := byt l (i + 3)) (by omega) (by omega)
     rw [hx] at hf
     have HF := Lib.hid hf; clear hf
     have HX := Lib.hid hxv; clear hxv hx
     have n1' : 0 ≤ hexI (byt l (i + 2)) := by omega
     have n2' : 0 ≤ hexI (byt l (i + 3)) := by omega
     go_enter Tryz.func170, Tryz.ntmps170
     go_wp2_with (go_at_call 212; refine (Hex_any _ _).mono ?_; rintro e w' ⟨rfl, rfl⟩)
     have b1 : IntKind.i64.wrap ((i : Int) + 2) = (i : Int) + 2 := IntWalk.i64_in _ (by omega)
     have b2 : IntKind.i64.wrap ((i : Int) + 3) = (i : Int) + 3 := IntWalk.i64_in _ (by omega)
     have b3 : (0 : Int) ≤ (i : Int) + 2 := by omega
     have b4 : (0 : Int) ≤ (i : Int) + 3 := by omega
     have b5 : ((i : Int) + 2).toNat = i + 2 := by omega
     have b6 : ((i : Int) + 3).toNat = i + 3 := by omega
     have b7 : (i : Int) + 2 < (l.length : Int) := by omega
     have b8 : (i : Int) + 3 < (l.length : Int) := by omega
     have b9 : IntKind.i64.wrap (16 * hexI (byt l (i + 2))) = 16 * hexI (byt l (i + 2)) := IntWalk.i64_in _ (by omega)
     have b10 : IntKind.i64.wrap (16 * hexI (byt l (i + 2)) + hexI (byt l (i + 3))) = 16 * hexI (byt l (i + 2)) + hexI (byt l (i + 3)) := IntWalk.i64_in _ (by omega)
     have b11 : IntKind.u8.wrap (16 * hexI (byt l (i + 2)) + hexI (byt l (i + 3))) = 16 * hexI (byt l (i + 2)) + hexI (byt l (i + 3)) := IntWalk.u8_in _ (by omega)
     go_quiet ((go_at_call 212; exact quiet_left (Hex_any _ _)))
     clear b1 b2 b5 b6 b9 b10 b11
     go_wp2
     go_ret2
     exact ⟨by rw [HF.out]; show Ending.returned (.tuple #[.int .u8 _, .int .i64 4]) = .returned (.tuple #[.int .u8 (x.toNat : Int), .int .i64 4]); rw [HX.out], below_drewN (Below.refl _ _) _⟩
   · rw [if_neg h3] at hf
     have HF := Lib.hid hf; clear hf
     go_enter Tryz.func170, Tryz.ntmps170
     go_wp2
     go_ret2
     exact ⟨ret_une HF.out, Below.refl _ _⟩
 · rw [if_neg d120] at hf
   have e120 : (((byt l (i + 1)).toNat : Int) == 120) = false := u8_ne d120
   clear d120
   have HF := Lib.hid hf; clear hf
   go_enter Tryz.func170, Tryz.ntmps170
   go_wp2
   go_ret2
   exact ⟨ret_une HF.out, Below.refl _ _⟩
end
section
open Go.RowKit
def ErrOk (w : World) : Prop := ∃ te pe, w.cell? ⟨4, 0, none⟩ = some (.iface te pe)
theorem cell_lt {w : World} {b o : Nat} {v : Value} (h : w.cell? ⟨b, o, none⟩ = some v) : b < w.heap.size := by
 rcases Nat.lt_or_ge b w.heap.size with hl | hl
 · exact hl
 · exfalso; simp [World.cell?, Array.getElem?_eq_none hl] at h
theorem ErrOk.below {w w' : World} (h : ErrOk w) (hb : Below w.heap.size w w') : ErrOk w' := by
 obtain ⟨te, pe, hc⟩ := h
 exact ⟨te, pe, (hb.cell (p := ⟨4, 0, none⟩) (cell_lt hc)).trans hc⟩
set_option maxHeartbeats 1000000 in
theorem pu_ok (a b : UInt8) (ha : 0 ≤ hexI a) (hb : 0 ≤ hexI b) (w : World) :
   Calls Tryz.prog 178 #[.string (S [a, b]), .int .i64 16, .int .i64 8] w fun e w' => e = .returned (.tuple #[.int .u64 (16 * hexI a + hexI b), .nilIface]) ∧ Below w.heap.size w w' := by
 have h := ParseUint16_in a b w
 have hp : pu16 a b = .tuple #[.int .u64 (16 * hexI a + hexI b), .nilIface] := by unfold pu16; rw [if_pos ⟨ha, hb⟩]
 rw [hp] at h
 clear hp
 generalize 16 * hexI a + hexI b = n at h ⊢
 have H := Lib.hid h; clear h ha hb
 go_enter Tryz.func178, Tryz.ntmps178
 go_wp2_with fail
 refine H.out.mono ?_
 rintro e w1 ⟨rfl, hb1⟩
 clear H
 go_wp2
 go_ret2
 exact ⟨rfl, hb1⟩
set_option maxHeartbeats 1000000 in
theorem pu_err (a b : UInt8) (h : ¬ (0 ≤ hexI a ∧ 0 ≤ hexI b)) (w : World) (hE : ErrOk w) :
   Calls Tryz.prog 178 #[.string (S [a, b]), .int .i64 16, .int .i64 8] w fun e w' => (∃ N : Nat, e = .returned (.tuple #[.int .u64 0, .iface 218 (.pointer (some ⟨N, 0, none⟩))])) ∧ Below w.heap.size w w' := by
 have hp : pu16 a b = .tuple #[.int .u64 0, .iface 217 (.int .i64 2)] := by unfold pu16; rw [if_neg h]
 have h' := ParseUint16_in a b w
 rw [hp] at h'
 have H := Lib.hid h'; clear h' hp h
 go_enter Tryz.func178, Tryz.ntmps178
 go_wp2_with fail
 refine H.out.mono ?_
 rintro e w1 ⟨rfl, hb1⟩
 clear H
 obtain ⟨te, pe, hE1⟩ := hE.below hb1
 go_wp2_with fail
 refine (Tryz.strconv_toError_syntax _ (S [a, b]) _ _ _ _ (by show 2 ≤ _; omega) hE1 (.inr ⟨te, pe, rfl⟩)).mono ?_
 rintro e w2 ⟨N, rfl, _, _, hb2⟩
 go_wp2
 go_ret2
 exact ⟨⟨N, rfl⟩, hb1.trans (hb2.mono hb1.size)⟩
theorem sl24 (m : List UInt8) (h : 3 < m.length) : sl m 2 4 = [byt m 2, byt m 3] := by
 unfold sl
 rw [drop_byt m 2 (by omega), drop_byt m 3 h]; rfl
set_option maxHeartbeats 1000000 in
theorem unescape_any (m : List UInt8) (hl : m.length ≤ 1000000) (w : World) (hE : ErrOk w) :
   Calls Tryz.prog 133 #[.string (S m)] w fun e w' => e = .returned (uneVal (unesc m)) ∧ Below w.heap.size w w' := by
 by_cases h1 : m.length < 2
 · have hf := Lib.hid (unesc_end m 0 (by omega))
   rw [List.drop_zero] at hf
   generalize unesc m = r at hf ⊢
   clear hE
   go_enter Tryz.func133, Tryz.ntmps133
   go_wp2
   go_ret2
   exact ⟨ret_une hf.out, Below.refl _ _⟩
 have h1' : 1 < m.length := by omega
 have hf := unesc_at m 0 h1'
 rw [List.drop_zero, Nat.zero_add, Nat.zero_add, Nat.zero_add] at hf
 generalize unesc m = r at hf ⊢
 have HE := Lib.hid hE
 clear h1 hE
 by_cases d34 : byt m 1 = 34
 · rw [if_pos (.inl d34), d34] at hf
   have HF := Lib.hid hf; clear hf
   go_enter Tryz.func133, Tryz.ntmps133
   go_wp2
   go_ret2
   exact ⟨ret_une HF.out, Below.refl _ _⟩
 by_cases d92 : byt m 1 = 92
 · rw [if_pos (.inr d92), d92] at hf
   have HF := Lib.hid hf; clear hf
   go_enter Tryz.func133, Tryz.ntmps133
   go_wp2
   go_ret2
   exact ⟨ret_une HF.out, Below.refl _ _⟩
 rw [if_neg (by simp [d34, d92])] at hf
 have e34 : (((byt m 1).toNat : Int) == 34) = false := u8_ne d34
 have e92 : (((byt m 1).toNat : Int) == 92) = false := u8_ne d92
 clear d34 d92
 by_cases d110 : byt m 1 = 110
 · rw [if_pos d110] at hf
   have HF := Lib.hid hf; clear hf
   go_enter Tryz.func133, Tryz.ntmps133
   go_wp2
   go_ret2
   exact ⟨ret_une HF.out, Below.refl _ _⟩
 rw [if_neg d110] at hf
 have e110 : (((byt m 1).toNat : Int) == 110) = false := u8_ne d110
 clear d110
 by_cases d116 : byt m 1 = 116
 · rw [if_pos d116] at hf
   have HF := Lib.hid hf; clear hf
   go_enter Tryz.func133, Tryz.ntmps133
   go_wp2
   go_ret2
   exact ⟨ret_une HF.out, Below.refl _ _⟩
 rw [if_neg d116] at hf
 have e116 : (((byt m 1).toNat : Int) == 116) = false := u8_ne d116
 clear d116
 by_cases d114 : byt m 1 = 114
 · rw [if_pos d114] at hf
   have HF := Lib.hid hf; clear hf
   go_enter Tryz.func133, Tryz.ntmps133
   go_wp2
   go_ret2
   exact ⟨ret_une HF.out, Below.refl _ _⟩
 rw [if_neg d114] at hf
 have e114 : (((byt m 1).toNat : Int) == 114) = false := u8_ne d114
 clear d114
 by_cases d120 : byt m 1 = 120
 · rw [if_pos d120] at hf
   by_cases h3 : 3 < m.length
   · rw [if_pos h3] at hf
     have hsl := sl24 m h3
     have a1 := hexI_lt (byt m 2)
     have a2 := hexI_lt (byt m 3)
     by_cases n1 : 0 ≤ hexI (byt m 2) ∧ 0 ≤ hexI (byt m 3)
     · obtain ⟨x, hx, hxv⟩ := hexTwo_some n1.1 n1.2
       rw [hx] at hf
       have HF := Lib.hid hf; clear hf
       have HX := Lib.hid hxv; clear hxv hx
       have H := Lib.hid fun w => pu_ok (byt m 2) (byt m 3) n1.1 n1.2 w
       have b2 : 16 * hexI (byt m 2) + hexI (byt m 3) ≤ 255 := by omega
       have b3 : 0 ≤ 16 * hexI (byt m 2) + hexI (byt m 3) := by omega
       generalize 16 * hexI (byt m 2) + hexI (byt m 3) = v at H b2 b3 HX
       clear n1 a1 a2
       go_enter Tryz.func133, Tryz.ntmps133
       go_wp2_with fail
       refine (H.out _).mono ?_
       rintro e w1 ⟨rfl, hb1⟩
       clear H hsl
       go_wp2
       go_ret2
       exact ⟨by rw [HF.out, ← HX.out]; rfl, hb1⟩
     · have hn : hexTwo (byt m 2) (byt m 3) = none := hexTwo_none (by omega)
       rw [hn] at hf
       have HF := Lib.hid hf; clear hf hn
       have H := Lib.hid (pu_err (byt m 2) (byt m 3) n1 w HE.out)
       clear n1 a1 a2
       go_enter Tryz.func133, Tryz.ntmps133
       go_wp2_with fail
       refine H.out.mono ?_
       rintro e w1 ⟨⟨N, rfl⟩, hb1⟩
       clear H hsl
       go_wp2
       go_ret2
       exact ⟨ret_une HF.out, hb1⟩
   · rw [if_neg h3] at hf
     have HF := Lib.hid hf; clear hf
     go_enter Tryz.func133, Tryz.ntmps133
     go_wp2
     go_ret2
     exact ⟨ret_une HF.out, Below.refl _ _⟩
 · rw [if_neg d120] at hf
   have e120 : (((byt m 1).toNat : Int) == 120) = false := u8_ne d120
   clear d120
   have HF := Lib.hid hf; clear hf
   go_enter Tryz.func133, Tryz.ntmps133
   go_wp2
   go_ret2
   exact ⟨ret_une HF.out, Below.refl _ _⟩
end
section
open Go.RowKit
theorem unesc_len (m : List UInt8) : (unesc m).2 ≤ m.length ∧ (unesc m).2 ≤ 4 := by
 match m with
 | [] => simp [unesc]
 | [_] => simp [unesc]
 | _ :: b :: r =>
   simp only [unesc]
   (repeat' split) <;> simp
def uqVal (r : List UInt8 × Nat × Nat) : Value := .tuple #[.string (S r.1), .agg #[.int .i64 (r.2.1 : Int), .int .i64 (r.2.2 : Int)]]
theorem ret_uq {r : List UInt8 × Nat × Nat} {a : List UInt8} {e p : Nat} (h : r = (a, e, p)) : Ending.returned (.tuple #[.string (S a), .agg #[.int .i64 (e : Int), .int .i64 (p : Int)]]) = .returned (uqVal r) := by rw [h]; rfl
set_option maxRecDepth 100000 in
set_option maxHeartbeats 1000000 in
theorem Unquote_any (l : List UInt8) (hl : l.length ≤ 1000000) (w : World) (hE : ErrOk w) :
   Calls Tryz.prog 93 #[.string (S l)] w fun e w' => e = .returned (uqVal (unqL l)) ∧ Below w.heap.size w w' := by
 have HE := Lib.hid hE
 clear hE
 by_cases hbig : 65536 < l.length
 · have hf : unqL l = ([], 2, 0) := by unfold unqL; rw [if_pos hbig]
   generalize unqL l = r at hf ⊢
   have HF := Lib.hid hf; clear hf
   go_enter Tryz.func93, Tryz.ntmps93
   go_wp2_with fail
   go_step3
   go_wp2_with fail
   try rw [Exit.noGoto_ret]
   exact bodyPost_ret (v := .tuple #[.string ⟨#[]⟩, .agg #[.int .i64 2, .int .i64 0]]) (by simp [results, Tryz.results93, go_sem]) rfl ⟨ret_uq HF.out, by go_grown⟩
 cases l with
 | nil =>
   have HF := Lib.hid (show unqL [] = ([], 8, 0) by rfl)
   go_enter Tryz.func93, Tryz.ntmps93
   go_wp2_with fail
   go_step3
   go_wp2_with fail
   try rw [Exit.noGoto_ret]
   exact bodyPost_ret (v := .tuple #[.string ⟨#[]⟩, .agg #[.int .i64 8, .int .i64 0]]) (by simp [results, Tryz.results93, go_sem]) rfl ⟨ret_uq HF.out, by go_grown⟩
 | cons c t =>
 by_cases h34 : c = 34
 · subst h34
   have hf : unqL (34 :: t) = scan ((34 :: t).drop 1) 0 1 [] := by unfold unqL; rw [if_neg hbig]; rfl
   have e0 : byt (34 :: t) 0 = 34 := rfl
   have hl0 : 0 < ((34 : UInt8) :: t).length := by simp
   have hne : ((((34 : UInt8) :: t).length : Int) == 0) = false := by simp; omega
   generalize (34 : UInt8) :: t = l at *
   generalize unqL l = r at hf ⊢
   have HF := Lib.hid hf; clear hf
   obtain ⟨i0, hi, hz0, hz1, hz2⟩ := info_parts infoU8
   have hb' : l.length ≤ 65536 := by omega
   go_enter Tryz.func93, Tryz.ntmps93
   go_wp2_with fail
   go_step3
   go_wp2_with fail
   clear e0 hne
   go_step3
   go_wp2_with fail
   obtain ⟨w0, hw0⟩ : ∃ w0, w0 = w.alloc (.cells #[.int .i64 0, .int .i64 0] 29) := ⟨_, rfl⟩
   have hT0 : Two w0 w.heap.size 29 (.int .i64 0) (.int .i64 0) := by rw [hw0]; exact Two.new w _ _ _
   have hs0 : w.heap.size + 1 ≤ w0.heap.size := by rw [hw0]; simp
   have hB0 : Below w.heap.size w w0 := by rw [hw0]; exact (Below.refl _ _).alloc (Nat.le_refl _) _
   rw [← hw0]
   clear hw0
   go_loopw [4, 5] (fun v i wr => ∃ (k : Nat) (acc : List UInt8), k ≤ l.length ∧ 1 ≤ k ∧ i = .int .i64 k ∧ acc.length ≤ k ∧ wr.ownsRow (w.heap.size + 1) 5 1 v acc.length (bcells acc) ∧ Below (w.heap.size + 1) w0 wr ∧ Hid (r = scan (l.drop k) 0 k acc))
     (fun _ i _ => l.length - (intOf i).toNat)
   case atStart => exact ⟨1, [], by omega, by omega, rfl, by simp, World.ownsRow_nil _ _ _ _, Below.refl _ _, HF.out⟩
   case round =>
     clear HF
     obtain ⟨k, acc, hk, hk1, rfl, hacc, hown, hBr, hh⟩ := hrel
     have hT : Two wr w.heap.size 29 (.int .i64 0) (.int .i64 0) := (hBr.block _ (by omega)).trans hT0
     have hc0 := hT.cell0
     have hc1 := hT.cell1
     have hf0 := hT.frozen0
     have hf1 := hT.frozen1
     have hBw : Below w.heap.size w wr := hB0.trans (hBr.mono (by omega))
     by_cases hend : l.length ≤ k
     · have hr : r = ([], 8, l.length) := by
         rw [hh.out, List.drop_eq_nil_of_le hend, show k = l.length by omega]; rfl
       have HR := Lib.hid hr; clear hr
       go_wp2_with fail
       try rw [Exit.noGoto_ret]
       exact bodyPost_ret (v := .tuple #[.string ⟨#[]⟩, .agg #[.int .i64 8, .int .i64 l.length]]) (by simp [results, Tryz.results93, go_sem, hc0, hc1]) rfl ⟨ret_uq HR.out, by go_grown⟩
     · have hlt : k < l.length := by omega
       clear hend
       have hdrop := drop_byt l k hlt
       by_cases c34 : byt l k = 34
       · by_cases hmore : k + 1 < l.length
         · have hr : r = ([], 8, k + 1) := by
             rw [hh.out, hdrop, c34, drop_byt l (k + 1) hmore]; rfl
           have HR := Lib.hid hr; clear hr hdrop
           go_wp2_with fail
           try rw [Exit.noGoto_ret]
           exact bodyPost_ret (v := .tuple #[.string ⟨#[]⟩, .agg #[.int .i64 8, .int .i64 ((k + 1 : Nat) : Int)]]) (by simp [results, Tryz.results93, go_sem, hc0, hc1]) rfl ⟨ret_uq HR.out, by go_grown⟩
         · have hr : r = (acc, 0, 0) := by
             rw [hh.out, hdrop, c34, List.drop_eq_nil_of_le (show l.length ≤ k + 1 by omega)]; rfl
           have HR := Lib.hid hr; clear hr hdrop
           have hcv := conv_own (P := Tryz.prog) wr 138 9 5 (w.heap.size + 1) _ acc Tryz.underlying138 Tryz.underlying5 Tryz.underlying9 hown
           go_wp2_with fail
           try rw [Exit.noGoto_ret]
           exact bodyPost_ret (v := .tuple #[.string (S acc), .agg #[.int .i64 0, .int .i64 0]]) (by simp [results, Tryz.results93, go_sem, hc0, hc1]) rfl ⟨ret_uq HR.out, by go_grown⟩
       · have e34 : (((byt l k).toNat : Int) == 34) = false := u8_ne c34
         have hsz : w.heap.size + 1 ≤ wr.heap.size := Nat.le_trans hs0 hBr.size
         by_cases c92 : byt l k = 92
         · have hu := unesc_len (l.drop k)
           rw [List.length_drop] at hu
           have hr : r = if (unesc (l.drop k)).2 = 0 then ([], 8, k) else scan (l.drop (k + 1)) ((unesc (l.drop k)).2 - 1) (k + (unesc (l.drop k)).2) (acc ++ [(unesc (l.drop k)).1]) := by
             rw [hh.out, hdrop, c92]; simp [scan]
           have hcall := unescape_any (sl l k l.length) (by rw [sl_from, List.length_drop]; omega) wr (HE.out.below hBw)
           rw [sl_from] at hcall
           rw [← sl_from l k] at hcall
           obtain ⟨c, n, hcn⟩ : ∃ c n, unesc (l.drop k) = (c, n) := ⟨_, _, rfl⟩
           rw [sl_from l k] at hcall
           rw [hcn] at hr hu hcall
           simp only [] at hr hu
           have hsl := Lib.hid (sl_from l k)
           have HC := Lib.hid hcall; clear hcall hcn hdrop
           by_cases hn : n = 0
           · rw [if_pos hn] at hr
             subst hn
             have HR := Lib.hid hr; clear hr
             go_wp2_with fail
             rw [hsl.out]
             refine HC.out.mono ?_
             rintro e w1 ⟨rfl, hb1⟩
             clear HC hc0 hc1 hf0 hf1
             have hT1 := hT.below hb1
             have hc0 := hT1.cell0
             have hc1 := hT1.cell1
             have hf0 := hT1.frozen0
             have hf1 := hT1.frozen1
             have hBw1 : Below w.heap.size w w1 := hBw.trans (hb1.mono (by omega))
             dsimp only [uneVal]
             go_wp2_with fail
             try rw [Exit.noGoto_ret]
             exact bodyPost_ret (v := .tuple #[.string ⟨#[]⟩, .agg #[.int .i64 8, .int .i64 k]]) (by simp [results, Tryz.results93, go_sem, hc0, hc1]) rfl ⟨ret_uq HR.out, by go_grown⟩
           · rw [if_neg hn, scan_skip _ _ _ _ (by rw [List.length_drop]; omega), List.drop_drop, show k + 1 + (n - 1) = k + n by omega] at hr
             have HR := Lib.hid hr; clear hr
             have hn0 : ((n : Int) == 0) = false := by simp; exact hn
             have hn1 : n ≤ 4 := hu.2
             have hn2 : k + n ≤ l.length := by omega
             go_wp2_with fail
             rw [hsl.out]
             refine HC.out.mono ?_
             rintro e w1 ⟨rfl, hb1⟩
             clear HC hc0 hc1 hf0 hf1
             have hown1 := own_under hown hb1
             have hB1 : Below (w.heap.size + 1) w0 w1 := hBr.trans (hb1.mono (by omega))
             have hsz1 : w.heap.size + 1 ≤ w1.heap.size := Nat.le_trans hsz hb1.size
             dsimp only [uneVal]
             go_wp2_with (at_builtin; refine wpList_append_own _ rfl _ _ 138 rfl (w.heap.size + 1) 5 i0 (.int .u8 0) 1 1 Tryz.underlying138 hi hz0 hz1 hz2 rfl (by decide) _ _ _ rfl (hown1.alloc _) ⟨w1.heap.size, 0, none⟩ 1 1 [.int .u8 (c.toNat : Int)] rfl rfl (cell_one_new _ _ _) (by simp [Value.oneCell']) (by unfold maxLen; omega) (by omega) (by simp; omega) ?_; intro v' w2 hown' hgrow _)
             have hB2 : Below (w.heap.size + 1) w0 w2 := own_below1 hB1 hown1 hgrow (by omega)
             have hown2 : w2.ownsRow (w.heap.size + 1) 5 1 v' (acc ++ [c]).length (bcells (acc ++ [c])) := by rw [← bcells_append, List.length_append]; exact hown'
             clear hgrow hown'
             go_wp2_with fail
             go_roundw
             case rel => exact ⟨k + n, acc ++ [c], by omega, by omega, by go_num, by rw [List.length_append]; simp; omega, hown2, hB2, HR.out⟩
             case measure => simp [intOf]; omega
         · have e92 : (((byt l k).toNat : Int) == 92) = false := u8_ne c92
           by_cases hp : byt l k < 32 ∨ 126 < byt l k
           · have hr : r = ([], 8, k) := by
               rw [hh.out, hdrop]; simp [scan, c34, c92, hp]
             have HR := Lib.hid hr; clear hr hdrop
             have hq : ¬ (32 ≤ (byt l k).toNat ∧ (byt l k).toNat ≤ 126) := by
               rcases hp with h | h <;> rw [UInt8.lt_iff_toNat_lt] at h <;> simp at h <;> omega
             clear hp
             by_cases h32 : (byt l k).toNat < 32
             · go_wp2_with fail
               try rw [Exit.noGoto_ret]
               exact bodyPost_ret (v := .tuple #[.string ⟨#[]⟩, .agg #[.int .i64 8, .int .i64 k]]) (by simp [results, Tryz.results93, go_sem, hc0, hc1]) rfl ⟨ret_uq HR.out, by go_grown⟩
             · have h126 : 126 < (byt l k).toNat := by omega
               go_wp2_with fail
               try rw [Exit.noGoto_ret]
               exact bodyPost_ret (v := .tuple #[.string ⟨#[]⟩, .agg #[.int .i64 8, .int .i64 k]]) (by simp [results, Tryz.results93, go_sem, hc0, hc1]) rfl ⟨ret_uq HR.out, by go_grown⟩
           · have h32 : 32 ≤ (byt l k).toNat := by
               have := fun h => hp (.inl h); rw [UInt8.lt_iff_toNat_lt] at this; simp at this; exact this
             have h126 : (byt l k).toNat ≤ 126 := by
               have := fun h => hp (.inr h); rw [UInt8.lt_iff_toNat_lt] at this; simp at this; exact this
             have hr : r = scan (l.drop (k + 1)) 0 (k + 1) (acc ++ [byt l k]) := by
               rw [hh.out, hdrop]; simp [scan, c34, c92, hp]
             have HR := Lib.hid hr; clear hr hdrop hp
             go_wp2_with (at_builtin; refine wpList_append_own _ rfl _ _ 138 rfl (w.heap.size + 1) 5 i0 (.int .u8 0) 1 1 Tryz.underlying138 hi hz0 hz1 hz2 rfl (by decide) _ _ _ rfl (hown.alloc _) ⟨wr.heap.size, 0, none⟩ 1 1 [.int .u8 ((byt l k).toNat : Int)] rfl rfl (cell_one_new _ _ _) (by simp [Value.oneCell']) (by unfold maxLen; omega) (by omega) (by simp; omega) ?_; intro v' w1 hown' hgrow _)
             have hB1 : Below (w.heap.size + 1) w0 w1 := own_below1 hBr hown hgrow (by omega)
             have hown2 : w1.ownsRow (w.heap.size + 1) 5 1 v' (acc ++ [(byt l k)]).length (bcells (acc ++ [(byt l k)])) := by rw [← bcells_append, List.length_append]; exact hown'
             clear hgrow hown'
             go_wp2_with fail
             go_roundw
             case rel => exact ⟨k + 1, acc ++ [byt l k], by omega, by omega, by go_num, by rw [List.length_append]; simp; omega, hown2, hB1, HR.out⟩
             case measure => simp [intOf]; omega
 · have hf : unqL (c :: t) = ([], 8, 0) := by unfold unqL; rw [if_neg hbig]; simp [h34]
   have e0 : byt (c :: t) 0 = c := rfl
   have hl0 : 0 < (c :: t).length := by simp
   have hne : (((c :: t).length : Int) == 0) = false := by simp; omega
   generalize c :: t = l at *
   have HF := Lib.hid hf; clear hf
   have e34 : ((c.toNat : Int) == 34) = false := u8_ne h34
   clear h34
   go_enter Tryz.func93, Tryz.ntmps93
   go_wp2_with fail
   go_step3
   go_wp2_with fail
   try rw [Exit.noGoto_ret]
   exact bodyPost_ret (v := .tuple #[.string ⟨#[]⟩, .agg #[.int .i64 8, .int .i64 0]]) (by simp [results, Tryz.results93, go_sem]) rfl ⟨ret_uq HF.out, by go_grown⟩
end
end Go.Proofs.YtoahmganodehkaaGreatDoor
