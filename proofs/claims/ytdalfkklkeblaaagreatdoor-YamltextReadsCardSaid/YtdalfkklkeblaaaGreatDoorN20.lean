import Derived.Deep.RegionWith
import Derived.Deep.DeepCutAuto
import Derived.Test.YtdalfkklkeblaaaGreatDoorN19
namespace Go.Proofs.YtdalfkklkeblaaaGreatDoor
set_option linter.unusedSimpArgs false
set_option linter.unusedVariables false
open Go.RowKit
theorem idx_colon : ∀ t : List UInt8, Lib.indexByte t 58 = if colonY t < t.length then (colonY t : Int) else -1
 | [] => rfl
 | c :: r => by
   have ih := idx_colon r
   by_cases h : c = 58
   · subst h
     have e : colonY (58 :: r) = 0 := by unfold colonY; rw [List.takeWhile_cons_of_neg (by decide)]; rfl
     rw [e, if_pos (by simp)]
     simp [Lib.indexByte]
   · have e : colonY (c :: r) = colonY r + 1 := by unfold colonY; rw [List.takeWhile_cons_of_pos (by simpa using h)]; rfl
     have hc : (c == 58) = false := beq_eq_false_iff_ne.2 h
     rw [e, List.length_cons]
     simp only [Lib.indexByte, hc, ih]
     by_cases hl : colonY r < r.length
     · rw [if_pos hl, if_pos (show colonY r + 1 < r.length + 1 by omega)]
       have : ((colonY r : Int) == -1) = false := by rw [beq_eq_false_iff_ne]; omega
       simp [this]
     · rw [if_neg hl, if_neg (show ¬ colonY r + 1 < r.length + 1 by omega)]
       simp
theorem sl_take (t : List UInt8) (m : Nat) : sl t 0 m = t.take m := by unfold sl; simp
theorem sl_drop (t : List UInt8) (m : Nat) : sl t m t.length = t.drop m := by unfold sl; rw [List.take_of_length_le]; rw [List.length_drop]; exact Nat.le_refl _
theorem blk_drew {W : World} {B : Nat} {c : Array Value} {t : TypeId} (h : Blk W B c t) : Blk W.drew B c t := h
def DivP (w : World) (r : Option (Bool × List UInt8 × Option Dat)) (e : Ending) (w' : World) : Prop :=
 ∃ item whole lab k n s, e = .returned (.tuple #[.agg #[.bool item, .bool whole, .string (S lab), .int .i64 k, .int .i64 n, .string (S s), .slice none 0 0, .slice none 0 0], .bool r.isSome]) ∧
   (∀ it l d, r = some (it, l, d) → item = it ∧ lab = l ∧ whole = d.isSome ∧ ∀ x, d = some x → x = .mk k n s [] []) ∧ Below w.heap.size w w'
def badL (t : List UInt8) : Prop := labelEnd t < 1 ∨ t.length ≤ labelEnd t ∨ byt t (labelEnd t) ≠ 58
theorem label_bad {t : List UInt8} (h : badL t) : labelAt t = none := by unfold labelAt; exact if_pos h
theorem label_good {t : List UInt8} (h : ¬ badL t) : labelAt t = (labY (t.take (labelEnd t))).map fun v => (v, t.drop (labelEnd t + 1)) := by unfold labelAt; exact if_neg h
theorem div_label {t : List UInt8} (h : byt t 0 ≠ 45) : divY t = match labelAt t with | none => none | some p => (tailY p.2).map fun d => (false, p.1, d) := by unfold divY; rw [if_neg h]; cases labelAt t <;> rfl
def EndZ (t : List UInt8) (n : Int) : Prop := -1 ≤ n ∧ n ≤ 1000002 ∧ (badL t ∧ (n < 1 ∨ (t.length : Int) ≤ n ∨ ∃ m : Nat, n = m ∧ 1 ≤ m ∧ m < t.length ∧ byt t m ≠ 58) ∨ ¬ badL t ∧ n = labelEnd t)
theorem endZ_quote {t : List UInt8} (h : byt t 0 = 34) (hq : quotedY t ≤ 1000002) : EndZ t (quotedY t : Int) := by
 have e : labelEnd t = quotedY t := by unfold labelEnd; rw [if_pos h]
 refine ⟨by omega, by omega, ?_⟩
 by_cases hb : badL t
 · left
   refine ⟨hb, ?_⟩
   unfold badL at hb
   rw [e] at hb
   rcases hb with h1 | h1 | h1
   · exact .inl (by omega)
   · exact .inr (.inl (by omega))
   · rcases Nat.lt_or_ge (quotedY t) 1 with h2 | h2
     · exact .inl (by omega)
     · rcases Nat.lt_or_ge (quotedY t) t.length with h3 | h3
       · exact .inr (.inr ⟨_, rfl, h2, h3, h1⟩)
       · exact .inr (.inl (by omega))
 · exact .inr ⟨hb, by rw [e]⟩
theorem colon_hit (t : List UInt8) (h : colonY t < t.length) : byt t (colonY t) = 58 := by
 have := idx_colon t
 rw [if_pos h] at this
 induction t with
 | nil => simp at h
 | cons c r ih =>
   by_cases hc : c = 58
   · subst hc
     have e : colonY (58 :: r) = 0 := by unfold colonY; rw [List.takeWhile_cons_of_neg (by decide)]; rfl
     rw [e]; rfl
   · have e : colonY (c :: r) = colonY r + 1 := by unfold colonY; rw [List.takeWhile_cons_of_pos (by simpa using hc)]; rfl
     rw [e] at h ⊢
     have h2 : colonY r < r.length := by simpa using h
     have := ih h2 (by rw [idx_colon, if_pos h2])
     rw [← this]; rfl
theorem colon_le (t : List UInt8) : colonY t ≤ t.length := (List.takeWhile_sublist (l := t) _).length_le
theorem endZ_colon {t : List UInt8} (h : byt t 0 ≠ 34) (hl : t.length ≤ 1000000) : EndZ t (Lib.indexByte t 58) := by
 have e : labelEnd t = colonY t := by unfold labelEnd; rw [if_neg h]
 have hc := colon_le t
 rw [idx_colon]
 by_cases hx : colonY t < t.length
 · rw [if_pos hx]
   refine ⟨by omega, by omega, ?_⟩
   by_cases hb : badL t
   · left
     refine ⟨hb, ?_⟩
     unfold badL at hb
     rw [e, colon_hit t hx] at hb
     rcases hb with h1 | h1 | h1
     · exact .inl (by omega)
     · exact .inr (.inl (by omega))
     · exact absurd rfl h1
   · exact .inr ⟨hb, by rw [e]⟩
 · rw [if_neg hx]
   refine ⟨by omega, by omega, .inl ⟨?_, .inl (by omega)⟩⟩
   unfold badL
   rw [e]
   exact .inr (.inl (by omega))
theorem qscan_le : ∀ (l : List UInt8) (i : Nat), qscan l i ≤ i + l.length + 1
 | [], _ => by simp [qscan]
 | [c], i => by rw [qscan]; split <;> simp <;> omega
 | c :: d :: r, i => by
   have h1 := qscan_le r (i + 2)
   have h2 := qscan_le (d :: r) (i + 1)
   rw [qscan]
   simp only [List.length_cons] at *
   split
   · omega
   · split <;> omega
theorem quoted_le (t : List UInt8) : quotedY t ≤ t.length + 2 := by
 have := qscan_le (t.drop 1) 1
 rw [List.length_drop] at this
 unfold quotedY; omega
def DvS (w : World) (t : List UInt8) (v : Value) (W : World) : Prop :=
 ∃ item lab rest, v = .string (S rest) ∧ rest.length ≤ 1000000 ∧ divY t = (tailY rest).map (fun d => (item, lab, d)) ∧ Blk W w.heap.size #[.bool false, .bool false, .string ⟨#[]⟩, .int .i64 0, .int .i64 0, .string ⟨#[]⟩, .slice none 0 0, .slice none 0 0] 127 ∧ Blk W (w.heap.size + 1) #[.bool item, .bool false, .string (S lab), .int .i64 0, .int .i64 0, .string ⟨#[]⟩, .slice none 0 0, .slice none 0 0] 127 ∧ Below w.heap.size w W
set_option maxRecDepth 100000 in
set_option maxHeartbeats 8000000 in
theorem divide_any (t : List UInt8) (ht : t ≠ []) (hl : t.length ≤ 1000000) (w : World) (hE : StOk w) : Calls Tryz.prog 90 #[.string (S t)] w (DivP w (divY t)) := by
 have hpos : (0 : Int) < (t.length : Int) := by have := List.length_pos_iff.2 ht; omega
 have hpn : 0 < t.length := List.length_pos_iff.2 ht
 have HE := Lib.hid hE
 have HQ := Lib.hid (fun w => quoted_any t hl w)
 have HIB := Lib.hid (fun w => show Calls Tryz.prog 127 #[.string (S t), .int .u8 58] w fun e w' => e = .returned (.int .i64 (Lib.indexByte t 58)) ∧ w' = w from Tryz.strings_IndexByte (S t) 58 w)
 have HQZ := Lib.hid (fun h => endZ_quote (t := t) h (by have := quoted_le t; omega))
 have HCZ := Lib.hid (fun h => endZ_colon (t := t) h hl)
 generalize quotedY t = qn at HQ HQZ
 generalize Lib.indexByte t 58 = ib at HIB HCZ
 have h34n : ∀ b : Bool, b = true ∨ b = false := fun b => by cases b <;> simp
 have h2 := val_two w #[.bool false, .bool false, .string ⟨#[]⟩, .int .i64 0, .int .i64 0, .string ⟨#[]⟩, .slice none 0 0, .slice none 0 0] #[.bool (((byt t 0).toNat : Int) == 45), .bool false, .string ⟨#[]⟩, .int .i64 0, .int .i64 0, .string ⟨#[]⟩, .slice none 0 0, .slice none 0 0] 127 127
 clear hE ht
 go_enter Tryz.func90, Tryz.ntmps90
 go_upto_region 2 with fail
 generalize (w.alloc (.cells #[.bool false, .bool false, .string ⟨#[]⟩, .int .i64 0, .int .i64 0, .string ⟨#[]⟩, .slice none 0 0, .slice none 0 0] 127)).alloc (.cells #[.bool (((byt t 0).toNat : Int) == 45), .bool false, .string ⟨#[]⟩, .int .i64 0, .int .i64 0, .string ⟨#[]⟩, .slice none 0 0, .slice none 0 0] 127) = W at h2 ⊢
 have p0 := h2.2.1.cell 0
 simp at p0
 have H2 := Lib.hid h2
 clear h2
 go_upto_if 19 with fail
 go_cut [5] (fun v wx => Hid (DvS w t v wx))
 case first =>
   by_cases h45 : byt t 0 = 45
   · have T1 : (((byt t 0).toNat : Int) == 45) = true := by rw [h45]; rfl
     have HS := Lib.hid (show DvS w t (.string (S (sl t 1 t.length))) W from ⟨true, [], t.drop 1, by rw [sl_drop], by rw [List.length_drop]; omega, by unfold divY; rw [if_pos h45], H2.out.1, by have := H2.out.2.1; rw [T1] at this; exact this, H2.out.2.2⟩)
     clear h45 H2 HQ HIB HQZ HCZ
     rw [T1]
     go_wp2_with fail
     go_meet
     exact HS
   · have T1 : (((byt t 0).toNat : Int) == 45) = false := u8_ne h45
     have hdv := div_label h45
     have HDV := Lib.hid hdv
     clear hdv h45
     rw [T1]
     go_upto_if 24 with (refine (HIB.out _).mono ?_; rintro e W ⟨rfl, rfl⟩)
     go_cut [6] (fun v wx => ∃ n : Int, v = .int .i64 n ∧ wx = W ∧ Hid (EndZ t n))
     case first =>
       by_cases h34 : byt t 0 = 34
       · have T2 : (((byt t 0).toNat : Int) == 34) = true := by rw [h34]; rfl
         have HZ := Lib.hid (HQZ.out h34)
         clear h34
         rw [T2]
         go_wp2_with fail
         refine (HQ.out _).mono ?_
         rintro e W ⟨rfl, rfl⟩
         go_wp2_with fail
         go_meet
         exact ⟨_, rfl, rfl, HZ⟩
       · have T2 : (((byt t 0).toNat : Int) == 34) = false := u8_ne h34
         have HZ := Lib.hid (HCZ.out h34)
         clear h34
         rw [T2]
         go_wp2_with fail
         go_meet
         exact ⟨_, rfl, rfl, HZ⟩
     case rest =>
       clear HQ HIB HQZ HCZ
       obtain ⟨n, rfl, hwc, HZ⟩ := hcut
       rw [hwc]
       clear hwc
       obtain ⟨hn1, hn2, hz⟩ := HZ.out
       have hR := H2.out.1
       have z0 := hR.cell 0
       have y0 := hR.frozen 0
       have z1 := hR.cell 1
       have y1 := hR.frozen 1
       have z2 := hR.cell 2
       have y2 := hR.frozen 2
       have z3 := hR.cell 3
       have y3 := hR.frozen 3
       have z4 := hR.cell 4
       have y4 := hR.frozen 4
       have z5 := hR.cell 5
       have y5 := hR.frozen 5
       have z6 := hR.cell 6
       have y6 := hR.frozen 6
       have z7 := hR.cell 7
       have y7 := hR.frozen 7
       simp at z0 z1 z2 z3 z4 z5 z6 z7
       have hlw := hR.lt
       have HB := Lib.hid H2.out.2.2
       clear hR
       by_cases hbad : badL t
       · have HNO := Lib.hid (show divY t = none by rw [HDV.out, label_bad hbad])
         have hz3 : n < 1 ∨ (t.length : Int) ≤ n ∨ ∃ m : Nat, n = m ∧ 1 ≤ m ∧ m < t.length ∧ byt t m ≠ 58 := by
           rcases hz with ⟨-, h⟩ | ⟨h, -⟩
           · exact h
           · exact absurd hbad h
         clear hz hbad HDV H2 HZ
         rcases hz3 with h1 | h1 | ⟨m, rfl, h1, h2, h3⟩
         · have d1 : decide (n < 1) = true := decide_eq_true h1
           go_wp2_with fail
           refine bodyPost_ret (v := .tuple #[.agg #[.bool false, .bool false, .string ⟨#[]⟩, .int .i64 0, .int .i64 0, .string ⟨#[]⟩, .slice none 0 0, .slice none 0 0], .bool false]) (by simp [results, Tryz.results90, go_sem, z0, z1, z2, z3, z4, z5, z6, z7, y0, y1, y2, y3, y4, y5, y6, y7, hlw]) rfl ?_
           rw [HNO.out]
           refine ⟨false, false, [], 0, 0, [], rfl, (fun it l d h => nomatch h), ?_⟩
           have hbw := HB.out
           go_grown
           all_goals exact hbw
         · have h0 : ¬ n < 1 := by omega
           have d1 : decide (n < 1) = false := decide_eq_false h0
           have d2 : decide ((t.length : Int) ≤ n) = true := decide_eq_true h1
           go_wp2_with fail
           refine bodyPost_ret (v := .tuple #[.agg #[.bool false, .bool false, .string ⟨#[]⟩, .int .i64 0, .int .i64 0, .string ⟨#[]⟩, .slice none 0 0, .slice none 0 0], .bool false]) (by simp [results, Tryz.results90, go_sem, z0, z1, z2, z3, z4, z5, z6, z7, y0, y1, y2, y3, y4, y5, y6, y7, hlw]) rfl ?_
           rw [HNO.out]
           refine ⟨false, false, [], 0, 0, [], rfl, (fun it l d h => nomatch h), ?_⟩
           have hbw := HB.out
           go_grown
           all_goals exact hbw
         · have g1 : ¬ (m : Int) < 1 := by omega
           have d1 : decide ((m : Int) < 1) = false := decide_eq_false g1
           have g2 : ¬ (t.length : Int) ≤ (m : Int) := by omega
           have d2 : decide ((t.length : Int) ≤ (m : Int)) = false := decide_eq_false g2
           have g3 : (m : Int) < (t.length : Int) := by omega
           have T3 : (((byt t m).toNat : Int) == 58) = false := u8_ne h3
           have T4 : (((byt t m).toNat : Int) != 58) = true := by show (!(((byt t m).toNat : Int) == 58)) = true; rw [T3]; rfl
           clear h3
           go_wp2_with fail
           refine bodyPost_ret (v := .tuple #[.agg #[.bool false, .bool false, .string ⟨#[]⟩, .int .i64 0, .int .i64 0, .string ⟨#[]⟩, .slice none 0 0, .slice none 0 0], .bool false]) (by simp [results, Tryz.results90, go_sem, z0, z1, z2, z3, z4, z5, z6, z7, y0, y1, y2, y3, y4, y5, y6, y7, hlw]) rfl ?_
           rw [HNO.out]
           refine ⟨false, false, [], 0, 0, [], rfl, (fun it l d h => nomatch h), ?_⟩
           have hbw := HB.out
           go_grown
           all_goals exact hbw
       · have hn : n = labelEnd t := by
           rcases hz with ⟨h, -⟩ | ⟨-, h⟩
           · exact absurd h hbad
           · exact h
         have hgood := label_good hbad
         unfold badL at hbad
         generalize labelEnd t = m at hn hgood hbad
         subst hn
         have h1 : 1 ≤ m := Nat.le_of_not_lt fun h => hbad (.inl h)
         have h2 : m < t.length := Nat.lt_of_not_le fun h => hbad (.inr (.inl h))
         have h3 : byt t m = 58 := Classical.byContradiction fun h => hbad (.inr (.inr h))
         have g1 : ¬ (m : Int) < 1 := by omega
         have d1 : decide ((m : Int) < 1) = false := decide_eq_false g1
         have g2 : ¬ (t.length : Int) ≤ (m : Int) := by omega
         have d2 : decide ((t.length : Int) ≤ (m : Int)) = false := decide_eq_false g2
         have g3 : (m : Int) < (t.length : Int) := by omega
         have g4 : (m : Int) ≤ (t.length : Int) := by omega
         have T3 : (((byt t m).toNat : Int) == 58) = true := by rw [h3]; rfl
         have T4 : (((byt t m).toNat : Int) != 58) = false := by show (!(((byt t m).toNat : Int) == 58)) = false; rw [T3]; rfl
         have hsl : (sl t 0 m).length ≤ 1000000 := by rw [sl_take, List.length_take]; omega
         have HG := Lib.hid hgood
         have HV := Lib.hid (value_any (sl t 0 m) hsl _ (HE.out.below H2.out.2.2))
         have HSL := Lib.hid (sl_take t m)
         clear hgood hz hbad h3 HZ
         go_wp2_with fail
         refine HV.out.mono ?_
         rintro e w1 ⟨k, n, s, rfl, hk, hb⟩
         have HLB : Hid (labY (t.take m) = match valueY (sl t 0 m) with | some d => if d.k = 4 then some d.s else none | none => none) := Lib.hid (by rw [HSL.out]; rfl)
         generalize valueY (sl t 0 m) = r9 at hk HLB ⊢
         have hR1 := H2.out.1.below hb
         have hP1 := H2.out.2.1.below hb
         have hB1 := H2.out.2.2.trans (hb.mono H2.out.2.2.size)
         have hN := Blk.new w1 #[.int .i64 k, .int .i64 n, .string (S s), .slice none 0 0, .slice none 0 0] 25
         have hbN := (Below.refl w1.heap.size w1).alloc (Nat.le_refl _) (.cells #[.int .i64 k, .int .i64 n, .string (S s), .slice none 0 0, .slice none 0 0] 25)
         have hw1 := hP1.lt
         clear z0 y0 z1 y1 z2 y2 z3 y3 z4 y4 z5 y5 z6 y6 z7 y7 hlw HB hb HV p0
         go_upto_region 10 with fail
         generalize hW2 : w1.alloc (.cells #[.int .i64 k, .int .i64 n, .string (S s), .slice none 0 0, .slice none 0 0] 25) = W2 at hN hbN ⊢
         clear hW2
         have n0 := hN.cell 0
         have n2 := hN.cell 2
         simp at n0 n2
         have hR2 := hR1.below hbN
         have hP2 := hP1.below hbN
         have HR2 := Lib.hid hR2
         have HP2 := Lib.hid hP2
         have z0 := hR2.cell 0
         have y0 := hR2.frozen 0
         have z1 := hR2.cell 1
         have y1 := hR2.frozen 1
         have z2 := hR2.cell 2
         have y2 := hR2.frozen 2
         have z3 := hR2.cell 3
         have y3 := hR2.frozen 3
         have z4 := hR2.cell 4
         have y4 := hR2.frozen 4
         have z5 := hR2.cell 5
         have y5 := hR2.frozen 5
         have z6 := hR2.cell 6
         have y6 := hR2.frozen 6
         have z7 := hR2.cell 7
         have y7 := hR2.frozen 7
         simp at z0 z1 z2 z3 z4 z5 z6 z7
         have hlw := hR2.lt
         have HB := Lib.hid (hB1.trans (hbN.mono hB1.size))
         have hln := hN.lt
         clear hR2 hP2 hR1 hP1 hB1 hN hbN H2
         cases r9 with
         | none =>
           have HNO := Lib.hid (show divY t = none by rw [HDV.out, HG.out, HLB.out]; rfl)
           clear HDV HG HLB hk
           simp only [Option.isSome_none]
           go_wp2_with fail
           refine bodyPost_ret (v := .tuple #[.agg #[.bool false, .bool false, .string ⟨#[]⟩, .int .i64 0, .int .i64 0, .string ⟨#[]⟩, .slice none 0 0, .slice none 0 0], .bool false]) (by simp [results, Tryz.results90, go_sem, z0, z1, z2, z3, z4, z5, z6, z7, y0, y1, y2, y3, y4, y5, y6, y7, hlw]) rfl ?_
           rw [HNO.out]
           refine ⟨false, false, [], 0, 0, [], rfl, (fun it l d h => nomatch h), ?_⟩
           have hbw := HB.out
           go_grown
           all_goals exact hbw
         | some d =>
           obtain rfl := hk d rfl
           simp only [Option.isSome_some]
           by_cases h4 : k = 4
           · subst h4
             have HDV2 := Lib.hid (show divY t = (tailY (t.drop (m + 1))).map fun d => (false, s, d) by rw [HDV.out, HG.out, HLB.out]; rfl)
             have HS := Lib.hid (show ∀ W', Below W2.heap.size W2 W' → DvS w t (.string (S (sl t (m + 1) t.length))) (W'.setCell ⟨w.heap.size + 1, 2, none⟩ (.string (S s))) from fun W' hb => by
               have hbw := HB.out.trans (hb.mono HB.out.size)
               refine ⟨false, s, t.drop (m + 1), by rw [sl_drop], by rw [List.length_drop]; omega, HDV2.out, (HR2.out.below hb).set_other 2 _ (by omega), ?_, hbw.setCell (by show w.heap.size ≤ w.heap.size + 1; omega) _⟩
               have := (HP2.out.below hb).set 2 (.string (S s))
               rw [T1] at this
               exact this)
             have HBD := Lib.hid (below_drew (Below.refl W2.heap.size W2))
             have hPl := HP2.out.lt
             have c2 := HP2.out.cell 2
             have f2 := HP2.out.frozen 2
             simp at c2
             have g5 : (m : Int) + 1 ≤ (t.length : Int) := by omega
             clear HDV HG HLB HR2 HP2 z0 y0 z1 y1 z2 y2 z3 y3 z4 y4 z5 y5 z6 y6 z7 y7 hlw
             go_upto_region 12 with fail
             go_region
             all_goals
               go_wp2_with fail
               go_meet
               exact Lib.hid (HS.out _ HBD.out)
           · have HNO := Lib.hid (show divY t = none by
               have : labY (t.take m) = none := by rw [HLB.out]; exact if_neg h4
               rw [HDV.out, HG.out, this]; rfl)
             have T5 : (k == 4) = false := beq_eq_false_iff_ne.2 h4
             have T6 : (k != 4) = true := by show (!(k == 4)) = true; rw [T5]; rfl
             clear HDV HG HLB
             go_wp2_with fail
             refine bodyPost_ret (v := .tuple #[.agg #[.bool false, .bool false, .string ⟨#[]⟩, .int .i64 0, .int .i64 0, .string ⟨#[]⟩, .slice none 0 0, .slice none 0 0], .bool false]) (by simp [results, Tryz.results90, go_sem, z0, z1, z2, z3, z4, z5, z6, z7, y0, y1, y2, y3, y4, y5, y6, y7, hlw]) rfl ?_
             rw [HNO.out]
             refine ⟨false, false, [], 0, 0, [], rfl, (fun it l d h => nomatch h), ?_⟩
             have hbw := HB.out
             go_grown
             all_goals exact hbw
 case rest =>
   clear H2 HQ HIB HQZ HCZ p0
   obtain ⟨item, lab, rest, rfl, hrl, hdv, hR, hP, hB⟩ := hcut.out
   clear hcut
   have HDV := Lib.hid hdv
   have HR0 := Lib.hid hR
   have HP0 := Lib.hid hP
   have HB := Lib.hid hB
   clear hdv
   by_cases hr0 : rest = []
   · have q0 : rest.isEmpty = true := by rw [hr0]; rfl
     have q1 : (rest == []) = true := by rw [hr0]; rfl
     have HRR := Lib.hid (show divY t = some (item, lab, none) by rw [HDV.out, hr0]; rfl)
     have z0 := hR.cell 0
     have y0 := hR.frozen 0
     have z1 := hR.cell 1
     have y1 := hR.frozen 1
     have z2 := hR.cell 2
     have y2 := hR.frozen 2
     have z3 := hR.cell 3
     have y3 := hR.frozen 3
     have z4 := hR.cell 4
     have y4 := hR.frozen 4
     have z5 := hR.cell 5
     have y5 := hR.frozen 5
     have z6 := hR.cell 6
     have y6 := hR.frozen 6
     have z7 := hR.cell 7
     have y7 := hR.frozen 7
     simp at z0 z1 z2 z3 z4 z5 z6 z7
     have p0 := hP.cell 0
     have p1 := hP.cell 1
     have p2 := hP.cell 2
     have p3 := hP.cell 3
     have p4 := hP.cell 4
     have p5 := hP.cell 5
     have p6 := hP.cell 6
     have p7 := hP.cell 7
     simp at p0 p1 p2 p3 p4 p5 p6 p7
     have hlw := hR.lt
     have hlp := hP.lt
     clear hR hP hB hr0
     go_wp2_with fail
     refine bodyPost_ret (v := .tuple #[.agg #[.bool item, .bool false, .string (S lab), .int .i64 0, .int .i64 0, .string ⟨#[]⟩, .slice none 0 0, .slice none 0 0], .bool true]) (by simp [results, Tryz.results90, go_sem, z0, z1, z2, z3, z4, z5, z6, z7, y0, y1, y2, y3, y4, y5, y6, y7, hlw]) rfl ?_
     rw [HRR.out]
     refine ⟨item, false, lab, 0, 0, [], rfl, (fun it l d h => by injection h with h; injection h with h1 h; injection h with h2 h; exact ⟨h1, h2, by rw [← h]; rfl, fun x hx => by rw [← h] at hx; cases hx⟩), ?_⟩
     have hbw := HB.out
     go_grown
     all_goals exact hbw
   · have q0 : rest.isEmpty = false := by rw [List.isEmpty_eq_false_iff]; exact hr0
     have q1 : (rest == []) = false := beq_eq_false_iff_ne.2 hr0
     have hrp : (0 : Int) < (rest.length : Int) := by have := List.length_pos_iff.2 hr0; omega
     have hrp1 : (1 : Int) ≤ (rest.length : Int) := by omega
     have HTL := Lib.hid (show tailY rest = match valueY (sl rest 1 rest.length) with | some d => if byt rest 0 = 32 then some (some d) else none | none => none by
       have e := sl_drop rest 1
       rw [e]; unfold tailY; rw [if_neg hr0]; cases valueY (rest.drop 1) <;> rfl)
     have hsl : (sl rest 1 rest.length).length ≤ 1000000 := by rw [sl_drop, List.length_drop]; omega
     have HV := Lib.hid (value_any (sl rest 1 rest.length) hsl _ (HE.out.below HB.out))
     clear hr0 hR hP hB
     go_wp2_with fail
     refine HV.out.mono ?_
     rintro e w1 ⟨k, n, s, rfl, hk, hb⟩
     generalize valueY (sl rest 1 rest.length) = r9 at hk HTL ⊢
     have hR1 := HR0.out.below hb
     have hP1 := HP0.out.below hb
     have hB1 := HB.out.trans (hb.mono HB.out.size)
     have hN := Blk.new w1 #[.int .i64 k, .int .i64 n, .string (S s), .slice none 0 0, .slice none 0 0] 25
     have hbN := (Below.refl w1.heap.size w1).alloc (Nat.le_refl _) (.cells #[.int .i64 k, .int .i64 n, .string (S s), .slice none 0 0, .slice none 0 0] 25)
     have hw1 := hP1.lt
     clear hb HV HB
     go_upto_region 16 with fail
     generalize hW2 : w1.alloc (.cells #[.int .i64 k, .int .i64 n, .string (S s), .slice none 0 0, .slice none 0 0] 25) = W2 at hN hbN ⊢
     clear hW2
     have n0 := hN.cell 0
     have n1 := hN.cell 1
     have n2 := hN.cell 2
     have n3 := hN.cell 3
     have n4 := hN.cell 4
     simp at n0 n1 n2 n3 n4
     have hln := hN.lt
     have hR2 := hR1.below hbN
     have hP2 := hP1.below hbN
     have hB2 := hB1.trans (hbN.mono hB1.size)
     have HB2 := Lib.hid hB2
     have c0 := hP2.cell 0
     have f0 := hP2.frozen 0
     have c1 := hP2.cell 1
     have f1 := hP2.frozen 1
     have c2 := hP2.cell 2
     have f2 := hP2.frozen 2
     have c3 := hP2.cell 3
     have f3 := hP2.frozen 3
     have c4 := hP2.cell 4
     have f4 := hP2.frozen 4
     have c5 := hP2.cell 5
     have f5 := hP2.frozen 5
     have c6 := hP2.cell 6
     have f6 := hP2.frozen 6
     have c7 := hP2.cell 7
     have f7 := hP2.frozen 7
     simp at c0 c1 c2 c3 c4 c5 c6 c7
     have hlp := hP2.lt
     have HP3 := Lib.hid (fun W' (hb : Below W2.heap.size W2 W') => show Blk ((((((W'.setCell ⟨w.heap.size + 1, 1, none⟩ (.bool true)).setCell ⟨w.heap.size + 1, 3, none⟩ (.int .i64 k)).setCell ⟨w.heap.size + 1, 4, none⟩ (.int .i64 n)).setCell ⟨w.heap.size + 1, 5, none⟩ (.string (S s))).setCell ⟨w.heap.size + 1, 6, none⟩ (.slice none 0 0)).setCell ⟨w.heap.size + 1, 7, none⟩ (.slice none 0 0)) (w.heap.size + 1) #[.bool item, .bool true, .string (S lab), .int .i64 k, .int .i64 n, .string (S s), .slice none 0 0, .slice none 0 0] 127 from ((((((hP2.below hb).set 1 (.bool true)).set 3 (.int .i64 k)).set 4 (.int .i64 n)).set 5 (.string (S s))).set 6 (.slice none 0 0)).set 7 (.slice none 0 0))
     have HR3 := Lib.hid (fun W' (hb : Below W2.heap.size W2 W') => show Blk ((((((W'.setCell ⟨w.heap.size + 1, 1, none⟩ (.bool true)).setCell ⟨w.heap.size + 1, 3, none⟩ (.int .i64 k)).setCell ⟨w.heap.size + 1, 4, none⟩ (.int .i64 n)).setCell ⟨w.heap.size + 1, 5, none⟩ (.string (S s))).setCell ⟨w.heap.size + 1, 6, none⟩ (.slice none 0 0)).setCell ⟨w.heap.size + 1, 7, none⟩ (.slice none 0 0)) w.heap.size #[.bool false, .bool false, .string ⟨#[]⟩, .int .i64 0, .int .i64 0, .string ⟨#[]⟩, .slice none 0 0, .slice none 0 0] 127 from ((((((hR2.below hb).set_other 1 (.bool true) (by omega)).set_other 3 (.int .i64 k) (by omega)).set_other 4 (.int .i64 n) (by omega)).set_other 5 (.string (S s)) (by omega)).set_other 6 (.slice none 0 0) (by omega)).set_other 7 (.slice none 0 0) (by omega))
     have HBD := Lib.hid (below_drew (Below.refl W2.heap.size W2))
     clear hR1 hP1 hB1 hN hbN HR0 HP0 hR2 hP2 hB2
     go_cut [] (fun wx => Hid (Blk wx (w.heap.size + 1) #[.bool item, .bool true, .string (S lab), .int .i64 k, .int .i64 n, .string (S s), .slice none 0 0, .slice none 0 0] 127) ∧ Hid (Blk wx w.heap.size #[.bool false, .bool false, .string ⟨#[]⟩, .int .i64 0, .int .i64 0, .string ⟨#[]⟩, .slice none 0 0, .slice none 0 0] 127) ∧ Hid (Below w.heap.size w wx))
     case first =>
       go_region
       all_goals
         go_wp2_with fail
         go_meet
         refine ⟨Lib.hid (blk_drew (HP3.out _ (Below.refl _ _))), Lib.hid (blk_drew (HR3.out _ (Below.refl _ _))), Lib.hid ?_⟩
         have hbw := HB2.out
         go_grown
         all_goals exact hbw
     case rest =>
       clear HP3 HR3 HB2 HBD n0 n1 n2 n3 n4 c0 c1 c2 c3 c4 c5 c6 c7 f0 f1 f2 f3 f4 f5 f6 f7 hlp hln
       obtain ⟨HP, HR, HB⟩ := hcut
       have hR := HR.out
       have hP := HP.out
       have z0 := hR.cell 0
       have y0 := hR.frozen 0
       have z1 := hR.cell 1
       have y1 := hR.frozen 1
       have z2 := hR.cell 2
       have y2 := hR.frozen 2
       have z3 := hR.cell 3
       have y3 := hR.frozen 3
       have z4 := hR.cell 4
       have y4 := hR.frozen 4
       have z5 := hR.cell 5
       have y5 := hR.frozen 5
       have z6 := hR.cell 6
       have y6 := hR.frozen 6
       have z7 := hR.cell 7
       have y7 := hR.frozen 7
       simp at z0 z1 z2 z3 z4 z5 z6 z7
       have p0 := hP.cell 0
       have p1 := hP.cell 1
       have p2 := hP.cell 2
       have p3 := hP.cell 3
       have p4 := hP.cell 4
       have p5 := hP.cell 5
       have p6 := hP.cell 6
       have p7 := hP.cell 7
       simp at p0 p1 p2 p3 p4 p5 p6 p7
       have hlw := hR.lt
       have hlp := hP.lt
       clear hR hP HP HR
       go_upto_region 17 with fail
       cases r9 with
       | none =>
         have HNO := Lib.hid (show divY t = none by rw [HDV.out, HTL.out]; rfl)
         simp only [Option.isSome_none]
         clear HDV HTL hk
         have hun : undef = Value.tuple #[] := rfl
         first
           | go_region_with (fail)
           | fail
         all_goals
           go_wp2_with fail
           refine bodyPost_ret (v := .tuple #[.agg #[.bool item, .bool true, .string (S lab), .int .i64 k, .int .i64 n, .string (S s), .slice none 0 0, .slice none 0 0], .bool false]) (by simp [results, Tryz.results90, go_sem, z0, z1, z2, z3, z4, z5, z6, z7, y0, y1, y2, y3, y4, y5, y6, y7, hlw]) rfl ?_
           rw [HNO.out]
           refine ⟨item, true, lab, k, n, s, rfl, (fun it l d h => nomatch h), ?_⟩
           have hbw := HB.out
           go_grown
           all_goals exact hbw
       | some d =>
         obtain rfl := hk d rfl
         simp only [Option.isSome_some]
         by_cases h32 : byt rest 0 = 32
         · have T1 : (((byt rest 0).toNat : Int) == 32) = true := by rw [h32]; rfl
           have HYS := Lib.hid (show divY t = some (item, lab, some (.mk k n s [] [])) by rw [HDV.out, HTL.out]; simp [h32])
           clear HDV HTL h32
           first
             | go_region_with (fail)
             | fail
           all_goals
             go_wp2_with fail
             refine bodyPost_ret (v := .tuple #[.agg #[.bool item, .bool true, .string (S lab), .int .i64 k, .int .i64 n, .string (S s), .slice none 0 0, .slice none 0 0], .bool true]) (by simp [results, Tryz.results90, go_sem, z0, z1, z2, z3, z4, z5, z6, z7, y0, y1, y2, y3, y4, y5, y6, y7, hlw]) rfl ?_
             rw [HYS.out]
             refine ⟨item, true, lab, k, n, s, rfl, (fun it l d h => by injection h with h; injection h with h1 h; injection h with h2 h; exact ⟨h1, h2, by rw [← h]; rfl, fun x hx => by rw [← h] at hx; injection hx with hx; exact hx.symm⟩), ?_⟩
             have hbw := HB.out
             go_grown
             all_goals exact hbw
         · have T1 : (((byt rest 0).toNat : Int) == 32) = false := u8_ne h32
           have HNO := Lib.hid (show divY t = none by rw [HDV.out, HTL.out]; simp [h32])
           clear HDV HTL h32
           first
             | go_region_with (fail)
             | fail
           all_goals
             go_wp2_with fail
             refine bodyPost_ret (v := .tuple #[.agg #[.bool item, .bool true, .string (S lab), .int .i64 k, .int .i64 n, .string (S s), .slice none 0 0, .slice none 0 0], .bool false]) (by simp [results, Tryz.results90, go_sem, z0, z1, z2, z3, z4, z5, z6, z7, y0, y1, y2, y3, y4, y5, y6, y7, hlw]) rfl ?_
             rw [HNO.out]
             refine ⟨item, true, lab, k, n, s, rfl, (fun it l d h => nomatch h), ?_⟩
             have hbw := HB.out
             go_grown
             all_goals exact hbw
end Go.Proofs.YtdalfkklkeblaaaGreatDoor
