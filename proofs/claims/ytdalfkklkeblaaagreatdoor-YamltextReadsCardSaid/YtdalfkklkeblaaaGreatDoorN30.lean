import Derived.Test.YtdalfkklkeblaaaGreatDoorN01
import Derived.Test.YtdalfkklkeblaaaGreatDoorN11
import Derived.Test.YtdalfkklkeblaaaGreatDoorN10
import Derived.Test.YtdalfkklkeblaaaGreatDoorN04
import Derived.Test.YtdalfkklkeblaaaGreatDoorN16
namespace Go.Proofs.YtdalfkklkeblaaaGreatDoor
set_option linter.unusedSimpArgs false
set_option linter.unusedVariables false
open Go.RowKit
theorem rfault_any (e p : Int) (w : World) : Calls Tryz.prog 40 #[.int .i64 e, .int .i64 p] w fun en w' => en = .returned (.agg #[.int .i64 e, .int .i64 p]) ∧ Below w.heap.size w w' := by
 go_enter Tryz.func40, Tryz.ntmps40
 go_wp2
 exact bodyPost_ret (v := .agg #[.int .i64 e, .int .i64 p]) (by simp [results, Tryz.results40, go_sem]) rfl ⟨rfl, by go_grown⟩
theorem textV_len (l : List UInt8) : (textV l).length ≤ l.length := by
 have := unq_lenY l
 unfold textV; split <;> omega
def txV (r : Option (List UInt8)) : Value := .tuple #[.string (S (r.getD [])), .bool r.isSome]
theorem ret_tx {r : Option (List UInt8)} {s : ByteArray} {b : Bool} (h : txV r = .tuple #[.string s, .bool b]) : Ending.returned (.tuple #[.string s, .bool b]) = .returned (txV r) := by rw [h]
set_option maxRecDepth 100000 in
set_option maxHeartbeats 4000000 in
theorem rtext_any (l : List UInt8) (hl : l.length ≤ 1000000) (w : World) : Calls Tryz.prog 97 #[.string (S l)] w fun e w' => e = .returned (txV (textR l)) ∧ Below w.heap.size w w' := by
 have HT := Lib.hid (show textR l = if strY (textV l) = l then some (textV l) else none from rfl)
 have HV := Lib.hid (show textV l = if (unqL l).2.1 = 0 then (unqL l).1 else l from rfl)
 have hvl := textV_len l
 have HU := Lib.hid (refUnquote_any l hl w)
 generalize textR l = r at HT ⊢
 generalize textV l = v at HT HV hvl
 generalize unqL l = u at HV HU
 obtain ⟨u1, u2, u3⟩ := u
 have HS := Lib.hid (fun w' => refStr_any v (by omega) w')
 go_enter Tryz.func97, Tryz.ntmps97
 go_wp2_with fail
 refine HU.out.mono ?_
 rintro e w1 ⟨rfl, hb⟩
 have hN := Blk.new w1 #[.int .i64 (u2 : Int), .int .i64 (u3 : Int)] 33
 have hb1 := hb.trans ((Below.refl w1.heap.size w1).alloc (Nat.le_refl _) (.cells #[.int .i64 (u2 : Int), .int .i64 (u3 : Int)] 33) |>.mono hb.size)
 clear HU hb
 simp only [uqVal]
 go_upto_region 2 with fail
 generalize w1.alloc (.cells #[.int .i64 (u2 : Int), .int .i64 (u3 : Int)] 33) = W at hN hb1 ⊢
 have n0 := hN.cell 0
 simp at n0
 have hnl := hN.lt
 have HB := Lib.hid hb1
 clear hN hb1
 by_cases h0 : u2 = 0
 · subst h0
   have e1 : v = u1 := HV.out
   subst e1
   clear HV
   go_wp2_with fail
   refine (HS.out _).mono ?_
   rintro e w2 ⟨rfl, hb⟩
   have HB2 := Lib.hid (HB.out.trans (hb.mono HB.out.size))
   clear hb
   by_cases hs : strY v = l
   · have HR := Lib.hid (show txV r = .tuple #[.string (S v), .bool true] by rw [HT.out, if_pos hs]; rfl)
     have t1 : (strY v == l) = true := by simpa using hs
     have t2 : (strY v != l) = false := by simpa using hs
     clear hs HT
     go_wp2_with fail
     go_ret2
     exact ⟨ret_tx HR.out, HB2.out⟩
   · have HR := Lib.hid (show txV r = .tuple #[.string ⟨#[]⟩, .bool false] by rw [HT.out, if_neg hs]; rfl)
     have t1 : (strY v == l) = false := by simpa using hs
     have t2 : (strY v != l) = true := by simpa using hs
     clear hs HT
     go_wp2_with fail
     go_ret2
     exact ⟨ret_tx HR.out, HB2.out⟩
 · have e1 : v = l := by have := HV.out; rwa [if_neg h0] at this
   subst e1
   have a1 : ((u2 : Int) != 0) = true := by simp; omega
   have a2 : ((u2 : Int) == 0) = false := by simp; omega
   have a3 : ¬ ((u2 : Int) = 0) := by omega
   clear HV h0
   go_wp2_with fail
   refine (HS.out _).mono ?_
   rintro e w2 ⟨rfl, hb⟩
   have HB2 := Lib.hid (HB.out.trans (hb.mono HB.out.size))
   clear hb
   by_cases hs : strY v = v
   · have HR := Lib.hid (show txV r = .tuple #[.string (S v), .bool true] by rw [HT.out, if_pos hs]; rfl)
     have t1 : (strY v == v) = true := by simpa using hs
     have t2 : (strY v != v) = false := by simpa using hs
     clear hs HT
     go_wp2_with fail
     go_ret2
     exact ⟨ret_tx HR.out, HB2.out⟩
   · have HR := Lib.hid (show txV r = .tuple #[.string ⟨#[]⟩, .bool false] by rw [HT.out, if_neg hs]; rfl)
     have t1 : (strY v == v) = false := by simpa using hs
     have t2 : (strY v != v) = true := by simpa using hs
     clear hs HT
     go_wp2_with fail
     go_ret2
     exact ⟨ret_tx HR.out, HB2.out⟩
theorem sl_head (l : List UInt8) (k : Nat) : sl l 0 k = l.take k := by unfold sl; rw [List.drop_zero, Nat.sub_zero]
theorem sl_rest (l : List UInt8) (k : Nat) : sl l k l.length = l.drop k := by unfold sl; exact List.take_of_length_le (by rw [List.length_drop]; omega)
def hdV (r : Option (List UInt8 × List UInt8)) : Value := .tuple #[.string (S (r.getD ([], [])).1), .string (S (r.getD ([], [])).2), .bool r.isSome]
theorem ret_hd {r : Option (List UInt8 × List UInt8)} {s t : ByteArray} {b : Bool} (h : hdV r = .tuple #[.string s, .string t, .bool b]) : Ending.returned (.tuple #[.string s, .string t, .bool b]) = .returned (hdV r) := by rw [h]
theorem headF_step {s : List UInt8} {k : Nat} (h : k < s.length) : headF s (s.length - k) k = if byt s k = 58 then (match textR (s.take k) with | some v => some (v, s.drop (k + 1)) | none => headF s (s.length - (k + 1)) (k + 1)) else headF s (s.length - (k + 1)) (k + 1) := by
 rw [show s.length - k = (s.length - (k + 1)) + 1 by omega, headF]
 rfl
theorem headF_last {s : List UInt8} {k : Nat} (h : s.length ≤ k) : headF s (s.length - k) k = none := by
 rw [show s.length - k = 0 by omega, headF]
set_option maxRecDepth 100000 in
set_option maxHeartbeats 4000000 in
theorem rhead_any (l : List UInt8) (hl : l.length ≤ 65536) (w : World) : Calls Tryz.prog 98 #[.string (S l)] w fun e w' => e = .returned (hdV (labelAt l)) ∧ Below w.heap.size w w' := by
 rw [← head_div hl]
 have HQ := Lib.hid (show headR l = headF l (l.length - 0) 0 from rfl)
 generalize headR l = r at HQ ⊢
 go_enter Tryz.func98, Tryz.ntmps98
 go_wp2_with fail
 go_loopw [5] (fun x wr => ∃ k : Nat, x = .int .i64 (k : Int) ∧ k ≤ l.length ∧ Hid (r = headF l (l.length - k) k) ∧ Hid (Below w.heap.size w wr)) (fun x _ => l.length - (intOf x).toNat)
 case atStart => exact ⟨0, rfl, Nat.zero_le _, HQ, Lib.hid (Below.refl _ _)⟩
 case round =>
   clear HQ
   obtain ⟨k, rfl, hk, HQ, HB⟩ := hrel
   by_cases hlt : k < l.length
   · have HQ1 := Lib.hid (HQ.out.trans (headF_step hlt))
     clear HQ
     by_cases hc : byt l k = 58
     · have T1 : (((byt l k).toNat : Int) == 58) = true := by rw [hc]; rfl
       have HQ2 := Lib.hid (HQ1.out.trans (if_pos hc))
       have e1 : sl l 0 k = l.take k := sl_head l k
       have HT := Lib.hid (fun w' => rtext_any (l.take k) (by rw [List.length_take]; omega) w')
       have e2 : sl l (k + 1) l.length = l.drop (k + 1) := sl_rest l (k + 1)
       rw [← e1, ← e2] at HQ2
       rw [← e1] at HT
       have w1' : (k : Int) + 1 ≤ (l.length : Int) := by omega
       clear HQ1 hc e1 e2
       go_wp2_with fail
       refine (HT.out _).mono ?_
       rintro e w2 ⟨rfl, hb⟩
       have HB2 := Lib.hid (HB.out.trans (hb.mono HB.out.size))
       clear hb
       generalize textR (sl l 0 k) = q at HQ2 ⊢
       cases q with
       | none =>
         have HQ3 := Lib.hid (show r = headF l (l.length - (k + 1)) (k + 1) from HQ2.out)
         clear HQ2 HT
         simp only [txV, Option.isSome_none, Option.getD_none]
         go_wp2_with fail
         go_roundw
         case rel => exact ⟨k + 1, by go_num, hlt, HQ3, HB2⟩
         case measure => simp [intOf]; omega
       | some v =>
         have HR := Lib.hid (show hdV r = .tuple #[.string (S v), .string (S (sl l (k + 1) l.length)), .bool true] by rw [HQ2.out]; rfl)
         clear HQ2 HT
         simp only [txV, Option.isSome_some, Option.getD_some]
         go_upto_region 7 with fail
         go_quiet (fail)
         go_wp2_with fail
         go_ret3
         exact ⟨ret_hd HR.out, below_drewN HB2.out nq⟩
     · have T1 : (((byt l k).toNat : Int) == 58) = false := u8_ne hc
       have HQ2 := Lib.hid (HQ1.out.trans (if_neg hc))
       clear HQ1 hc
       go_wp2_with fail
       go_roundw
       case rel => exact ⟨k + 1, by go_num, hlt, HQ2, HB⟩
       case measure => simp [intOf]; omega
   · have HR := Lib.hid (show hdV r = .tuple #[.string ⟨#[]⟩, .string ⟨#[]⟩, .bool false] by rw [HQ.out, headF_last (by omega)]; rfl)
     go_wp2_with fail
     go_ret3
     exact ⟨ret_hd HR.out, HB.out⟩
end Go.Proofs.YtdalfkklkeblaaaGreatDoor
