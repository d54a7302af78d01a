import Derived.Test.YtdalfkklkeblaaaGreatDoorN01
import Derived.LoopTactic
import Derived.Outline
import Derived.Handy
import Derived.Lib.Split
import Derived.Lib.SplitLaws
import Derived.Lib.IndexBytes
namespace Go.Proofs.YtdalfkklkeblaaaGreatDoor
set_option linter.unusedSimpArgs false
set_option linter.unusedVariables false
section
open Go.RowKit
end
section
open Go.RowKit
theorem tmod_bound (u v : Int) (hu : vld u = true) : -1000000000000000 ≤ u.tmod v ∧ u.tmod v ≤ 1000000000000000 := by
 rw [vld_iff] at hu
 have h := Int.natAbs_tmod u v
 have h2 := Nat.mod_le u.natAbs v.natAbs
 omega
end
section
open Go.RowKit
end
section
open Go.RowKit
theorem abs_at (u : Int) (a : Nat) (h : vld u = true) (ha : Hid (u.natAbs = a)) (w : World) : Calls Tryz.prog 58 #[.int .i64 u] w fun e w' => e = .returned (.int .i64 (a : Int)) ∧ w = w' :=
 (abs_any u h w).mono fun e w' ⟨he, hw⟩ => ⟨by rw [he, ha.out], hw⟩
theorem long_low (r b d k : Nat) (hb : 0 < b) (hr : r < b) (hd : d < 10 ^ k) : d * 10 + r * 10 / b < 10 ^ (k + 1) := by
 have h1 : r * 10 / b < 10 := (Nat.div_lt_iff_lt_mul hb).2 (by rw [Nat.mul_comm 10 b]; omega)
 rw [Nat.pow_succ]
 omega
structure Longs (a b : Nat) (k d r : Nat) : Prop where
 le : k ≤ 4
 eq : d * b + r = a % b * 10 ^ k
 lt : r < b
 low : d < 10 ^ k
theorem Longs.next {a b k d r : Nat} (hb : 0 < b) (h : Longs a b k d r) (hk : k < 4) : Longs a b (k + 1) (d * 10 + r * 10 / b) (r * 10 % b) :=
 ⟨by omega, by rw [long_step r b d _ h.eq, Nat.pow_succ, Nat.mul_assoc], Nat.mod_lt _ hb, long_low r b d k hb h.lt h.low⟩
theorem Longs.last {a b d r : Nat} (hb : 0 < b) (h : Longs a b 4 d r) : (a * 10000) / b = a / b * 10000 + d ∧ (a * 10000) % b = r := by
 have hl := long_div a b hb
 have he : a % b * 10000 = r + b * d := by have := h.eq; simp only [Nat.reducePow] at this; rw [← this, Nat.mul_comm d b]; omega
 have h1 : a % b * 10000 / b = d := by rw [he, Nat.add_mul_div_left _ _ hb, Nat.div_eq_of_lt h.lt, Nat.zero_add]
 have h2 : a % b * 10000 % b = r := by rw [he, Nat.add_mul_mod_self_left, Nat.mod_eq_of_lt h.lt]
 rw [hl.1, hl.2, h1, h2]; exact ⟨rfl, rfl⟩
end
section
open Go.RowKit
theorem trim_ne {P m : List UInt8} (h : trimZ P = trimZ m) (hP : trimZ P ≠ []) : m ≠ [] := by
 intro e; subst e; rw [trimZ_off [] (by simp)] at h; exact hP h
set_option maxHeartbeats 1000000 in
theorem fxRefText_any (u : Int) (w : World) : Calls Tryz.prog 35 #[.int .i64 u] w fun e w' => e = .returned (.string (S (textI u))) ∧ Below w.heap.size w w' := by
 cases hu : vld u
 · go_enter Tryz.func35, Tryz.ntmps35
   go_wp2_with (go_at_call 56; refine (fxRefValid_any _ _).mono ?_; rintro e w' ⟨rfl, rfl⟩; rw [hu])
   go_ret
   exact ⟨ret_S (by unfold textI; rw [hu]; rfl), Below.refl _ _⟩
 · have hA' := abs_lt hu
   have ht := tmod_bound u 10000 hu
   have ht0 : u.tmod 10000 = 0 ↔ u.natAbs % 10000 = 0 := by
     have := Int.natAbs_tmod u 10000
     rw [show Int.natAbs 10000 = 10000 from rfl] at this
     rw [← this]; exact Int.natAbs_eq_zero.symm
   obtain ⟨a, hA⟩ : ∃ a, u.natAbs = a := ⟨_, rfl⟩
   have HT := Lib.hid (textI_val u hu)
   rw [hA] at HT hA' ht0
   have HA := Lib.hid hA; clear hA
   obtain ⟨x, hx⟩ : ∃ x, a / 10000 = x := ⟨_, rfl⟩
   obtain ⟨f, hf⟩ : ∃ f, a % 10000 = f := ⟨_, rfl⟩
   rw [hx, hf] at HT
   rw [hf] at ht0
   have ex : (a : Int) / 10000 = (x : Int) := by omega
   have ef : (a : Int) % 10000 = (f : Int) := by omega
   have hxb : x ≤ 100000000000 := by omega
   have hfb : f ≤ 9999 := by omega
   clear hx hf
   obtain ⟨P, hP⟩ : ∃ P, pad4 f = P := ⟨_, rfl⟩
   have hP4 : P.length ≤ 4 := by rw [← hP]; exact Nat.le_refl 4
   have HZ := Lib.hid (trim_nil f (by omega))
   have HP := Lib.hid hP
   obtain ⟨D, hD⟩ : ∃ D, Lib.decDigits x = D := ⟨_, rfl⟩
   have hDl : D.length ≤ 12 := by rw [← hD]; exact (dec_len x 12 (by omega) (by omega)).2
   rw [hD] at HT
   have HD := Lib.hid hD
   clear hP hD
   by_cases hf0 : f = 0
   · have T : (u.tmod 10000 == 0) = true := by rw [beq_iff_eq]; exact ht0.2 hf0
     have HF := Lib.hid hf0
     clear ht0 hf0
     cases d1 : decide (u < 0)
     all_goals
       go_enter Tryz.func35, Tryz.ntmps35
       go_wp2_with (first
         | (go_at_call 56; refine (fxRefValid_any _ _).mono ?_; rintro e w' ⟨rfl, rfl⟩; rw [hu])
         | (go_at_call 58; refine (abs_at u a hu HA _).mono ?_; rintro e w' ⟨rfl, rfl⟩)
         | (go_at_call 57; refine (Digits_one x (by omega) _).mono ?_; rintro e w1 ⟨rfl, hb1⟩; rw [HD.out]))
       go_ret
       exact ⟨ret_S (by rw [HT.out, text_frac (HZ.out.2 HF.out)]; simp at d1; simp [d1, ct]), hb1⟩
   · have T : (u.tmod 10000 == 0) = false := by rw [beq_eq_false_iff_ne]; exact fun h => hf0 (ht0.1 h)
     have HF := Lib.hid (show trimZ P ≠ [] by rw [← HP.out]; exact fun h => hf0 (HZ.out.1 h))
     clear ht0 hf0
     cases d1 : decide (u < 0)
     all_goals
       go_enter Tryz.func35, Tryz.ntmps35
       go_wp2_with (first
         | (go_at_call 56; refine (fxRefValid_any _ _).mono ?_; rintro e w' ⟨rfl, rfl⟩; rw [hu])
         | (go_at_call 58; refine (abs_at u a hu HA _).mono ?_; rintro e w' ⟨rfl, rfl⟩))
       refine (Digits_one x (by omega) _).mono ?_
       rintro e w1 ⟨rfl, hb1⟩
       rw [HD.out]
       have HB1 := Lib.hid hb1; clear hb1
       go_wp2_with (go_at_call 58; refine (abs_at u a hu HA _).mono ?_; rintro e w' ⟨rfl, rfl⟩)
       refine (Digits_four f (by omega) _).mono ?_
       rintro e w2 ⟨rfl, hb2⟩
       rw [HP.out]
       have HB2 := Lib.hid hb2; clear hb2
       go_wp2_with fail
       clear ex ef hxb T
       go_loop [4] (fun v => ∃ m : List UInt8, v = .string (S m) ∧ m.length ≤ 4 ∧ Hid (trimZ P = trimZ m)) (fun v => strLen v)
       case atStart => exact ⟨P, rfl, by omega, Lib.hid rfl⟩
       case round =>
         obtain ⟨m, rfl, hm4, HM⟩ := hrel
         have hmne := trim_ne HM.out HF.out
         have hpos : 0 < m.length := List.length_pos_iff.2 hmne
         have HNE := Lib.hid hmne
         clear hmne
         by_cases hz : byt m (m.length - 1) = 48
         · have T : (((byt m (m.length - 1)).toNat : Int) == 48) = true := by rw [hz]; rfl
           have HN := Lib.hid (trimZ_on m ⟨hpos, hz⟩)
           clear hz
           go_wp2_with fail
           go_round
           case rel => exact ⟨_, rfl, by rw [sl_to, List.length_take]; omega, Lib.hid (by rw [sl_to, HM.out, HN.out])⟩
           case measure => simp [strLen, S_size, sl_to]; omega
         · have T : (((byt m (m.length - 1)).toNat : Int) == 48) = false := by rw [beq_eq_false_iff_ne]; intro e; exact hz (UInt8.toNat_inj.1 (by rw [show (48 : UInt8).toNat = 48 from rfl]; omega))
           have HN := Lib.hid (trimZ_off m (fun h => hz h.2))
           clear hz
           go_wp2_with fail
           go_ret
           exact ⟨ret_S (by rw [HT.out, text_frac (HP.out.symm ▸ HM.out.trans HN.out), if_neg HNE.out]; simp at d1; simp [d1, ct]), HB1.out.trans (HB2.out.mono HB1.out.size)⟩
end
section
open Go.RowKit
def wd (ws : List (List UInt8)) (j : Nat) : List UInt8 := ws.getD j []
theorem wd_get (ws : List (List UInt8)) (j : Nat) (h : j < ws.length) : wd ws j = ws[j] := by simp [wd, List.getD, List.getElem?_eq_getElem h]
def WordsAt (w : World) (b : Nat) (ws : List (List UInt8)) : Prop := ∀ j, j < ws.length → w.cell? ⟨b, j, none⟩ = some (.string (S (wd ws j)))
theorem contains_step {ws : List (List UInt8)} {x : List UInt8} {k : Nat} (hk : k < ws.length) (h : x ∉ ws.take k) (hne : (x == wd ws k) = false) : x ∉ ws.take (k + 1) := by
 rw [List.take_succ_eq_append_getElem hk, List.mem_append]
 rintro (hm | hm)
 · exact h hm
 · simp at hm; rw [wd_get ws k hk, hm] at hne; simp at hne
def IdxPost (ws : List (List UInt8)) (x : List UInt8) (e : Ending) : Prop := ∃ r : Int, e = .returned (.int .i64 r) ∧ decide (0 ≤ r) = ws.contains x
set_option maxHeartbeats 400000 in
theorem Index_any (b cap : Nat) (ws : List (List UInt8)) (x : List UInt8) (w : World) (hn : ws.length ≤ 1000000) (hc : WordsAt w b ws) :
   Calls Tryz.prog 106 #[.slice (some ⟨b, 0, none⟩) ws.length cap, .string (S x)] w fun e w' => IdxPost ws x e ∧ w = w' := by
 have HC := Lib.hid hc; clear hc
 go_enter Tryz.func106, Tryz.ntmps106
 go_wp2_with fail
 go_loop [8] (fun i => ∃ k : Nat, k ≤ ws.length ∧ i = .int .i64 k ∧ Hid (x ∉ ws.take k)) (fun i => ws.length - (intOf i).toNat)
 case atStart => exact ⟨0, by omega, rfl, by show x ∉ ws.take 0; simp⟩
 case round =>
   obtain ⟨k, hk, rfl, hh⟩ := hrel
   by_cases hlt : k < ws.length
   · have hcell := HC.out k hlt
     by_cases he : (x == wd ws k) = true
     · go_wp2
       go_ret
       have hm : ws.contains x = true := by
         rw [List.contains_iff_mem]
         have : x = wd ws k := by simpa using he
         rw [this, wd_get ws k hlt]; exact List.getElem_mem hlt
       exact ⟨⟨(k : Int), rfl, by rw [hm]; simp⟩, rfl⟩
     · have he' : (x == wd ws k) = false := by simpa using he
       clear he
       go_wp2
       go_round
       case rel => exact ⟨k + 1, by omega, by go_num, contains_step hlt hh.out he'⟩
       case measure => simp [intOf]; omega
   · go_wp2
     go_ret
     have hm : ws.contains x = false := by
       have := hh.out
       rw [List.take_of_length_le (by omega)] at this
       rw [← Bool.not_eq_true, List.contains_iff_mem]; exact this
     exact ⟨⟨-1, rfl, by rw [hm]; decide⟩, rfl⟩
set_option maxHeartbeats 400000 in
theorem Contains_any (b cap : Nat) (ws : List (List UInt8)) (x : List UInt8) (w : World) (hn : ws.length ≤ 1000000) (hc : WordsAt w b ws) :
   Calls Tryz.prog 72 #[.slice (some ⟨b, 0, none⟩) ws.length cap, .string (S x)] w fun e w' => e = .returned (.bool (ws.contains x)) ∧ w = w' := by
 have H := Lib.hid (Index_any b cap ws x w hn hc)
 clear hc
 generalize hq : ws.contains x = q
 have HQ := Lib.hid hq; clear hq
 go_enter Tryz.func72, Tryz.ntmps72
 go_wp2_with fail
 refine H.out.mono ?_
 rintro e w' ⟨⟨r, rfl, hr⟩, rfl⟩
 have HR := Lib.hid hr; clear hr H
 go_wp2
 go_ret
 exact ⟨ret_bool (HR.out.trans HQ.out), rfl⟩
theorem words_at (w : World) (t : TypeId) : WordsAt (w.alloc (.cells #[.string ⟨#[110, 117, 108, 108]⟩, .string ⟨#[116, 114, 117, 101]⟩, .string ⟨#[102, 97, 108, 115, 101]⟩, .string ⟨#[98, 111, 111, 108]⟩, .string ⟨#[105, 110, 116]⟩, .string ⟨#[110, 117, 109, 98, 101, 114]⟩, .string ⟨#[115, 116, 114, 105, 110, 103]⟩, .string ⟨#[108, 101, 116]⟩, .string ⟨#[105, 102]⟩, .string ⟨#[102, 111, 114]⟩, .string ⟨#[105, 110]⟩, .string ⟨#[112, 97, 99, 107, 97, 103, 101]⟩, .string ⟨#[105, 109, 112, 111, 114, 116]⟩] t)) w.heap.size wordsL := by
 intro j hj
 have hj' : j < 13 := hj
 rw [World.cell?_alloc_mark]
 match j, hj' with
 | 0, _ => rfl
 | 1, _ => rfl
 | 2, _ => rfl
 | 3, _ => rfl
 | 4, _ => rfl
 | 5, _ => rfl
 | 6, _ => rfl
 | 7, _ => rfl
 | 8, _ => rfl
 | 9, _ => rfl
 | 10, _ => rfl
 | 11, _ => rfl
 | 12, _ => rfl
end
section
open Go.RowKit
def idByte (c : UInt8) : Bool := letterB c || c == 95 || digitB c
theorem idTail_nil {m : List UInt8} (h : m.length = 0) : idTail m = false := by rw [List.eq_nil_of_length_eq_zero h]; rfl
theorem idTail_pos {m : List UInt8} (h : 0 < m.length) (hL : letterB (byt m 0) = true) : idTail m = m.all idByte := by
 cases m with
 | nil => simp at h
 | cons c t => show (letterB c && _) = _; rw [show letterB c = true from hL]; rfl
theorem idTail_neg {m : List UInt8} (h : 0 < m.length) (hL : letterB (byt m 0) = false) : idTail m = false := by
 cases m with
 | nil => simp at h
 | cons c t => show (letterB c && _) = _; rw [show letterB c = false from hL]; rfl
theorem all_snoc {m : List UInt8} {k : Nat} (hk : k < m.length) (h : (m.take k).all idByte = true) (hb : idByte (byt m k) = true) : (m.take (k + 1)).all idByte = true := by
 rw [take_byt m k hk, List.all_append, h]; simp [hb]
theorem all_false {m : List UInt8} {k : Nat} (hk : k < m.length) (hb : idByte (byt m k) = false) : m.all idByte = false := by
 rw [← Bool.not_eq_true, List.all_eq_true]
 intro h
 have := h (byt m k) (by rw [byt_get m k hk]; exact List.getElem_mem hk)
 rw [hb] at this; cases this
theorem idByte_cases {c : UInt8} (h : idByte c = true) : letterB c = true ∨ (letterB c = false ∧ ((c.toNat : Int) != 95) = false) ∨ (letterB c = false ∧ ((c.toNat : Int) != 95) = true ∧ 48 ≤ c.toNat ∧ c.toNat ≤ 57) := by
 cases hl : letterB c with
 | true => exact .inl rfl
 | false =>
   unfold idByte at h
   rw [hl] at h
   by_cases h95 : c = 95
   · subst h95; exact .inr (.inl ⟨rfl, rfl⟩)
   · have : ((c.toNat : Int) == 95) = false := u8_ne h95
     rw [show (c == 95) = false by simpa using h95, digitB_nat] at h
     simp at h
     exact .inr (.inr ⟨rfl, by simp only [bne, this]; rfl, h.1, h.2⟩)
theorem idByte_no {c : UInt8} (h : idByte c = false) : letterB c = false ∧ ((c.toNat : Int) != 95) = true ∧ ¬ (48 ≤ c.toNat ∧ c.toNat ≤ 57) := by
 unfold idByte at h
 simp only [Bool.or_eq_false_iff] at h
 obtain ⟨⟨h1, h2⟩, h3⟩ := h
 have : ((c.toNat : Int) == 95) = false := u8_ne (by simpa using h2)
 rw [digitB_nat] at h3
 exact ⟨h1, by simp only [bne, this]; rfl, by simpa using h3⟩
theorem identB_big {l : List UInt8} (h : 32 < l.length) : identB l = false := by unfold identB; rw [if_pos (.inl h)]
theorem identB_word {l : List UInt8} (h : wordsL.contains l = true) : identB l = false := by unfold identB; rw [if_pos (.inr h)]
theorem identB_rest {l : List UInt8} (h : ¬ 32 < l.length) (hw : wordsL.contains l = false) (h0 : 0 < l.length) : identB l = if byt l 0 = 35 ∨ byt l 0 = 95 then idTail (l.drop 1) else idTail l := by
 unfold identB
 rw [if_neg (by rw [hw]; simp; omega)]
 cases l with
 | nil => simp at h0
 | cons c t => rfl
set_option maxRecDepth 100000 in
set_option maxHeartbeats 2000000 in
theorem Ident_any (l : List UInt8) (hl : l.length ≤ 1000000) (w : World) :
   Calls Tryz.prog 71 #[.string (S l)] w fun e w' => e = .returned (.bool (identB l)) ∧ Below w.heap.size w w' := by
 generalize hr : identB l = r
 have HI := Lib.hid hr; clear hr
 by_cases hbig : 32 < l.length
 · have hr : r = false := by rw [← HI.out, identB_big hbig]
   have HR := Lib.hid hr; clear hr
   go_enter Tryz.func71, Tryz.ntmps71
   go_wp2_with fail
   go_ret
   exact ⟨ret_bool HR.out.symm, by go_grown⟩
 have hw := Lib.hid (words_at w 9)
 have hbig' : l.length ≤ 32 := by omega
 generalize hq : wordsL.contains l = q
 have HQ := Lib.hid hq; clear hq
 cases q with
 | true =>
   have hr : r = false := by rw [← HI.out, identB_word HQ.out]
   have HR := Lib.hid hr; clear hr
   go_enter Tryz.func71, Tryz.ntmps71
   go_wp2_with fail
   refine (Contains_any w.heap.size 13 wordsL l _ (by decide) hw.out).mono ?_
   rintro e w' ⟨rfl, rfl⟩
   rw [HQ.out]
   go_wp2_with fail
   go_ret
   exact ⟨ret_bool HR.out.symm, by go_grown⟩
 | false =>
   by_cases h0 : l.length = 0
   · have hr : r = false := by rw [← HI.out, List.eq_nil_of_length_eq_zero h0]; rfl
     have HR := Lib.hid hr; clear hr
     have hz : ((l.length : Int) == 0) = true := by rw [h0]; rfl
     go_enter Tryz.func71, Tryz.ntmps71
     go_wp2_with fail
     refine (Contains_any w.heap.size 13 wordsL l _ (by decide) hw.out).mono ?_
     rintro e w' ⟨rfl, rfl⟩
     rw [HQ.out]
     go_wp2_with fail
     go_ret
     exact ⟨ret_bool HR.out.symm, by go_grown⟩
   have h0' : 0 < l.length := by omega
   have hrest := identB_rest hbig HQ.out h0'
   clear h0
   by_cases h35 : byt l 0 = 35
   · rw [if_pos (.inl h35), HI.out, ← sl_from l 1] at hrest
     have HT := Lib.hid hrest; clear hrest
     have hml : (sl l 1 l.length).length ≤ 32 := by have := sl_le l 1 l.length; omega
     go_enter Tryz.func71, Tryz.ntmps71
     go_wp2_with fail
     refine (Contains_any w.heap.size 13 wordsL l _ (by decide) hw.out).mono ?_
     rintro e w' ⟨rfl, rfl⟩
     rw [HQ.out]
     by_cases hm0 : (sl l 1 l.length).length = 0
     · have hr : r = false := by rw [HT.out, idTail_nil hm0]
       have HR := Lib.hid hr; clear hr
       have hz : (((sl l 1 l.length).length : Int) == 0) = true := by rw [hm0]; rfl
       go_wp2_with fail
       go_ret
       exact ⟨ret_bool HR.out.symm, by go_grown⟩
     have hm1 : 0 < (sl l 1 l.length).length := by omega
     have hz : (((sl l 1 l.length).length : Int) == 0) = false := beq_eq_false_iff_ne.2 (by omega)
     clear hm0
     by_cases hL : letterB (byt (sl l 1 l.length) 0) = true
     · have hr : r = (sl l 1 l.length).all idByte := by rw [HT.out, idTail_pos hm1 hL]
       have HR := Lib.hid hr; clear hr
       go_wp2_with (go_at_call 105; refine (letter_any _ _).mono ?_; rintro e w' ⟨rfl, rfl⟩)
       clear hL hz
       go_loop [40] (fun i => ∃ k : Nat, k ≤ (sl l 1 l.length).length ∧ i = .int .i64 k ∧ Hid (((sl l 1 l.length).take k).all idByte = true)) (fun i => (sl l 1 l.length).length - (intOf i).toNat)
       case atStart => exact ⟨0, by omega, rfl, rfl⟩
       case round =>
         obtain ⟨k, hk, rfl, hh⟩ := hrel
         by_cases hlt : k < (sl l 1 l.length).length
         · by_cases hb : idByte (byt (sl l 1 l.length) k) = true
           · have hnext := Lib.hid (all_snoc hlt hh.out hb)
             rcases idByte_cases hb with h1 | ⟨h1, h2⟩ | ⟨h1, h2, h3, h4⟩
             · go_wp2_with (go_at_call 105; refine (letter_any _ _).mono ?_; rintro e w' ⟨rfl, rfl⟩)
               go_round
               case rel => exact ⟨k + 1, by omega, by go_num, hnext.out⟩
               case measure => simp [intOf]; omega
             · go_wp2_with (go_at_call 105; refine (letter_any _ _).mono ?_; rintro e w' ⟨rfl, rfl⟩)
               go_round
               case rel => exact ⟨k + 1, by omega, by go_num, hnext.out⟩
               case measure => simp [intOf]; omega
             · go_wp2_with (go_at_call 105; refine (letter_any _ _).mono ?_; rintro e w' ⟨rfl, rfl⟩)
               go_round
               case rel => exact ⟨k + 1, by omega, by go_num, hnext.out⟩
               case measure => simp [intOf]; omega
           · have hbf : idByte (byt (sl l 1 l.length) k) = false := by simpa using hb
             have hrf := Lib.hid (all_false hlt hbf)
             obtain ⟨h1, h2, h3⟩ := idByte_no hbf
             clear hb hbf
             by_cases h4 : (byt (sl l 1 l.length) k).toNat < 48
             · go_wp2_with (go_at_call 105; refine (letter_any _ _).mono ?_; rintro e w' ⟨rfl, rfl⟩)
               go_ret
               exact ⟨ret_bool (by rw [HR.out, hrf.out]), by go_grown⟩
             · have h5 : 57 < (byt (sl l 1 l.length) k).toNat := by omega
               go_wp2_with (go_at_call 105; refine (letter_any _ _).mono ?_; rintro e w' ⟨rfl, rfl⟩)
               go_ret
               exact ⟨ret_bool (by rw [HR.out, hrf.out]), by go_grown⟩
         · have hall := hh.out
           rw [List.take_of_length_le (by omega)] at hall
           have HA := Lib.hid hall; clear hall
           go_wp2_with fail
           go_ret
           exact ⟨ret_bool (by rw [HR.out, HA.out]), by go_grown⟩
     · have hLf : letterB (byt (sl l 1 l.length) 0) = false := by simpa using hL
       have hr : r = false := by rw [HT.out, idTail_neg hm1 hLf]
       have HR := Lib.hid hr; clear hr hL
       go_wp2_with (go_at_call 105; refine (letter_any _ _).mono ?_; rintro e w' ⟨rfl, rfl⟩)
       go_ret
       exact ⟨ret_bool HR.out.symm, by go_grown⟩
   by_cases h95 : byt l 0 = 95
   · rw [if_pos (.inr h95), HI.out, ← sl_from l 1] at hrest
     have HT := Lib.hid hrest; clear hrest h35
     have hml : (sl l 1 l.length).length ≤ 32 := by have := sl_le l 1 l.length; omega
     go_enter Tryz.func71, Tryz.ntmps71
     go_wp2_with fail
     refine (Contains_any w.heap.size 13 wordsL l _ (by decide) hw.out).mono ?_
     rintro e w' ⟨rfl, rfl⟩
     rw [HQ.out]
     by_cases hm0 : (sl l 1 l.length).length = 0
     · have hr : r = false := by rw [HT.out, idTail_nil hm0]
       have HR := Lib.hid hr; clear hr
       have hz : (((sl l 1 l.length).length : Int) == 0) = true := by rw [hm0]; rfl
       go_wp2_with fail
       go_ret
       exact ⟨ret_bool HR.out.symm, by go_grown⟩
     have hm1 : 0 < (sl l 1 l.length).length := by omega
     have hz : (((sl l 1 l.length).length : Int) == 0) = false := beq_eq_false_iff_ne.2 (by omega)
     clear hm0
     by_cases hL : letterB (byt (sl l 1 l.length) 0) = true
     · have hr : r = (sl l 1 l.length).all idByte := by rw [HT.out, idTail_pos hm1 hL]
       have HR := Lib.hid hr; clear hr
       go_wp2_with (go_at_call 105; refine (letter_any _ _).mono ?_; rintro e w' ⟨rfl, rfl⟩)
       clear hL hz
       go_loop [40] (fun i => ∃ k : Nat, k ≤ (sl l 1 l.length).length ∧ i = .int .i64 k ∧ Hid (((sl l 1 l.length).take k).all idByte = true)) (fun i => (sl l 1 l.length).length - (intOf i).toNat)
       case atStart => exact ⟨0, by omega, rfl, rfl⟩
       case round =>
         obtain ⟨k, hk, rfl, hh⟩ := hrel
         by_cases hlt : k < (sl l 1 l.length).length
         · by_cases hb : idByte (byt (sl l 1 l.length) k) = true
           · have hnext := Lib.hid (all_snoc hlt hh.out hb)
             rcases idByte_cases hb with h1 | ⟨h1, h2⟩ | ⟨h1, h2, h3, h4⟩
             · go_wp2_with (go_at_call 105; refine (letter_any _ _).mono ?_; rintro e w' ⟨rfl, rfl⟩)
               go_round
               case rel => exact ⟨k + 1, by omega, by go_num, hnext.out⟩
               case measure => simp [intOf]; omega
             · go_wp2_with (go_at_call 105; refine (letter_any _ _).mono ?_; rintro e w' ⟨rfl, rfl⟩)
               go_round
               case rel => exact ⟨k + 1, by omega, by go_num, hnext.out⟩
               case measure => simp [intOf]; omega
             · go_wp2_with (go_at_call 105; refine (letter_any _ _).mono ?_; rintro e w' ⟨rfl, rfl⟩)
               go_round
               case rel => exact ⟨k + 1, by omega, by go_num, hnext.out⟩
               case measure => simp [intOf]; omega
           · have hbf : idByte (byt (sl l 1 l.length) k) = false := by simpa using hb
             have hrf := Lib.hid (all_false hlt hbf)
             obtain ⟨h1, h2, h3⟩ := idByte_no hbf
             clear hb hbf
             by_cases h4 : (byt (sl l 1 l.length) k).toNat < 48
             · go_wp2_with (go_at_call 105; refine (letter_any _ _).mono ?_; rintro e w' ⟨rfl, rfl⟩)
               go_ret
               exact ⟨ret_bool (by rw [HR.out, hrf.out]), by go_grown⟩
             · have h5 : 57 < (byt (sl l 1 l.length) k).toNat := by omega
               go_wp2_with (go_at_call 105; refine (letter_any _ _).mono ?_; rintro e w' ⟨rfl, rfl⟩)
               go_ret
               exact ⟨ret_bool (by rw [HR.out, hrf.out]), by go_grown⟩
         · have hall := hh.out
           rw [List.take_of_length_le (by omega)] at hall
           have HA := Lib.hid hall; clear hall
           go_wp2_with fail
           go_ret
           exact ⟨ret_bool (by rw [HR.out, HA.out]), by go_grown⟩
     · have hLf : letterB (byt (sl l 1 l.length) 0) = false := by simpa using hL
       have hr : r = false := by rw [HT.out, idTail_neg hm1 hLf]
       have HR := Lib.hid hr; clear hr hL
       go_wp2_with (go_at_call 105; refine (letter_any _ _).mono ?_; rintro e w' ⟨rfl, rfl⟩)
       go_ret
       exact ⟨ret_bool HR.out.symm, by go_grown⟩
   · rw [if_neg (by simp [h35, h95]), HI.out] at hrest
     have HT := Lib.hid hrest; clear hrest
     have e35 : (((byt l 0).toNat : Int) == 35) = false := u8_ne h35
     have e95 : (((byt l 0).toNat : Int) == 95) = false := u8_ne h95
     clear h35 h95
     go_enter Tryz.func71, Tryz.ntmps71
     go_wp2_with fail
     refine (Contains_any w.heap.size 13 wordsL l _ (by decide) hw.out).mono ?_
     rintro e w' ⟨rfl, rfl⟩
     rw [HQ.out]
     by_cases hm0 : l.length = 0
     · have hr : r = false := by rw [HT.out, idTail_nil hm0]
       have HR := Lib.hid hr; clear hr
       have hz : ((l.length : Int) == 0) = true := by rw [hm0]; rfl
       go_wp2_with fail
       go_ret
       exact ⟨ret_bool HR.out.symm, by go_grown⟩
     have hm1 : 0 < l.length := by omega
     have hz : ((l.length : Int) == 0) = false := beq_eq_false_iff_ne.2 (by omega)
     clear hm0
     by_cases hL : letterB (byt l 0) = true
     · have hr : r = l.all idByte := by rw [HT.out, idTail_pos hm1 hL]
       have HR := Lib.hid hr; clear hr
       go_wp2_with (go_at_call 105; refine (letter_any _ _).mono ?_; rintro e w' ⟨rfl, rfl⟩)
       clear hL hz
       go_loop [40] (fun i => ∃ k : Nat, k ≤ l.length ∧ i = .int .i64 k ∧ Hid ((l.take k).all idByte = true)) (fun i => l.length - (intOf i).toNat)
       case atStart => exact ⟨0, by omega, rfl, rfl⟩
       case round =>
         obtain ⟨k, hk, rfl, hh⟩ := hrel
         by_cases hlt : k < l.length
         · by_cases hb : idByte (byt l k) = true
           · have hnext := Lib.hid (all_snoc hlt hh.out hb)
             rcases idByte_cases hb with h1 | ⟨h1, h2⟩ | ⟨h1, h2, h3, h4⟩
             · go_wp2_with (go_at_call 105; refine (letter_any _ _).mono ?_; rintro e w' ⟨rfl, rfl⟩)
               go_round
               case rel => exact ⟨k + 1, by omega, by go_num, hnext.out⟩
               case measure => simp [intOf]; omega
             · go_wp2_with (go_at_call 105; refine (letter_any _ _).mono ?_; rintro e w' ⟨rfl, rfl⟩)
               go_round
               case rel => exact ⟨k + 1, by omega, by go_num, hnext.out⟩
               case measure => simp [intOf]; omega
             · go_wp2_with (go_at_call 105; refine (letter_any _ _).mono ?_; rintro e w' ⟨rfl, rfl⟩)
               go_round
               case rel => exact ⟨k + 1, by omega, by go_num, hnext.out⟩
               case measure => simp [intOf]; omega
           · have hbf : idByte (byt l k) = false := by simpa using hb
             have hrf := Lib.hid (all_false hlt hbf)
             obtain ⟨h1, h2, h3⟩ := idByte_no hbf
             clear hb hbf
             by_cases h4 : (byt l k).toNat < 48
             · go_wp2_with (go_at_call 105; refine (letter_any _ _).mono ?_; rintro e w' ⟨rfl, rfl⟩)
               go_ret
               exact ⟨ret_bool (by rw [HR.out, hrf.out]), by go_grown⟩
             · have h5 : 57 < (byt l k).toNat := by omega
               go_wp2_with (go_at_call 105; refine (letter_any _ _).mono ?_; rintro e w' ⟨rfl, rfl⟩)
               go_ret
               exact ⟨ret_bool (by rw [HR.out, hrf.out]), by go_grown⟩
         · have hall := hh.out
           rw [List.take_of_length_le (by omega)] at hall
           have HA := Lib.hid hall; clear hall
           go_wp2_with fail
           go_ret
           exact ⟨ret_bool (by rw [HR.out, HA.out]), by go_grown⟩
     · have hLf : letterB (byt l 0) = false := by simpa using hL
       have hr : r = false := by rw [HT.out, idTail_neg hm1 hLf]
       have HR := Lib.hid hr; clear hr hL
       go_wp2_with (go_at_call 105; refine (letter_any _ _).mono ?_; rintro e w' ⟨rfl, rfl⟩)
       go_ret
       exact ⟨ret_bool HR.out.symm, by go_grown⟩
end
section
open Go
def splitC (c : UInt8) : List UInt8 → List (List UInt8)
 | [] => [[]]
 | b :: r => if b = c then [] :: splitC c r else
   match splitC c r with
   | [] => [[b]]
   | p :: ps => (b :: p) :: ps
theorem splitC_app (c : UInt8) (a r : List UInt8) (h : ∀ x ∈ a, x ≠ c) : splitC c (a ++ c :: r) = a :: splitC c r := by
 induction a with
 | nil => simp [splitC]
 | cons b a ih =>
   have hb := h b (List.mem_cons_self ..)
   rw [List.cons_append, splitC, if_neg hb, ih (fun x hx => h x (List.mem_cons_of_mem _ hx))]
theorem splitC_one (c : UInt8) (a : List UInt8) (h : ∀ x ∈ a, x ≠ c) : splitC c a = [a] := by
 induction a with
 | nil => rfl
 | cons b a ih =>
   have hb := h b (List.mem_cons_self ..)
   rw [splitC, if_neg hb, ih (fun x hx => h x (List.mem_cons_of_mem _ hx))]
theorem indexByte_hit (c : UInt8) (a r : List UInt8) (h : ∀ x ∈ a, x ≠ c) : Lib.indexByte (a ++ c :: r) c = a.length := by
 induction a with
 | nil => simp [Lib.indexByte]
 | cons b a ih =>
   have hb := h b (List.mem_cons_self ..)
   rw [List.cons_append, Lib.indexByte, if_neg (by simpa using hb), ih (fun x hx => h x (List.mem_cons_of_mem _ hx)), if_neg (by simp), List.length_cons]
   omega
theorem split_mem (c : UInt8) (l : List UInt8) (h : c ∈ l) : ∃ a r, l = a ++ c :: r ∧ ∀ x ∈ a, x ≠ c := by
 induction l with
 | nil => cases h
 | cons b l ih =>
   by_cases hb : b = c
   · exact ⟨[], l, by rw [hb]; rfl, by simp⟩
   · have h' : c ∈ l := by
       rcases List.mem_cons.1 h with h1 | h1
       · exact absurd h1.symm hb
       · exact h1
     obtain ⟨a, r, e, ha⟩ := ih h'
     exact ⟨b :: a, r, by rw [e]; rfl, by
       intro x hx
       rcases List.mem_cons.1 hx with h1 | h1
       · rw [h1]; exact hb
       · exact ha x h1⟩
theorem splitK_one (c : UInt8) (l : List UInt8) : Lib.splitK [c] 0 (l.count c) l = splitC c l := by
 induction hn : l.length using Nat.strongRecOn generalizing l with
 | _ n ih =>
   by_cases h : c ∈ l
   · obtain ⟨a, r, e, ha⟩ := split_mem c l h
     have hc : l.count c = r.count c + 1 := by
       rw [e, List.count_append, List.count_cons_self, List.count_eq_zero.2 (fun hx => ha c hx rfl)]; omega
     have hi : Lib.index l [c] = a.length := by rw [Lib.index_one, e]; exact indexByte_hit c a r ha
     rw [hc, Lib.splitK, hi, if_neg (by simp)]
     rw [show ((a.length : Nat) : Int).toNat + 0 = a.length by omega, show ((a.length : Nat) : Int).toNat + [c].length = a.length + 1 by simp]
     have e1 : l.take a.length = a := by rw [e]; simp
     have e2 : l.drop (a.length + 1) = r := by rw [e, ← List.drop_drop]; simp
     rw [e1, e2, ih r.length (by rw [← hn, e]; simp; omega) r rfl, e, splitC_app c a r ha]
   · rw [List.count_eq_zero.2 h, Lib.splitK, splitC_one c l (fun x hx e => h (e ▸ hx))]
theorem splitC_len (c : UInt8) (l : List UInt8) : (splitC c l).length = l.count c + 1 := by
 induction hn : l.length using Nat.strongRecOn generalizing l with
 | _ n ih =>
   by_cases h : c ∈ l
   · obtain ⟨a, r, e, ha⟩ := split_mem c l h
     have hc : l.count c = r.count c + 1 := by
       rw [e, List.count_append, List.count_cons_self, List.count_eq_zero.2 (fun hx => ha c hx rfl)]; omega
     rw [hc]
     conv => lhs; rw [e, splitC_app c a r ha]
     rw [List.length_cons, ih r.length (by rw [← hn, e]; simp; omega) r rfl]
   · rw [List.count_eq_zero.2 h, splitC_one c l (fun x hx e => h (e ▸ hx))]; rfl
theorem countB_one (c : UInt8) (l : List UInt8) : Lib.countB (S l) (S [c]) + 1 = (splitC c l).length := by
 rw [splitC_len, ← Lib.count_one]; rfl
theorem splitB_one (c : UInt8) (l : List UInt8) : Lib.splitB (S [c]) 0 (Lib.countB (S l) (S [c])) (S l) = (splitC c l).map S := by
 have h := Lib.splitB_data (S [c]) 0 (Lib.countB (S l) (S [c])) (S l)
 have h2 : Lib.splitK (S [c]).data.toList 0 (Lib.countB (S l) (S [c])) (S l).data.toList = splitC c l := by
   rw [← splitK_one, ← Lib.count_one]; rfl
 rw [h2] at h
 rw [← h, List.map_map]
 conv => lhs; rw [← List.map_id (Lib.splitB (S [c]) 0 (Lib.countB (S l) (S [c])) (S l))]
 apply List.map_congr_left
 intro x _
 cases x; rfl
theorem splitC_mem_len (c : UInt8) (l : List UInt8) : ∀ p ∈ splitC c l, p.length ≤ l.length := by
 induction l with
 | nil => simp [splitC]
 | cons b r ih =>
   unfold splitC
   split
   · intro p hp
     rcases List.mem_cons.1 hp with h | h
     · rw [h]; simp
     · have := ih p h; simp; omega
   · split
     · intro p hp; simp at hp; rw [hp]; simp
     · rename_i q qs hq
       intro p hp
       rcases List.mem_cons.1 hp with h | h
       · have := ih q (by rw [hq]; exact List.mem_cons_self ..)
         rw [h]; simp; omega
       · have := ih p (by rw [hq]; exact List.mem_cons_of_mem _ h)
         simp; omega
end
section
open Go.RowKit
theorem byt_drop (l : List UInt8) (f : Nat) : byt (l.drop f) 0 = byt l f := by
 simp [byt, List.getD, List.getElem?_drop]
theorem byt_drop' (l : List UInt8) (f k : Nat) (h : f ≤ k) : byt (l.drop f) (k - f) = byt l k := by
 simp only [byt, List.getD, List.getElem?_drop]; rw [show f + (k - f) = k by omega]
theorem all_snoc_drop {l : List UInt8} {f k : Nat} (hf : f ≤ k) (hk : k < l.length) (h : ((l.drop f).take (k - f)).all idByte = true) (hb : idByte (byt l k) = true) : ((l.drop f).take (k + 1 - f)).all idByte = true := by
 rw [show k + 1 - f = (k - f) + 1 by omega]
 exact all_snoc (by rw [List.length_drop]; omega) h (by rw [byt_drop' l f k hf]; exact hb)
theorem all_false_drop {l : List UInt8} {f k : Nat} (hf : f ≤ k) (hk : k < l.length) (hb : idByte (byt l k) = false) : (l.drop f).all idByte = false :=
 all_false (k := k - f) (by rw [List.length_drop]; omega) (by rw [byt_drop' l f k hf]; exact hb)
theorem idByte_cases2 {c : UInt8} (h : idByte c = true) : letterB c = true ∨ (letterB c = false ∧ digitB c = true) ∨ (letterB c = false ∧ digitB c = false ∧ ((c.toNat : Int) != 95) = false) := by
 unfold idByte at h
 cases hl : letterB c with
 | true => exact .inl rfl
 | false =>
   cases hd : digitB c with
   | true => exact .inr (.inl ⟨rfl, rfl⟩)
   | false =>
     rw [hl, hd] at h
     have : c = 95 := by simpa using h
     subst this
     exact .inr (.inr ⟨rfl, rfl, rfl⟩)
theorem idByte_no2 {c : UInt8} (h : idByte c = false) : letterB c = false ∧ digitB c = false ∧ ((c.toNat : Int) != 95) = true := by
 obtain ⟨h1, h2, _⟩ := idByte_no h
 unfold idByte at h
 simp only [Bool.or_eq_false_iff] at h
 exact ⟨h1, h.2, h2⟩
theorem Words_any (w : World) : Calls Tryz.prog 45 #[] w fun e w' => e = .returned (.slice (some ⟨w.heap.size, 0, none⟩) 13 13) ∧ w' = w.alloc (.cells #[.string ⟨#[110, 117, 108, 108]⟩, .string ⟨#[116, 114, 117, 101]⟩, .string ⟨#[102, 97, 108, 115, 101]⟩, .string ⟨#[98, 111, 111, 108]⟩, .string ⟨#[105, 110, 116]⟩, .string ⟨#[110, 117, 109, 98, 101, 114]⟩, .string ⟨#[115, 116, 114, 105, 110, 103]⟩, .string ⟨#[108, 101, 116]⟩, .string ⟨#[105, 102]⟩, .string ⟨#[102, 111, 114]⟩, .string ⟨#[105, 110]⟩, .string ⟨#[112, 97, 99, 107, 97, 103, 101]⟩, .string ⟨#[105, 109, 112, 111, 114, 116]⟩] 9) := by
 go_enter Tryz.func45, Tryz.ntmps45
 go_wp2
 go_ret
 exact ⟨rfl, rfl⟩
set_option maxRecDepth 100000 in
set_option maxHeartbeats 2000000 in
theorem refIdent_any (l : List UInt8) (hl : l.length ≤ 1000000) (w : World) :
   Calls Tryz.prog 27 #[.string (S l)] w fun e w' => e = .returned (.bool (identB l)) ∧ Below w.heap.size w w' := by
 generalize hr : identB l = r
 have HI := Lib.hid hr; clear hr
 by_cases hbig : 32 < l.length
 · have hr : r = false := by rw [← HI.out, identB_big hbig]
   have HR := Lib.hid hr; clear hr
   go_enter Tryz.func27, Tryz.ntmps27
   go_wp2_with fail
   go_ret
   exact ⟨ret_bool HR.out.symm, Below.refl _ _⟩
 by_cases h0 : l.length = 0
 · have hr : r = false := by rw [← HI.out, List.eq_nil_of_length_eq_zero h0]; rfl
   have HR := Lib.hid hr; clear hr
   have hz : (l.length : Int) < 1 := by omega
   go_enter Tryz.func27, Tryz.ntmps27
   go_wp2_with fail
   go_ret
   exact ⟨ret_bool HR.out.symm, Below.refl _ _⟩
 have hw := words_at w 9
 have hbw : Below w.heap.size w (w.alloc (.cells #[.string ⟨#[110, 117, 108, 108]⟩, .string ⟨#[116, 114, 117, 101]⟩, .string ⟨#[102, 97, 108, 115, 101]⟩, .string ⟨#[98, 111, 111, 108]⟩, .string ⟨#[105, 110, 116]⟩, .string ⟨#[110, 117, 109, 98, 101, 114]⟩, .string ⟨#[115, 116, 114, 105, 110, 103]⟩, .string ⟨#[108, 101, 116]⟩, .string ⟨#[105, 102]⟩, .string ⟨#[102, 111, 114]⟩, .string ⟨#[105, 110]⟩, .string ⟨#[112, 97, 99, 107, 97, 103, 101]⟩, .string ⟨#[105, 109, 112, 111, 114, 116]⟩] 9)) := (Below.refl _ _).alloc (Nat.le_refl _) _
 obtain ⟨W1, hW1⟩ : ∃ W1, W1 = w.alloc (.cells #[.string ⟨#[110, 117, 108, 108]⟩, .string ⟨#[116, 114, 117, 101]⟩, .string ⟨#[102, 97, 108, 115, 101]⟩, .string ⟨#[98, 111, 111, 108]⟩, .string ⟨#[105, 110, 116]⟩, .string ⟨#[110, 117, 109, 98, 101, 114]⟩, .string ⟨#[115, 116, 114, 105, 110, 103]⟩, .string ⟨#[108, 101, 116]⟩, .string ⟨#[105, 102]⟩, .string ⟨#[102, 111, 114]⟩, .string ⟨#[105, 110]⟩, .string ⟨#[112, 97, 99, 107, 97, 103, 101]⟩, .string ⟨#[105, 109, 112, 111, 114, 116]⟩] 9) := ⟨_, rfl⟩
 rw [← hW1] at hw hbw
 have HW := Lib.hid hw; have hBw := hbw; have HE := Lib.hid hW1; clear hw hbw hW1
 have hbig' : l.length ≤ 32 := by omega
 have h0' : 0 < l.length := by omega
 clear h0
 go_enter Tryz.func27, Tryz.ntmps27
 go_wp2_with fail
 refine (Words_any _).mono ?_
 rintro e w' ⟨rfl, hw'⟩
 rw [← HE.out] at hw'
 subst hw'
 go_wp2_with fail
 go_loop [17] (fun i => ∃ k : Nat, k ≤ 13 ∧ i = .int .i64 k ∧ Hid (l ∉ wordsL.take k)) (fun i => 13 - (intOf i).toNat)
 case atStart => exact ⟨0, by omega, rfl, by show l ∉ wordsL.take 0; simp⟩
 case round =>
   obtain ⟨k, hk, rfl, hh⟩ := hrel
   by_cases hlt : k < 13
   · have hcell := HW.out k hlt
     by_cases he : (l == wd wordsL k) = true
     · have hm : wordsL.contains l = true := by
         rw [List.contains_iff_mem]
         have : l = wd wordsL k := by simpa using he
         rw [this, wd_get wordsL k hlt]; exact List.getElem_mem hlt
       have hr : r = false := by rw [← HI.out, identB_word hm]
       have HR := Lib.hid hr; clear hr hm
       go_wp2_with fail
       go_ret
       exact ⟨ret_bool HR.out.symm, hBw⟩
     · have he' : (l == wd wordsL k) = false := by simpa using he
       clear he
       go_wp2_with fail
       go_round
       case rel => exact ⟨k + 1, by omega, by go_num, contains_step hlt hh.out he'⟩
       case measure => simp [intOf]; omega
   · have hm : wordsL.contains l = false := by
       have := hh.out
       rw [List.take_of_length_le (by show 13 ≤ k; omega)] at this
       rw [← Bool.not_eq_true, List.contains_iff_mem]; exact this
     have hrest := identB_rest hbig hm h0'
     clear hm
     by_cases h35 : byt l 0 = 35
     · rw [if_pos (.inl h35), HI.out] at hrest
       have HT := Lib.hid hrest; clear hrest
       by_cases hm0 : l.length = 1
       · have hr : r = false := by rw [HT.out, idTail_nil (by rw [List.length_drop]; omega)]
         have HR := Lib.hid hr; clear hr
         have hz : (l.length : Int) ≤ 1 := by omega
         go_wp2_with fail
         go_ret
         exact ⟨ret_bool HR.out.symm, hBw⟩
       have hm1 : 1 < l.length := by omega
       clear hm0
       by_cases hL : letterB (byt l 1) = true
       · have hr : r = (l.drop 1).all idByte := by rw [HT.out, idTail_pos (by rw [List.length_drop]; omega) (by rw [byt_drop]; exact hL)]
         have HR := Lib.hid hr; clear hr
         go_wp2_with (first | (go_at_call 46; refine (Letter_any _ _).mono ?_; rintro e w' ⟨rfl, rfl⟩) | (go_at_call 47; refine (Digit_any _ _).mono ?_; rintro e w' ⟨rfl, rfl⟩))
         clear hL
         go_loop [6] (fun i => ∃ k : Nat, 1 ≤ k ∧ k ≤ l.length ∧ i = .int .i64 k ∧ Hid (((l.drop 1).take (k - 1)).all idByte = true)) (fun i => l.length - (intOf i).toNat)
         case atStart => exact ⟨1, by omega, by omega, rfl, by show (List.take _ _).all idByte = true; simp⟩
         case round =>
           obtain ⟨k, hk0, hk, rfl, hh⟩ := hrel
           by_cases hlt : k < l.length
           · by_cases hb : idByte (byt l k) = true
             · have hnext : Hid (((l.drop 1).take (k + 1 - 1)).all idByte = true) := all_snoc_drop hk0 hlt hh.out hb
               rcases idByte_cases2 hb with h1 | ⟨h1, h2⟩ | ⟨h1, h2, h3⟩
               · go_wp2_with (first | (go_at_call 46; refine (Letter_any _ _).mono ?_; rintro e w' ⟨rfl, rfl⟩) | (go_at_call 47; refine (Digit_any _ _).mono ?_; rintro e w' ⟨rfl, rfl⟩))
                 go_round
                 case rel => exact ⟨k + 1, by omega, by omega, by go_num, hnext⟩
                 case measure => simp [intOf]; omega
               · go_wp2_with (first | (go_at_call 46; refine (Letter_any _ _).mono ?_; rintro e w' ⟨rfl, rfl⟩) | (go_at_call 47; refine (Digit_any _ _).mono ?_; rintro e w' ⟨rfl, rfl⟩))
                 go_round
                 case rel => exact ⟨k + 1, by omega, by omega, by go_num, hnext⟩
                 case measure => simp [intOf]; omega
               · go_wp2_with (first | (go_at_call 46; refine (Letter_any _ _).mono ?_; rintro e w' ⟨rfl, rfl⟩) | (go_at_call 47; refine (Digit_any _ _).mono ?_; rintro e w' ⟨rfl, rfl⟩))
                 go_round
                 case rel => exact ⟨k + 1, by omega, by omega, by go_num, hnext⟩
                 case measure => simp [intOf]; omega
             · have hbf : idByte (byt l k) = false := by simpa using hb
               have hrf : Hid ((l.drop 1).all idByte = false) := all_false_drop hk0 hlt hbf
               obtain ⟨h1, h2, h3⟩ := idByte_no2 hbf
               clear hb hbf
               go_wp2_with (first | (go_at_call 46; refine (Letter_any _ _).mono ?_; rintro e w' ⟨rfl, rfl⟩) | (go_at_call 47; refine (Digit_any _ _).mono ?_; rintro e w' ⟨rfl, rfl⟩))
               go_ret
               exact ⟨ret_bool (by rw [HR.out, hrf.out]), hBw⟩
           · have hall := hh.out
             rw [List.take_of_length_le (by rw [List.length_drop]; omega)] at hall
             have HA := Lib.hid hall; clear hall
             go_wp2_with fail
             go_ret
             exact ⟨ret_bool (by rw [HR.out, HA.out]), hBw⟩
       · have hLf : letterB (byt l 1) = false := by simpa using hL
         have hr : r = false := by rw [HT.out, idTail_neg (by rw [List.length_drop]; omega) (by rw [byt_drop]; exact hLf)]
         have HR := Lib.hid hr; clear hr hL
         go_wp2_with (first | (go_at_call 46; refine (Letter_any _ _).mono ?_; rintro e w' ⟨rfl, rfl⟩) | (go_at_call 47; refine (Digit_any _ _).mono ?_; rintro e w' ⟨rfl, rfl⟩))
         go_ret
         exact ⟨ret_bool HR.out.symm, hBw⟩
     by_cases h95 : byt l 0 = 95
     · rw [if_pos (.inr h95), HI.out] at hrest
       have HT := Lib.hid hrest; clear hrest h35
       by_cases hm0 : l.length = 1
       · have hr : r = false := by rw [HT.out, idTail_nil (by rw [List.length_drop]; omega)]
         have HR := Lib.hid hr; clear hr
         have hz : (l.length : Int) ≤ 1 := by omega
         go_wp2_with fail
         go_ret
         exact ⟨ret_bool HR.out.symm, hBw⟩
       have hm1 : 1 < l.length := by omega
       clear hm0
       by_cases hL : letterB (byt l 1) = true
       · have hr : r = (l.drop 1).all idByte := by rw [HT.out, idTail_pos (by rw [List.length_drop]; omega) (by rw [byt_drop]; exact hL)]
         have HR := Lib.hid hr; clear hr
         go_wp2_with (first | (go_at_call 46; refine (Letter_any _ _).mono ?_; rintro e w' ⟨rfl, rfl⟩) | (go_at_call 47; refine (Digit_any _ _).mono ?_; rintro e w' ⟨rfl, rfl⟩))
         clear hL
         go_loop [6] (fun i => ∃ k : Nat, 1 ≤ k ∧ k ≤ l.length ∧ i = .int .i64 k ∧ Hid (((l.drop 1).take (k - 1)).all idByte = true)) (fun i => l.length - (intOf i).toNat)
         case atStart => exact ⟨1, by omega, by omega, rfl, by show (List.take _ _).all idByte = true; simp⟩
         case round =>
           obtain ⟨k, hk0, hk, rfl, hh⟩ := hrel
           by_cases hlt : k < l.length
           · by_cases hb : idByte (byt l k) = true
             · have hnext : Hid (((l.drop 1).take (k + 1 - 1)).all idByte = true) := all_snoc_drop hk0 hlt hh.out hb
               rcases idByte_cases2 hb with h1 | ⟨h1, h2⟩ | ⟨h1, h2, h3⟩
               · go_wp2_with (first | (go_at_call 46; refine (Letter_any _ _).mono ?_; rintro e w' ⟨rfl, rfl⟩) | (go_at_call 47; refine (Digit_any _ _).mono ?_; rintro e w' ⟨rfl, rfl⟩))
                 go_round
                 case rel => exact ⟨k + 1, by omega, by omega, by go_num, hnext⟩
                 case measure => simp [intOf]; omega
               · go_wp2_with (first | (go_at_call 46; refine (Letter_any _ _).mono ?_; rintro e w' ⟨rfl, rfl⟩) | (go_at_call 47; refine (Digit_any _ _).mono ?_; rintro e w' ⟨rfl, rfl⟩))
                 go_round
                 case rel => exact ⟨k + 1, by omega, by omega, by go_num, hnext⟩
                 case measure => simp [intOf]; omega
               · go_wp2_with (first | (go_at_call 46; refine (Letter_any _ _).mono ?_; rintro e w' ⟨rfl, rfl⟩) | (go_at_call 47; refine (Digit_any _ _).mono ?_; rintro e w' ⟨rfl, rfl⟩))
                 go_round
                 case rel => exact ⟨k + 1, by omega, by omega, by go_num, hnext⟩
                 case measure => simp [intOf]; omega
             · have hbf : idByte (byt l k) = false := by simpa using hb
               have hrf : Hid ((l.drop 1).all idByte = false) := all_false_drop hk0 hlt hbf
               obtain ⟨h1, h2, h3⟩ := idByte_no2 hbf
               clear hb hbf
               go_wp2_with (first | (go_at_call 46; refine (Letter_any _ _).mono ?_; rintro e w' ⟨rfl, rfl⟩) | (go_at_call 47; refine (Digit_any _ _).mono ?_; rintro e w' ⟨rfl, rfl⟩))
               go_ret
               exact ⟨ret_bool (by rw [HR.out, hrf.out]), hBw⟩
           · have hall := hh.out
             rw [List.take_of_length_le (by rw [List.length_drop]; omega)] at hall
             have HA := Lib.hid hall; clear hall
             go_wp2_with fail
             go_ret
             exact ⟨ret_bool (by rw [HR.out, HA.out]), hBw⟩
       · have hLf : letterB (byt l 1) = false := by simpa using hL
         have hr : r = false := by rw [HT.out, idTail_neg (by rw [List.length_drop]; omega) (by rw [byt_drop]; exact hLf)]
         have HR := Lib.hid hr; clear hr hL
         go_wp2_with (first | (go_at_call 46; refine (Letter_any _ _).mono ?_; rintro e w' ⟨rfl, rfl⟩) | (go_at_call 47; refine (Digit_any _ _).mono ?_; rintro e w' ⟨rfl, rfl⟩))
         go_ret
         exact ⟨ret_bool HR.out.symm, hBw⟩
     · rw [if_neg (by simp [h35, h95]), HI.out] at hrest
       have HT : Hid (r = idTail (l.drop 0)) := hrest
       clear hrest
       have e35 : (((byt l 0).toNat : Int) == 35) = false := u8_ne h35
       have e95 : (((byt l 0).toNat : Int) == 95) = false := u8_ne h95
       clear h35 h95
       have hnil : ¬ l = [] := by intro h; rw [h] at h0'; simp at h0'
       have hm1 : 0 < l.length := by omega
       by_cases hL : letterB (byt l 0) = true
       · have hr : r = (l.drop 0).all idByte := by rw [HT.out, idTail_pos (by rw [List.length_drop]; omega) (by rw [byt_drop]; exact hL)]
         have HR := Lib.hid hr; clear hr
         go_wp2_with (first | (go_at_call 46; refine (Letter_any _ _).mono ?_; rintro e w' ⟨rfl, rfl⟩) | (go_at_call 47; refine (Digit_any _ _).mono ?_; rintro e w' ⟨rfl, rfl⟩))
         clear hL
         go_loop [6] (fun i => ∃ k : Nat, 0 ≤ k ∧ k ≤ l.length ∧ i = .int .i64 k ∧ Hid (((l.drop 0).take (k - 0)).all idByte = true)) (fun i => l.length - (intOf i).toNat)
         case atStart => exact ⟨0, by omega, by omega, rfl, by show (List.take _ _).all idByte = true; simp⟩
         case round =>
           obtain ⟨k, hk0, hk, rfl, hh⟩ := hrel
           by_cases hlt : k < l.length
           · by_cases hb : idByte (byt l k) = true
             · have hnext : Hid (((l.drop 0).take (k + 1 - 0)).all idByte = true) := all_snoc_drop hk0 hlt hh.out hb
               rcases idByte_cases2 hb with h1 | ⟨h1, h2⟩ | ⟨h1, h2, h3⟩
               · go_wp2_with (first | (go_at_call 46; refine (Letter_any _ _).mono ?_; rintro e w' ⟨rfl, rfl⟩) | (go_at_call 47; refine (Digit_any _ _).mono ?_; rintro e w' ⟨rfl, rfl⟩))
                 go_round
                 case rel => exact ⟨k + 1, by omega, by omega, by go_num, hnext⟩
                 case measure => simp [intOf]; omega
               · go_wp2_with (first | (go_at_call 46; refine (Letter_any _ _).mono ?_; rintro e w' ⟨rfl, rfl⟩) | (go_at_call 47; refine (Digit_any _ _).mono ?_; rintro e w' ⟨rfl, rfl⟩))
                 go_round
                 case rel => exact ⟨k + 1, by omega, by omega, by go_num, hnext⟩
                 case measure => simp [intOf]; omega
               · go_wp2_with (first | (go_at_call 46; refine (Letter_any _ _).mono ?_; rintro e w' ⟨rfl, rfl⟩) | (go_at_call 47; refine (Digit_any _ _).mono ?_; rintro e w' ⟨rfl, rfl⟩))
                 go_round
                 case rel => exact ⟨k + 1, by omega, by omega, by go_num, hnext⟩
                 case measure => simp [intOf]; omega
             · have hbf : idByte (byt l k) = false := by simpa using hb
               have hrf : Hid ((l.drop 0).all idByte = false) := all_false_drop hk0 hlt hbf
               obtain ⟨h1, h2, h3⟩ := idByte_no2 hbf
               clear hb hbf
               go_wp2_with (first | (go_at_call 46; refine (Letter_any _ _).mono ?_; rintro e w' ⟨rfl, rfl⟩) | (go_at_call 47; refine (Digit_any _ _).mono ?_; rintro e w' ⟨rfl, rfl⟩))
               go_ret
               exact ⟨ret_bool (by rw [HR.out, hrf.out]), hBw⟩
           · have hall := hh.out
             rw [List.take_of_length_le (by rw [List.length_drop]; omega)] at hall
             have HA := Lib.hid hall; clear hall
             go_wp2_with fail
             go_ret
             exact ⟨ret_bool (by rw [HR.out, HA.out]), hBw⟩
       · have hLf : letterB (byt l 0) = false := by simpa using hL
         have hr : r = false := by rw [HT.out, idTail_neg (by rw [List.length_drop]; omega) (by rw [byt_drop]; exact hLf)]
         have HR := Lib.hid hr; clear hr hL
         go_wp2_with (first | (go_at_call 46; refine (Letter_any _ _).mono ?_; rintro e w' ⟨rfl, rfl⟩) | (go_at_call 47; refine (Digit_any _ _).mono ?_; rintro e w' ⟨rfl, rfl⟩))
         go_ret
         exact ⟨ret_bool HR.out.symm, hBw⟩
end
section
open Go.RowKit
def pI : Option Nat → Int
 | none => -1
 | some k => (k : Int)
theorem rs_dot (b : Bool) (n : Nat) (l : List UInt8) (i : Nat) (h : i < l.length) (hc : byt l i = 46) : rscan b n none (l.drop i) = rscan false n (some 0) (l.drop (i + 1)) := by
 rw [drop_byt l i h, rscan, if_pos ⟨hc, rfl⟩]
theorem rs_dig (b : Bool) (n : Nat) (p : Option Nat) (l : List UInt8) (i : Nat) (h : i < l.length) (hc : dgt (byt l i)) : rscan b n p (l.drop i) = rscan false (n * 10 + ((byt l i).toNat - 48)) (p.map (· + 1)) (l.drop (i + 1)) := by
 have h46 : byt l i ≠ 46 := by intro e; rw [e] at hc; exact absurd hc.1 (by decide)
 rw [drop_byt l i h, rscan, if_neg (fun hh => h46 hh.1), if_pos hc]
theorem rs_minus (n : Nat) (p : Option Nat) (l : List UInt8) (i : Nat) (h : i < l.length) (hc : byt l i = 45) : rscan true n p (l.drop i) = rscan false n p (l.drop (i + 1)) := by
 rw [drop_byt l i h, rscan, if_neg (by rw [hc]; intro hh; exact absurd hh.1 (by decide)), if_neg (by rw [hc]; decide), if_pos ⟨rfl, hc⟩]
theorem rs_none (b : Bool) (n : Nat) (p : Option Nat) (l : List UInt8) (i : Nat) (h : i < l.length) (h1 : ¬ (byt l i = 46 ∧ p = none)) (h2 : ¬ dgt (byt l i)) (h3 : ¬ (b = true ∧ byt l i = 45)) : rscan b n p (l.drop i) = none := by
 rw [drop_byt l i h, rscan, if_neg h1, if_neg h2, if_neg h3]
theorem rsc_stop (n k : Nat) (h : 4 ≤ k) : rscale n k = some n := by rw [rscale, if_pos h]
theorem rsc_over (n k : Nat) (h : ¬ 4 ≤ k) (h2 : 1000000000000000 < n) : rscale n k = none := by rw [rscale, if_neg h, if_pos h2]
theorem rsc_next (n k : Nat) (h : ¬ 4 ≤ k) (h2 : ¬ 1000000000000000 < n) : rscale n k = rscale (n * 10) (k + 1) := by
 conv => lhs; rw [rscale, if_neg h, if_neg h2]
theorem digit_low {n i : Nat} (d : Nat) (h : n < 10 ^ i) (hd : d ≤ 9) : n * 10 + d < 10 ^ (i + 1) := by rw [Nat.pow_succ]; omega
theorem pow_top {n i : Nat} (k : Nat) (h : n < 10 ^ i) (hi : i ≤ k) : n < 10 ^ k := Nat.lt_of_lt_of_le h (Nat.pow_le_pow_right (by decide) hi)
theorem i64_eq {a b : Int} (h : a = b) : Value.int .i64 a = .int .i64 b := by rw [h]
theorem head_get (l : List UInt8) (h : 0 < l.length) : l.head? = some (byt l 0) := by
 cases l with
 | nil => simp at h
 | cons c r => rfl
theorem head_not (l : List UInt8) (h : ¬ byt l 0 = 45) : ¬ l.head? = some 45 := by
 cases l with
 | nil => simp
 | cons c r => intro e; exact h (show c = 45 by simpa using e)
set_option maxHeartbeats 2000000 in
theorem fxRefParse_any (l : List UInt8) (w : World) (hl : l.length ≤ 1000000) : Calls Tryz.prog 96 #[.string (S l)] w (OkB (parseI l) w) := by
 by_cases hlong : 18 < l.length
 · have HP := Lib.hid (parseI_long l (by omega))
   go_enter Tryz.func96, Tryz.ntmps96
   go_wp2_with fail
   go_ret2
   exact ⟨ret_pr HP.out, Below.refl _ _⟩
 · have hl18 : l.length ≤ 18 := by omega
   clear hlong hl
   go_enter Tryz.func96, Tryz.ntmps96
   go_wp2_with fail
   go_loop [4, 5, 6] (fun a b c => ∃ (i n : Nat) (p : Option Nat), i ≤ l.length ∧ a = .int .i64 (n : Int) ∧ b = .int .i64 (pI p) ∧ c = .int .i64 (i : Int) ∧ Hid (rscan true 0 none l = rscan (decide (i = 0)) n p (l.drop i) ∧ n < 10 ^ i ∧ p.getD 0 ≤ i)) (fun _ _ c => l.length - (intOf c).toNat)
   case atStart => exact ⟨0, 0, none, by omega, rfl, rfl, rfl, Lib.hid ⟨by simp, by decide, by decide⟩⟩
   case round =>
     obtain ⟨i, n, p, hi, rfl, rfl, rfl, HR⟩ := hrel
     by_cases hlt : i < l.length
     · have hn : n ≤ 100000000000000000 := by have := pow_top 17 HR.out.2.1 (by omega); omega
       by_cases hdot : byt l i = 46 ∧ p = none
       · obtain ⟨h46, rfl⟩ := hdot
         have HN := Lib.hid (HR.out.1.trans (rs_dot _ n l i hlt h46))
         have T : (((byt l i).toNat : Int) == 46) = true := by rw [h46]; rfl
         clear h46
         simp only [pI]
         go_wp2_with fail
         go_round
         case rel => exact ⟨i + 1, n, some 0, by omega, rfl, rfl, by go_num, Lib.hid ⟨by rw [HN.out]; simp, by have := digit_low 0 HR.out.2.1 (by decide); omega, by simp⟩⟩
         case measure => simp [intOf]; omega
       · by_cases hdg : dgt (byt l i)
         · have HN := Lib.hid (HR.out.1.trans (rs_dig _ n p l i hlt hdg))
           have h46 : byt l i ≠ 46 := by intro e; rw [e] at hdg; exact absurd hdg.1 (by decide)
           have T : (((byt l i).toNat : Int) == 46) = false := u8_ne h46
           obtain ⟨d1, d2⟩ := hdg
           have hp := HR.out.2.2
           clear h46 hdot
           cases p with
           | none =>
             simp only [pI]
             go_wp2_with fail
             go_round
             case rel => exact ⟨i + 1, n * 10 + ((byt l i).toNat - 48), none, by omega, i64_eq (by omega), rfl, by go_num, Lib.hid ⟨by rw [HN.out]; simp, digit_low _ HR.out.2.1 (by omega), by simp⟩⟩
             case measure => simp [intOf]; omega
           | some k =>
             simp only [pI]
             simp only [Option.getD_some] at hp
             go_wp2_with fail
             go_round
             case rel => exact ⟨i + 1, n * 10 + ((byt l i).toNat - 48), some (k + 1), by omega, i64_eq (by omega), i64_eq (by simp only [pI]; omega), by go_num, Lib.hid ⟨by rw [HN.out]; simp, digit_low _ HR.out.2.1 (by omega), by simp only [Option.getD_some]; omega⟩⟩
             case measure => simp [intOf]; omega
         · by_cases hmin : i = 0 ∧ byt l i = 45
           · obtain ⟨hi0, h45⟩ := hmin
             have HN := Lib.hid (show rscan true 0 none l = rscan false n p (l.drop (i + 1)) by rw [HR.out.1, show decide (i = 0) = true by simpa using hi0]; exact rs_minus n p l i hlt h45)
             have HD := Lib.hid HR.out.2
             have T : (((byt l i).toNat : Int) == 46) = false := by rw [h45]; rfl
             have T2 : (((byt l i).toNat : Int) != 45) = false := by rw [h45]; rfl
             have T3 : (byt l i).toNat < 48 := by rw [h45]; decide
             have T4 : decide (0 < i) = false := by simp; omega
             clear h45 hdg hdot HR hi0
             go_wp2_with fail
             go_round
             case rel => exact ⟨i + 1, n, p, by omega, rfl, rfl, by go_num, Lib.hid ⟨by rw [HN.out]; simp, by have := digit_low 0 HD.out.1 (by decide); omega, by have := HD.out.2; omega⟩⟩
             case measure => simp [intOf]; omega
           · have HX := Lib.hid (ref_none l (by rw [HR.out.1]; exact rs_none _ n p l i hlt hdot hdg (by simpa using hmin)))
             have hT : decide (0 < i) = true ∨ decide (0 < i) = false ∧ (((byt l i).toNat : Int) != 45) = true := by
               by_cases h0 : 0 < i
               · exact .inl (by simpa using h0)
               · refine .inr ⟨by simpa using h0, ?_⟩
                 rw [bne_iff_ne]; intro e
                 exact hmin ⟨by omega, UInt8.toNat_inj.1 (by rw [show (45 : UInt8).toNat = 45 from rfl]; omega)⟩
             have hD : (byt l i).toNat < 48 ∨ (48 ≤ (byt l i).toNat ∧ 57 < (byt l i).toNat) := by unfold dgt at hdg; omega
             have hE : ((((byt l i).toNat : Int) == 46) = true ∧ ∃ k, p = some k) ∨ (((byt l i).toNat : Int) == 46) = false := by
               by_cases h46 : byt l i = 46
               · refine .inl ⟨by rw [h46]; rfl, ?_⟩
                 cases p with
                 | none => exact absurd ⟨h46, rfl⟩ hdot
                 | some k => exact ⟨k, rfl⟩
               · exact .inr (u8_ne h46)
             clear hmin hdg hdot HR
             rcases hE with ⟨T, k, rfl⟩ | T
             · simp only [pI]
               rcases hD with D1 | ⟨D1, D2⟩ <;> rcases hT with T1 | ⟨T1, T2⟩
               all_goals
                 go_wp2_with fail
                 go_ret2
                 exact ⟨ret_pr HX.out, Below.refl _ _⟩
             · rcases hD with D1 | ⟨D1, D2⟩ <;> rcases hT with T1 | ⟨T1, T2⟩
               all_goals
                 go_wp2_with fail
                 go_ret2
                 exact ⟨ret_pr HX.out, Below.refl _ _⟩
     · have hn : n ≤ 1000000000000000000 := by have := pow_top 18 HR.out.2.1 (by omega); omega
       have HN := Lib.hid (show rscan true 0 none l = some (n, p) by rw [HR.out.1, List.drop_eq_nil_of_le (by omega)]; rfl)
       obtain ⟨k0, hk0⟩ : ∃ k, p.getD 0 = k := ⟨_, rfl⟩
       have hk18 : k0 ≤ 18 := by have := HR.out.2.2; omega
       have hpI : pI p < 0 ∧ k0 = 0 ∨ pI p = (k0 : Int) := by
         cases p with
         | none => exact .inl ⟨by simp [pI], by rw [← hk0]; rfl⟩
         | some k => exact .inr (by rw [← hk0]; rfl)
       have HK := Lib.hid hk0
       have HP := Lib.hid hpI
       clear hk0 HR
       rcases hpI with ⟨hneg, hk⟩ | hpos
       all_goals
         go_wp2_with fail
         go_loop [4, 5] (fun a b => ∃ (m k : Nat), a = .int .i64 (m : Int) ∧ b = .int .i64 (k : Int) ∧ m ≤ 1000000000000000000 ∧ k ≤ 18 ∧ Hid (rscale n k0 = rscale m k)) (fun _ b => 4 - (intOf b).toNat)
         case atStart => exact ⟨n, k0, rfl, i64_eq (by omega), hn, hk18, Lib.hid rfl⟩
         case round =>
           first | clear hneg hk | clear hpos
           clear hk18 hn
           obtain ⟨m, k, rfl, rfl, hm, hk18, HM⟩ := hrel
           by_cases hk4 : 4 ≤ k
           · have HS0 := Lib.hid (HM.out.trans (rsc_stop m k hk4))
             have hS := ref_some l n p m HN.out (by rw [HK.out]; exact HS0.out)
             by_cases hl0 : l.length = 0
             · have hsg : signI l m = (m : Int) := by unfold signI; rw [List.eq_nil_of_length_eq_zero hl0]; simp
               rw [hsg] at hS
               have HS := Lib.hid hS
               clear hS hsg
               cases hv : vld (m : Int)
               · go_wp2_with (go_at_call 56; refine (fxRefValid_any _ _).mono ?_; rintro e w' ⟨rfl, rfl⟩; rw [hv])
                 go_ret2
                 exact ⟨ret_pr (by rw [HS.out, hv]; simp), Below.refl _ _⟩
               · by_cases hte : textI (m : Int) = l
                 · have HT := Lib.hid hte
                   clear hte
                   go_wp2_with (go_at_call 56; refine (fxRefValid_any _ _).mono ?_; rintro e w' ⟨rfl, rfl⟩; rw [hv])
                   refine (fxRefText_any _ _).mono ?_
                   rintro e w2 ⟨rfl, hb2⟩
                   rw [HT.out]
                   go_wp2_with fail
                   go_ret2
                   exact ⟨ret_pr (by rw [HS.out, if_pos ⟨hv, HT.out⟩]), hb2⟩
                 · have HT := Lib.hid hte
                   have T9 : (textI (m : Int) == l) = false := by rw [beq_eq_false_iff_ne]; exact hte
                   clear hte
                   go_wp2_with (go_at_call 56; refine (fxRefValid_any _ _).mono ?_; rintro e w' ⟨rfl, rfl⟩; rw [hv])
                   refine (fxRefText_any _ _).mono ?_
                   rintro e w2 ⟨rfl, hb2⟩
                   go_wp2_with fail
                   go_ret2
                   exact ⟨ret_pr (by rw [HS.out, if_neg (fun h => HT.out h.2)]), hb2⟩
             · have hl1 : 0 < l.length := by omega
               clear hl0
               by_cases h45 : byt l 0 = 45
               · have hsg : signI l m = -(m : Int) := by unfold signI; rw [if_pos (by rw [head_get l hl1, h45])]
                 rw [hsg] at hS
                 have HS := Lib.hid hS
                 have T : (((byt l 0).toNat : Int) == 45) = true := by rw [h45]; rfl
                 clear hS hsg h45
                 cases hv : vld (-(m : Int))
                 · go_wp2_with (go_at_call 56; refine (fxRefValid_any _ _).mono ?_; rintro e w' ⟨rfl, rfl⟩; rw [hv])
                   go_ret2
                   exact ⟨ret_pr (by rw [HS.out, hv]; simp), Below.refl _ _⟩
                 · by_cases hte : textI (-(m : Int)) = l
                   · have HT := Lib.hid hte
                     clear hte
                     go_wp2_with (go_at_call 56; refine (fxRefValid_any _ _).mono ?_; rintro e w' ⟨rfl, rfl⟩; rw [hv])
                     refine (fxRefText_any _ _).mono ?_
                     rintro e w2 ⟨rfl, hb2⟩
                     rw [HT.out]
                     go_wp2_with fail
                     go_ret2
                     exact ⟨ret_pr (by rw [HS.out, if_pos ⟨hv, HT.out⟩]), hb2⟩
                   · have HT := Lib.hid hte
                     have T9 : (textI (-(m : Int)) == l) = false := by rw [beq_eq_false_iff_ne]; exact hte
                     clear hte
                     go_wp2_with (go_at_call 56; refine (fxRefValid_any _ _).mono ?_; rintro e w' ⟨rfl, rfl⟩; rw [hv])
                     refine (fxRefText_any _ _).mono ?_
                     rintro e w2 ⟨rfl, hb2⟩
                     go_wp2_with fail
                     go_ret2
                     exact ⟨ret_pr (by rw [HS.out, if_neg (fun h => HT.out h.2)]), hb2⟩
               · have hsg : signI l m = (m : Int) := by unfold signI; rw [if_neg (head_not l h45)]
                 rw [hsg] at hS
                 have HS := Lib.hid hS
                 have T : (((byt l 0).toNat : Int) == 45) = false := u8_ne h45
                 clear hS hsg h45
                 cases hv : vld (m : Int)
                 · go_wp2_with (go_at_call 56; refine (fxRefValid_any _ _).mono ?_; rintro e w' ⟨rfl, rfl⟩; rw [hv])
                   go_ret2
                   exact ⟨ret_pr (by rw [HS.out, hv]; simp), Below.refl _ _⟩
                 · by_cases hte : textI (m : Int) = l
                   · have HT := Lib.hid hte
                     clear hte
                     go_wp2_with (go_at_call 56; refine (fxRefValid_any _ _).mono ?_; rintro e w' ⟨rfl, rfl⟩; rw [hv])
                     refine (fxRefText_any _ _).mono ?_
                     rintro e w2 ⟨rfl, hb2⟩
                     rw [HT.out]
                     go_wp2_with fail
                     go_ret2
                     exact ⟨ret_pr (by rw [HS.out, if_pos ⟨hv, HT.out⟩]), hb2⟩
                   · have HT := Lib.hid hte
                     have T9 : (textI (m : Int) == l) = false := by rw [beq_eq_false_iff_ne]; exact hte
                     clear hte
                     go_wp2_with (go_at_call 56; refine (fxRefValid_any _ _).mono ?_; rintro e w' ⟨rfl, rfl⟩; rw [hv])
                     refine (fxRefText_any _ _).mono ?_
                     rintro e w2 ⟨rfl, hb2⟩
                     go_wp2_with fail
                     go_ret2
                     exact ⟨ret_pr (by rw [HS.out, if_neg (fun h => HT.out h.2)]), hb2⟩
           · by_cases hov : 1000000000000000 < m
             · have HX := Lib.hid (ref_over l n p HN.out (by rw [HK.out, HM.out]; exact rsc_over m k hk4 hov))
               have T : decide ((1000000000000000 : Int) < (m : Int)) = true := by rw [decide_eq_true_eq]; omega
               clear hov
               go_wp2_with fail
               go_ret2
               exact ⟨ret_pr HX.out, Below.refl _ _⟩
             · have HX := Lib.hid (HM.out.trans (rsc_next m k hk4 hov))
               have T : decide ((1000000000000000 : Int) < (m : Int)) = false := by rw [decide_eq_false_iff_not]; omega
               have hmm : m ≤ 1000000000000000 := by omega
               clear hov
               go_wp2_with fail
               go_round
               case rel => exact ⟨m * 10, k + 1, i64_eq (by omega), by go_num, by omega, by omega, HX⟩
               case measure => simp [intOf]; omega
end
end Go.Proofs.YtdalfkklkeblaaaGreatDoor
