import Derived.Deep.RegionHeld3
import Derived.Deep.DeepCutAuto
import Derived.Test.YtdalfkklkeblaaaGreatDoorN31
import Derived.Test.YtdalfkklkeblaaaGreatDoorN01
import Derived.Test.YtdalfkklkeblaaaGreatDoorN02
import Derived.Deep.QuietTactic
import Derived.Test.YtdalfkklkeblaaaGreatDoorN32
import Derived.Test.YtdalfkklkeblaaaGreatDoorCards
import Derived.Test.YtdalfkklkeblaaaGreatDoorTie
import Derived.Test.YtdalfkklkeblaaaGreatDoorN17
import Derived.Test.YtdalfkklkeblaaaGreatDoorN15
import Derived.Lay
import Derived.ProofKit
import Derived.OpenShut
import Derived.ShutString
import Derived.ChangeOld
import Derived.Deep.DeepHandedRow
import Derived.Stop.LaidErr
import Derived.Lib.LaidTab
namespace Go.Proofs.YtdalfkklkeblaaaGreatDoor
set_option linter.unusedSimpArgs false
set_option linter.unusedVariables false
section
open Go.RowKit
def twoD (s : List UInt8) : Dat := .mk 5 0 [] [strD s, strD s] []
theorem str_lim (l : List UInt8) (h : l.length ≤ 300) : limD (strD l) = true := lim_iff.2 ⟨by show l.length ≤ _; omega, Nat.zero_le _, Nat.zero_le _, (fun x hx => by cases hx), fun x hx => by cases hx⟩
theorem two_lim (l : List UInt8) (h : l.length ≤ 300) : limD (twoD l) = true := by
 refine lim_iff.2 ⟨Nat.zero_le _, by show (2 : Nat) ≤ _; omega, Nat.zero_le _, (fun x hx => ?_), fun x hx => by cases hx⟩
 have hx : x = strD l := by
   rcases List.mem_cons.1 (show x ∈ [strD l, strD l] from hx) with h | h
   · exact h
   · exact List.mem_singleton.1 h
 rw [hx]; exact str_lim l h
theorem rep_two {W : World} {ok : Nat → Prop} {B : Nat} {l : List UInt8} (h : Blk W B #[.int .i64 4, .int .i64 0, .string (S l), .slice none 0 0, .slice none 0 0, .int .i64 4, .int .i64 0, .string (S l), .slice none 0 0, .slice none 0 0] 25) (hk : ok B) : Rep W ok (twoD l) (.slice (some ⟨B, 0, none⟩) 2 2) (.slice none 0 0) := by
 refine Rep.mk (d := twoD l) (some ⟨B, 0, none⟩) none 2 0 B 0 0 0 (fun _ => .slice none 0 0) (fun _ => .slice none 0 0) (fun _ => .nilFunc) (fun _ => .nilFunc) ⟨show 2 ≤ maxLen by unfold maxLen; omega, Nat.zero_le _⟩ (fun _ => ⟨rfl, Nat.le_refl _, h.lt, hk⟩) (fun j hj => ?_) (fun j hj => ?_) (fun h0 => absurd h0 (Nat.lt_irrefl 0)) (fun j hj => absurd hj (Nat.not_lt_zero j)) (fun j hj => absurd hj (Nat.not_lt_zero j))
 · have hj2 : j < 2 := hj
   rcases (show j = 0 ∨ j = 1 by omega) with rfl | rfl
   · exact ⟨h.cell 0, h.cell 1, h.cell 2, h.cell 3, h.cell 4⟩
   · exact ⟨h.cell 5, h.cell 6, h.cell 7, h.cell 8, h.cell 9⟩
 · have hj2 : j < 2 := hj
   rcases (show j = 0 ∨ j = 1 by omega) with rfl | rfl
   · exact rep_leaf W ok (d := strD l) rfl rfl none none 0 0
   · exact rep_leaf W ok (d := strD l) rfl rfl none none 0 0
theorem two_text (t : List UInt8) : ct (ct (ct [45, 32] t) [10, 45, 32]) t = 45 :: 32 :: t ++ [10] ++ (45 :: 32 :: t) := by simp [ct_eq]
set_option maxRecDepth 100000 in
set_option maxHeartbeats 16000000 in
theorem lawYamltextStrings_of (l : List UInt8) (w : World) (hE : StOk w) (hP : ∀ l : List UInt8, l.length ≤ 1000000 → ParseAt w l) :
   Calls Tryz.prog 9 #[.string (S l)] w fun e w' => e = .returned (.bool true) ∧ Below w.heap.size w w' := by
 have HAL := Lib.hid (fun X (hb : Below w.heap.size w X) => alive_of X (hE.below hb) (fun l hl w' hb' => hP l hl w' (hb.trans (hb'.mono hb.size))))
 by_cases hbig : 300 < l.length
 · have b1 : (300 : Int) < (l.length : Int) := by omega
   have b2 : decide ((300 : Int) < (l.length : Int)) = true := decide_eq_true b1
   clear hP hE
   go_enter Tryz.func9, Tryz.ntmps9
   go_wp2_with fail
   refine (HAL.out _ (Below.refl _ _)).mono ?_
   rintro e w1 ⟨rfl, hb⟩
   have HB := Lib.hid hb
   clear hb
   go_wp2_with fail
   go_ret
   exact ⟨rfl, HB.out⟩
 have b1 : ¬ ((300 : Int) < (l.length : Int)) := by omega
 have b2 : decide ((300 : Int) < (l.length : Int)) = false := decide_eq_false b1
 have hl : l.length ≤ 300 := by omega
 have hsl := str_len l
 have hql := (quote_len l).2
 have HSC := Lib.hid (fun w' (hb : Below w.heap.size w w') => (show Calls Tryz.prog 16 #[.agg #[.int .i64 4, .int .i64 0, .string (S l), .slice none 0 0, .slice none 0 0]] w' (fun e w'' => e = .returned (.string (S (strY l))) ∧ Below w'.heap.size w' w'') from by
   have h := scalar_any (d := strD l) (ok := fun _ => True) (rep_leaf w' _ (d := strD l) rfl rfl none none 0 0) (str_lim l hl) (hE.num.below hb)
   rwa [scalar_str] at h))
 have HQU := Lib.hid (fun w' => refQuote_any l (by omega) w')
 have HP1 := Lib.hid (fun w' (hb : Below w.heap.size w w') => (show Calls Tryz.prog 18 #[.string (S (strY l))] w' (PrsP w' (strD l, 0, 0)) from by
   have h := hP (strY l) (by omega) w' hb
   rwa [parse_str l hl] at h))
 have HP2 := Lib.hid (fun w' (hb : Below w.heap.size w w') => (show Calls Tryz.prog 18 #[.string (S (ct (ct (ct [45, 32] (strY l)) [10, 45, 32]) (strY l)))] w' (PrsP w' (twoD l, 0, 0)) from by
   have h := hP (ct (ct (ct [45, 32] (strY l)) [10, 45, 32]) (strY l)) (by simp only [ct_len]; simp; omega) w' hb
   rwa [show parseY (ct (ct (ct [45, 32] (strY l)) [10, 45, 32]) (strY l)) = (twoD l, 0, 0) from by rw [two_text]; exact parse_two l hl] at h))
 have HPA := Lib.hid hP
 by_cases hp : plainY l = true
 · have hqn := quote_ne l
   have hid := plain_ident hp
   have h35 : byt l 0 ≠ 35 := (plain_head hp).2.1
   have HFQ := Lib.hid (show (∀ X (_ : Below w.heap.size w X), Calls Tryz.prog 24 #[.string (S (quoteL l)), .int .i64 19, .int .i64 1] X fun en w' => en = .returned (.bool true) ∧ Below X.heap.size X w') ∧ (∀ X (_ : Below w.heap.size w X), Calls Tryz.prog 24 #[.string (S (ct [45, 32] (quoteL l))), .int .i64 19, .int .i64 1] X fun en w' => en = .returned (.bool true) ∧ Below X.heap.size X w') from
     ⟨fun X hb => fails_of (e := 19) (p := 1) (parse_quoted hp hl).1 rfl rfl (hP (quoteL l) (by omega)) X hb, fun X hb => fails_of (e := 19) (p := 1) (parse_quoted hp hl).2 rfl rfl (hP (ct [45, 32] (quoteL l)) (by simp only [ct_len]; simp; omega)) X hb⟩)
   have HID := Lib.hid (fun w' => (show Calls Tryz.prog 27 #[.string (S l)] w' (fun e w'' => e = .returned (.bool true) ∧ Below w'.heap.size w' w'') from by
     have h := refIdent_any l (by omega) w'
     rwa [hid] at h))
   rw [str_plain hp] at HSC HP1 HP2
   have hpos : 0 < l.length := List.length_pos_iff.2 (plain_ne hp)
   have hpos' : (0 : Int) < (l.length : Int) := by omega
   have T1 : (((byt l 0).toNat : Int) == 35) = false := u8_ne h35
   have hcl : ¬ (9223372036854775807 < 2 + l.length) := by omega
   generalize quoteL l = q at *
   have t1 : (l == l) = true := beq_self_eq_true _
   have t2 : (l != l) = false := by simp
   have t3 : (l == q) = false := by rw [beq_eq_false_iff_ne]; exact fun e => hqn e.symm
   clear hE hP hp hqn hid h35 hbig hsl
   go_enter Tryz.func9, Tryz.ntmps9
   go_wp2_with fail
   refine (str38_any l _).mono ?_
   rintro e w1 ⟨rfl, hb⟩
   have HB1 := Lib.hid hb
   clear hb
   go_wp2_with fail
   refine (HSC.out _ HB1.out).mono ?_
   rintro e w2 ⟨rfl, hb⟩
   have HB2 := Lib.hid (HB1.out.trans (hb.mono HB1.out.size))
   clear hb HB1 HSC
   go_wp2_with fail
   refine (HQU.out _).mono ?_
   rintro e w3 ⟨rfl, hb⟩
   have HB3 := Lib.hid (HB2.out.trans (hb.mono HB2.out.size))
   clear hb HB2 HQU
   go_wp2_with fail
   refine (HID.out _).mono ?_
   rintro e w4 ⟨rfl, hb⟩
   have HB4 := Lib.hid (HB3.out.trans (hb.mono HB3.out.size))
   clear hb HB3 HID
   go_wp2_with fail
   refine (HP1.out _ HB4.out).mono ?_
   rintro e v5 hp
   obtain ⟨xp, xc, yp, yc, rfl, hr, hb⟩ := hp.open
   have hn := val_two v5 #[.int .i64 (strD l).k, .int .i64 (strD l).n, .string (S (strD l).s), .slice xp (strD l).its.length xc, .slice yp (strD l).mem.length yc] #[.int .i64 0, .int .i64 0] 25 33
   have hB5 := HB4.out.trans ((hb.trans (hn.2.2.mono hb.size)).mono HB4.out.size)
   have hx5 := hr.under hn.2.2
   clear hp hr hb HP1 HB4
   go_upto_region 7 with fail
   generalize (v5.alloc (.cells #[.int .i64 (strD l).k, .int .i64 (strD l).n, .string (S (strD l).s), .slice xp (strD l).its.length xc, .slice yp (strD l).mem.length yc] 25)).alloc (.cells #[.int .i64 0, .int .i64 0] 33) = w5 at hn hB5 hx5 ⊢
   have HB5 := Lib.hid hB5
   have HK5 := Lib.hid (And.intro hn.1 (And.intro hn.2.1 hx5))
   clear hn hB5 hx5
   go_wp2_with fail
   refine (HP2.out _ HB5.out).mono ?_
   rintro e v6 hp
   obtain ⟨zp, zc, up, uc, rfl, hr, hb⟩ := hp.open
   have hn := val_two v6 #[.int .i64 (twoD l).k, .int .i64 (twoD l).n, .string (S (twoD l).s), .slice zp (twoD l).its.length zc, .slice up (twoD l).mem.length uc] #[.int .i64 0, .int .i64 0] 25 33
   have hb6 := hb.trans (hn.2.2.mono hb.size)
   have hx6 := hr.under hn.2.2
   have hB6 := HB5.out.trans (hb6.mono HB5.out.size)
   clear hp hr hb HP2
   go_upto_region 8 with fail
   generalize (v6.alloc (.cells #[.int .i64 (twoD l).k, .int .i64 (twoD l).n, .string (S (twoD l).s), .slice zp (twoD l).its.length zc, .slice up (twoD l).mem.length uc] 25)).alloc (.cells #[.int .i64 0, .int .i64 0] 33) = w6 at hn hb6 hx6 hB6 ⊢
   have HB6 := Lib.hid hB6
   have HK6 := Lib.hid (And.intro hn.1 (And.intro hn.2.1 hx6))
   have HJ6 := Lib.hid (And.intro (HK5.out.1.below hb6) (And.intro (HK5.out.2.1.below hb6) (HK5.out.2.2.under hb6)))
   clear hn hb6 hx6 hB6 HB5 HK5
   have HKE := Lib.hid (fun w' (hb : Below w6.heap.size w6 w') => (show _ ∧ _ ∧ _ ∧ _ ∧ _ ∧ _ ∧ _ ∧ _ ∧ _ ∧ _ ∧ _ ∧ _ from ⟨(HJ6.out.1.below hb).cell 0, (HJ6.out.1.below hb).cell 1, (HJ6.out.1.below hb).cell 2, (HJ6.out.1.below hb).cell 3, (HJ6.out.1.below hb).cell 4, (HJ6.out.2.1.below hb).cell 0, (HK6.out.1.below hb).cell 0, (HK6.out.1.below hb).cell 1, (HK6.out.1.below hb).cell 2, (HK6.out.1.below hb).cell 3, (HK6.out.1.below hb).cell 4, (HK6.out.2.1.below hb).cell 0⟩))
   simp at HKE
   have HA0 := Lib.hid (below_drew (Below.refl w6.heap.size w6))
   go_cut [80] (fun v wx => v = .bool false ∧ Hid (Below w6.heap.size w6 wx))
   case first =>
     clear HPA HAL HFQ
     go_region_held3 (fun w' => w'.cell? ⟨v5.heap.size, 0, none⟩ = some (.int .i64 (strD l).k) ∧ w'.cell? ⟨v5.heap.size, 1, none⟩ = some (.int .i64 (strD l).n) ∧ w'.cell? ⟨v5.heap.size, 2, none⟩ = some (.string (S (strD l).s)) ∧ w'.cell? ⟨v5.heap.size, 3, none⟩ = some (.slice xp (strD l).its.length xc) ∧ w'.cell? ⟨v5.heap.size, 4, none⟩ = some (.slice yp (strD l).mem.length yc) ∧ w'.cell? ⟨v5.heap.size + 1, 0, none⟩ = some (.int .i64 0) ∧ w'.cell? ⟨v6.heap.size, 0, none⟩ = some (.int .i64 (twoD l).k) ∧ w'.cell? ⟨v6.heap.size, 1, none⟩ = some (.int .i64 (twoD l).n) ∧ w'.cell? ⟨v6.heap.size, 2, none⟩ = some (.string (S (twoD l).s)) ∧ w'.cell? ⟨v6.heap.size, 3, none⟩ = some (.slice zp (twoD l).its.length zc) ∧ w'.cell? ⟨v6.heap.size, 4, none⟩ = some (.slice up (twoD l).mem.length uc) ∧ w'.cell? ⟨v6.heap.size + 1, 0, none⟩ = some (.int .i64 0))
       (first
         | with_reducible exact HKE.out _ HA0.out
         | with_reducible exact HKE.out _ HA1.out
         | with_reducible exact HKE.out _ HA2.out
         | with_reducible exact HKE.out _ HA3.out
         | with_reducible exact HKE.out _ HA4.out
         | with_reducible exact HKE.out _ HA4'.out
         | with_reducible exact HKE.out _ HA5.out
         | go_keep)
       (first
         | (go_at_call 25; first
             | (with_reducible refine Calls.mono (str38_any l x3) ?_; rintro e x4 ⟨rfl, hb⟩; have HA4 := Lib.hid (HA3.out.trans (hb.mono HA3.out.size)); have HA4' := Lib.hid (HA4.out.trans ((alloc_below x4 (.cells #[.int .i64 4, .int .i64 0, .string (S l), .slice none 0 0, .slice none 0 0, .int .i64 4, .int .i64 0, .string (S l), .slice none 0 0, .slice none 0 0] 25)).mono HA4.out.size)); clear hb)
             | (with_reducible refine Calls.mono (str38_any l x2) ?_; rintro e x3 ⟨rfl, hb⟩; have HA3 := Lib.hid (HA2.out.trans (hb.mono HA2.out.size)); clear hb)
             | (with_reducible refine Calls.mono (str38_any l w6.drew) ?_; rintro e x1 ⟨rfl, hb⟩; have HA1 := Lib.hid (HA0.out.trans (hb.mono HA0.out.size)); clear hb))
         | (go_at_call 20; first
             | (refine (dSame_any (SizeOf.sizeOf (twoD l) + 1) (twoD l) (twoD l) (Nat.lt_succ_self _) _ _ _ _ _ _ _ (HK6.out.2.2.under HA4'.out) (rep_two (ok := fun _ => True) (Blk.new x4 #[.int .i64 4, .int .i64 0, .string (S l), .slice none 0 0, .slice none 0 0, .int .i64 4, .int .i64 0, .string (S l), .slice none 0 0, .slice none 0 0] 25) trivial) (two_lim l hl) (two_lim l hl)).mono ?_; rintro e x5 ⟨r, rfl, hr, hb⟩; obtain rfl : r = true := hr.2 rfl; have HA5 := Lib.hid (HA4'.out.trans (hb.mono HA4'.out.size)); clear hr hb)
             | (refine (dSame_any (SizeOf.sizeOf (strD l) + 1) (strD l) (strD l) (Nat.lt_succ_self _) _ _ _ _ _ _ _ (HJ6.out.2.2.under HA1.out) (rep_leaf x1 (fun _ => True) (d := strD l) rfl rfl none none 0 0) (str_lim l hl) (str_lim l hl)).mono ?_; rintro e x2 ⟨r, rfl, hr, hb⟩; obtain rfl : r = true := hr.2 rfl; have HA2 := Lib.hid (HA1.out.trans (hb.mono HA1.out.size)); clear hr hb)))
     all_goals
       go_wp2_with fail
       go_meet
       exact ⟨rfl, HA5⟩
   case rest =>
     obtain ⟨rfl, HAC⟩ := hcut
     have HB7 := Lib.hid (HB6.out.trans (HAC.out.mono HB6.out.size))
     clear HKE HA0 HB6 HAC HK6 HJ6
     go_wp2_with fail
     refine (HFQ.out.1 _ HB7.out).mono ?_
     rintro e w8 ⟨rfl, hb⟩
     have HB8 := Lib.hid (HB7.out.trans (hb.mono HB7.out.size))
     clear hb HB7
     go_wp2_with fail
     refine (HFQ.out.2 _ HB8.out).mono ?_
     rintro e w9 ⟨rfl, hb⟩
     have HB9 := Lib.hid (HB8.out.trans (hb.mono HB8.out.size))
     clear hb HB8
     go_wp2_with fail
     refine (HAL.out _ HB9.out).mono ?_
     rintro e w10 ⟨rfl, hb⟩
     have HB10 := Lib.hid (HB9.out.trans (hb.mono HB9.out.size))
     clear hb HB9
     go_wp2_with fail
     go_ret
     exact ⟨rfl, HB10.out⟩
 · have hp : plainY l = false := by simpa using hp
   have hqn := quote_ne l
   have HFQ := Lib.hid True.intro
   rw [str_quote hp] at HSC HP1 HP2
   generalize quoteL l = q at *
   have t1 : (q == q) = true := beq_self_eq_true _
   have t2 : (q != q) = false := by simp
   have t3 : (q == l) = false := by rw [beq_eq_false_iff_ne]; exact hqn
   have t4 : (q != l) = true := by simpa using hqn
   clear hE hP hp hqn hbig hsl
   go_enter Tryz.func9, Tryz.ntmps9
   go_wp2_with fail
   refine (str38_any l _).mono ?_
   rintro e w1 ⟨rfl, hb⟩
   have HB1 := Lib.hid hb
   clear hb
   go_wp2_with fail
   refine (HSC.out _ HB1.out).mono ?_
   rintro e w2 ⟨rfl, hb⟩
   have HB2 := Lib.hid (HB1.out.trans (hb.mono HB1.out.size))
   clear hb HB1 HSC
   go_wp2_with fail
   refine (HQU.out _).mono ?_
   rintro e w3 ⟨rfl, hb⟩
   have HB3 := Lib.hid (HB2.out.trans (hb.mono HB2.out.size))
   clear hb HB2 HQU
   go_wp2_with fail
   refine (HP1.out _ HB3.out).mono ?_
   rintro e v5 hp
   obtain ⟨xp, xc, yp, yc, rfl, hr, hb⟩ := hp.open
   have hn := val_two v5 #[.int .i64 (strD l).k, .int .i64 (strD l).n, .string (S (strD l).s), .slice xp (strD l).its.length xc, .slice yp (strD l).mem.length yc] #[.int .i64 0, .int .i64 0] 25 33
   have hB5 := HB3.out.trans ((hb.trans (hn.2.2.mono hb.size)).mono HB3.out.size)
   have hx5 := hr.under hn.2.2
   clear hp hr hb HP1 HB3
   go_upto_region 7 with fail
   generalize (v5.alloc (.cells #[.int .i64 (strD l).k, .int .i64 (strD l).n, .string (S (strD l).s), .slice xp (strD l).its.length xc, .slice yp (strD l).mem.length yc] 25)).alloc (.cells #[.int .i64 0, .int .i64 0] 33) = w5 at hn hB5 hx5 ⊢
   have HB5 := Lib.hid hB5
   have HK5 := Lib.hid (And.intro hn.1 (And.intro hn.2.1 hx5))
   clear hn hB5 hx5
   go_wp2_with fail
   refine (HP2.out _ HB5.out).mono ?_
   rintro e v6 hp
   obtain ⟨zp, zc, up, uc, rfl, hr, hb⟩ := hp.open
   have hn := val_two v6 #[.int .i64 (twoD l).k, .int .i64 (twoD l).n, .string (S (twoD l).s), .slice zp (twoD l).its.length zc, .slice up (twoD l).mem.length uc] #[.int .i64 0, .int .i64 0] 25 33
   have hb6 := hb.trans (hn.2.2.mono hb.size)
   have hx6 := hr.under hn.2.2
   have hB6 := HB5.out.trans (hb6.mono HB5.out.size)
   clear hp hr hb HP2
   go_upto_region 8 with fail
   generalize (v6.alloc (.cells #[.int .i64 (twoD l).k, .int .i64 (twoD l).n, .string (S (twoD l).s), .slice zp (twoD l).its.length zc, .slice up (twoD l).mem.length uc] 25)).alloc (.cells #[.int .i64 0, .int .i64 0] 33) = w6 at hn hb6 hx6 hB6 ⊢
   have HB6 := Lib.hid hB6
   have HK6 := Lib.hid (And.intro hn.1 (And.intro hn.2.1 hx6))
   have HJ6 := Lib.hid (And.intro (HK5.out.1.below hb6) (And.intro (HK5.out.2.1.below hb6) (HK5.out.2.2.under hb6)))
   clear hn hb6 hx6 hB6 HB5 HK5
   have HKE := Lib.hid (fun w' (hb : Below w6.heap.size w6 w') => (show _ ∧ _ ∧ _ ∧ _ ∧ _ ∧ _ ∧ _ ∧ _ ∧ _ ∧ _ ∧ _ ∧ _ from ⟨(HJ6.out.1.below hb).cell 0, (HJ6.out.1.below hb).cell 1, (HJ6.out.1.below hb).cell 2, (HJ6.out.1.below hb).cell 3, (HJ6.out.1.below hb).cell 4, (HJ6.out.2.1.below hb).cell 0, (HK6.out.1.below hb).cell 0, (HK6.out.1.below hb).cell 1, (HK6.out.1.below hb).cell 2, (HK6.out.1.below hb).cell 3, (HK6.out.1.below hb).cell 4, (HK6.out.2.1.below hb).cell 0⟩))
   simp at HKE
   have HA0 := Lib.hid (below_drew (Below.refl w6.heap.size w6))
   go_cut [80] (fun v wx => v = .bool false ∧ Hid (Below w6.heap.size w6 wx))
   case first =>
     clear HPA HAL HFQ
     go_region_held3 (fun w' => w'.cell? ⟨v5.heap.size, 0, none⟩ = some (.int .i64 (strD l).k) ∧ w'.cell? ⟨v5.heap.size, 1, none⟩ = some (.int .i64 (strD l).n) ∧ w'.cell? ⟨v5.heap.size, 2, none⟩ = some (.string (S (strD l).s)) ∧ w'.cell? ⟨v5.heap.size, 3, none⟩ = some (.slice xp (strD l).its.length xc) ∧ w'.cell? ⟨v5.heap.size, 4, none⟩ = some (.slice yp (strD l).mem.length yc) ∧ w'.cell? ⟨v5.heap.size + 1, 0, none⟩ = some (.int .i64 0) ∧ w'.cell? ⟨v6.heap.size, 0, none⟩ = some (.int .i64 (twoD l).k) ∧ w'.cell? ⟨v6.heap.size, 1, none⟩ = some (.int .i64 (twoD l).n) ∧ w'.cell? ⟨v6.heap.size, 2, none⟩ = some (.string (S (twoD l).s)) ∧ w'.cell? ⟨v6.heap.size, 3, none⟩ = some (.slice zp (twoD l).its.length zc) ∧ w'.cell? ⟨v6.heap.size, 4, none⟩ = some (.slice up (twoD l).mem.length uc) ∧ w'.cell? ⟨v6.heap.size + 1, 0, none⟩ = some (.int .i64 0))
       (first
         | with_reducible exact HKE.out _ HA0.out
         | with_reducible exact HKE.out _ HA1.out
         | with_reducible exact HKE.out _ HA2.out
         | with_reducible exact HKE.out _ HA3.out
         | with_reducible exact HKE.out _ HA4.out
         | with_reducible exact HKE.out _ HA4'.out
         | with_reducible exact HKE.out _ HA5.out
         | go_keep)
       (first
         | (go_at_call 25; first
             | (with_reducible refine Calls.mono (str38_any l x3) ?_; rintro e x4 ⟨rfl, hb⟩; have HA4 := Lib.hid (HA3.out.trans (hb.mono HA3.out.size)); have HA4' := Lib.hid (HA4.out.trans ((alloc_below x4 (.cells #[.int .i64 4, .int .i64 0, .string (S l), .slice none 0 0, .slice none 0 0, .int .i64 4, .int .i64 0, .string (S l), .slice none 0 0, .slice none 0 0] 25)).mono HA4.out.size)); clear hb)
             | (with_reducible refine Calls.mono (str38_any l x2) ?_; rintro e x3 ⟨rfl, hb⟩; have HA3 := Lib.hid (HA2.out.trans (hb.mono HA2.out.size)); clear hb)
             | (with_reducible refine Calls.mono (str38_any l w6.drew) ?_; rintro e x1 ⟨rfl, hb⟩; have HA1 := Lib.hid (HA0.out.trans (hb.mono HA0.out.size)); clear hb))
         | (go_at_call 20; first
             | (refine (dSame_any (SizeOf.sizeOf (twoD l) + 1) (twoD l) (twoD l) (Nat.lt_succ_self _) _ _ _ _ _ _ _ (HK6.out.2.2.under HA4'.out) (rep_two (ok := fun _ => True) (Blk.new x4 #[.int .i64 4, .int .i64 0, .string (S l), .slice none 0 0, .slice none 0 0, .int .i64 4, .int .i64 0, .string (S l), .slice none 0 0, .slice none 0 0] 25) trivial) (two_lim l hl) (two_lim l hl)).mono ?_; rintro e x5 ⟨r, rfl, hr, hb⟩; obtain rfl : r = true := hr.2 rfl; have HA5 := Lib.hid (HA4'.out.trans (hb.mono HA4'.out.size)); clear hr hb)
             | (refine (dSame_any (SizeOf.sizeOf (strD l) + 1) (strD l) (strD l) (Nat.lt_succ_self _) _ _ _ _ _ _ _ (HJ6.out.2.2.under HA1.out) (rep_leaf x1 (fun _ => True) (d := strD l) rfl rfl none none 0 0) (str_lim l hl) (str_lim l hl)).mono ?_; rintro e x2 ⟨r, rfl, hr, hb⟩; obtain rfl : r = true := hr.2 rfl; have HA2 := Lib.hid (HA1.out.trans (hb.mono HA1.out.size)); clear hr hb)))
     all_goals
       go_wp2_with fail
       go_meet
       exact ⟨rfl, HA5⟩
   case rest =>
     obtain ⟨rfl, HAC⟩ := hcut
     have HB7 := Lib.hid (HB6.out.trans (HAC.out.mono HB6.out.size))
     clear HKE HA0 HB6 HAC HK6 HJ6
     go_wp2_with fail
     refine (HAL.out _ HB7.out).mono ?_
     rintro e w10 ⟨rfl, hb⟩
     have HB10 := Lib.hid (HB7.out.trans (hb.mono HB7.out.size))
     clear hb HB7
     go_wp2_with fail
     go_ret
     exact ⟨rfl, HB10.out⟩
end
section
open Go.RowKit
theorem last_byt {l : List UInt8} (h : l ≠ []) : l.getLast? = some (byt l (l.length - 1)) := by
 have hl : l.length - 1 < l.length := by have := List.length_pos_iff.2 h; omega
 rw [List.getLast?_eq_getElem?, List.getElem?_eq_getElem hl]
 simp [byt, List.getD, hl]
theorem cut_last {d : Dat} (hc : chk d 1 = 0) {k : Nat} (h : k < (docLn d).length) : padLn (docLn d)[k] ≠ [] ∧ (openL ((docLn d).take (k + 1)) ↔ byt (padLn (docLn d)[k]) ((padLn (docLn d)[k]).length - 1) = 58 ∨ byt (padLn (docLn d)[k]) ((padLn (docLn d)[k]).length - 1) = 45) := by
 have hg := doc_good hc _ (List.getElem_mem h)
 have h1 : ((docLn d).take (k + 1)).getLast? = some (docLn d)[k] := by
   rw [List.take_succ_eq_append_getElem h, List.getLast?_append]; rfl
 generalize (docLn d)[k] = q at hg h1
 have hne : padLn q ≠ [] := by
   unfold padLn
   intro e
   exact hg.1 (List.append_eq_nil_iff.1 e).2
 have h2 : q.2.getLast? = (padLn q).getLast? := by unfold padLn; rw [last_app hg.1]
 have h3 : openL ((docLn d).take (k + 1)) ↔ openT q.2 := by
   constructor
   · rintro ⟨r, hr, ho⟩
     rw [h1] at hr
     injection hr with hr
     rw [hr]; exact ho
   · intro ho
     exact ⟨q, h1, ho⟩
 refine ⟨hne, h3.trans ?_⟩
 unfold openT
 rw [h2, last_byt hne]
 simp
theorem joinP_take {ps : List (List UInt8)} {j : Nat} (h : j < ps.length) : joinP (ps.take (j + 1)) = ct (ct (joinP (ps.take j)) ps[j]) [10] := by
 rw [List.take_succ_eq_append_getElem h, joinP_app]
 unfold joinP
 simp [ct_eq]
theorem joinP_le (ps : List (List UInt8)) (j : Nat) : (joinP (ps.take j)).length ≤ (joinP ps).length := by
 conv => rhs; rw [← List.take_append_drop j ps, joinP_app]
 rw [List.length_append]; omega
theorem cut_all {d : Dat} (hc : chk d 1 = 0) : pieces (joinLn (docLn d)) = (docLn d).map padLn ∧ joinP ((docLn d).map padLn) = joinLn (docLn d) ∧ 0 < (docLn d).length ∧ ∀ k, joinP (((docLn d).map padLn).take k) = joinLn ((docLn d).take k) := by
 refine ⟨(lines_join (doc_good hc)).1, (join_pad _).symm, List.length_pos_iff.2 (doc_ne hc), fun k => ?_⟩
 rw [join_pad, List.map_take]; rfl
set_option maxRecDepth 100000 in
set_option maxHeartbeats 8000000 in
theorem lawYamltextCut_of (d : Dat) (n0 : Nat) (hn0 : n0 < 256) (vi vm : Value) (ok : Nat → Prop) (w : World) (hr : Rep w ok d vi vm) (hE : StOk w) (hP : ∀ l : List UInt8, l.length ≤ 1000000 → ParseAt w l) :
   Calls Tryz.prog 11 #[.agg #[.int .i64 d.k, .int .i64 d.n, .string (S d.s), vi, vm], .int .u8 (n0 : Int)] w fun e w' => e = .returned (.bool true) ∧ Below w.heap.size w w' := by
 have HE := Lib.hid hE
 have HAL := Lib.hid (fun X (hb : Below w.heap.size w X) => alive_of X (hE.below hb) (fun l hl w' hb' => hP l hl w' (hb.trans (hb'.mono hb.size))))
 have HP := Lib.hid hP
 have HREP := Lib.hid hr
 obtain ⟨p, cap, rfl, -, -⟩ := id hr.items
 obtain ⟨q, caq, rfl, -, -⟩ := id hr.members
 clear hE hP hr
 obtain ⟨sm, hsm⟩ : ∃ sm, smallD d = sm := ⟨_, rfl⟩
 have HSM := Lib.hid hsm
 have HSW := Lib.hid (fun w' (hb : Below w.heap.size w w') => small_any (HREP.out.under hb))
 have HCW := Lib.hid (fun w' (hb : Below w.heap.size w w') => refChk_any (HREP.out.under hb))
 rw [hsm] at HSW
 clear hsm
 have hS : CkS w.heap.size w d (.slice p d.its.length cap) (.slice q d.mem.length caq) (w.alloc (.cells #[.int .i64 d.k, .int .i64 d.n, .string (S d.s), .slice p d.its.length cap, .slice q d.mem.length caq] 25)) := CkS.new w d _ _
 rcases Bool.eq_false_or_eq_true sm with rfl | rfl
 case inr =>
   go_enter Tryz.func11, Tryz.ntmps11
   go_upto_region 1 with fail
   generalize w.alloc (.cells #[.int .i64 d.k, .int .i64 d.n, .string (S d.s), .slice p d.its.length cap, .slice q d.mem.length caq] 25) = W at hS ⊢
   have HS0 := Lib.hid hS
   clear hS
   obtain ⟨c0, c1, c2, c3, c4, hlw⟩ := HS0.out.cells
   go_wp2_with fail
   refine (HSW.out _ HS0.out.2).mono ?_
   rintro e w1 ⟨rfl, hb⟩
   have HS1 := Lib.hid (HS0.out.below hb)
   clear hb c0 c1 c2 c3 c4 hlw HS0
   obtain ⟨c0, c1, c2, c3, c4, hlw⟩ := HS1.out.cells
   go_wp2_with fail
   refine (HAL.out _ HS1.out.2).mono ?_
   rintro e w2 ⟨rfl, hb⟩
   have HB9 := Lib.hid (HS1.out.2.trans (hb.mono HS1.out.2.size))
   clear hb c0 c1 c2 c3 c4 hlw HS1
   go_wp2_with fail
   go_ret
   exact ⟨rfl, HB9.out⟩
 by_cases hc : chk d 1 = 0
 case neg =>
   generalize hck : chk d 1 = ck at HCW hc
   have t0 : ((ck : Int) != 0) = true := by simp; omega
   have t1 : ((ck : Int) == 0) = false := by simp; omega
   clear hck hc
   go_enter Tryz.func11, Tryz.ntmps11
   go_upto_region 1 with fail
   generalize w.alloc (.cells #[.int .i64 d.k, .int .i64 d.n, .string (S d.s), .slice p d.its.length cap, .slice q d.mem.length caq] 25) = W at hS ⊢
   have HS0 := Lib.hid hS
   clear hS
   obtain ⟨c0, c1, c2, c3, c4, hlw⟩ := HS0.out.cells
   go_wp2_with fail
   refine (HSW.out _ HS0.out.2).mono ?_
   rintro e w1 ⟨rfl, hb⟩
   have HS1 := Lib.hid (HS0.out.below hb)
   clear hb c0 c1 c2 c3 c4 hlw HS0
   obtain ⟨c0, c1, c2, c3, c4, hlw⟩ := HS1.out.cells
   go_wp2_with fail
   refine (HCW.out _ HS1.out.2).mono ?_
   rintro e w2 ⟨rfl, hb⟩
   have HS2 := Lib.hid (HS1.out.below hb)
   clear hb c0 c1 c2 c3 c4 hlw HS1
   obtain ⟨c0, c1, c2, c3, c4, hlw⟩ := HS2.out.cells
   go_wp2_with fail
   refine (HAL.out _ HS2.out.2).mono ?_
   rintro e w3 ⟨rfl, hb⟩
   have HB9 := Lib.hid (HS2.out.2.trans (hb.mono HS2.out.2.size))
   clear hb c0 c1 c2 c3 c4 hlw HS2
   go_wp2_with fail
   go_ret
   exact ⟨rfl, HB9.out⟩
 rw [hc] at HCW
 have hlim := small_lim HSM.out
 have HTX := Lib.hid (fun w' (hb : Below w.heap.size w w') => text_anyY (HREP.out.under hb) hlim (fun h => by have := doc_len h HSM.out; omega) (HE.out.num.below hb))
 obtain ⟨hp1, hp2, hdp, hp3⟩ := cut_all hc
 have hdl := doc_len hc HSM.out
 have hte := text_doc d hc
 have hdn := (doc_lens hc HSM.out).1
 have hi : n0 % (docLn d).length < (docLn d).length := Nat.mod_lt _ hdp
 have hmod : ((n0 : Int).tmod ((docLn d).length : Int)) = ((n0 % (docLn d).length : Nat) : Int) := by rw [Int.tmod_eq_emod_of_nonneg (by omega)]; rfl
 generalize n0 % (docLn d).length = kx at hi hmod
 obtain ⟨hne, hopen⟩ := cut_last hc hi
 have hcut := parse_cut hc HSM.out (kx + 1) (Nat.succ_pos _) hi
 rw [← hp3] at hcut
 have hps : ((docLn d).map padLn).length = (docLn d).length := List.length_map _
 have hpk : ∀ (h : kx < ((docLn d).map padLn).length), ((docLn d).map padLn)[kx] = padLn (docLn d)[kx] := fun h => List.getElem_map _
 generalize padLn (docLn d)[kx] = pk at hne hopen hpk
 rw [← hps] at hi hmod hdp hdn
 unfold textV2 at HTX
 rw [hte] at HTX
 rw [← hp2] at HTX hp1 hdl
 have HPC := Lib.hid (fun w' => rpieces_any (joinP ((docLn d).map padLn)) (by omega) w')
 unfold PcsP at HPC
 rw [hp1] at HPC
 generalize (docLn d).map padLn = ps at HTX HPC hi hmod hdp hdn hcut hdl hpk
 have HJT := Lib.hid (fun j (h : j < ps.length) => joinP_take h)
 have hjl := fun j => joinP_le ps j
 have HJL := Lib.hid (fun j => (show (joinP (ps.take j)).length ≤ 30000 by have := hjl j; omega))
 obtain ⟨jP, hjp⟩ : ∃ f : Nat → List UInt8, f = fun j => joinP (ps.take j) := ⟨_, rfl⟩
 have hJ : ∀ j, joinP (ps.take j) = jP j := fun j => by rw [hjp]
 simp only [hJ] at HJT HJL hcut
 have z0 : jP 0 = [] := by rw [hjp]; rfl
 have hpb := hpk hi
 have h5 : ((ps.length : Int) == 0) = false := by rw [beq_eq_false_iff_ne]; omega
 have hw1 : IntKind.i64.wrap ((n0 : Nat) : Int) = (n0 : Int) := IntWalk.i64_in _ (by omega)
 have hw2 : IntKind.i64.wrap ((kx : Nat) : Int) = (kx : Int) := IntWalk.i64_in _ (by omega)
 have hk1 : (kx : Int) + 1 ≤ 1000 := by omega
 have HPB := Lib.hid hpb
 have HOP := Lib.hid hopen
 have HCT := Lib.hid hcut
 have HNE := Lib.hid hne
 simp only at HTX
 clear hlim hc hp1 hp2 hp3 hte hdl hps hpk hjl hjp hJ hopen hcut hpb hne
 go_enter Tryz.func11, Tryz.ntmps11
 go_upto_region 1 with fail
 generalize w.alloc (.cells #[.int .i64 d.k, .int .i64 d.n, .string (S d.s), .slice p d.its.length cap, .slice q d.mem.length caq] 25) = W at hS ⊢
 have HS0 := Lib.hid hS
 clear hS
 obtain ⟨c0, c1, c2, c3, c4, hlw⟩ := HS0.out.cells
 go_wp2_with fail
 refine (HSW.out _ HS0.out.2).mono ?_
 rintro e w1 ⟨rfl, hb⟩
 have HS1 := Lib.hid (HS0.out.below hb)
 clear hb c0 c1 c2 c3 c4 hlw HS0
 obtain ⟨c0, c1, c2, c3, c4, hlw⟩ := HS1.out.cells
 go_wp2_with fail
 refine (HCW.out _ HS1.out.2).mono ?_
 rintro e w2 ⟨rfl, hb⟩
 have HS2 := Lib.hid (HS1.out.below hb)
 clear hb c0 c1 c2 c3 c4 hlw HS1
 obtain ⟨c0, c1, c2, c3, c4, hlw⟩ := HS2.out.cells
 go_wp2_with fail
 refine (HTX.out _ HS2.out.2).mono ?_
 rintro e w3 ⟨rfl, hb⟩
 have HS3 := Lib.hid (HS2.out.below hb)
 clear hb c0 c1 c2 c3 c4 hlw HS2
 obtain ⟨c0, c1, c2, c3, c4, hlw⟩ := HS3.out.cells
 go_wp2_with fail
 refine (HPC.out _).mono ?_
 rintro e w4 ⟨pp, pc, rfl, hown, hb⟩
 have HS4 := Lib.hid (HS3.out.below hb)
 have hcs : ps.length ≤ pc ∧ ∃ B, pp = some ⟨B, 0, none⟩ ∧ B < w4.heap.size ∧ ∀ k (h : k < ps.length), w4.cell? ⟨B, k, none⟩ = some (.string (S ps[k])) := by
   rcases own_head hown with ⟨-, h0⟩ | ⟨g, cap, e0, -, hc, hg, -⟩
   · omega
   · injection e0 with e0 _ e2
     subst e0; subst e2
     refine ⟨hc, g, rfl, hg, fun k h => ?_⟩
     have := hown.cells (g := g) rfl k (.string (S ps[k])) (by simp [scells, h])
     rw [Lib.add_plain, Nat.zero_add] at this
     exact this
 obtain ⟨hpc, B, rfl, hB, hcell⟩ := hcs
 have HCE := Lib.hid hcell
 clear hb hown hcell c0 c1 c2 c3 c4 hlw HS3 HPC
 have hkp : (kx : Int) + 1 ≤ (ps.length : Int) := by omega
 have hkp2 : (kx : Int) + 1 ≤ (pc : Int) := by omega
 have hkp3 : kx + 1 ≤ pc := by omega
 go_wp2_with fail
 go_loopw [9, 48] (fun t x wr => ∃ j : Nat, t = .string (S (jP j)) ∧ x = .int .i64 (j : Int) ∧ j ≤ kx + 1 ∧ wr = w4) (fun _ x _ => kx + 1 - (intOf x).toNat)
 case atStart => exact ⟨0, by rw [z0]; rfl, rfl, Nat.zero_le _, rfl⟩
 case round =>
   clear z0
   obtain ⟨j, rfl, rfl, hj, hwr⟩ := hrel
   subst hwr
   by_cases hlt : j < kx + 1
   · have cj := HCE.out j (by omega)
     have HST := Lib.hid (HJT.out j (by omega))
     have hl0 := HJL.out j
     have hl1 := HJL.out (j + 1)
     have hl2 : (ps[j]'(by omega)).length + (jP j).length ≤ 30000 := by rw [HST.out] at hl1; simp only [ct_len] at hl1; omega
     generalize ps[j]'(by omega) = x at cj HST hl2
     have hjc : j < pc := by omega
     have g1 : (j : Int) < (kx : Int) + 1 := by omega
     have hcat1 : ¬ (9223372036854775807 < (jP j).length + x.length) := by omega
     have hcat2 : ¬ (9223372036854775807 < (jP j).length + x.length + 1) := by omega
     clear hl1
     go_wp2_with fail
     go_roundw
     case rel => exact ⟨j + 1, by rw [HST.out], by go_num, hlt, by first | rfl | trivial⟩
     case measure => simp [intOf]; omega
   · obtain rfl : j = kx + 1 := by omega
     have ck := HCE.out kx hi
     rw [HPB.out] at ck
     have hpos : 0 < pk.length := List.length_pos_iff.2 HNE.out
     have hpl : pk.length ≤ 30000 := by
       have h1 := HJL.out (kx + 1)
       rw [HJT.out kx hi, HPB.out] at h1
       simp only [ct_len] at h1; omega
     have hpos' : (1 : Int) ≤ (pk.length : Int) := by omega
     have hkc : kx < pc := by omega
     have g1 : ¬ ((((kx + 1 : Nat) : Int)) < (kx : Int) + 1) := by omega
     have hw3 : IntKind.i64.wrap ((pk.length : Int) - 1) = ((pk.length - 1 : Nat) : Int) := by rw [IntWalk.i64_in _ (by omega)]; omega
     have hlst : pk.length - 1 < pk.length := by omega
     generalize hbl : byt pk (pk.length - 1) = lb at HOP
     have HBL := Lib.hid hbl
     clear hbl
     go_upto_region 14 with fail
     go_quiet (fail)
     rw [HBL.out]
     have HSq := Lib.hid (HS4.out.drewN nq)
     generalize wr.drewN nq = W6 at HSq ⊢
     clear ck HS4
     have HFL := Lib.hid (fun (h : openL ((docLn d).take (kx + 1))) pi (hp : pi = ((kx + 1 + 1 : Nat) : Int)) X (hb : Below w.heap.size w X) => fails_of (l := jP (kx + 1)) (e := 19) (p := kx + 1 + 1) (ei := 19) (HCT.out.1 h) rfl hp (HP.out _ (by have := HJL.out (kx + 1); omega)) X hb)
     by_cases ho : openL ((docLn d).take (kx + 1))
     · have HF2 := Lib.hid (HFL.out ho)
       rcases HOP.out.1 ho with hb | hb
       · have T1 : ((lb.toNat : Int) == 58) = true := by rw [hb]; rfl
         clear ho hb HFL
         go_wp2_with fail
         refine (HF2.out _ (by omega) _ HSq.out.2).mono ?_
         rintro e w7 ⟨rfl, hb⟩
         have HS7 := Lib.hid (HSq.out.below hb)
         clear hb HSq
         obtain ⟨c0, c1, c2, c3, c4, hlw⟩ := HS7.out.cells
         go_wp2_with fail
         refine (HAL.out _ HS7.out.2).mono ?_
         rintro e w8 ⟨rfl, hb⟩
         have HB9 := Lib.hid (HS7.out.2.trans (hb.mono HS7.out.2.size))
         clear hb c0 c1 c2 c3 c4 hlw HS7
         go_wp2_with fail
         go_ret
         exact ⟨rfl, HB9.out⟩
       · have T1 : ((lb.toNat : Int) == 58) = false := by rw [hb]; rfl
         have T2 : ((lb.toNat : Int) == 45) = true := by rw [hb]; rfl
         clear ho hb HFL
         go_wp2_with fail
         refine (HF2.out _ (by omega) _ HSq.out.2).mono ?_
         rintro e w7 ⟨rfl, hb⟩
         have HS7 := Lib.hid (HSq.out.below hb)
         clear hb HSq
         obtain ⟨c0, c1, c2, c3, c4, hlw⟩ := HS7.out.cells
         go_wp2_with fail
         refine (HAL.out _ HS7.out.2).mono ?_
         rintro e w8 ⟨rfl, hb⟩
         have HB9 := Lib.hid (HS7.out.2.trans (hb.mono HS7.out.2.size))
         clear hb c0 c1 c2 c3 c4 hlw HS7
         go_wp2_with fail
         go_ret
         exact ⟨rfl, HB9.out⟩
     · have h1 : lb ≠ 58 := fun h => ho (HOP.out.2 (.inl h))
       have h2 : lb ≠ 45 := fun h => ho (HOP.out.2 (.inr h))
       have T1 : ((lb.toNat : Int) == 58) = false := u8_ne h1
       have T2 : ((lb.toNat : Int) == 45) = false := u8_ne h2
       have HPX := Lib.hid (show Calls Tryz.prog 18 #[.string (S (jP (kx + 1)))] W6 (PrsP W6 ((parseY (jP (kx + 1))).1, 0, 0)) from by
         have h := HP.out (jP (kx + 1)) (by have := HJL.out (kx + 1); omega) W6 HSq.out.2
         have h0 := HCT.out.2 ho
         rwa [show parseY (jP (kx + 1)) = ((parseY (jP (kx + 1))).1, 0, 0) from Prod.ext rfl h0] at h)
       generalize (parseY (jP (kx + 1))).1 = x at HPX
       clear h1 h2 ho HFL HOP HCT
       go_wp2_with fail
       refine HPX.out.mono ?_
       rintro e w7 hp
       obtain ⟨xp, xc, yp, yc, rfl, hr, hb⟩ := hp.open
       simp only at hr ⊢
       have hn := val_two w7 #[.int .i64 x.k, .int .i64 x.n, .string (S x.s), .slice xp x.its.length xc, .slice yp x.mem.length yc] #[.int .i64 0, .int .i64 0] 25 33
       have hS5 := (HSq.out.below hb).below hn.2.2
       clear hr hp hb HSq HPX
       go_upto_region 18 with fail
       generalize (w7.alloc (.cells #[.int .i64 x.k, .int .i64 x.n, .string (S x.s), .slice xp x.its.length xc, .slice yp x.mem.length yc] 25)).alloc (.cells #[.int .i64 0, .int .i64 0] 33) = W8 at hn hS5 ⊢
       have HS8 := Lib.hid hS5
       clear hS5
       have f0 := hn.2.1.cell 0
       simp at f0
       have hfl := hn.2.1.lt
       clear hn
       obtain ⟨c0, c1, c2, c3, c4, hlw⟩ := HS8.out.cells
       go_wp2_with fail
       refine (HAL.out _ HS8.out.2).mono ?_
       rintro e w9 ⟨rfl, hb⟩
       have HB9 := Lib.hid (HS8.out.2.trans (hb.mono HS8.out.2.size))
       clear hb c0 c1 c2 c3 c4 hlw HS8
       go_wp2_with fail
       go_ret
       exact ⟨rfl, HB9.out⟩
end
section
open Go.ChangeShapes Go.WideShapes Go.ChangeAt Go.RowKit
theorem own : ownKnob Tryz.prog.godebug = none := by kernel_rfl
def laidList : List (String × DataW Unit) := Rows.yamltextWritesRow.laid
theorem cellsErr : Tryz.prog.cellsOf 225 = 1 := by kernel_rfl
theorem cellsStr : Tryz.prog.cellsOf 9 = 1 := by kernel_rfl
theorem starErr : "*" ++ "errors.errorString" = "*errors.errorString" := by decide
theorem rowErr (u : TypeId) (h : Tryz.prog.typeName? 3 u = some "*errors.errorString") : u = 223 :=
 typeName_ptr_named (nm := "errors.errorString") (by rw [starErr]; kernel_rfl) (by kernel_rfl) (by decide) u (by rw [starErr]; exact h)
theorem gES : Tryz.prog.globalNamed "strconv.ErrSyntax" = some 4 := by kernel_rfl
theorem gESType : (Tryz.prog.globals[4]?).map (·.type) = some 109 := by kernel_rfl
theorem gER : Tryz.prog.globalNamed "strconv.ErrRange" = some 5 := by kernel_rfl
theorem gERType : (Tryz.prog.globals[5]?).map (·.type) = some 109 := by kernel_rfl
theorem gTab : Tryz.prog.globalNamed "internal/strconv.uint64pow10" = some 6 := by kernel_rfl
theorem gTabType : (Tryz.prog.globals[6]?).map (·.type) = some 219 := by kernel_rfl
theorem cellsTab : Tryz.prog.cellsOf 219 = 20 := by kernel_rfl
theorem cellsU64 : Tryz.prog.cellsOf 152 = 1 := by kernel_rfl
theorem numOk {W : World} (h : laidMetH Tryz.prog laidList W) : NumOk W := by
 have h1 : laidMet Tryz.prog laidList W := h
 have hP := h1.tail.tail
 have hR := h1.tail.tail.tail.tail
 have hS := h1.tail.tail.tail.tail.tail
 obtain ⟨a0, s0, hv0, -, -, -⟩ := laid_sentinel hS gES gESType Tryz.underlying109 rowErr Tryz.underlying223 Tryz.underlying225 rfl rfl Tryz.underlying9 cellsErr cellsStr
 obtain ⟨a1, s1, hv1, -, -, -⟩ := laid_sentinel hR gER gERType Tryz.underlying109 rowErr Tryz.underlying223 Tryz.underlying225 rfl rfl Tryz.underlying9 cellsErr cellsStr
 exact ⟨Lib.tabIs_of_head gTab gTabType Tryz.underlying219 Tryz.underlying152 cellsU64 cellsTab hP, ⟨_, _, hv0⟩, ⟨_, _, hv1⟩⟩
noncomputable def laidWorld (os : Os) : World := World.laidAll Tryz.prog os laidList
theorem laidOs (os : Os) : (laidWorld os).os = os := World.laidAll_os _ _ _
set_option maxRecDepth 100000 in
theorem laid_met (os : Os) (args : Array Value) : laidMet Tryz.prog laidList ((laidWorld os).forCall (fun _ _ => 0) ⟨#[], args, []⟩).memory :=
 laidMet_laidAll _ (by kernel_rfl) (by kernel_rfl)
theorem int_of_shape {P : Program} {w : World} {g : Nat} {t : TypeId} {zero : Array Value} (h : w.ShapedOpen P) (hg : g < P.globals.size)
   (h0 : ((begin P (fun _ _ => 0) default).world.heap[g]?).bind Obj.row? = some (zero, t)) (hz : zero.size = 1)
   (hb : P.buildable t = true) (hc : P.cellTypes P.depth t = some [t]) (hu : P.underlying t = some (.int .i64)) : ∃ m, w.cell? ⟨g, 0, none⟩ = some (.int .i64 m) := by
 obtain ⟨cs, hh, hs, hr⟩ := h.1 g zero t hg h0
 obtain ⟨ts, hts, _, hall⟩ := hr hb
 rw [hc] at hts
 cases hts
 have h1 : 0 < cs.size := by omega
 obtain ⟨u, hu', hok⟩ := hall 0 cs[0] (by simp [h1])
 have : u = t := by simpa using hu'.symm
 subst this
 have hcell : w.cell? ⟨g, 0, none⟩ = some cs[0] := by simp [World.cell?, hh, h1]
 rw [hcell]
 unfold Cell.ok at hok
 rw [hu] at hok
 cases hv : cs[0] <;> rw [hv] at hok <;> simp at hok
 obtain ⟨rfl, -⟩ := hok
 exact ⟨_, rfl⟩
theorem maxOk {W : World} (h : W.ShapedOpen Tryz.prog) : MaxOk W :=
 int_of_shape (g := 1) (t := 3) (zero := #[.int .i64 0]) h (of_decide_eq_true (by kernel_rfl)) (by kernel_rfl) rfl (by kernel_rfl) (by kernel_rfl) Tryz.underlying3
theorem errOk {W : World} (h : laidMetH Tryz.prog laidList W) : ErrOk W := by
 have h1 : laidMet Tryz.prog laidList W := h
 have h2 := h1.tail.tail.tail.tail.tail
 obtain ⟨a0, s0, hv0, -, -, -⟩ := laid_sentinel h2 gES gESType Tryz.underlying109 rowErr Tryz.underlying223 Tryz.underlying225 rfl rfl Tryz.underlying9 cellsErr cellsStr
 exact ⟨_, _, by have h0 := World.var?_cell gES hv0 0; simpa using h0⟩
theorem stMax {W : World} (h : laidMetH Tryz.prog laidList W) (hsh : W.ShapedOpen Tryz.prog) : StOk W ∧ MaxOk W := ⟨⟨numOk h, errOk h⟩, maxOk hsh⟩
end
end Go.Proofs.YtdalfkklkeblaaaGreatDoor
