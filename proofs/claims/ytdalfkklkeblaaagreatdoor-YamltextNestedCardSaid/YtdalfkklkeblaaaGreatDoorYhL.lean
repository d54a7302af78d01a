import Derived.Deep.DeepCutAuto
import Derived.Test.YtdalfkklkeblaaaGreatDoorN31
import Derived.Test.YtdalfkklkeblaaaGreatDoorN16
import Derived.Test.YtdalfkklkeblaaaGreatDoorYaK
namespace Go.Proofs.YtdalfkklkeblaaaGreatDoor
set_option linter.unusedSimpArgs false
set_option linter.unusedVariables false
open Go.RowKit
theorem set5_below {N : Nat} {w W : World} (h : Below N w W) (B : Nat) (hB : N ≤ B) (v0 v1 v2 v3 v4 : Value) : Below N w (set5 W B v0 v1 v2 v3 v4) :=
 ((((h.setCell (p := ⟨B, 0, none⟩) hB v0).setCell (p := ⟨B, 1, none⟩) hB v1).setCell (p := ⟨B, 2, none⟩) hB v2).setCell (p := ⟨B, 3, none⟩) hB v3).setCell (p := ⟨B, 4, none⟩) hB v4
theorem set5_at {W : World} {B : Nat} {c0 c1 c2 c3 c4 : Value} {t : TypeId} (h : Blk W B #[c0, c1, c2, c3, c4] t) (v0 v1 v2 v3 v4 : Value) : Blk (set5 W B v0 v1 v2 v3 v4) B #[v0, v1, v2, v3, v4] t := by
 have h5 := ((((h.set 0 v0).set 1 v1).set 2 v2).set 3 v3).set 4 v4
 simpa [set5] using h5
theorem rep_item {W : World} {ok ok' : Nat → Prop} {B : Nat} {x : Dat} {p q : Option Addr} {cap caq : Nat} {t : TypeId} (h : Blk W B #[.int .i64 x.k, .int .i64 x.n, .string (S x.s), .slice p x.its.length cap, .slice q x.mem.length caq] t) (hk : ok' B) (hr : Rep W ok x (.slice p x.its.length cap) (.slice q x.mem.length caq)) (ho : ∀ B, ok B → ok' B) : Rep W ok' (.mk 5 0 [] [x] []) (.slice (some ⟨B, 0, none⟩) 1 1) (.slice none 0 0) := by
 refine Rep.mk (d := .mk 5 0 [] [x] []) (some ⟨B, 0, none⟩) none 1 0 B 0 0 0 (fun _ => .slice p x.its.length cap) (fun _ => .slice q x.mem.length caq) (fun _ => .nilFunc) (fun _ => .nilFunc) ⟨show 1 ≤ maxLen by unfold maxLen; omega, Nat.zero_le _⟩ (fun _ => ⟨rfl, Nat.le_refl _, h.lt, hk⟩) (fun j hj => ?_) (fun j hj => ?_) (fun h0 => absurd h0 (Nat.lt_irrefl 0)) (fun j hj => absurd hj (Nat.not_lt_zero j)) (fun j hj => absurd hj (Nat.not_lt_zero j))
 · have hj0 : j = 0 := Nat.lt_one_iff.1 hj
   subst hj0
   exact ⟨h.cell 0, h.cell 1, h.cell 2, h.cell 3, h.cell 4⟩
 · have hj0 : j = 0 := Nat.lt_one_iff.1 hj
   subst hj0
   exact hr.mono fun B _ hB => ho B hB
def NsS (w : World) (st : Bool) (j : Nat) (W : World) : Prop := ∃ (p q : Option Addr) (cap caq : Nat), CkS w.heap.size w (nestD st j) (.slice p (nestD st j).its.length cap) (.slice q (nestD st j).mem.length caq) W ∧ Rep W (fun C => w.heap.size < C) (nestD st j) (.slice p (nestD st j).its.length cap) (.slice q (nestD st j).mem.length caq)
theorem nest_zero_rep (W : World) (ok : Nat → Prop) (st : Bool) : Rep W ok (nestD st 0) (.slice none 0 0) (.slice none 0 0) := by
 cases st <;> exact rep_leaf W ok rfl rfl none none 0 0
theorem set5_size (W : World) (B : Nat) (v0 v1 v2 v3 v4 : Value) : (set5 W B v0 v1 v2 v3 v4).heap.size = W.heap.size := by simp [set5]
theorem nest_mem {w W : World} {j : Nat} {p q : Option Addr} {cap caq : Nat} {x : Dat} (hx : x = nestD true j) (hS : CkS w.heap.size w x (.slice p x.its.length cap) (.slice q x.mem.length caq) W) (hr : Rep W (fun C => w.heap.size < C) x (.slice p x.its.length cap) (.slice q x.mem.length caq)) :
   NsS w true (j + 1) ((set5 W w.heap.size (.int .i64 6) (.int .i64 0) (.string ⟨#[]⟩) (.slice none 0 0) (.slice (some ⟨W.heap.size, 0, none⟩) 1 1)).alloc (.cells #[.string (S [97]), .int .i64 x.k, .int .i64 x.n, .string (S x.s), .slice p x.its.length cap, .slice q x.mem.length caq] 43)) := by
 have hW := hS.1.lt
 have hX := set5_size W w.heap.size (.int .i64 6) (.int .i64 0) (.string ⟨#[]⟩) (.slice none 0 0) (.slice (some ⟨W.heap.size, 0, none⟩) 1 1)
 have hA := set5_at hS.1 (.int .i64 6) (.int .i64 0) (.string ⟨#[]⟩) (.slice none 0 0) (.slice (some ⟨W.heap.size, 0, none⟩) 1 1)
 have hB := set5_below hS.2 w.heap.size (Nat.le_refl _) (.int .i64 6) (.int .i64 0) (.string ⟨#[]⟩) (.slice none 0 0) (.slice (some ⟨W.heap.size, 0, none⟩) 1 1)
 have hR := set5_rep hr w.heap.size (fun C hC => Nat.ne_of_lt hC) (.int .i64 6) (.int .i64 0) (.string ⟨#[]⟩) (.slice none 0 0) (.slice (some ⟨W.heap.size, 0, none⟩) 1 1)
 generalize set5 W w.heap.size (.int .i64 6) (.int .i64 0) (.string ⟨#[]⟩) (.slice none 0 0) (.slice (some ⟨W.heap.size, 0, none⟩) 1 1) = X at hX hA hB hR ⊢
 have hN := Blk.new X #[.string (S [97]), .int .i64 x.k, .int .i64 x.n, .string (S x.s), .slice p x.its.length cap, .slice q x.mem.length caq] 43
 rw [hX] at hN
 have hb := (Below.refl X.heap.size X).alloc (Nat.le_refl _) (.cells #[.string (S [97]), .int .i64 x.k, .int .i64 x.n, .string (S x.s), .slice p x.its.length cap, .slice q x.mem.length caq] 43)
 have hr2 := rep_one (ok' := fun C => w.heap.size < C) hN hW (hR.under hb) (fun _ h => h)
 subst hx
 exact ⟨none, some ⟨W.heap.size, 0, none⟩, 0, 1, ⟨hA.alloc _, hB.alloc (by omega) _⟩, hr2⟩
theorem nest_itm {w W : World} {j : Nat} {p q : Option Addr} {cap caq : Nat} {x : Dat} (hx : x = nestD false j) (hS : CkS w.heap.size w x (.slice p x.its.length cap) (.slice q x.mem.length caq) W) (hr : Rep W (fun C => w.heap.size < C) x (.slice p x.its.length cap) (.slice q x.mem.length caq)) :
   NsS w false (j + 1) ((set5 W w.heap.size (.int .i64 5) (.int .i64 0) (.string ⟨#[]⟩) (.slice (some ⟨W.heap.size, 0, none⟩) 1 1) (.slice none 0 0)).alloc (.cells #[.int .i64 x.k, .int .i64 x.n, .string (S x.s), .slice p x.its.length cap, .slice q x.mem.length caq] 25)) := by
 have hW := hS.1.lt
 have hX := set5_size W w.heap.size (.int .i64 5) (.int .i64 0) (.string ⟨#[]⟩) (.slice (some ⟨W.heap.size, 0, none⟩) 1 1) (.slice none 0 0)
 have hA := set5_at hS.1 (.int .i64 5) (.int .i64 0) (.string ⟨#[]⟩) (.slice (some ⟨W.heap.size, 0, none⟩) 1 1) (.slice none 0 0)
 have hB := set5_below hS.2 w.heap.size (Nat.le_refl _) (.int .i64 5) (.int .i64 0) (.string ⟨#[]⟩) (.slice (some ⟨W.heap.size, 0, none⟩) 1 1) (.slice none 0 0)
 have hR := set5_rep hr w.heap.size (fun C hC => Nat.ne_of_lt hC) (.int .i64 5) (.int .i64 0) (.string ⟨#[]⟩) (.slice (some ⟨W.heap.size, 0, none⟩) 1 1) (.slice none 0 0)
 generalize set5 W w.heap.size (.int .i64 5) (.int .i64 0) (.string ⟨#[]⟩) (.slice (some ⟨W.heap.size, 0, none⟩) 1 1) (.slice none 0 0) = X at hX hA hB hR ⊢
 have hN := Blk.new X #[.int .i64 x.k, .int .i64 x.n, .string (S x.s), .slice p x.its.length cap, .slice q x.mem.length caq] 25
 rw [hX] at hN
 have hb := (Below.refl X.heap.size X).alloc (Nat.le_refl _) (.cells #[.int .i64 x.k, .int .i64 x.n, .string (S x.s), .slice p x.its.length cap, .slice q x.mem.length caq] 25)
 have hr2 := rep_item (ok' := fun C => w.heap.size < C) hN hW (hR.under hb) (fun _ h => h)
 subst hx
 exact ⟨some ⟨W.heap.size, 0, none⟩, none, 1, 0, ⟨hA.alloc _, hB.alloc (by omega) _⟩, hr2⟩
set_option maxRecDepth 100000 in
set_option maxHeartbeats 16000000 in
theorem lawYamltextNested_of (n : Nat) (hn : n < 256) (st : Bool) (w : World) (hE : StOk w) (hP : ∀ l : List UInt8, l.length ≤ 1000000 → ParseAt w l) :
   Calls Tryz.prog 10 #[.int .u8 (n : Int), .bool st] w fun e w' => e = .returned (.bool true) ∧ Below w.heap.size w w' := by
 have HAL := Lib.hid (fun X (hb : Below w.heap.size w X) => alive_of X (hE.below hb) (fun l hl w' hb' => hP l hl w' (hb.trans (hb'.mono hb.size))))
 by_cases h1 : n < 1
 · have b1 : (n : Int) < 1 := by omega
   have b2 : decide ((n : Int) < 1) = true := decide_eq_true b1
   clear h1
   clear hP hE
   go_enter Tryz.func10, Tryz.ntmps10
   go_wp2_with fail
   refine (HAL.out _ (Below.refl _ _)).mono ?_
   rintro e w1 ⟨rfl, hb⟩
   have HB := Lib.hid hb
   clear hb
   go_wp2_with fail
   go_ret
   exact ⟨rfl, HB.out⟩
 have b1 : ¬ ((n : Int) < 1) := by omega
 have b2 : decide ((n : Int) < 1) = false := decide_eq_false b1
 by_cases h2 : 40 < n
 · have b3 : (40 : Int) < (n : Int) := by omega
   have b4 : decide ((40 : Int) < (n : Int)) = true := decide_eq_true b3
   clear h1 h2
   clear hP hE
   go_enter Tryz.func10, Tryz.ntmps10
   go_wp2_with fail
   refine (HAL.out _ (Below.refl _ _)).mono ?_
   rintro e w1 ⟨rfl, hb⟩
   have HB := Lib.hid hb
   clear hb
   go_wp2_with fail
   go_ret
   exact ⟨rfl, HB.out⟩
 have b3 : ¬ ((40 : Int) < (n : Int)) := by omega
 have b4 : decide ((40 : Int) < (n : Int)) = false := decide_eq_false b3
 have hw1 : IntKind.i64.wrap ((n : Nat) : Int) = (n : Int) := IntWalk.i64_in _ (by omega)
 have hn1 : 1 ≤ n := by omega
 have hn40 : n ≤ 40 := by omega
 clear h1 h2
 cases st
 · have hN0 : NsS w false 0 (w.alloc (.cells #[.int .i64 5, .int .i64 0, .string ⟨#[]⟩, .slice none 0 0, .slice none 0 0] 25)) := ⟨none, none, 0, 0, CkS.new w (nestD false 0) _ _, nest_zero_rep _ _ false⟩
   have HPRE := Lib.hid (nest_pre false (n - 1) (by omega))
   have HLEN := Lib.hid (fun k (hk : k < 40) => nest_lens false k hk)
   have HPX := Lib.hid (fun w' (hb : Below w.heap.size w w') => (show Calls Tryz.prog 18 #[.string (S (ct (preS false (n - 1)) [91, 93]))] w' (PrsP w' (if n - 1 < 16 then (nestD false (n - 1), 0, 0) else (dat0, 9, 0))) from by
     have hq := HPRE.out.1
     have hl := (HLEN.out (n - 1) (by omega)).1
     have h := hP (ct (preS false (n - 1)) [91, 93]) (by rw [ct_len]; simp; omega) w' hb
     rwa [show parseY (ct (preS false (n - 1)) [91, 93]) = _ from (congrArg parseY hq).trans (nest_parse false (n - 1) (by omega))] at h))
   have HTX := Lib.hid (fun (h16 : n - 1 < 16) vi vm w' (hr : Rep w' (fun C => w.heap.size < C) (nestD false (n - 1)) vi vm) (hb : Below w.heap.size w w') => (show Calls Tryz.prog 14 #[.agg #[.int .i64 (nestD false (n - 1)).k, .int .i64 (nestD false (n - 1)).n, .string (S (nestD false (n - 1)).s), vi, vm]] w' (fun e w'' => e = .returned (.tuple #[.string (S (ct (ct (preS false (n - 1)) [91, 93]) [10])), .int .i64 0]) ∧ Below w'.heap.size w' w'') from by
     have ht := nest_text false (n - 1) h16
     have hl := (HLEN.out (n - 1) (by omega)).1
     have he : joinLn (nestDoc false (n - 1)) = ct (ct (preS false (n - 1)) [91, 93]) [10] := HPRE.out.2
     have h := text_anyY hr (nest_lim false (n - 1)) (fun _ => by rw [nest_doc, he, ct_len, ct_len]; simp; omega) (hE.num.below hb)
     unfold textV2 at h
     rw [ht, he] at h
     exact h))
   have HLIM := Lib.hid (nest_lim false (n - 1))
   clear hE hP HPRE
   go_enter Tryz.func10, Tryz.ntmps10
   go_upto_region 8 with fail
   generalize w.alloc (.cells #[.int .i64 5, .int .i64 0, .string ⟨#[]⟩, .slice none 0 0, .slice none 0 0] 25) = W0 at hN0 ⊢
   have HN0 := Lib.hid hN0
   clear hN0
   go_wp2_with fail
   go_loopw [8, 9, 10] (fun s d x wr => ∃ k : Nat, s = .string (S (opnS false k)) ∧ d = .string (S (indS k)) ∧ x = .int .i64 ((k : Int) + 1) ∧ k ≤ n - 2 ∧ wr = W0) (fun _ _ x _ => n - (intOf x).toNat)
   case atStart => exact ⟨0, rfl, rfl, rfl, Nat.zero_le _, rfl⟩
   case round =>
     obtain ⟨k, rfl, rfl, rfl, hk, hwr⟩ := hrel
     subst hwr
     obtain ⟨-, hl1, hl2⟩ := HLEN.out k (by omega)
     by_cases hlt : k + 2 < n
     · have t1 : (k : Int) + 1 + 1 < (n : Int) := by omega
       have HO := Lib.hid (show opnS false (k + 1) = ct (ct (ct (opnS false k) (indS k)) [45]) [10] from rfl)
       have HI := Lib.hid (show indS (k + 1) = ct (indS k) [32, 32] from rfl)
       generalize opnS false k = oa at *
       generalize indS k = ob at *
       go_wp2_with fail
       go_roundw
       case rel => exact ⟨k + 1, by rw [HO.out], by rw [HI.out], by go_num, by omega, by trivial⟩
       case measure => simp [intOf]; omega
     · have t1 : ¬ ((k : Int) + 1 + 1 < (n : Int)) := by omega
       have HPR := Lib.hid (show preS false (n - 1) = if n = 1 then [] else ct (ct (ct (opnS false k) (indS k)) [45]) [32] from by
         by_cases h1 : n = 1
         · rw [if_pos h1]; unfold preS; rw [if_pos (by omega)]
         · rw [if_neg h1]; unfold preS; rw [if_neg (by omega), show n - 1 - 1 = k by omega]; rfl)
       have HO1 := Lib.hid (fun (h1 : n = 1) => (show opnS false k = [] from by rw [show k = 0 by omega]; rfl))
       have hpl := (HLEN.out (n - 1) (by omega)).1
       generalize preS false (n - 1) = pre at *
       generalize opnS false k = oa at *
       generalize indS k = ob at *
       go_upto_if 42 with fail
       go_cut [8] (fun v wx => v = .string (S pre) ∧ wx = wr)
       case first =>
         by_cases h1 : n = 1
         · have t2 : ¬ ((1 : Int) < (n : Int)) := by omega
           have HQ := Lib.hid (show oa = pre by rw [HPR.out, if_pos h1, HO1.out h1])
           clear h1 HPR HO1 HPX HTX
           go_wp2_with fail
           go_meet
           exact ⟨by rw [HQ.out], rfl⟩
         · have t2 : (1 : Int) < (n : Int) := by omega
           have HQ := Lib.hid (show pre = _ from HPR.out.trans (if_neg h1))
           clear h1 HPR HO1 HPX HTX
           go_wp2_with fail
           go_meet
           exact ⟨by rw [HQ.out], rfl⟩
       case rest =>
         obtain ⟨rfl, hwc⟩ := hcut
         subst hwc
         clear HPR HO1 hl1 hl2 t1 hlt hk HLEN
         go_wp2_with fail
         go_loopw [11] (fun x wr => ∃ j : Nat, x = .int .i64 ((j : Int) + 1) ∧ j + 1 ≤ n ∧ Hid (NsS w false j wr)) (fun x _ => n - (intOf x).toNat)
         case atStart => exact ⟨0, rfl, by omega, HN0⟩
         case round =>
           clear HN0
           obtain ⟨j, rfl, hj, HN⟩ := hrel
           by_cases hlt : j + 1 < n
           · have t1 : (j : Int) + 1 < (n : Int) := by omega
             obtain ⟨p, q, cap, caq, hS, hr⟩ := HN.out
             generalize hx : nestD false j = x at hS hr
             have HNX := Lib.hid (nest_itm hx.symm hS hr)
             obtain ⟨c0, c1, c2, c3, c4, hlw⟩ := hS.cells
             have f0 := hS.1.frozen 0
             have f1 := hS.1.frozen 1
             have f2 := hS.1.frozen 2
             have f3 := hS.1.frozen 3
             have f4 := hS.1.frozen 4
             clear hS hr HN hx HPX HTX HAL
             go_wp2_with fail
             go_roundw
             case rel => exact ⟨j + 1, by go_num, by omega, HNX⟩
             case measure => simp [intOf]; omega
           · have t1 : ¬ ((j : Int) + 1 < (n : Int)) := by omega
             obtain rfl : j = n - 1 := by omega
             obtain ⟨p, q, cap, caq, hS, hr⟩ := HN.out
             by_cases h16 : 16 < n
             · have t2 : (16 : Int) < (n : Int) := by omega
               rw [if_neg (show ¬ (n - 1 < 16) by omega)] at HPX
               have HB := Lib.hid hS.2
               clear hS hr HN HTX HLIM
               go_wp2_with fail
               refine (HPX.out _ HB.out).mono ?_
               rintro e v2 hp
               obtain ⟨xp, xc, yp, yc, rfl, hr, hb⟩ := hp.open
               have hn := val_two v2 #[.int .i64 dat0.k, .int .i64 dat0.n, .string (S dat0.s), .slice xp dat0.its.length xc, .slice yp dat0.mem.length yc] #[.int .i64 9, .int .i64 0] 25 33
               have HB2 := Lib.hid (HB.out.trans ((hb.trans (hn.2.2.mono hb.size)).mono HB.out.size))
               clear hr hp hb HPX HB
               go_upto_region 23 with fail
               generalize (v2.alloc (.cells #[.int .i64 dat0.k, .int .i64 dat0.n, .string (S dat0.s), .slice xp dat0.its.length xc, .slice yp dat0.mem.length yc] 25)).alloc (.cells #[.int .i64 9, .int .i64 0] 33) = w2 at hn HB2 ⊢
               have c0 : w2.cell? ⟨v2.heap.size, 0, none⟩ = some (.int .i64 0) := hn.1.cell 0
               have e0 := hn.2.1.cell 0
               have e1 := hn.2.1.cell 1
               simp at e0 e1
               clear hn
               go_wp2_with fail
               refine (HAL.out _ HB2.out).mono ?_
               rintro e w3 ⟨rfl, hb⟩
               have HB3 := Lib.hid (HB2.out.trans (hb.mono HB2.out.size))
               clear hb c0 e0 e1 HB2
               go_wp2_with fail
               go_ret
               exact ⟨rfl, HB3.out⟩
             · have t2 : ¬ ((16 : Int) < (n : Int)) := by omega
               rw [if_pos (show n - 1 < 16 by omega)] at HPX
               have HT := Lib.hid (HTX.out (show n - 1 < 16 by omega) (.slice p (nestD false (n - 1)).its.length cap) (.slice q (nestD false (n - 1)).mem.length caq))
               have HS := Lib.hid hS
               have HR := Lib.hid hr
               clear hS hr HN HTX
               generalize nestD false (n - 1) = d at HPX HT HS HR HLIM
               have tt : (ct (ct pre [91, 93]) [10] == ct (ct pre [91, 93]) [10]) = true := beq_self_eq_true _
               go_wp2_with fail
               refine (HPX.out _ HS.out.2).mono ?_
               rintro e v2 hp
               obtain ⟨xp, xc, yp, yc, rfl, hr, hb⟩ := hp.open
               simp only at hr ⊢
               have hn := val_two v2 #[.int .i64 d.k, .int .i64 d.n, .string (S d.s), .slice xp d.its.length xc, .slice yp d.mem.length yc] #[.int .i64 0, .int .i64 0] 25 33
               have hS5 := (HS.out.below hb).below hn.2.2
               have hR5 := (HR.out.under hb).under hn.2.2
               have hx5 := hr.under hn.2.2
               clear hr hp hb HS HR HPX
               go_upto_region 23 with fail
               generalize (v2.alloc (.cells #[.int .i64 d.k, .int .i64 d.n, .string (S d.s), .slice xp d.its.length xc, .slice yp d.mem.length yc] 25)).alloc (.cells #[.int .i64 0, .int .i64 0] 33) = w2 at hn hS5 hR5 hx5 ⊢
               have HS2 := Lib.hid hS5
               have HR2 := Lib.hid hR5
               have HX2 := Lib.hid hx5
               have HF2 := Lib.hid (And.intro hn.1 hn.2.1)
               clear hS5 hR5 hx5 hn
               obtain ⟨c0, c1, c2, c3, c4, hlw⟩ := HS2.out.cells
               go_wp2_with fail
               refine (HT.out _ HR2.out HS2.out.2).mono ?_
               rintro e w3 ⟨rfl, hb⟩
               have HS3 := Lib.hid (HS2.out.below hb)
               have HR3 := Lib.hid (HR2.out.under hb)
               have HX3 := Lib.hid (HX2.out.under hb)
               have HF3 := Lib.hid (And.intro (HF2.out.1.below hb) (HF2.out.2.below hb))
               clear hb c0 c1 c2 c3 c4 hlw HS2 HR2 HX2 HF2 HT
               obtain ⟨c0, c1, c2, c3, c4, hlw⟩ := HS3.out.cells
               have b0 := HF3.out.1.cell 0
               have b1 := HF3.out.1.cell 1
               have b2 := HF3.out.1.cell 2
               have b3 := HF3.out.1.cell 3
               have b4 := HF3.out.1.cell 4
               have f0 := HF3.out.2.cell 0
               have f1 := HF3.out.2.cell 1
               simp at b0 b1 b2 b3 b4 f0 f1
               have hbl := HF3.out.1.lt
               have hfl := HF3.out.2.lt
               go_wp2_with fail
               refine (dSame_any (SizeOf.sizeOf d + 1) d d (Nat.lt_succ_self _) _ _ _ _ _ _ _ HX3.out HR3.out HLIM.out HLIM.out).mono ?_
               rintro e w4 ⟨r, rfl, hr, hb⟩
               obtain rfl : r = true := hr.2 rfl
               have HB4 := Lib.hid (HS3.out.2.trans (hb.mono (Nat.le_of_lt HS3.out.1.lt)))
               clear hr hb c0 c1 c2 c3 c4 hlw b0 b1 b2 b3 b4 f0 f1 hbl hfl HS3 HR3 HX3 HF3
               go_wp2_with fail
               refine (HAL.out _ HB4.out).mono ?_
               rintro e w5 ⟨rfl, hb⟩
               have HB5 := Lib.hid (HB4.out.trans (hb.mono HB4.out.size))
               clear hb HB4
               go_wp2_with fail
               go_ret
               exact ⟨rfl, HB5.out⟩
 · have hN0 : NsS w true 0 (w.alloc (.cells #[.int .i64 6, .int .i64 0, .string ⟨#[]⟩, .slice none 0 0, .slice none 0 0] 25)) := ⟨none, none, 0, 0, CkS.new w (nestD true 0) _ _, nest_zero_rep _ _ true⟩
   have HPRE := Lib.hid (nest_pre true (n - 1) (by omega))
   have HLEN := Lib.hid (fun k (hk : k < 40) => nest_lens true k hk)
   have HPX := Lib.hid (fun w' (hb : Below w.heap.size w w') => (show Calls Tryz.prog 18 #[.string (S (ct (preS true (n - 1)) [123, 125]))] w' (PrsP w' (if n - 1 < 16 then (nestD true (n - 1), 0, 0) else (dat0, 9, 0))) from by
     have hq := HPRE.out.1
     have hl := (HLEN.out (n - 1) (by omega)).1
     have h := hP (ct (preS true (n - 1)) [123, 125]) (by rw [ct_len]; simp; omega) w' hb
     rwa [show parseY (ct (preS true (n - 1)) [123, 125]) = _ from (congrArg parseY hq).trans (nest_parse true (n - 1) (by omega))] at h))
   have HTX := Lib.hid (fun (h16 : n - 1 < 16) vi vm w' (hr : Rep w' (fun C => w.heap.size < C) (nestD true (n - 1)) vi vm) (hb : Below w.heap.size w w') => (show Calls Tryz.prog 14 #[.agg #[.int .i64 (nestD true (n - 1)).k, .int .i64 (nestD true (n - 1)).n, .string (S (nestD true (n - 1)).s), vi, vm]] w' (fun e w'' => e = .returned (.tuple #[.string (S (ct (ct (preS true (n - 1)) [123, 125]) [10])), .int .i64 0]) ∧ Below w'.heap.size w' w'') from by
     have ht := nest_text true (n - 1) h16
     have hl := (HLEN.out (n - 1) (by omega)).1
     have he : joinLn (nestDoc true (n - 1)) = ct (ct (preS true (n - 1)) [123, 125]) [10] := HPRE.out.2
     have h := text_anyY hr (nest_lim true (n - 1)) (fun _ => by rw [nest_doc, he, ct_len, ct_len]; simp; omega) (hE.num.below hb)
     unfold textV2 at h
     rw [ht, he] at h
     exact h))
   have HLIM := Lib.hid (nest_lim true (n - 1))
   clear hE hP HPRE
   go_enter Tryz.func10, Tryz.ntmps10
   go_upto_region 8 with fail
   generalize w.alloc (.cells #[.int .i64 6, .int .i64 0, .string ⟨#[]⟩, .slice none 0 0, .slice none 0 0] 25) = W0 at hN0 ⊢
   have HN0 := Lib.hid hN0
   clear hN0
   go_wp2_with fail
   go_loopw [8, 9, 10] (fun s d x wr => ∃ k : Nat, s = .string (S (opnS true k)) ∧ d = .string (S (indS k)) ∧ x = .int .i64 ((k : Int) + 1) ∧ k ≤ n - 2 ∧ wr = W0) (fun _ _ x _ => n - (intOf x).toNat)
   case atStart => exact ⟨0, rfl, rfl, rfl, Nat.zero_le _, rfl⟩
   case round =>
     obtain ⟨k, rfl, rfl, rfl, hk, hwr⟩ := hrel
     subst hwr
     obtain ⟨-, hl1, hl2⟩ := HLEN.out k (by omega)
     by_cases hlt : k + 2 < n
     · have t1 : (k : Int) + 1 + 1 < (n : Int) := by omega
       have HO := Lib.hid (show opnS true (k + 1) = ct (ct (ct (opnS true k) (indS k)) [97, 58]) [10] from rfl)
       have HI := Lib.hid (show indS (k + 1) = ct (indS k) [32, 32] from rfl)
       generalize opnS true k = oa at *
       generalize indS k = ob at *
       go_wp2_with fail
       go_roundw
       case rel => exact ⟨k + 1, by rw [HO.out], by rw [HI.out], by go_num, by omega, by trivial⟩
       case measure => simp [intOf]; omega
     · have t1 : ¬ ((k : Int) + 1 + 1 < (n : Int)) := by omega
       have HPR := Lib.hid (show preS true (n - 1) = if n = 1 then [] else ct (ct (ct (opnS true k) (indS k)) [97, 58]) [32] from by
         by_cases h1 : n = 1
         · rw [if_pos h1]; unfold preS; rw [if_pos (by omega)]
         · rw [if_neg h1]; unfold preS; rw [if_neg (by omega), show n - 1 - 1 = k by omega]; rfl)
       have HO1 := Lib.hid (fun (h1 : n = 1) => (show opnS true k = [] from by rw [show k = 0 by omega]; rfl))
       have hpl := (HLEN.out (n - 1) (by omega)).1
       generalize preS true (n - 1) = pre at *
       generalize opnS true k = oa at *
       generalize indS k = ob at *
       go_upto_if 42 with fail
       go_cut [8] (fun v wx => v = .string (S pre) ∧ wx = wr)
       case first =>
         by_cases h1 : n = 1
         · have t2 : ¬ ((1 : Int) < (n : Int)) := by omega
           have HQ := Lib.hid (show oa = pre by rw [HPR.out, if_pos h1, HO1.out h1])
           clear h1 HPR HO1 HPX HTX
           go_wp2_with fail
           go_meet
           exact ⟨by rw [HQ.out], rfl⟩
         · have t2 : (1 : Int) < (n : Int) := by omega
           have HQ := Lib.hid (show pre = _ from HPR.out.trans (if_neg h1))
           clear h1 HPR HO1 HPX HTX
           go_wp2_with fail
           go_meet
           exact ⟨by rw [HQ.out], rfl⟩
       case rest =>
         obtain ⟨rfl, hwc⟩ := hcut
         subst hwc
         clear HPR HO1 hl1 hl2 t1 hlt hk HLEN
         go_wp2_with fail
         go_loopw [11] (fun x wr => ∃ j : Nat, x = .int .i64 ((j : Int) + 1) ∧ j + 1 ≤ n ∧ Hid (NsS w true j wr)) (fun x _ => n - (intOf x).toNat)
         case atStart => exact ⟨0, rfl, by omega, HN0⟩
         case round =>
           clear HN0
           obtain ⟨j, rfl, hj, HN⟩ := hrel
           by_cases hlt : j + 1 < n
           · have t1 : (j : Int) + 1 < (n : Int) := by omega
             obtain ⟨p, q, cap, caq, hS, hr⟩ := HN.out
             generalize hx : nestD true j = x at hS hr
             have HNX := Lib.hid (nest_mem hx.symm hS hr)
             obtain ⟨c0, c1, c2, c3, c4, hlw⟩ := hS.cells
             have f0 := hS.1.frozen 0
             have f1 := hS.1.frozen 1
             have f2 := hS.1.frozen 2
             have f3 := hS.1.frozen 3
             have f4 := hS.1.frozen 4
             clear hS hr HN hx HPX HTX HAL
             go_wp2_with fail
             go_roundw
             case rel => exact ⟨j + 1, by go_num, by omega, HNX⟩
             case measure => simp [intOf]; omega
           · have t1 : ¬ ((j : Int) + 1 < (n : Int)) := by omega
             obtain rfl : j = n - 1 := by omega
             obtain ⟨p, q, cap, caq, hS, hr⟩ := HN.out
             by_cases h16 : 16 < n
             · have t2 : (16 : Int) < (n : Int) := by omega
               rw [if_neg (show ¬ (n - 1 < 16) by omega)] at HPX
               have HB := Lib.hid hS.2
               clear hS hr HN HTX HLIM
               go_wp2_with fail
               refine (HPX.out _ HB.out).mono ?_
               rintro e v2 hp
               obtain ⟨xp, xc, yp, yc, rfl, hr, hb⟩ := hp.open
               have hn := val_two v2 #[.int .i64 dat0.k, .int .i64 dat0.n, .string (S dat0.s), .slice xp dat0.its.length xc, .slice yp dat0.mem.length yc] #[.int .i64 9, .int .i64 0] 25 33
               have HB2 := Lib.hid (HB.out.trans ((hb.trans (hn.2.2.mono hb.size)).mono HB.out.size))
               clear hr hp hb HPX HB
               go_upto_region 23 with fail
               generalize (v2.alloc (.cells #[.int .i64 dat0.k, .int .i64 dat0.n, .string (S dat0.s), .slice xp dat0.its.length xc, .slice yp dat0.mem.length yc] 25)).alloc (.cells #[.int .i64 9, .int .i64 0] 33) = w2 at hn HB2 ⊢
               have c0 : w2.cell? ⟨v2.heap.size, 0, none⟩ = some (.int .i64 0) := hn.1.cell 0
               have e0 := hn.2.1.cell 0
               have e1 := hn.2.1.cell 1
               simp at e0 e1
               clear hn
               go_wp2_with fail
               refine (HAL.out _ HB2.out).mono ?_
               rintro e w3 ⟨rfl, hb⟩
               have HB3 := Lib.hid (HB2.out.trans (hb.mono HB2.out.size))
               clear hb c0 e0 e1 HB2
               go_wp2_with fail
               go_ret
               exact ⟨rfl, HB3.out⟩
             · have t2 : ¬ ((16 : Int) < (n : Int)) := by omega
               rw [if_pos (show n - 1 < 16 by omega)] at HPX
               have HT := Lib.hid (HTX.out (show n - 1 < 16 by omega) (.slice p (nestD true (n - 1)).its.length cap) (.slice q (nestD true (n - 1)).mem.length caq))
               have HS := Lib.hid hS
               have HR := Lib.hid hr
               clear hS hr HN HTX
               generalize nestD true (n - 1) = d at HPX HT HS HR HLIM
               have tt : (ct (ct pre [123, 125]) [10] == ct (ct pre [123, 125]) [10]) = true := beq_self_eq_true _
               go_wp2_with fail
               refine (HPX.out _ HS.out.2).mono ?_
               rintro e v2 hp
               obtain ⟨xp, xc, yp, yc, rfl, hr, hb⟩ := hp.open
               simp only at hr ⊢
               have hn := val_two v2 #[.int .i64 d.k, .int .i64 d.n, .string (S d.s), .slice xp d.its.length xc, .slice yp d.mem.length yc] #[.int .i64 0, .int .i64 0] 25 33
               have hS5 := (HS.out.below hb).below hn.2.2
               have hR5 := (HR.out.under hb).under hn.2.2
               have hx5 := hr.under hn.2.2
               clear hr hp hb HS HR HPX
               go_upto_region 23 with fail
               generalize (v2.alloc (.cells #[.int .i64 d.k, .int .i64 d.n, .string (S d.s), .slice xp d.its.length xc, .slice yp d.mem.length yc] 25)).alloc (.cells #[.int .i64 0, .int .i64 0] 33) = w2 at hn hS5 hR5 hx5 ⊢
               have HS2 := Lib.hid hS5
               have HR2 := Lib.hid hR5
               have HX2 := Lib.hid hx5
               have HF2 := Lib.hid (And.intro hn.1 hn.2.1)
               clear hS5 hR5 hx5 hn
               obtain ⟨c0, c1, c2, c3, c4, hlw⟩ := HS2.out.cells
               go_wp2_with fail
               refine (HT.out _ HR2.out HS2.out.2).mono ?_
               rintro e w3 ⟨rfl, hb⟩
               have HS3 := Lib.hid (HS2.out.below hb)
               have HR3 := Lib.hid (HR2.out.under hb)
               have HX3 := Lib.hid (HX2.out.under hb)
               have HF3 := Lib.hid (And.intro (HF2.out.1.below hb) (HF2.out.2.below hb))
               clear hb c0 c1 c2 c3 c4 hlw HS2 HR2 HX2 HF2 HT
               obtain ⟨c0, c1, c2, c3, c4, hlw⟩ := HS3.out.cells
               have b0 := HF3.out.1.cell 0
               have b1 := HF3.out.1.cell 1
               have b2 := HF3.out.1.cell 2
               have b3 := HF3.out.1.cell 3
               have b4 := HF3.out.1.cell 4
               have f0 := HF3.out.2.cell 0
               have f1 := HF3.out.2.cell 1
               simp at b0 b1 b2 b3 b4 f0 f1
               have hbl := HF3.out.1.lt
               have hfl := HF3.out.2.lt
               go_wp2_with fail
               refine (dSame_any (SizeOf.sizeOf d + 1) d d (Nat.lt_succ_self _) _ _ _ _ _ _ _ HX3.out HR3.out HLIM.out HLIM.out).mono ?_
               rintro e w4 ⟨r, rfl, hr, hb⟩
               obtain rfl : r = true := hr.2 rfl
               have HB4 := Lib.hid (HS3.out.2.trans (hb.mono (Nat.le_of_lt HS3.out.1.lt)))
               clear hr hb c0 c1 c2 c3 c4 hlw b0 b1 b2 b3 b4 f0 f1 hbl hfl HS3 HR3 HX3 HF3
               go_wp2_with fail
               refine (HAL.out _ HB4.out).mono ?_
               rintro e w5 ⟨rfl, hb⟩
               have HB5 := Lib.hid (HB4.out.trans (hb.mono HB4.out.size))
               clear hb HB4
               go_wp2_with fail
               go_ret
               exact ⟨rfl, HB5.out⟩
end Go.Proofs.YtdalfkklkeblaaaGreatDoor
