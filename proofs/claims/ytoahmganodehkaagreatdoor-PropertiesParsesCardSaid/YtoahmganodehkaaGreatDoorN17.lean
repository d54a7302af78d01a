import Derived.Test.YtoahmganodehkaaGreatDoorN01
import Derived.Maps.AppendAt
import Derived.Test.YtoahmganodehkaaGreatDoorN12
import Derived.Test.YtoahmganodehkaaGreatDoorN15
import Derived.Test.YtoahmganodehkaaGreatDoorN16
import Derived.Test.YtoahmganodehkaaGreatDoorN03
import Derived.Test.YtoahmganodehkaaGreatDoorN09
import Derived.Test.YtoahmganodehkaaGreatDoorN06
import Derived.Test.YtoahmganodehkaaGreatDoorN13
import Derived.Test.YtoahmganodehkaaGreatDoorN02
import Derived.OneCell
import Derived.Test.YtoahmganodehkaaGreatDoorN08
import Derived.Test.YtoahmganodehkaaGreatDoorCards
import Derived.Test.YtoahmganodehkaaGreatDoorTie
import Derived.Test.YtoahmganodehkaaGreatDoorN04
import Derived.ProofKit
import Derived.OpenShut
import Derived.ShutString
import Derived.ChangeOld
import Derived.Deep.DeepHandedRow
import Derived.Stop.LaidErr
import Derived.Lib.LaidTab
namespace Go.Proofs.YtoahmganodehkaaGreatDoor
set_option linter.unusedSimpArgs false
set_option linter.unusedVariables false
section
open Go.RowKit
def apP (N : Nat) (v : Value) (B : Nat) : Prop := N ≤ B ∧ some B ≠ v.ownBlock
structure PaS (w : World) (v : Value) (T : List Env) (W : World) : Prop where
 own : W.ownsRow w.heap.size 74 6 v T.length (flatE T)
 good : ∀ t ∈ T, t.good W (apP w.heap.size v)
 bel : Below w.heap.size w W
theorem PaS.new (w : World) : PaS w (.slice none 0 0) [] w := ⟨World.ownsRow_nil _ _ _ _, by simp, Below.refl _ _⟩
theorem PaS.under {w : World} {v : Value} {T : List Env} {W W' : World} (h : PaS w v T W) (hb : Below W.heap.size W W') : PaS w v T W' :=
 ⟨own_under h.own hb, fun t ht => (h.good t ht).under hb, h.bel.trans (hb.mono h.bel.size)⟩
theorem PaS.apart {w : World} {v : Value} {T : List Env} {W : World} (h : PaS w v T W) {B : Nat} (hB : W.heap.size ≤ B) : apP w.heap.size v B :=
 ⟨Nat.le_trans h.bel.size hB, fun e => by have := (own_ge h.own e.symm).2; omega⟩
theorem PaS.push {w : World} {v v' : Value} {T : List Env} {W W1 : World} {o : Obj} (h : PaS w v T W) {t : Env} (ht : t.good W (apP w.heap.size v))
   (ho : W1.ownsRow w.heap.size 74 6 v' (T.length + 1) (flatE T ++ cellsE t)) (hg : (W.alloc o).grownBy W1 v.ownBlock) (ha : v'.ownBlock = v.ownBlock ∨ v'.ownBlock = some (W.alloc o).heap.size) :
   PaS w v' (T ++ [t]) W1 := by
 have hb : Below W.heap.size W (W.alloc o) := (Below.refl _ _).alloc (Nat.le_refl _) _
 have hmono : ∀ {u : Env}, u.good W (apP w.heap.size v) → u.good W1 (apP w.heap.size v') := fun hd => by
   have h1 := hd.mono (ok' := fun B => apP w.heap.size v' B ∧ some B ≠ v.ownBlock) (fun B hB ⟨a, d⟩ => ⟨⟨a, by
     rcases ha with e1 | e1
     · rw [e1]; exact d
     · rw [e1]; intro e2; injection e2 with e2; have := hb.size; omega⟩, d⟩)
   have h2 := (h1.under hb).grown hg fun B hB => hB.2
   exact h2.mono fun B _ hB => hB.1
 refine ⟨by rw [List.length_append, flatE_snoc]; exact ho, ?_, below_own (h.bel.alloc h.bel.size o) (h.own.alloc o) hg (Nat.le_refl _) (h.bel.alloc h.bel.size o).size⟩
 intro u hu
 rcases List.mem_append.1 hu with hu | hu
 · exact hmono (h.good u hu)
 · rw [List.mem_singleton.1 hu]; exact hmono ht
theorem PaS.ents {w : World} {v : Value} {T : List Env} {W : World} (h : PaS w v T W) : EntR W (fun _ => True) v (T.map Env.e) :=
 own_ents h.own (fun _ _ => trivial) fun t ht => (h.good t ht).mono fun _ _ _ => trivial
theorem byt_is {l : List UInt8} {k : Nat} (h : k < l.length) : byt l k = l[k] := by simp [byt, List.getD, h]
theorem line_ends {l : List UInt8} {a i : Nat} (ha : a ≤ i) (hi : i ≤ l.length) (hno : ∀ j, a ≤ j → j < i → byt l j ≠ 10) (he : i < l.length → byt l i = 10) (n : Nat) : linesP parseP (restC l a) n = if skipB (sl l a i) = true then linesP parseP (restC l (i + 1)) (n + 1) else
   match entryP parseP (sl l a i) with
   | none => .error n
   | some e => match linesP parseP (restC l (i + 1)) (n + 1) with
     | .error k => .error k
     | .ok L => .ok (e :: L) := by
 rw [rest_line ha hi (fun j h h1 h2 => byt_is h ▸ hno j h1 h2) (fun h => byt_is h ▸ he h), linesP]
 split
 · rfl
 · cases entryP parseP (sl l a i) with
   | none => rfl
   | some e => cases linesP parseP (restC l (i + 1)) (n + 1) <;> rfl
theorem infoREnt2 : (Tryz.prog.info? 74).map (fun i => (i.zero, i.size, i.bytes)) = some (some (.agg #[.slice none 0 0, .int .i64 0, .int .i64 0, .string ⟨#[]⟩, .slice none 0 0, .slice none 0 0]), 6, 104) := by kernel_rfl
set_option maxRecDepth 100000 in
set_option maxHeartbeats 8000000 in
theorem refPParse_any (hp : PpOk parseP) (hlen : ∀ s, s.length ≤ 65536 → (parseP s).1.length ≤ 1000000) (l : List UInt8) (hl : l.length ≤ 1000000) (w : World) :
   Calls Tryz.prog 23 #[.string (S l)] w (PrsP w (parseD parseP l)) := by
 have hN : Blk ((w.alloc (.cells #[.int .i64 0, .int .i64 0, .string ⟨#[]⟩, .slice none 0 0, .slice none 0 0] 26)).alloc (.cells #[.int .i64 0, .int .i64 0] 29)) w.heap.size #[.int .i64 0, .int .i64 0, .string ⟨#[]⟩, .slice none 0 0, .slice none 0 0] 26 ∧ Blk ((w.alloc (.cells #[.int .i64 0, .int .i64 0, .string ⟨#[]⟩, .slice none 0 0, .slice none 0 0] 26)).alloc (.cells #[.int .i64 0, .int .i64 0] 29)) (w.heap.size + 1) #[.int .i64 0, .int .i64 0] 29 ∧ Below w.heap.size w ((w.alloc (.cells #[.int .i64 0, .int .i64 0, .string ⟨#[]⟩, .slice none 0 0, .slice none 0 0] 26)).alloc (.cells #[.int .i64 0, .int .i64 0] 29)) := two_new w _ _ _ _
 have HPD := Lib.hid (show parseD parseP l = if 65536 < l.length then (dat0, 2, 0) else match linesP parseP (splitC 10 l) 1 with | .error n => (dat0, 19, n) | .ok L => ((buildD L).1, (buildD L).2, 0) from rfl)
 generalize parseD parseP l = r at HPD ⊢
 by_cases hbig : 65536 < l.length
 · have HR := Lib.hid (show r = (dat0, 2, 0) by rw [HPD.out, if_pos hbig])
   have b1 : (65536 : Int) < (l.length : Int) := by omega
   go_enter Tryz.func23, Tryz.ntmps23
   go_upto_region 1 with fail
   generalize (w.alloc (.cells #[.int .i64 0, .int .i64 0, .string ⟨#[]⟩, .slice none 0 0, .slice none 0 0] 26)).alloc (.cells #[.int .i64 0, .int .i64 0] 29) = W at hN ⊢
   have z0 := hN.1.cell 0
   have z1 := hN.1.cell 1
   have z2 := hN.1.cell 2
   have z3 := hN.1.cell 3
   have z4 := hN.1.cell 4
   have y0 := hN.1.frozen 0
   have y1 := hN.1.frozen 1
   have y2 := hN.1.frozen 2
   have y3 := hN.1.frozen 3
   have y4 := hN.1.frozen 4
   have x0 := hN.2.1.cell 0
   have x1 := hN.2.1.cell 1
   have v0 := hN.2.1.frozen 0
   have v1 := hN.2.1.frozen 1
   simp at z0 z1 z2 z3 z4 x0 x1
   have hzl := hN.1.lt
   have hxl := hN.2.1.lt
   have HB := Lib.hid hN.2.2
   clear hN hbig
   go_wp2_with fail
   refine bodyPost_ret (v := .tuple #[.agg #[.int .i64 0, .int .i64 0, .string ⟨#[]⟩, .slice none 0 0, .slice none 0 0], .agg #[.int .i64 2, .int .i64 0]]) (by simp [results, Tryz.results23, go_sem, z0, z1, z2, z3, z4, y0, y1, y2, y3, y4, hzl, x0, x1, v0, v1, hxl]) rfl ?_
   rw [HR.out]
   refine PrsP.no w ?_
   have hbw := HB.out
   go_grown
   all_goals exact hbw
 · have b1 : ¬ ((65536 : Int) < (l.length : Int)) := by omega
   have HPD1 := Lib.hid (show r = (match linesP parseP (splitC 10 l) 1 with | .error n => (dat0, 19, n) | .ok L => ((buildD L).1, (buildD L).2, 0)) by rw [HPD.out, if_neg hbig])
   have hl6 : l.length ≤ 65536 := by omega
   obtain ⟨i0, hi, hz0, hz1, hz2⟩ := info_parts infoREnt2
   have HP := Lib.hid hp
   have HLE := Lib.hid hlen
   clear hbig HPD hp hlen hl
   go_enter Tryz.func23, Tryz.ntmps23
   go_upto_region 1 with fail
   generalize (w.alloc (.cells #[.int .i64 0, .int .i64 0, .string ⟨#[]⟩, .slice none 0 0, .slice none 0 0] 26)).alloc (.cells #[.int .i64 0, .int .i64 0] 29) = W at hN ⊢
   have HN := Lib.hid hN
   clear hN
   have HS0 := Lib.hid (PaS.new W)
   have HI0 : Hid (joinL (([] : List Env).map Env.e) (linesP parseP (restC l 0) (0 + 1)) = linesP parseP (splitC 10 l) 1) := Lib.hid (by rw [rest_zero]; exact joinL_nil _)
   have HL0 : Hid (∀ e ∈ ([] : List Env).map Env.e, e.1.length ≤ 1000000 ∧ limD e.2 = true ∧ ∀ x ∈ e.1, x.lab.length ≤ 1000000) := Lib.hid (by simp)
   go_wp2_with fail
   go_loopw [4, 5, 6, 7] (fun u f g x wr => ∃ (i fr ln : Nat) (T : List Env) (up : Option Addr) (uc : Nat), u = .slice up T.length uc ∧ f = .int .i64 (fr : Int) ∧ g = .int .i64 (ln : Int) ∧ x = .int .i64 (i : Int) ∧ i ≤ l.length + 1 ∧ fr ≤ i ∧ ln ≤ i ∧ T.length ≤ ln ∧ (i = l.length + 1 → fr = l.length + 1) ∧ Hid (PaS W (.slice up T.length uc) T wr) ∧ Hid (joinL (T.map Env.e) (linesP parseP (restC l fr) (ln + 1)) = linesP parseP (splitC 10 l) 1) ∧ Hid (∀ j, fr ≤ j → j < i → byt l j ≠ 10) ∧ Hid (∀ e ∈ T.map Env.e, e.1.length ≤ 1000000 ∧ limD e.2 = true ∧ ∀ x ∈ e.1, x.lab.length ≤ 1000000)) (fun _ _ _ x _ => l.length + 1 - (intOf x).toNat)
   case atStart => exact ⟨0, 0, 0, [], none, 0, rfl, rfl, rfl, rfl, Nat.zero_le _, Nat.le_refl _, Nat.le_refl _, Nat.le_refl _, (fun h => by omega), HS0, HI0, Lib.hid (fun j h1 h2 => by omega), HL0⟩
   case round =>
     clear HS0 HI0 HL0
     obtain ⟨i, fr, ln, T, up, uc, rfl, rfl, rfl, rfl, hi1, hfi, hln, hTl, hend, HS, HI, HNO, HL⟩ := hrel
     by_cases hle : i ≤ l.length
     · have c0 : (i : Int) ≤ (l.length : Int) := by omega
       by_cases hgo : i < l.length ∧ byt l i ≠ 10
       · obtain ⟨hil, h10⟩ := hgo
         have T2 : (((byt l i).toNat : Int) == 10) = false := u8_ne h10
         have T1 : (((byt l i).toNat : Int) != 10) = true := by
           show (!(((byt l i).toNat : Int) == 10)) = true
           rw [T2]; rfl
         have HNO2 : Hid (∀ j, fr ≤ j → j < i + 1 → byt l j ≠ 10) := Lib.hid (fun j h1 h2 => by
           rcases Nat.lt_succ_iff_lt_or_eq.1 h2 with h | h
           · exact HNO.out j h1 h
           · subst h; exact h10)
         clear h10 HNO
         go_wp2_with fail
         go_roundw
         case rel => exact ⟨i + 1, fr, ln, T, up, uc, rfl, rfl, rfl, by go_num, by omega, by omega, by omega, hTl, (fun h => by omega), HS, HI, HNO2, HL⟩
         case measure => simp [intOf]; omega
       · have hte : i < l.length → byt l i = 10 := fun h => Classical.byContradiction fun hn => hgo ⟨h, hn⟩
         have HLE1 := Lib.hid (line_ends hfi hle HNO.out hte (ln + 1))
         go_upto_region 9 with fail
         go_cut [33] (fun b wx => b = .bool false ∧ wr = wx)
         case first =>
           by_cases hil : i < l.length
           · have h10 := hte hil
             have T1 : (((byt l i).toNat : Int) != 10) = false := by rw [h10]; rfl
             have T2 : (((byt l i).toNat : Int) == 10) = true := by rw [h10]; rfl
             go_wp2_with fail
             go_meet
             exact ⟨rfl, rfl⟩
           · have c1 : ¬ ((i : Int) < (l.length : Int)) := by omega
             go_wp2_with fail
             go_meet
             exact ⟨rfl, rfl⟩
         case rest =>
           obtain ⟨rfl, rfl⟩ := hcut
           have hxl : (sl l fr i).length ≤ 65536 := Nat.le_trans (sl_le l fr i) (by omega)
           have w1' : IntKind.i64.wrap ((ln : Int) + 1) = (ln : Int) + 1 := IntWalk.i64_in _ (by omega)
           have w2' : IntKind.i64.wrap ((i : Int) + 1) = (i : Int) + 1 := IntWalk.i64_in _ (by omega)
           have c2 : (0 : Int) ≤ (fr : Int) := by omega
           have c3 : (fr : Int) ≤ (i : Int) := by omega
           have HNN : Hid (∀ j, i + 1 ≤ j → j < i + 1 → byt l j ≠ 10) := Lib.hid (fun j h1 h2 => by omega)
           clear hgo hte HNO
           go_upto_region 13 with fail
           generalize sl l fr i = x at HLE1 hxl ⊢
           go_cut [53] (fun b wx => b = .bool (skipB x) ∧ wr = wx)
           case first =>
             rcases Nat.eq_zero_or_pos x.length with h0 | h0
             · obtain rfl := List.length_eq_zero_iff.1 h0
               have T1 : (([] : List UInt8) == []) = true := rfl
               go_wp2_with fail
               go_meet
               exact ⟨rfl, rfl⟩
             · have hx0 : x ≠ [] := List.length_pos_iff.1 h0
               have T1 : (x == []) = false := beq_eq_false_iff_ne.2 hx0
               rcases Nat.lt_or_ge x.length 2 with h2 | h2
               · have HSK := Lib.hid (skip_one hx0 h2)
                 have c4 : ¬ ((2 : Int) ≤ (x.length : Int)) := by omega
                 clear hx0
                 go_wp2_with fail
                 go_meet
                 exact ⟨by rw [HSK.out], rfl⟩
               · have HSK := Lib.hid (skip_two h2)
                 have c4 : (2 : Int) ≤ (x.length : Int) := by omega
                 clear hx0
                 go_wp2_with fail
                 go_meet
                 exact ⟨by rw [HSK.out], rfl⟩
           case rest =>
             obtain ⟨rfl, rfl⟩ := hcut
             rcases Bool.eq_false_or_eq_true (skipB x) with hsk | hsk
             · have HI5 : Hid (joinL (T.map Env.e) (linesP parseP (restC l (i + 1)) (ln + 1 + 1)) = linesP parseP (splitC 10 l) 1) := Lib.hid (by rw [← HI.out, HLE1.out, if_pos hsk])
               rw [hsk]
               clear hsk HI HLE1
               go_wp2_with fail
               go_roundw
               case rel => exact ⟨i + 1, i + 1, ln + 1, T, up, uc, rfl, by go_num, by go_num, by go_num, by omega, Nat.le_refl _, by omega, by omega, (fun h => h), HS, HI5, HNN, HL⟩
               case measure => simp [intOf]; omega
             · rw [hsk]
               have HLE2 := Lib.hid (show linesP parseP (restC l fr) (ln + 1) = (match entryP parseP x with
                 | none => .error (ln + 1)
                 | some e => match linesP parseP (restC l (i + 1)) (ln + 1 + 1) with
                   | .error k => .error k
                   | .ok L => .ok (e :: L)) by rw [HLE1.out, hsk]; rfl)
               have HEL := Lib.hid (fun e (h : entryP parseP x = some e) => ent_lims HP.out HLE.out hxl h)
               have HEN := Lib.hid (fun w' => refentry_any x hxl w')
               clear hsk HLE1 hxl
               generalize entryP parseP x = oe at HLE2 HEL HEN
               go_wp2_with fail
               refine (HEN.out _).mono ?_
               rintro e w5 ⟨pv, k, nn, s, ⟨ep, en, ec, rfl⟩, rfl, hgood, hb⟩
               have HS5 := Lib.hid (HS.out.under hb)
               have HG5 := Lib.hid hgood
               have HSZ := Lib.hid hb.size
               clear hgood hb HEN
               rcases oe with _ | ⟨P, D⟩
               · rw [Option.isSome_none]
                 have HR := Lib.hid (show r = (dat0, 19, ln + 1) by rw [HPD1.out, ← HI.out, HLE2.out]; rfl)
                 have hb5 := HN.out.2.2.trans (HS5.out.bel.mono HN.out.2.2.size)
                 have hA := (HN.out.1.below HS5.out.bel).alloc (.cells #[.slice ep en ec, .int .i64 k, .int .i64 nn, .string (S s), .slice none 0 0, .slice none 0 0] 74)
                 have hB := (HN.out.2.1.below HS5.out.bel).alloc (.cells #[.slice ep en ec, .int .i64 k, .int .i64 nn, .string (S s), .slice none 0 0, .slice none 0 0] 74)
                 have HB6 := Lib.hid (hb5.alloc hb5.size (.cells #[.slice ep en ec, .int .i64 k, .int .i64 nn, .string (S s), .slice none 0 0, .slice none 0 0] 74))
                 clear hb5 HLE2 HI
                 go_upto_region 15 with fail
                 generalize w5.alloc (.cells #[.slice ep en ec, .int .i64 k, .int .i64 nn, .string (S s), .slice none 0 0, .slice none 0 0] 74) = W5 at hA hB HB6 ⊢
                 have z0 := hA.cell 0
                 have z1 := hA.cell 1
                 have z2 := hA.cell 2
                 have z3 := hA.cell 3
                 have z4 := hA.cell 4
                 have y0 := hA.frozen 0
                 have y1 := hA.frozen 1
                 have y2 := hA.frozen 2
                 have y3 := hA.frozen 3
                 have y4 := hA.frozen 4
                 have x0 := hB.cell 0
                 have x1 := hB.cell 1
                 have v0 := hB.frozen 0
                 have v1 := hB.frozen 1
                 simp at z0 z1 z2 z3 z4 x0 x1
                 have hzl := hA.lt
                 have hxl := hB.lt
                 clear hA hB
                 go_wp2_with fail
                 refine bodyPost_ret (v := .tuple #[.agg #[.int .i64 0, .int .i64 0, .string ⟨#[]⟩, .slice none 0 0, .slice none 0 0], .agg #[.int .i64 19, .int .i64 ((ln : Int) + 1)]]) (by simp [results, Tryz.results23, go_sem, z0, z1, z2, z3, z4, y0, y1, y2, y3, y4, hzl, x0, x1, v0, v1, hxl]) rfl ?_
                 rw [HR.out]
                 refine PrsP.no w ?_
                 have hbw := HB6.out
                 go_grown
                 all_goals exact hbw
               · rw [Option.isSome_some]
                 obtain ⟨hsl, hD⟩ := HG5.out _ rfl
                 simp only at hsl hD
                 obtain ⟨pe, ce, hpe⟩ := slk_form hsl
                 injection hpe with e1 e2 e3
                 subst e1; subst e2; subst e3
                 have hgE : (⟨P, D, .slice ep P.length ec, .slice none 0 0, .slice none 0 0⟩ : Env).good w5 (apP W.heap.size (.slice up T.length uc)) := ⟨hsl.mono fun B _ hB => HS.out.apart hB, by rw [hD]; exact rep_leaf _ _ rfl rfl none none 0 0⟩
                 have HGE := Lib.hid (hgE.under ((Below.refl _ _).alloc (Nat.le_refl _) (.cells #[.slice ep P.length ec, .int .i64 k, .int .i64 nn, .string (S s), .slice none 0 0, .slice none 0 0] 74)))
                 have HS6 := Lib.hid (HS5.out.under ((Below.refl _ _).alloc (Nat.le_refl _) (.cells #[.slice ep P.length ec, .int .i64 k, .int .i64 nn, .string (S s), .slice none 0 0, .slice none 0 0] 74)))
                 have hK := Blk.new w5 #[.slice ep P.length ec, .int .i64 k, .int .i64 nn, .string (S s), .slice none 0 0, .slice none 0 0] 74
                 have HDD := Lib.hid hD
                 have HI5 : Hid (joinL ((T.map Env.e) ++ [(P, D)]) (linesP parseP (restC l (i + 1)) (ln + 1 + 1)) = linesP parseP (splitC 10 l) 1) := Lib.hid (by rw [← HI.out, HLE2.out, joinL_cons]; rfl)
                 have HL5 : Hid (∀ e ∈ (T.map Env.e) ++ [(P, D)], e.1.length ≤ 1000000 ∧ limD e.2 = true ∧ ∀ x ∈ e.1, x.lab.length ≤ 1000000) := Lib.hid (by
                   intro e he
                   rcases List.mem_append.1 he with he | he
                   · exact HL.out e he
                   · rw [List.mem_singleton.1 he]; exact HEL.out _ rfl)
                 clear hsl hD hgE HI HLE2 HG5
                 go_upto_region 15 with fail
                 generalize w5.alloc (.cells #[.slice ep P.length ec, .int .i64 k, .int .i64 nn, .string (S s), .slice none 0 0, .slice none 0 0] 74) = W5 at HGE HS6 hK ⊢
                 have k0 := hK.cell 0
                 have k1 := hK.cell 1
                 have k2 := hK.cell 2
                 have k3 := hK.cell 3
                 have k4 := hK.cell 4
                 have k5 := hK.cell 5
                 simp at k0 k1 k2 k3 k4 k5
                 clear hK
                 go_wp2_with (at_builtin; refine wpList_append_own_at _ rfl _ _ 48 rfl W.heap.size 74 i0 (.agg #[.slice none 0 0, .int .i64 0, .int .i64 0, .string ⟨#[]⟩, .slice none 0 0, .slice none 0 0]) 6 104 Tryz.underlying48 hi hz0 hz1 hz2 rfl (by decide) (.slice up T.length uc) T.length (flatE T) rfl (HS6.out.own.alloc _) ⟨W5.heap.size, 0, none⟩ 1 1 [.slice ep P.length ec, .int .i64 k, .int .i64 nn, .string (S s), .slice none 0 0, .slice none 0 0] rfl rfl (cells_new_at rfl rfl) (by simp [Value.oneCell']) (by unfold maxLen; omega) (by omega) (HS6.out.bel.alloc HS6.out.bel.size _).size ?_; intro v' w8 hown8 hgrow8 _ hat8; obtain ⟨vp8, vc8, rfl⟩ := own_form5 hown8; have HS8 := Lib.hid (HS6.out.push HGE.out (by unfold cellsE; simp only; rw [HDD.out]; exact hown8) hgrow8 hat8); clear hown8 hgrow8 hat8)
                 go_roundw
                 case rel => exact ⟨i + 1, i + 1, ln + 1, T ++ [⟨P, D, .slice ep P.length ec, .slice none 0 0, .slice none 0 0⟩], vp8, vc8, by simp, by go_num, by go_num, by go_num, by omega, Nat.le_refl _, by omega, by simp; omega, (fun h => h), Lib.hid (by rw [List.length_append]; exact HS8.out), Lib.hid (by rw [List.map_append]; exact HI5.out), HNN, Lib.hid (by rw [List.map_append]; exact HL5.out)⟩
                 case measure => simp [intOf]; omega
     · have c0 : ¬ ((i : Int) ≤ (l.length : Int)) := by omega
       have hfe : fr = l.length + 1 := hend (by omega)
       have HOK := Lib.hid (show linesP parseP (splitC 10 l) 1 = .ok (T.map Env.e) by rw [← HI.out, rest_end (by omega)]; simp [joinL, linesP])
       have HR := Lib.hid (show r = ((buildD (T.map Env.e)).1, (buildD (T.map Env.e)).2, 0) by rw [HPD1.out, HOK.out])
       have HBD := Lib.hid (refBuild_any HS.out.ents ⟨by rw [List.length_map]; omega, HL.out⟩)
       generalize buildD (T.map Env.e) = bd at HR HBD
       obtain ⟨d, en⟩ := bd
       simp only at HR
       clear HOK hfe
       go_wp2_with fail
       refine HBD.out.mono ?_
       rintro e w5 ⟨vi, vm, rfl, hrep, hb⟩
       change Rep w5 _ d vi vm at hrep
       have e1 : dv d vi vm = .agg #[.int .i64 d.k, .int .i64 d.n, .string (S d.s), vi, vm] := rfl
       simp only
       rw [e1]
       obtain ⟨p1, cap1, rfl, -, -⟩ := hrep.items
       obtain ⟨q1, caq1, rfl, -, -⟩ := hrep.members
       have hN0 := ((HN.out.1.below HS.out.bel).below hb).alloc (.cells #[.int .i64 d.k, .int .i64 d.n, .string (S d.s), .slice p1 d.its.length cap1, .slice q1 d.mem.length caq1] 26)
       have hN1 := ((HN.out.2.1.below HS.out.bel).below hb).alloc (.cells #[.int .i64 d.k, .int .i64 d.n, .string (S d.s), .slice p1 d.its.length cap1, .slice q1 d.mem.length caq1] 26)
       have hK := Blk.new w5 #[.int .i64 d.k, .int .i64 d.n, .string (S d.s), .slice p1 d.its.length cap1, .slice q1 d.mem.length caq1] 26
       have hb0 := HN.out.2.2.trans (HS.out.bel.mono HN.out.2.2.size)
       have hb1 := hb0.trans (hb.mono hb0.size)
       have hb6 := hb1.alloc hb1.size (.cells #[.int .i64 d.k, .int .i64 d.n, .string (S d.s), .slice p1 d.its.length cap1, .slice q1 d.mem.length caq1] 26)
       have hx6 := hrep.under ((Below.refl w5.heap.size w5).alloc (Nat.le_refl _) (.cells #[.int .i64 d.k, .int .i64 d.n, .string (S d.s), .slice p1 d.its.length cap1, .slice q1 d.mem.length caq1] 26))
       have HWR := Lib.hid (Nat.lt_of_lt_of_le HN.out.2.1.lt HS.out.bel.size)
       have hw5 : w.heap.size + 1 < w5.heap.size := Nat.lt_of_lt_of_le HWR.out hb.size
       have n1 : ¬ (w.heap.size = w5.heap.size) := by omega
       have n2 : ¬ (w.heap.size + 1 = w5.heap.size) := by omega
       clear hrep e1 hb hb0 hb1
       go_upto_region 19 with fail
       generalize w5.alloc (.cells #[.int .i64 d.k, .int .i64 d.n, .string (S d.s), .slice p1 d.its.length cap1, .slice q1 d.mem.length caq1] 26) = W6 at hN0 hN1 hK hb6 hx6 ⊢
       have HB6 := Lib.hid hb6
       have HX6 := Lib.hid hx6
       have z0 := hN0.cell 0
       have z1 := hN0.cell 1
       have z2 := hN0.cell 2
       have z3 := hN0.cell 3
       have z4 := hN0.cell 4
       have y0 := hN0.frozen 0
       have y1 := hN0.frozen 1
       have y2 := hN0.frozen 2
       have y3 := hN0.frozen 3
       have y4 := hN0.frozen 4
       have x0 := hN1.cell 0
       have x1 := hN1.cell 1
       have v0 := hN1.frozen 0
       have v1 := hN1.frozen 1
       simp at z0 z1 z2 z3 z4 x0 x1
       have hzl := hN0.lt
       have hxl := hN1.lt
       have k0 := hK.cell 0
       have k1 := hK.cell 1
       have k2 := hK.cell 2
       have k3 := hK.cell 3
       have k4 := hK.cell 4
       simp at k0 k1 k2 k3 k4
       clear hN0 hN1 hK hb6
       have hne : ∀ (i B : Nat), wr.heap.size ≤ B → (⟨w.heap.size, i, none⟩ : Addr).block ≠ B := fun i B hB e => by have := HWR.out; simp at e; omega
       have hne2 : ∀ (i B : Nat), wr.heap.size ≤ B → (⟨w.heap.size + 1, i, none⟩ : Addr).block ≠ B := fun i B hB e => by have := HWR.out; simp at e; omega
       have HX7 := Lib.hid (fun a0 a1 a2 a3 a4 b0 b1 => ((((((((HX6.out.set _ a0 (hne 0)).set _ a1 (hne 1)).set _ a2 (hne 2)).set _ a3 (hne 3)).set _ a4 (hne 4)).set _ b0 (hne2 0)).set _ b1 (hne2 1)).mono (ok' := fun B => w.heap.size ≤ B) fun B _ hB => by have := HWR.out; omega))
       clear hne hne2 hx6
       go_wp2_with fail
       refine bodyPost_ret (v := .tuple #[.agg #[.int .i64 d.k, .int .i64 d.n, .string (S d.s), .slice p1 d.its.length cap1, .slice q1 d.mem.length caq1], .agg #[.int .i64 (en : Int), .int .i64 0]]) (by simp [results, Tryz.results23, go_sem, z0, z1, z2, z3, z4, y0, y1, y2, y3, y4, hzl, x0, x1, v0, v1, hxl]) rfl ?_
       rw [HR.out]
       refine ⟨_, _, rfl, HX7.out _ _ _ _ _ _ _, ?_⟩
       have hbw := HB6.out
       go_grown
       all_goals exact hbw
end
section
open Go.RowKit
def exN : Dat := .mk 3 10000 [] [] []
def exX : Dat := .mk 4 0 [120] [] []
def exB : Dat := .mk 6 0 [] [] [([98], exN)]
def exC : Dat := .mk 5 0 [] [exX] []
def exD : Dat := .mk 6 0 [] [] [([97], exB), ([99], exC)]
theorem rep_exB {W : World} {ok : Nat → Prop} {B : Nat} (h : Blk W B #[.string ⟨#[98]⟩, .int .i64 3, .int .i64 10000, .string ⟨#[]⟩, .slice none 0 0, .slice none 0 0] 64) (hk : ok B) : Rep W ok exB (.slice none 0 0) (.slice (some ⟨B, 0, none⟩) 1 1) := by
 refine Rep.mk (d := exB) none (some ⟨B, 0, none⟩) 0 1 0 0 B 0 (fun _ => .nilFunc) (fun _ => .nilFunc) (fun _ => .slice none 0 0) (fun _ => .slice none 0 0) ⟨Nat.zero_le _, show 1 ≤ maxLen by unfold maxLen; omega⟩ (fun h0 => absurd h0 (Nat.lt_irrefl 0)) (fun j hj => absurd hj (Nat.not_lt_zero j)) (fun j hj => absurd hj (Nat.not_lt_zero j)) (fun _ => ⟨rfl, Nat.le_refl _, h.lt, hk⟩) (fun j hj => ?_) (fun j hj => ?_)
 · have hj0 : j = 0 := Nat.lt_one_iff.1 hj
   subst hj0
   exact ⟨h.cell 0, ⟨h.cell 1, h.cell 2, h.cell 3, h.cell 4, h.cell 5⟩⟩
 · have hj0 : j = 0 := Nat.lt_one_iff.1 hj
   subst hj0
   exact rep_leaf W ok (d := exN) rfl rfl none none 0 0
theorem rep_exC {W : World} {ok : Nat → Prop} {B : Nat} (h : Blk W B #[.int .i64 4, .int .i64 0, .string ⟨#[120]⟩, .slice none 0 0, .slice none 0 0] 26) (hk : ok B) : Rep W ok exC (.slice (some ⟨B, 0, none⟩) 1 1) (.slice none 0 0) := by
 refine Rep.mk (d := exC) (some ⟨B, 0, none⟩) none 1 0 B 0 0 0 (fun _ => .slice none 0 0) (fun _ => .slice none 0 0) (fun _ => .nilFunc) (fun _ => .nilFunc) ⟨show 1 ≤ maxLen by unfold maxLen; omega, Nat.zero_le _⟩ (fun _ => ⟨rfl, Nat.le_refl _, h.lt, hk⟩) (fun j hj => ?_) (fun j hj => ?_) (fun h0 => absurd h0 (Nat.lt_irrefl 0)) (fun j hj => absurd hj (Nat.not_lt_zero j)) (fun j hj => absurd hj (Nat.not_lt_zero j))
 · have hj0 : j = 0 := Nat.lt_one_iff.1 hj
   subst hj0
   exact ⟨h.cell 0, h.cell 1, h.cell 2, h.cell 3, h.cell 4⟩
 · have hj0 : j = 0 := Nat.lt_one_iff.1 hj
   subst hj0
   exact rep_leaf W ok (d := exX) rfl rfl none none 0 0
theorem rep_exD {W : World} {ok : Nat → Prop} {B B1 B3 : Nat} (hB : Rep W ok exB (.slice none 0 0) (.slice (some ⟨B1, 0, none⟩) 1 1)) (hC : Rep W ok exC (.slice (some ⟨B3, 0, none⟩) 1 1) (.slice none 0 0))
   (h : Blk W B #[.string ⟨#[97]⟩, .int .i64 6, .int .i64 0, .string ⟨#[]⟩, .slice none 0 0, .slice (some ⟨B1, 0, none⟩) 1 1, .string ⟨#[99]⟩, .int .i64 5, .int .i64 0, .string ⟨#[]⟩, .slice (some ⟨B3, 0, none⟩) 1 1, .slice none 0 0] 64) (hk : ok B) :
   Rep W ok exD (.slice none 0 0) (.slice (some ⟨B, 0, none⟩) 2 2) := by
 refine Rep.mk (d := exD) none (some ⟨B, 0, none⟩) 0 2 0 0 B 0 (fun _ => .nilFunc) (fun _ => .nilFunc) (fun j => if j = 0 then .slice none 0 0 else .slice (some ⟨B3, 0, none⟩) 1 1) (fun j => if j = 0 then .slice (some ⟨B1, 0, none⟩) 1 1 else .slice none 0 0) ⟨Nat.zero_le _, show 2 ≤ maxLen by unfold maxLen; omega⟩ (fun h0 => absurd h0 (Nat.lt_irrefl 0)) (fun j hj => absurd hj (Nat.not_lt_zero j)) (fun j hj => absurd hj (Nat.not_lt_zero j)) (fun _ => ⟨rfl, Nat.le_refl _, h.lt, hk⟩) (fun j hj => ?_) (fun j hj => ?_)
 · have hj2 : j < 2 := hj
   rcases (show j = 0 ∨ j = 1 by omega) with rfl | rfl
   · exact ⟨h.cell 0, ⟨h.cell 1, h.cell 2, h.cell 3, h.cell 4, h.cell 5⟩⟩
   · exact ⟨h.cell 6, ⟨h.cell 7, h.cell 8, h.cell 9, h.cell 10, h.cell 11⟩⟩
 · have hj2 : j < 2 := hj
   rcases (show j = 0 ∨ j = 1 by omega) with rfl | rfl
   · exact hB
   · exact hC
theorem six1 (w : World) (o0 o2 o3 o4 o5 : Obj) (c : Array Value) (t : TypeId) : Blk ((((((w.alloc o0).alloc (.cells c t)).alloc o2).alloc o3).alloc o4).alloc o5) (w.heap.size + 1) c t := by
 have h := ((((Blk.new (w.alloc o0) c t).alloc o2).alloc o3).alloc o4).alloc o5
 have e : (w.alloc o0).heap.size = w.heap.size + 1 := by simp
 rwa [e] at h
theorem six3 (w : World) (o0 o1 o2 o4 o5 : Obj) (c : Array Value) (t : TypeId) : Blk ((((((w.alloc o0).alloc o1).alloc o2).alloc (.cells c t)).alloc o4).alloc o5) (w.heap.size + 1 + 1 + 1) c t := by
 have h := ((Blk.new (((w.alloc o0).alloc o1).alloc o2) c t).alloc o4).alloc o5
 have e : (((w.alloc o0).alloc o1).alloc o2).heap.size = w.heap.size + 1 + 1 + 1 := by simp
 rwa [e] at h
theorem six5 (w : World) (o0 o1 o2 o3 o4 : Obj) (c : Array Value) (t : TypeId) : Blk ((((((w.alloc o0).alloc o1).alloc o2).alloc o3).alloc o4).alloc (.cells c t)) (w.heap.size + 1 + 1 + 1 + 1 + 1) c t := by
 have h := Blk.new (((((w.alloc o0).alloc o1).alloc o2).alloc o3).alloc o4) c t
 have e : (((((w.alloc o0).alloc o1).alloc o2).alloc o3).alloc o4).heap.size = w.heap.size + 1 + 1 + 1 + 1 + 1 := by simp
 rwa [e] at h
set_option maxRecDepth 100000 in
set_option maxHeartbeats 4000000 in
theorem example_any (w : World) : Calls Tryz.prog 24 #[] w fun e w' => ∃ vi vm, e = .returned (dv exD vi vm) ∧ Rep w' (fun B => w.heap.size ≤ B) exD vi vm ∧ Below w.heap.size w w' := by
 go_enter Tryz.func24, Tryz.ntmps24
 go_wp2_with fail
 refine bodyPost_ret (v := .agg #[.int .i64 6, .int .i64 0, .string ⟨#[]⟩, .slice none 0 0, .slice (some ⟨w.heap.size + 1 + 1 + 1 + 1 + 1, 0, none⟩) 2 2]) (by simp [results, Tryz.results24, go_sem]) rfl ?_
 refine ⟨_, _, rfl, rep_exD (B1 := w.heap.size + 1) (B3 := w.heap.size + 1 + 1 + 1) (rep_exB ?_ ?_) (rep_exC ?_ ?_) ?_ ?_, ?_⟩
 · exact six1 ..
 · omega
 · exact six3 ..
 · omega
 · exact six5 ..
 · omega
 · go_grown
end
section
open Go.RowKit
def lineLim (e : Ent) : Prop := LimS e.1 ∧ leafB e.2 = true ∧ limD e.2 = true ∧ (lineT e).length ≤ 10000000
theorem linesT_take {L : List Ent} {i : Nat} (h : i < L.length) : linesT (L.take (i + 1)) = linesT (L.take i) ++ (textS L[i].1 ++ [32, 61, 32] ++ leafT L[i].2 ++ [10]) := by
 rw [List.take_succ_eq_append_getElem h]
 unfold linesT
 rw [List.flatMap_append]
 simp [lineT]
theorem linesT_len {L : List Ent} (h : ∀ e ∈ L, lineLim e) : (linesT L).length ≤ L.length * 10000001 := by
 rw [linesT_sum]
 induction L with
 | nil => simp
 | cons a r ih =>
   have h1 := (h a (List.mem_cons_self ..)).2.2.2
   have h2 := ih fun e he => h e (List.mem_cons_of_mem _ he)
   simp only [List.map_cons, List.sum_cons, List.length_cons]
   omega
set_option maxRecDepth 100000 in
set_option maxHeartbeats 8000000 in
theorem PText_any {d : Dat} {vi vm : Value} {ok : Nat → Prop} {w : World} (hr : Rep w ok d vi vm) (hlim : limD d = true) (hn : (lvD d).length ≤ 1000000) (hE : NumOk w) (hL : (flatD d).1.length ≤ 1000 ∧ ∀ e ∈ (flatD d).1, lineLim e) :
   Calls Tryz.prog 13 #[.agg #[.int .i64 d.k, .int .i64 d.n, .string (S d.s), vi, vm]] w fun e w' => e = .returned (.tuple #[.string (S (textD d).1), .int .i64 ((textD d).2 : Int)]) ∧ Below w.heap.size w w' := by
 have HF := Lib.hid (fun w' (hb : Below w.heap.size w w') => Flatten_any (hr.under hb) hlim hn)
 obtain ⟨p, cap, rfl, -, -⟩ := hr.items
 obtain ⟨q, caq, rfl, -, -⟩ := hr.members
 have HT := Lib.hid (show textD d = if (flatD d).2 = 0 then (linesT (flatD d).1, 0) else ([], (flatD d).2) from rfl)
 generalize textD d = tr at HT ⊢
 generalize hfd : flatD d = fr at HF HT hL
 obtain ⟨L, en⟩ := fr
 simp only at HT hL
 have HE := Lib.hid hE
 have hl1 := hL.1
 have HL := Lib.hid hL.2
 clear hr hlim hn hE hL hfd
 have hN : Blk (w.alloc (.cells #[.int .i64 d.k, .int .i64 d.n, .string (S d.s), .slice p d.its.length cap, .slice q d.mem.length caq] 26)) w.heap.size #[.int .i64 d.k, .int .i64 d.n, .string (S d.s), .slice p d.its.length cap, .slice q d.mem.length caq] 26 := Blk.new w _ _
 have hb : Below w.heap.size w (w.alloc (.cells #[.int .i64 d.k, .int .i64 d.n, .string (S d.s), .slice p d.its.length cap, .slice q d.mem.length caq] 26)) := (Below.refl _ _).alloc (Nat.le_refl _) _
 go_enter Tryz.func13, Tryz.ntmps13
 go_upto_region 1 with fail
 generalize w.alloc (.cells #[.int .i64 d.k, .int .i64 d.n, .string (S d.s), .slice p d.its.length cap, .slice q d.mem.length caq] 26) = W at hN hb ⊢
 have b0 := hN.cell 0
 have b1 := hN.cell 1
 have b2 := hN.cell 2
 have b3 := hN.cell 3
 have b4 := hN.cell 4
 simp at b0 b1 b2 b3 b4
 have hlt0 := hN.lt
 have HB := Lib.hid hb
 clear hN hb
 go_wp2_with fail
 refine (HF.out _ HB.out).mono ?_
 rintro e w1 ⟨v, T, rfl, hown, hTe, hg, hb⟩
 have HB1 := Lib.hid (HB.out.trans (hb.mono HB.out.size))
 have HEN := Lib.hid (own_ents hown (ok := fun B => W.heap.size ≤ B) (fun _ h => h) hg)
 obtain ⟨vp, vc, rfl⟩ := own_form5 hown
 have hTl : T.length = L.length := by simpa using congrArg List.length hTe
 rw [hTe] at HEN
 simp only at HEN
 clear hb hown hg hTe b0 b1 b2 b3 b4 hlt0 HB HF
 rw [hTl] at HEN ⊢
 clear hTl
 by_cases he : en = 0
 · subst he
   have HTR := Lib.hid (show tr = (linesT L, 0) from HT.out)
   obtain ⟨p', cap', B, o, hv, hj⟩ := HEN.out.open
   injection hv with e1 _ e3
   subst e1; subst e3
   have HJ := Lib.hid hj
   clear hj HEN HT
   go_wp2_with fail
   go_loopw [6, 21] (fun a x wr => ∃ i : Nat, x = .int .i64 (i : Int) ∧ i ≤ L.length ∧ a = .string (S (linesT (L.take i))) ∧ Hid (Below w1.heap.size w1 wr)) (fun _ x _ => L.length - (intOf x).toNat)
   case atStart => exact ⟨0, rfl, Nat.zero_le _, rfl, Lib.hid (Below.refl _ _)⟩
   case round =>
     obtain ⟨i, rfl, hi, rfl, HW⟩ := hrel
     by_cases hlt : i < L.length
     · obtain ⟨pv, xi, xm, rfl, hcap, hB, -, c0, hcc, hs, hx⟩ := HJ.out i hlt
       obtain ⟨pp, pc, rfl⟩ := slk_form hs
       obtain ⟨p1, cap1, rfl, -, -⟩ := hx.items
       obtain ⟨q1, caq1, rfl, -, -⟩ := hx.members
       obtain ⟨c1, c2, c3, c4, c5⟩ := hcc
       have HN := Lib.hid (linesT_take hlt)
       have hle := HL.out _ (List.getElem_mem hlt)
       have hacc : (linesT (L.take i)).length ≤ 1000 * 10000001 := by
         have h1 := linesT_len (L := L.take i) fun e he => HL.out e (List.mem_of_mem_take he)
         have h2 : (L.take i).length ≤ 1000 := by rw [List.length_take]; omega
         exact Nat.le_trans h1 (Nat.mul_le_mul_right _ h2)
       replace c0 := (HW.out.cell (p := ⟨B, o + i * 6, none⟩) hB).trans c0
       replace c1 := (HW.out.cell (p := ⟨B, o + i * 6 + 1, none⟩) hB).trans c1
       replace c2 := (HW.out.cell (p := ⟨B, o + i * 6 + 2, none⟩) hB).trans c2
       replace c3 := (HW.out.cell (p := ⟨B, o + i * 6 + 3, none⟩) hB).trans c3
       replace c4 := (HW.out.cell (p := ⟨B, o + i * 6 + 4, none⟩) hB).trans c4
       replace c5 := (HW.out.cell (p := ⟨B, o + i * 6 + 5, none⟩) hB).trans c5
       have HS := Lib.hid (hs.under HW.out)
       have HX := Lib.hid (hx.under HW.out)
       clear hs hx hB
       generalize L[i] = t at c0 c1 c2 c3 c4 c5 HN hle HS HX
       obtain ⟨P, D⟩ := t
       simp only at c0 c1 c2 c3 c4 c5 HN hle HS HX
       generalize linesT (L.take i) = acc at hacc HN ⊢
       obtain ⟨hle1, hle2, hle3, hle4⟩ := hle
       simp only [lineT, List.length_append, List.length_cons, List.length_nil] at hle4
       have HLE := Lib.hid (And.intro hle1 (And.intro hle2 hle3))
       have hN : Blk (wr.alloc (.cells #[.slice pp P.length pc, .int .i64 D.k, .int .i64 D.n, .string (S D.s), .slice p1 D.its.length cap1, .slice q1 D.mem.length caq1] 42)) wr.heap.size #[.slice pp P.length pc, .int .i64 D.k, .int .i64 D.n, .string (S D.s), .slice p1 D.its.length cap1, .slice q1 D.mem.length caq1] 42 := Blk.new wr _ _
       have hb : Below wr.heap.size wr (wr.alloc (.cells #[.slice pp P.length pc, .int .i64 D.k, .int .i64 D.n, .string (S D.s), .slice p1 D.its.length cap1, .slice q1 D.mem.length caq1] 42)) := (Below.refl _ _).alloc (Nat.le_refl _) _
       clear hle1 hle2 hle3
       go_upto_region 8 with fail
       generalize wr.alloc (.cells #[.slice pp P.length pc, .int .i64 D.k, .int .i64 D.n, .string (S D.s), .slice p1 D.its.length cap1, .slice q1 D.mem.length caq1] 42) = W3 at hN hb ⊢
       clear c0 c1 c2 c3 c4 c5
       have n0 := hN.cell 0
       have n1 := hN.cell 1
       have n2 := hN.cell 2
       have n3 := hN.cell 3
       have n4 := hN.cell 4
       have n5 := hN.cell 5
       simp at n0 n1 n2 n3 n4 n5
       have HN3 := Lib.hid hN
       have HB3 := Lib.hid hb
       have HEE := Lib.hid (HE.out.below (HB1.out.trans (HW.out.mono HB1.out.size)))
       clear hN hb
       go_wp2_with fail
       refine (TextLeaf_any (HX.out.under HB3.out) HLE.out.2.1 HLE.out.2.2 (HEE.out.below HB3.out)).mono ?_
       rintro e w4 ⟨rfl, hb⟩
       have n0 := (HN3.out.below hb).cell 0
       simp at n0
       have HB4 := Lib.hid (HB3.out.trans (hb.mono HB3.out.size))
       clear hb n1 n2 n3 n4 n5
       generalize hlf : leafT D = lf at HN hle4 ⊢
       go_wp2_with fail
       refine (Text_any _ P _ (HS.out.under HB4.out).sls HLE.out.1 (HEE.out.below HB4.out)).mono ?_
       rintro e w5 ⟨rfl, hb⟩
       have HB5 := Lib.hid (HW.out.trans ((HB4.out.trans (hb.mono HB4.out.size)).mono HW.out.size))
       clear hb n0 hlf
       generalize textS P = ts at HN hle4 ⊢
       go_wp2_with fail
       go_roundw
       case rel => exact ⟨i + 1, by go_num, hlt, by rw [HN.out]; simp [ct], HB5⟩
       case measure => simp [intOf]; omega
     · have hTk : L.take i = L := List.take_of_length_le (by omega)
       rw [hTk]
       have HB6 := Lib.hid (HB1.out.trans (HW.out.mono HB1.out.size))
       clear hTk
       go_wp2_with fail
       go_ret2
       exact ⟨by rw [HTR.out]; rfl, HB6.out⟩
 · have c1 : ((en : Int) != 0) = true := by simp; omega
   have c2 : ¬ ((en : Int) = 0) := by omega
   have HTR := Lib.hid (show tr = ([], en) by rw [HT.out, if_neg he])
   clear he
   go_wp2_with fail
   go_ret2
   exact ⟨by rw [HTR.out]; rfl, HB1.out⟩
end
section
open Go.RowKit
theorem label_ge (l : List UInt8) : l.length ≤ (labelL l).length := by
 unfold labelL
 split
 · exact Nat.le_refl _
 · have := (quote_len l).1; omega
theorem bit_ge (x : Stp) (b : Bool) : x.lab.length ≤ (bitS x b).length ∧ 1 ≤ (bitS x b).length := by
 unfold bitS
 by_cases h : x.lab = []
 · rw [if_pos h, h]; simp
 · rw [if_neg h]
   have h1 := label_ge x.lab
   have h2 : 0 < x.lab.length := List.length_pos_iff.2 h
   cases b
   · simp only [Bool.false_eq_true, if_false, List.length_cons]; omega
   · simp only [if_true]; omega
theorem rest_ge : ∀ (L : List Stp), L.length ≤ (restS L).length ∧ ∀ x ∈ L, x.lab.length ≤ (restS L).length
 | [] => by simp
 | y :: r => by
   obtain ⟨h1, h2⟩ := rest_ge r
   have h3 := bit_ge y false
   unfold restS at *
   rw [List.flatMap_cons, List.length_append, List.length_cons]
   refine ⟨by omega, fun x hx => ?_⟩
   rcases List.mem_cons.1 hx with rfl | hx
   · omega
   · have := h2 x hx; omega
theorem body_ge (L : List Stp) : L.length ≤ (bodyS L).length ∧ ∀ x ∈ L, x.lab.length ≤ (bodyS L).length := by
 cases L with
 | nil => simp
 | cons y r =>
   obtain ⟨h1, h2⟩ := rest_ge r
   have h3 := bit_ge y true
   rw [bodyS, List.length_append, List.length_cons]
   refine ⟨by omega, fun x hx => ?_⟩
   rcases List.mem_cons.1 hx with rfl | hx
   · omega
   · have := h2 x hx; omega
theorem text_ge {L : List Stp} (h : okL L = true) : L.length ≤ (textS L).length ∧ ∀ x ∈ L, x.lab.length ≤ (textS L).length := by
 by_cases h0 : L = []
 · subst h0; simp
 · have e : textS L = bodyS L := by unfold textS; rw [h, if_neg (by decide), if_neg h0]
   rw [e]; exact body_ge L
theorem pp_ok : PpOk parseP := by
 intro s hs h0
 rcases parse_only s hs with ⟨-, -, h1, h2⟩ | ⟨-, h1, -⟩
 · refine ⟨h1, h2, fun x hx => ?_⟩
   have := (text_ge h1).2 x hx
   rwa [h2] at this
 · rw [h1] at h0; cases h0
theorem pp_len (s : List UInt8) (hs : s.length ≤ 65536) : (parseP s).1.length ≤ 1000000 := by
 rcases parse_only s hs with ⟨-, -, h1, h2⟩ | ⟨h1, -, -⟩
 · have := (text_ge h1).1
   rw [h2] at this
   omega
 · rw [h1]; simp
end
section
open Go.RowKit
theorem leaf_lim {d : Dat} (h : leafB d = true) (hl : (leafT d).length ≤ 1000000) : limD d = true := by
 obtain ⟨h1, h2, h3⟩ := leaf_iff.1 h
 obtain ⟨hp, -, -⟩ := own_zero (chk_zero.1 h1).2.1
 have hp' := plain_iff.1 hp
 refine lim_iff.2 ⟨?_, by rw [h2]; exact Nat.zero_le _, by rw [h3]; exact Nat.zero_le _, by rw [h2]; simp, by rw [h3]; simp⟩
 rcases hp'.2.2.1 with hk | hs
 · have e : leafT d = quoteL d.s := by unfold leafT; rw [hk]; rfl
   rw [e] at hl
   have := (quote_len d.s).1
   omega
 · rw [hs]; exact Nat.zero_le _
theorem line_lims {a : Dat} (hc : chk a 1 = 0) (hb : lbD a = true) (hl : limD a = true) (hn : (linesT (entsD a)).length ≤ 900) : (entsD a).length ≤ 1000 ∧ ∀ e ∈ entsD a, lineLim e := by
 have hs := linesT_sum (entsD a)
 have hle : ∀ (L : List Ent), L.length ≤ (L.map fun e => (lineT e).length + 1).sum ∧ ∀ e ∈ L, (lineT e).length ≤ (L.map fun e => (lineT e).length + 1).sum := by
   intro L
   induction L with
   | nil => simp
   | cons x r ih =>
     obtain ⟨i1, i2⟩ := ih
     rw [List.map_cons, List.sum_cons, List.length_cons]
     refine ⟨by omega, fun e he => ?_⟩
     rcases List.mem_cons.1 he with rfl | he
     · omega
     · have := i2 e he; omega
 obtain ⟨h1, h2⟩ := hle (entsD a)
 refine ⟨by omega, fun e he => ?_⟩
 obtain ⟨k1, k2⟩ := ents_kind (SizeOf.sizeOf a + 1) a 0 (Nat.lt_succ_self _) hc hb hl e he
 have h3 := h2 e he
 have h4 : (lineT e).length = (textS e.1).length + 3 + (leafT e.2).length := by unfold lineT; simp; omega
 obtain ⟨t1, t2⟩ := text_ge k1
 exact ⟨⟨by omega, fun x hx => by have := t2 x hx; omega⟩, k2, leaf_lim k2 (by omega), by omega⟩
end
section
open Go.RowKit
theorem dat_ext {a b : Dat} : a = b ↔ a.k = b.k ∧ a.n = b.n ∧ a.s = b.s ∧ a.its = b.its ∧ a.mem = b.mem := by
 cases a; cases b
 simp [Dat.k, Dat.n, Dat.s, Dat.its, Dat.mem]
def SamP (w : World) (a b : Dat) (e : Ending) (w' : World) : Prop := ∃ r : Bool, e = .returned (.bool r) ∧ (r = true ↔ a = b) ∧ Below w.heap.size w w'
theorem SamP.no {w w' : World} {a b : Dat} (hb : Below w.heap.size w w') (h : a ≠ b) : SamP w a b (.returned (.bool false)) w' := ⟨false, rfl, by simp [h], hb⟩
set_option maxRecDepth 100000 in
set_option maxHeartbeats 4000000 in
theorem same_top {a b : Dat} (p q p' q' : Option Addr) (c1 c2 c3 c4 : Nat) (w : World) (h : a.k ≠ b.k ∨ (a.k = b.k ∧ a.n ≠ b.n) ∨ (a.k = b.k ∧ a.n = b.n ∧ a.s ≠ b.s) ∨ (a.k = b.k ∧ a.n = b.n ∧ a.s = b.s ∧ a.its.length ≠ b.its.length) ∨ (a.k = b.k ∧ a.n = b.n ∧ a.s = b.s ∧ a.its.length = b.its.length ∧ a.mem.length ≠ b.mem.length)) :
   Calls Tryz.prog 12 #[.agg #[.int .i64 a.k, .int .i64 a.n, .string (S a.s), .slice p a.its.length c1, .slice q a.mem.length c2], .agg #[.int .i64 b.k, .int .i64 b.n, .string (S b.s), .slice p' b.its.length c3, .slice q' b.mem.length c4]] w (SamP w a b) := by
 have hne : a ≠ b := by
   intro e
   subst e
   rcases h with h | ⟨-, h⟩ | ⟨-, -, h⟩ | ⟨-, -, -, h⟩ | ⟨-, -, -, -, h⟩ <;> exact h rfl
 have HNE := Lib.hid hne
 have h2 := two_new w #[.int .i64 a.k, .int .i64 a.n, .string (S a.s), .slice p a.its.length c1, .slice q a.mem.length c2] #[.int .i64 b.k, .int .i64 b.n, .string (S b.s), .slice p' b.its.length c3, .slice q' b.mem.length c4] 26 26
 have HH := Lib.hid h
 clear h hne
 go_enter Tryz.func12, Tryz.ntmps12
 go_upto_region 1 with fail
 generalize (w.alloc (.cells #[.int .i64 a.k, .int .i64 a.n, .string (S a.s), .slice p a.its.length c1, .slice q a.mem.length c2] 26)).alloc (.cells #[.int .i64 b.k, .int .i64 b.n, .string (S b.s), .slice p' b.its.length c3, .slice q' b.mem.length c4] 26) = W at h2 ⊢
 have a0 := h2.1.cell 0
 have a1 := h2.1.cell 1
 have a2 := h2.1.cell 2
 have a3 := h2.1.cell 3
 have a4 := h2.1.cell 4
 have b0 := h2.2.1.cell 0
 have b1 := h2.2.1.cell 1
 have b2 := h2.2.1.cell 2
 have b3 := h2.2.1.cell 3
 have b4 := h2.2.1.cell 4
 simp at a0 a1 a2 a3 a4 b0 b1 b2 b3 b4
 have HB := Lib.hid h2.2.2
 clear h2
 rcases HH.out with h | ⟨e1, h⟩ | ⟨e1, e2, h⟩ | ⟨e1, e2, e3, h⟩ | ⟨e1, e2, e3, e4, h⟩
 · have t1 : (a.k != b.k) = true := by simpa using h
   clear h
   go_wp2_with fail
   go_ret
   exact SamP.no HB.out HNE.out
 · have t1 : (a.k != b.k) = false := by simpa using e1
   have t2 : (a.n != b.n) = true := by simpa using h
   clear h e1
   go_wp2_with fail
   go_ret
   exact SamP.no HB.out HNE.out
 · have t1 : (a.k != b.k) = false := by simpa using e1
   have t2 : (a.n != b.n) = false := by simpa using e2
   have t3 : (a.s != b.s) = true := by simpa using h
   have t4 : (a.s == b.s) = false := by simpa using h
   clear h e1 e2
   go_wp2_with fail
   go_ret
   exact SamP.no HB.out HNE.out
 · have t1 : (a.k != b.k) = false := by simpa using e1
   have t2 : (a.n != b.n) = false := by simpa using e2
   have t3 : (a.s != b.s) = false := by simpa using e3
   have t4 : (a.s == b.s) = true := by simpa using e3
   have t5 : ((a.its.length : Int) != (b.its.length : Int)) = true := by simp; omega
   have t6 : (a.its.length != b.its.length) = true := by simpa using h
   clear h e1 e2 e3
   go_wp2_with fail
   go_ret
   exact SamP.no HB.out HNE.out
 · have t1 : (a.k != b.k) = false := by simpa using e1
   have t2 : (a.n != b.n) = false := by simpa using e2
   have t3 : (a.s != b.s) = false := by simpa using e3
   have t4 : (a.s == b.s) = true := by simpa using e3
   have t5 : ((a.its.length : Int) != (b.its.length : Int)) = false := by simp; omega
   have t6 : (a.its.length != b.its.length) = false := by simpa using e4
   have t7 : ((a.mem.length : Int) != (b.mem.length : Int)) = true := by simp; omega
   have t8 : (a.mem.length != b.mem.length) = true := by simpa using h
   clear h e1 e2 e3 e4
   go_wp2_with fail
   go_ret
   exact SamP.no HB.out HNE.out
end
section
open Go.RowKit
theorem take_step {α : Type} {x y : List α} {i : Nat} (h : x.take i = y.take i) (hx : i < x.length) (hy : i < y.length) (he : x[i] = y[i]) : x.take (i + 1) = y.take (i + 1) := by
 rw [List.take_succ_eq_append_getElem hx, List.take_succ_eq_append_getElem hy, h, he]
set_option maxRecDepth 100000 in
set_option maxHeartbeats 8000000 in
theorem dSame_any (m : Nat) : ∀ (a b : Dat), SizeOf.sizeOf a < m → ∀ (vi vm ui um : Value) (ok ok' : Nat → Prop) (w : World), Rep w ok a vi vm → Rep w ok' b ui um → limD a = true → limD b = true →
   Calls Tryz.prog 12 #[.agg #[.int .i64 a.k, .int .i64 a.n, .string (S a.s), vi, vm], .agg #[.int .i64 b.k, .int .i64 b.n, .string (S b.s), ui, um]] w (SamP w a b) := by
 induction m with
 | zero => intro a b h; exact absurd h (Nat.not_lt_zero _)
 | succ m ih =>
   intro a b hd vi vm ui um ok ok' w hr hr' hla hlb
   obtain ⟨p, c1, rfl, -, hit⟩ := hr.items
   obtain ⟨q, c2, rfl, -, hme⟩ := hr.members
   obtain ⟨p', c3, rfl, -, hit'⟩ := hr'.items
   obtain ⟨q', c4, rfl, -, hme'⟩ := hr'.members
   by_cases e1 : a.k = b.k
   case neg => exact same_top p q p' q' c1 c2 c3 c4 w (.inl e1)
   by_cases e2 : a.n = b.n
   case neg => exact same_top p q p' q' c1 c2 c3 c4 w (.inr (.inl ⟨e1, e2⟩))
   by_cases e3 : a.s = b.s
   case neg => exact same_top p q p' q' c1 c2 c3 c4 w (.inr (.inr (.inl ⟨e1, e2, e3⟩)))
   by_cases e4 : a.its.length = b.its.length
   case neg => exact same_top p q p' q' c1 c2 c3 c4 w (.inr (.inr (.inr (.inl ⟨e1, e2, e3, e4⟩))))
   by_cases e5 : a.mem.length = b.mem.length
   case neg => exact same_top p q p' q' c1 c2 c3 c4 w (.inr (.inr (.inr (.inr ⟨e1, e2, e3, e4, e5⟩))))
   have HEX := Lib.hid (show a = b ↔ a.its = b.its ∧ a.mem = b.mem by rw [dat_ext]; simp [e1, e2, e3])
   obtain ⟨hl1, hl2, -⟩ := lim_len hla
   have HIT := Lib.hid hit
   have HIT' := Lib.hid hit'
   have HME := Lib.hid hme
   have HME' := Lib.hid hme'
   have HLA := Lib.hid hla
   have HLB := Lib.hid hlb
   have IH := Lib.hid ih
   have HD := Lib.hid hd
   have HE4 := Lib.hid e4
   have HE5 := Lib.hid e5
   have t1 : (a.k != b.k) = false := by simpa using e1
   have t2 : (a.n != b.n) = false := by simpa using e2
   have t3 : (a.s != b.s) = false := by simpa using e3
   have t4 : (a.s == b.s) = true := by simpa using e3
   have h2 := two_new w #[.int .i64 a.k, .int .i64 a.n, .string (S a.s), .slice p a.its.length c1, .slice q a.mem.length c2] #[.int .i64 b.k, .int .i64 b.n, .string (S b.s), .slice p' a.its.length c3, .slice q' a.mem.length c4] 26 26
   rw [← e4, ← e5]
   clear e1 e2 e3 e4 e5 hit hit' hme hme' hla hlb ih hd hr hr'
   go_enter Tryz.func12, Tryz.ntmps12
   go_upto_region 1 with fail
   generalize (w.alloc (.cells #[.int .i64 a.k, .int .i64 a.n, .string (S a.s), .slice p a.its.length c1, .slice q a.mem.length c2] 26)).alloc (.cells #[.int .i64 b.k, .int .i64 b.n, .string (S b.s), .slice p' a.its.length c3, .slice q' a.mem.length c4] 26) = W at h2 ⊢
   have a0 := h2.1.cell 0
   have a1 := h2.1.cell 1
   have a2 := h2.1.cell 2
   have a3 := h2.1.cell 3
   have a4 := h2.1.cell 4
   have b0 := h2.2.1.cell 0
   have b1 := h2.2.1.cell 1
   have b2 := h2.2.1.cell 2
   have b3 := h2.2.1.cell 3
   have b4 := h2.2.1.cell 4
   simp at a0 a1 a2 a3 a4 b0 b1 b2 b3 b4
   have H2 := Lib.hid h2
   clear h2
   go_wp2_with fail
   clear a0 a1 a2 a3 a4 b0 b1 b2 b3 b4 t1 t2 t3 t4
   go_loopw [5] (fun x wr => ∃ i : Nat, x = .int .i64 (i : Int) ∧ i ≤ a.its.length ∧ Hid (a.its.take i = b.its.take i) ∧ Hid (Below W.heap.size W wr)) (fun x _ => a.its.length - (intOf x).toNat)
   case atStart => exact ⟨0, rfl, Nat.zero_le _, Lib.hid rfl, Lib.hid (Below.refl _ _)⟩
   case round =>
     obtain ⟨i, rfl, hi, HT, HW⟩ := hrel
     have k3 := (H2.out.1.below HW.out).cell 3
     have m3 := (H2.out.2.1.below HW.out).cell 3
     simp at k3 m3
     by_cases hlt : i < a.its.length
     · have hlt' : i < b.its.length := by have := HE4.out; omega
       have hB0 := H2.out.2.2.trans (HW.out.mono H2.out.2.2.size)
       obtain ⟨B, o, xi, xm, rfl, hcap, hB, hc, hx⟩ := HIT.out i hlt
       obtain ⟨B', o', yi, ym, rfl, hcap', hB', hc', hy⟩ := HIT'.out i hlt'
       obtain ⟨x0, x1, x2, x3, x4⟩ := hc.below hB0 hB
       obtain ⟨y0, y1, y2, y3, y4⟩ := hc'.below hB0 hB'
       have hsz := hB0.size
       have HX := Lib.hid (hx.under hB0)
       have HY := Lib.hid (hy.under hB0)
       have HSZ := Lib.hid (Nat.lt_of_lt_of_le (dat_it (List.getElem_mem hlt)) (Nat.le_of_lt_succ HD.out))
       have HLX := Lib.hid (kid_lim HLA.out (List.mem_append_left _ (List.getElem_mem hlt)))
       have HLY := Lib.hid (kid_lim HLB.out (List.mem_append_left _ (List.getElem_mem hlt')))
       have HNX := Lib.hid (take_step HT.out hlt hlt')
       have HDF := Lib.hid (fun (h : a = b) => (show a.its[i] = b.its[i] by subst h; rfl))
       clear hc hc' hx hy
       generalize a.its[i] = x at x0 x1 x2 x3 x4 HX HSZ HLX HNX HDF
       generalize b.its[i] = y at y0 y1 y2 y3 y4 HY HLY HNX HDF
       have HKE := Lib.hid (fun w' (hb : Below wr.heap.size wr w') => (And.intro ((hb.cell (p := ⟨w.heap.size, 3, none⟩) (H2.out.1.below HW.out).lt).trans k3) (And.intro ((hb.cell (p := ⟨w.heap.size + 1, 3, none⟩) (H2.out.2.1.below HW.out).lt).trans m3) (And.intro ((hb.cell (p := ⟨B, o + i * 5, none⟩) (Nat.lt_of_lt_of_le hB hsz)).trans x0) (And.intro ((hb.cell (p := ⟨B, o + i * 5 + 1, none⟩) (Nat.lt_of_lt_of_le hB hsz)).trans x1) (And.intro ((hb.cell (p := ⟨B, o + i * 5 + 2, none⟩) (Nat.lt_of_lt_of_le hB hsz)).trans x2) (And.intro ((hb.cell (p := ⟨B, o + i * 5 + 3, none⟩) (Nat.lt_of_lt_of_le hB hsz)).trans x3) (And.intro ((hb.cell (p := ⟨B, o + i * 5 + 4, none⟩) (Nat.lt_of_lt_of_le hB hsz)).trans x4) (And.intro ((hb.cell (p := ⟨B', o' + i * 5, none⟩) (Nat.lt_of_lt_of_le hB' hsz)).trans y0) (And.intro ((hb.cell (p := ⟨B', o' + i * 5 + 1, none⟩) (Nat.lt_of_lt_of_le hB' hsz)).trans y1) (And.intro ((hb.cell (p := ⟨B', o' + i * 5 + 2, none⟩) (Nat.lt_of_lt_of_le hB' hsz)).trans y2) (And.intro ((hb.cell (p := ⟨B', o' + i * 5 + 3, none⟩) (Nat.lt_of_lt_of_le hB' hsz)).trans y3) ((hb.cell (p := ⟨B', o' + i * 5 + 4, none⟩) (Nat.lt_of_lt_of_le hB' hsz)).trans y4)))))))))))))
       have HB0 := Lib.hid (below_drew (Below.refl wr.heap.size wr))
       go_upto_region 6 with fail
       clear k3 m3 x0 x1 x2 x3 x4 y0 y1 y2 y3 y4
       go_region_held3 (fun w' => w'.cell? ⟨w.heap.size, 3, none⟩ = some (.slice (some ⟨B, o, none⟩) a.its.length c1) ∧ w'.cell? ⟨w.heap.size + 1, 3, none⟩ = some (.slice (some ⟨B', o', none⟩) a.its.length c3) ∧ w'.cell? ⟨B, o + i * 5, none⟩ = some (.int .i64 x.k) ∧ w'.cell? ⟨B, o + i * 5 + 1, none⟩ = some (.int .i64 x.n) ∧ w'.cell? ⟨B, o + i * 5 + 2, none⟩ = some (.string (S x.s)) ∧ w'.cell? ⟨B, o + i * 5 + 3, none⟩ = some (xi) ∧ w'.cell? ⟨B, o + i * 5 + 4, none⟩ = some (xm) ∧ w'.cell? ⟨B', o' + i * 5, none⟩ = some (.int .i64 y.k) ∧ w'.cell? ⟨B', o' + i * 5 + 1, none⟩ = some (.int .i64 y.n) ∧ w'.cell? ⟨B', o' + i * 5 + 2, none⟩ = some (.string (S y.s)) ∧ w'.cell? ⟨B', o' + i * 5 + 3, none⟩ = some (yi) ∧ w'.cell? ⟨B', o' + i * 5 + 4, none⟩ = some (ym))
         (first
           | with_reducible exact HKE.out _ HB0.out
           | with_reducible exact HKE.out _ HB1.out
           | go_keep)
         (first
           | (go_at_call 12; refine (IH.out x y HSZ.out xi xm yi ym ok ok' _ (HX.out.under HB0.out) (HY.out.under HB0.out) HLX.out HLY.out).mono ?_; rintro e w9 ⟨r, rfl, hr9, hb9⟩; have HR9 := Lib.hid hr9; have HB1 := Lib.hid (HB0.out.trans (hb9.mono HB0.out.size)); clear hr9 hb9))
       all_goals
         have HW9 := Lib.hid (HW.out.trans (HB1.out.mono HW.out.size))
         rcases Bool.eq_false_or_eq_true r with rfl | rfl
         · have HT9 := Lib.hid (HNX.out (HR9.out.1 rfl))
           go_wp2_with fail
           go_roundw
           case rel => exact ⟨i + 1, by go_num, hlt, HT9, HW9⟩
           case measure => simp [intOf]; omega
         · have HN9 := Lib.hid (show a ≠ b from fun h => by have := HR9.out.2 (HDF.out h); cases this)
           go_wp2_with fail
           go_ret
           exact SamP.no (H2.out.2.2.trans (HW9.out.mono H2.out.2.2.size)) HN9.out
     · have hits : a.its = b.its := by
         have h := HT.out
         rw [List.take_of_length_le (by omega), List.take_of_length_le (by have := HE4.out; omega)] at h
         exact h
       have HITS := Lib.hid hits
       clear hits HT
       go_wp2_with fail
       clear k3 m3 hlt hi
       go_loopw [6] (fun x wz => ∃ j : Nat, x = .int .i64 (j : Int) ∧ j ≤ a.mem.length ∧ Hid (a.mem.take j = b.mem.take j) ∧ Hid (Below W.heap.size W wz)) (fun x _ => a.mem.length - (intOf x).toNat)
       case atStart => exact ⟨0, rfl, Nat.zero_le _, Lib.hid rfl, HW⟩
       case round =>
         clear HW
         obtain ⟨j, rfl, hj, HT, HZ⟩ := hrel
         by_cases hlt : j < a.mem.length
         · have hlt' : j < b.mem.length := by have := HE5.out; omega
           have k4 := (H2.out.1.below HZ.out).cell 4
           have m4 := (H2.out.2.1.below HZ.out).cell 4
           simp at k4 m4
           have hB0 := H2.out.2.2.trans (HZ.out.mono H2.out.2.2.size)
           obtain ⟨B, o, xi, xm, rfl, hcap, hB, x0, hc, hx⟩ := HME.out j hlt
           obtain ⟨B', o', yi, ym, rfl, hcap', hB', y0, hc', hy⟩ := HME'.out j hlt'
           obtain ⟨x1, x2, x3, x4, x5⟩ := hc.below hB0 hB
           obtain ⟨y1, y2, y3, y4, y5⟩ := hc'.below hB0 hB'
           replace x0 := (hB0.cell (p := ⟨B, o + j * 6, none⟩) hB).trans x0
           replace y0 := (hB0.cell (p := ⟨B', o' + j * 6, none⟩) hB').trans y0
           have hsz := hB0.size
           have HX := Lib.hid (hx.under hB0)
           have HY := Lib.hid (hy.under hB0)
           have HSZ := Lib.hid (Nat.lt_of_lt_of_le (dat_mg (List.getElem_mem hlt)) (Nat.le_of_lt_succ HD.out))
           have HLX := Lib.hid ((lim_iff.1 HLA.out).2.2.2.2 _ (List.getElem_mem hlt)).2
           have HLY := Lib.hid ((lim_iff.1 HLB.out).2.2.2.2 _ (List.getElem_mem hlt')).2
           have HNX := Lib.hid (take_step HT.out hlt hlt')
           have HDF := Lib.hid (fun (h : a = b) => (show a.mem[j] = b.mem[j] by subst h; rfl))
           clear hc hc' hx hy
           generalize a.mem[j] = tx at x0 x1 x2 x3 x4 x5 HX HSZ HLX HNX HDF
           generalize b.mem[j] = ty at y0 y1 y2 y3 y4 y5 HY HLY HNX HDF
           obtain ⟨la, x⟩ := tx
           obtain ⟨lb, y⟩ := ty
           simp only at x0 x1 x2 x3 x4 x5 y0 y1 y2 y3 y4 y5 HX HY HSZ HLX HLY HNX HDF
           have HKE := Lib.hid (fun w' (hb : Below wr.heap.size wr w') => (And.intro ((hb.cell (p := ⟨w.heap.size, 4, none⟩) (H2.out.1.below HZ.out).lt).trans k4) (And.intro ((hb.cell (p := ⟨w.heap.size + 1, 4, none⟩) (H2.out.2.1.below HZ.out).lt).trans m4) (And.intro ((hb.cell (p := ⟨B, o + j * 6, none⟩) (Nat.lt_of_lt_of_le hB hsz)).trans x0) (And.intro ((hb.cell (p := ⟨B, o + j * 6 + 1, none⟩) (Nat.lt_of_lt_of_le hB hsz)).trans x1) (And.intro ((hb.cell (p := ⟨B, o + j * 6 + 2, none⟩) (Nat.lt_of_lt_of_le hB hsz)).trans x2) (And.intro ((hb.cell (p := ⟨B, o + j * 6 + 3, none⟩) (Nat.lt_of_lt_of_le hB hsz)).trans x3) (And.intro ((hb.cell (p := ⟨B, o + j * 6 + 4, none⟩) (Nat.lt_of_lt_of_le hB hsz)).trans x4) (And.intro ((hb.cell (p := ⟨B, o + j * 6 + 5, none⟩) (Nat.lt_of_lt_of_le hB hsz)).trans x5) (And.intro ((hb.cell (p := ⟨B', o' + j * 6, none⟩) (Nat.lt_of_lt_of_le hB' hsz)).trans y0) (And.intro ((hb.cell (p := ⟨B', o' + j * 6 + 1, none⟩) (Nat.lt_of_lt_of_le hB' hsz)).trans y1) (And.intro ((hb.cell (p := ⟨B', o' + j * 6 + 2, none⟩) (Nat.lt_of_lt_of_le hB' hsz)).trans y2) (And.intro ((hb.cell (p := ⟨B', o' + j * 6 + 3, none⟩) (Nat.lt_of_lt_of_le hB' hsz)).trans y3) (And.intro ((hb.cell (p := ⟨B', o' + j * 6 + 4, none⟩) (Nat.lt_of_lt_of_le hB' hsz)).trans y4) ((hb.cell (p := ⟨B', o' + j * 6 + 5, none⟩) (Nat.lt_of_lt_of_le hB' hsz)).trans y5)))))))))))))))
           have HB0 := Lib.hid (below_drew (Below.refl wr.heap.size wr))
           have hun : undef = Value.tuple #[] := rfl
           go_upto_region 11 with fail
           by_cases hl : la = lb
           · have t1 : (la != lb) = false := by simpa using hl
             have t2 : (la == lb) = true := by simpa using hl
             have HL := Lib.hid hl
             clear hl k4 m4 x0 x1 x2 x3 x4 x5 y0 y1 y2 y3 y4 y5
             go_region_held3 (fun w' => w'.cell? ⟨w.heap.size, 4, none⟩ = some (.slice (some ⟨B, o, none⟩) a.mem.length c2) ∧ w'.cell? ⟨w.heap.size + 1, 4, none⟩ = some (.slice (some ⟨B', o', none⟩) a.mem.length c4) ∧ w'.cell? ⟨B, o + j * 6, none⟩ = some (.string (S la)) ∧ w'.cell? ⟨B, o + j * 6 + 1, none⟩ = some (.int .i64 x.k) ∧ w'.cell? ⟨B, o + j * 6 + 2, none⟩ = some (.int .i64 x.n) ∧ w'.cell? ⟨B, o + j * 6 + 3, none⟩ = some (.string (S x.s)) ∧ w'.cell? ⟨B, o + j * 6 + 4, none⟩ = some (xi) ∧ w'.cell? ⟨B, o + j * 6 + 5, none⟩ = some (xm) ∧ w'.cell? ⟨B', o' + j * 6, none⟩ = some (.string (S lb)) ∧ w'.cell? ⟨B', o' + j * 6 + 1, none⟩ = some (.int .i64 y.k) ∧ w'.cell? ⟨B', o' + j * 6 + 2, none⟩ = some (.int .i64 y.n) ∧ w'.cell? ⟨B', o' + j * 6 + 3, none⟩ = some (.string (S y.s)) ∧ w'.cell? ⟨B', o' + j * 6 + 4, none⟩ = some (yi) ∧ w'.cell? ⟨B', o' + j * 6 + 5, none⟩ = some (ym))
               (first
                 | with_reducible exact HKE.out _ HB0.out
                 | with_reducible exact HKE.out _ HB1.out
                 | go_keep)
               (first
                 | (go_at_call 12; refine (IH.out x y HSZ.out xi xm yi ym ok ok' _ (HX.out.under HB0.out) (HY.out.under HB0.out) HLX.out HLY.out).mono ?_; rintro e w9 ⟨r, rfl, hr9, hb9⟩; have HR9 := Lib.hid hr9; have HB1 := Lib.hid (HB0.out.trans (hb9.mono HB0.out.size)); clear hr9 hb9))
             all_goals
               have HW9 := Lib.hid (HZ.out.trans (HB1.out.mono HZ.out.size))
               rcases Bool.eq_false_or_eq_true r with rfl | rfl
               · have HT9 := Lib.hid (HNX.out (by rw [HL.out, HR9.out.1 rfl]))
                 go_wp2_with fail
                 go_roundw
                 case rel => exact ⟨j + 1, by go_num, hlt, HT9, HW9⟩
                 case measure => simp [intOf]; omega
               · have HN9 := Lib.hid (show a ≠ b from fun h => by have h1 := HDF.out h; injection h1 with _ h1; have := HR9.out.2 h1; cases this)
                 go_wp2_with fail
                 go_ret
                 exact SamP.no (H2.out.2.2.trans (HW9.out.mono H2.out.2.2.size)) HN9.out
           · have t1 : (la != lb) = true := by simpa using hl
             have t2 : (la == lb) = false := by simpa using hl
             have HN9 := Lib.hid (show a ≠ b from fun h => hl (by have h1 := HDF.out h; injection h1))
             clear hl
             clear HKE HB0
             have HB0 := Lib.hid hB0
             clear hB0
             go_quiet (fail)
             go_wp2_with fail
             go_ret
             exact SamP.no (below_drewN HB0.out nq) HN9.out
         · have hmem : a.mem = b.mem := by
             have h := HT.out
             rw [List.take_of_length_le (by omega), List.take_of_length_le (by have := HE5.out; omega)] at h
             exact h
           have HEQ := Lib.hid (HEX.out.2 ⟨HITS.out, hmem⟩)
           have k4 := (H2.out.1.below HZ.out).cell 4
           simp at k4
           clear hmem
           go_wp2_with fail
           go_ret
           exact ⟨true, rfl, ⟨fun _ => HEQ.out, fun _ => rfl⟩, H2.out.2.2.trans (HZ.out.mono H2.out.2.2.size)⟩
end
section
open Go.RowKit
def exS : List UInt8 := [97, 46, 98, 32, 61, 32, 49, 10, 99, 91, 48, 93, 32, 61, 32, 34, 120, 34, 10]
def exF : List UInt8 := [97, 32, 61, 32, 49, 10, 10, 98, 32, 61, 32, 49, 32, 10]
theorem ex_text : textD exD = (exS, 0) := by kernel_rfl
theorem ex_parse : parseD parseP exS = (exD, 0, 0) := by kernel_rfl
theorem ex_bad : parseD parseP exF = (dat0, 19, 3) := by kernel_rfl
theorem ex_flat : (flatD exD).1.length = 2 ∧ (flatD exD).2 = 0 := ⟨by kernel_rfl, by kernel_rfl⟩
theorem ex_nil : buildD [] = (dat0, 19) := by kernel_rfl
theorem ex_lim : limD exD = true := by kernel_rfl
theorem ex_chk : chk exD 1 = 0 := by kernel_rfl
theorem ex_lab : lbD exD = true := by kernel_rfl
theorem ex_lv : (lvD exD).length = 2 := by kernel_rfl
theorem ex_len : (linesT (entsD exD)).length = 19 := by kernel_rfl
theorem flat_ok {d : Dat} (hc : chk d 1 = 0) (hb : lbD d = true) : flatD d = (entsD d, 0) := by
 unfold flatD
 rw [if_neg (by simp [hc]), if_neg (by simp [hb])]
theorem ex_lines : (flatD exD).1.length ≤ 1000 ∧ ∀ e ∈ (flatD exD).1, lineLim e := by
 rw [flat_ok ex_chk ex_lab]
 exact line_lims ex_chk ex_lab ex_lim (by rw [ex_len]; omega)
theorem PrsP.open {w w' : World} {r : Dat × Nat × Nat} {e : Ending} (h : PrsP w r e w') : ∃ p cap q caq, e = .returned (.tuple #[.agg #[.int .i64 r.1.k, .int .i64 r.1.n, .string (S r.1.s), .slice p r.1.its.length cap, .slice q r.1.mem.length caq], .agg #[.int .i64 (r.2.1 : Int), .int .i64 (r.2.2 : Int)]]) ∧ Rep w' (fun B => w.heap.size ≤ B) r.1 (.slice p r.1.its.length cap) (.slice q r.1.mem.length caq) ∧ Below w.heap.size w w' := by
 obtain ⟨vi, vm, rfl, hr, hb⟩ := h
 obtain ⟨p, cap, rfl, -, -⟩ := hr.items
 obtain ⟨q, caq, rfl, -, -⟩ := hr.members
 exact ⟨p, cap, q, caq, rfl, hr, hb⟩
theorem BuildP.open {w w' : World} {r : Dat × Nat} {e : Ending} (h : BuildP w r e w') : ∃ p cap q caq, e = .returned (.tuple #[.agg #[.int .i64 r.1.k, .int .i64 r.1.n, .string (S r.1.s), .slice p r.1.its.length cap, .slice q r.1.mem.length caq], .int .i64 (r.2 : Int)]) ∧ Rep w' (fun B => w.heap.size ≤ B) r.1 (.slice p r.1.its.length cap) (.slice q r.1.mem.length caq) ∧ Below w.heap.size w w' := by
 obtain ⟨vi, vm, rfl, hr, hb⟩ := h
 obtain ⟨p, cap, rfl, -, -⟩ := hr.items
 obtain ⟨q, caq, rfl, -, -⟩ := hr.members
 exact ⟨p, cap, q, caq, rfl, hr, hb⟩
end
section
open Go.RowKit
set_option maxRecDepth 100000 in
set_option maxHeartbeats 4000000 in
theorem awake_any (w : World) (hE : StOk w) (hM : MaxOk w) : Calls Tryz.prog 10 #[] w fun e w' => e = .returned (.bool true) ∧ Below w.heap.size w w' := by
 have HE := Lib.hid hE
 have HM := Lib.hid hM
 clear hE hM
 have HN := Lib.hid HE.out.num
 go_enter Tryz.func10, Tryz.ntmps10
 go_wp2_with fail
 refine (example_any _).mono ?_
 rintro e w1 ⟨vi, vm, rfl, hr, hb⟩
 have HB1 := Lib.hid hb
 have HR1 := Lib.hid hr
 clear hb hr
 go_wp2_with fail
 refine (PText_any (d := exD) HR1.out ex_lim (by rw [ex_lv]; omega) (HN.out.below HB1.out) ex_lines).mono ?_
 rintro e w2 ⟨rfl, hb⟩
 have HB2 := Lib.hid (HB1.out.trans (hb.mono HB1.out.size))
 clear hb HB1 HR1
 rw [ex_text]
 go_wp2_with fail
 refine (PParse_any pp_ok pp_len exS (by decide) _ (HE.out.below HB2.out) (HM.out.below HB2.out)).mono ?_
 rintro e w3 hp
 rw [ex_parse] at hp
 obtain ⟨p, cap, q, caq, rfl, hr, hb⟩ := hp.open
 have HB3 := Lib.hid (HB2.out.trans (hb.mono HB2.out.size))
 have HR3 := Lib.hid hr
 clear hb hr hp HB2
 have h2 := two_new w3 #[.int .i64 exD.k, .int .i64 exD.n, .string (S exD.s), .slice p exD.its.length cap, .slice q exD.mem.length caq] #[.int .i64 0, .int .i64 0] 26 29
 go_upto_region 3 with fail
 generalize (w3.alloc (.cells #[.int .i64 exD.k, .int .i64 exD.n, .string (S exD.s), .slice p exD.its.length cap, .slice q exD.mem.length caq] 26)).alloc (.cells #[.int .i64 0, .int .i64 0] 29) = w4 at h2 ⊢
 have K4 := Lib.hid (And.intro h2.1 h2.2.1)
 have HB4 := Lib.hid (HB3.out.trans (h2.2.2.mono HB3.out.size))
 have HR4 := Lib.hid (HR3.out.under h2.2.2)
 clear h2 HB3 HR3
 go_wp2_with fail
 refine (example_any _).mono ?_
 rintro e w5 ⟨vi5, vm5, rfl, hr, hb⟩
 have HB5 := Lib.hid (HB4.out.trans (hb.mono HB4.out.size))
 have K5 := Lib.hid (And.intro (K4.out.1.below hb) (K4.out.2.below hb))
 have HR5 := Lib.hid (HR4.out.under hb)
 have HR := Lib.hid hr
 clear hb hr HB4 K4 HR4
 go_wp2_with fail
 refine (Flatten_any (d := exD) HR.out ex_lim (by rw [ex_lv]; omega)).mono ?_
 rintro e w6 ⟨v, T, rfl, ho, hT, -, hb⟩
 have hTl : T.length = 2 := by rw [← ex_flat.1, ← hT, List.length_map]
 obtain ⟨vp, vc, rfl⟩ := own_form5 ho
 rw [hTl, ex_flat.2]
 have HB6 := Lib.hid (HB5.out.trans (hb.mono HB5.out.size))
 have K6 := Lib.hid (And.intro (K5.out.1.below hb) (K5.out.2.below hb))
 have HR6 := Lib.hid (HR5.out.under hb)
 clear hb HR hT ho hTl HB5 K5 HR5
 go_wp2_with fail
 refine (PParse_any pp_ok pp_len exF (by decide) _ (HE.out.below HB6.out) (HM.out.below HB6.out)).mono ?_
 rintro e w7 hp
 rw [ex_bad] at hp
 obtain ⟨p7, cap7, q7, caq7, rfl, -, hb⟩ := hp.open
 have HB7 := Lib.hid (HB6.out.trans (hb.mono HB6.out.size))
 have K7 := Lib.hid (And.intro (K6.out.1.below hb) (K6.out.2.below hb))
 have HR7 := Lib.hid (HR6.out.under hb)
 clear hb hp HB6 K6 HR6
 have h2 := two_new w7 #[.int .i64 dat0.k, .int .i64 dat0.n, .string (S dat0.s), .slice p7 dat0.its.length cap7, .slice q7 dat0.mem.length caq7] #[.int .i64 19, .int .i64 3] 26 29
 go_upto_region 5 with fail
 generalize (w7.alloc (.cells #[.int .i64 dat0.k, .int .i64 dat0.n, .string (S dat0.s), .slice p7 dat0.its.length cap7, .slice q7 dat0.mem.length caq7] 26)).alloc (.cells #[.int .i64 19, .int .i64 3] 29) = w8 at h2 ⊢
 have HB8 := Lib.hid (HB7.out.trans (h2.2.2.mono HB7.out.size))
 have K8 := Lib.hid (And.intro (K7.out.1.below h2.2.2) (And.intro (K7.out.2.below h2.2.2) h2.2.1))
 have HR8 := Lib.hid (HR7.out.under h2.2.2)
 clear h2 HB7 K7 HR7
 go_wp2_with fail
 refine (Build_any (L := []) (ok := fun _ => True) ⟨none, 0, 0, 0, rfl, by simp, by simp⟩ ⟨by simp, by simp⟩).mono ?_
 rintro e w9 hp
 rw [ex_nil] at hp
 obtain ⟨p9, cap9, q9, caq9, rfl, -, hb⟩ := hp.open
 have HB9 := Lib.hid (HB8.out.trans (hb.mono HB8.out.size))
 have K9 := Lib.hid (And.intro (K8.out.1.below hb) (And.intro (K8.out.2.1.below hb) (K8.out.2.2.below hb)))
 have HR9 := Lib.hid (HR8.out.under hb)
 clear hb hp HB8 K8 HR8
 have hb0 := (Below.refl w9.heap.size w9).alloc (Nat.le_refl _) (.cells #[.int .i64 dat0.k, .int .i64 dat0.n, .string (S dat0.s), .slice p9 dat0.its.length cap9, .slice q9 dat0.mem.length caq9] 26)
 go_upto_region 6 with fail
 generalize w9.alloc (.cells #[.int .i64 dat0.k, .int .i64 dat0.n, .string (S dat0.s), .slice p9 dat0.its.length cap9, .slice q9 dat0.mem.length caq9] 26) = w10 at hb0 ⊢
 have HB := Lib.hid (HB9.out.trans (hb0.mono HB9.out.size))
 have k1 := K9.out.1.below hb0
 have k2 := K9.out.2.1.below hb0
 have k3 := K9.out.2.2.below hb0
 have HR := Lib.hid (HR9.out.under hb0)
 have HKE := Lib.hid (fun w' (hb : Below w10.heap.size w10 w') => (And.intro ((k1.below hb).cell 0) (And.intro ((k1.below hb).cell 1) (And.intro ((k1.below hb).cell 2) (And.intro ((k1.below hb).cell 3) (And.intro ((k1.below hb).cell 4) (And.intro ((k2.below hb).cell 0) (And.intro ((k2.below hb).cell 1) (And.intro ((k3.below hb).cell 0) ((k3.below hb).cell 1))))))))))
 simp at HKE
 have HB0 := Lib.hid (below_drew (Below.refl w10.heap.size w10))
 have t1 : (exS == [97, 46, 98, 32, 61, 32, 49, 10, 99, 91, 48, 93, 32, 61, 32, 34, 120, 34, 10]) = true := by decide
 clear HB9 K9 HR9 hb0 k1 k2 k3
 go_region_held3 (fun w' => w'.cell? ⟨w3.heap.size, 0, none⟩ = some (.int .i64 exD.k) ∧ w'.cell? ⟨w3.heap.size, 1, none⟩ = some (.int .i64 exD.n) ∧ w'.cell? ⟨w3.heap.size, 2, none⟩ = some (.string (S exD.s)) ∧ w'.cell? ⟨w3.heap.size, 3, none⟩ = some (.slice p exD.its.length cap) ∧ w'.cell? ⟨w3.heap.size, 4, none⟩ = some (.slice q exD.mem.length caq) ∧ w'.cell? ⟨w3.heap.size + 1, 0, none⟩ = some (.int .i64 0) ∧ w'.cell? ⟨w3.heap.size + 1, 1, none⟩ = some (.int .i64 0) ∧ w'.cell? ⟨w7.heap.size + 1, 0, none⟩ = some (.int .i64 19) ∧ w'.cell? ⟨w7.heap.size + 1, 1, none⟩ = some (.int .i64 3))
   (first
     | with_reducible exact HKE.out _ HB0.out
     | with_reducible exact HKE.out _ HB1.out
     | with_reducible exact HKE.out _ HB2.out
     | go_keep)
   (first
     | (go_at_call 24; refine (example_any _).mono ?_; rintro e w1 ⟨ui, um, rfl, hr, hb⟩; have HB1 := Lib.hid (HB0.out.trans (hb.mono HB0.out.size)); have HR1 := Lib.hid hr; clear hb hr; simp only [dv])
     | (go_at_call 12; refine (dSame_any (SizeOf.sizeOf exD + 1) exD exD (Nat.lt_succ_self _) _ _ _ _ _ _ _ (HR.out.under HB1.out) HR1.out ex_lim ex_lim).mono ?_; rintro e w2 ⟨r, rfl, hr, hb⟩; obtain rfl : r = true := hr.2 rfl; have HB2 := Lib.hid (HB1.out.trans (hb.mono HB1.out.size)); clear hr hb))
 all_goals
   go_wp2_with fail
   go_ret
   exact ⟨rfl, HB.out.trans (HB2.out.mono HB.out.size)⟩
end
section
open Go.RowKit
def pre : List UInt8 := [47, 47, 32, 102, 105, 114, 115, 116, 32, 61, 32, 49, 10, 10]
end
section
open Go.RowKit
end
section
open Go.RowKit
theorem FlatP.open {w w' : World} {r : List Ent × Nat} {e : Ending} (h : FlatP w r e w') : ∃ p cap T, e = .returned (.tuple #[.slice p r.1.length cap, .int .i64 (r.2 : Int)]) ∧ w'.ownsRow w.heap.size 42 6 (.slice p r.1.length cap) r.1.length (flatE T) ∧ T.map Env.e = r.1 ∧ (∀ t ∈ T, t.good w' (fun B => w.heap.size ≤ B)) ∧ Below w.heap.size w w' := by
 obtain ⟨v, T, rfl, ho, hT, hg, hb⟩ := h
 have hl : T.length = r.1.length := by rw [← hT, List.length_map]
 rw [hl] at ho
 obtain ⟨p, cap, rfl⟩ := own_form5 ho
 exact ⟨p, cap, T, rfl, ho, hT, hg, hb⟩
theorem blk_own {W : World} {B b s n : Nat} {cs : Array Value} {t e : TypeId} {v : Value} {xs : List Value} (h : Blk W B cs t) (ho : W.ownsRow b e s v n xs) (hne : t ≠ e) : some B ≠ v.ownBlock := by
 intro e'
 rcases ho.2 with ⟨rfl, -⟩ | ⟨g, cap, cur, rfl, hb, hg, -⟩
 · simp [Value.ownBlock] at e'
 · simp [Value.ownBlock] at e'
   subst e'
   unfold Blk at h
   rw [hg] at h
   injection h with h
   injection h with _ h2
   exact hne h2.symm
def ClS (w2 : World) (B : Nat) (Q : List Stp) (wx : World) : Prop :=
 ∃ vp vc, Blk wx B #[.slice vp Q.length vc, .int .i64 1, .int .i64 0, .string ⟨#[]⟩, .slice none 0 0, .slice none 0 0] 42 ∧ wx.ownsRow w2.heap.size 44 2 (.slice vp Q.length vc) Q.length (flatC Q) ∧ Below w2.heap.size w2 wx ∧ w2.heap.size ≤ B
theorem ClS.new {w2 w4 : World} {P : List Stp} {vp : Option Addr} {vc : Nat} (ho : w4.ownsRow w2.heap.size 44 2 (.slice vp P.length vc) P.length (flatC P)) (hg : (w2.alloc (.cells #[] 44)).grownBy w4 (Value.slice (some ⟨w2.heap.size, 0, none⟩) 0 0).ownBlock) :
   ClS w2 w4.heap.size P (w4.alloc (.cells #[.slice vp P.length vc, .int .i64 1, .int .i64 0, .string ⟨#[]⟩, .slice none 0 0, .slice none 0 0] 42)) := by
 have hb : Below w2.heap.size w2 w4 := below_own ((Below.refl _ w2).alloc (Nat.le_refl _) _) (own_empty w2 (size := 2)) hg (Nat.le_refl _) (by simp)
 exact ⟨vp, vc, Blk.new w4 _ _, ho.alloc _, hb.alloc hb.size _, hb.size⟩
theorem ClS.push {w2 w5 w6 : World} {B : Nat} {P : List Stp} {s : Stp} {vp v6p : Option Addr} {vc v6c : Nat} (hB : Blk w5 B #[.slice vp P.length vc, .int .i64 1, .int .i64 0, .string ⟨#[]⟩, .slice none 0 0, .slice none 0 0] 42)
   (ho : w5.ownsRow w2.heap.size 44 2 (.slice vp P.length vc) P.length (flatC P)) (hb : Below w2.heap.size w2 w5) (hlo : w2.heap.size ≤ B) (o : Obj)
   (h6 : w6.ownsRow w2.heap.size 44 2 (.slice v6p (P.length + 1) v6c) (P.length + 1) (flatC P ++ [.string (S s.lab), .int .i64 s.idx])) (hg : (w5.alloc o).grownBy w6 (Value.slice vp P.length vc).ownBlock) :
   ClS w2 B (P ++ [s]) (w6.setCell ⟨B, 0, none⟩ (.slice v6p (P.length + 1) v6c)) := by
 have h5 := hB.alloc o
 have hk := h5.kept hg (blk_own h5 (ho.alloc o) (by decide))
 have hl : (P ++ [s]).length = P.length + 1 := by simp
 refine ⟨v6p, v6c, ?_, ?_, ?_, hlo⟩
 · rw [hl]; exact hk.set 0 _
 · rw [hl, flatC_snoc']
   exact ownsRow_setCell_other h6 (fun e => (blk_own hk h6 (by decide)) e.symm) _
 · exact (below_own (hb.alloc hb.size o) (ho.alloc o) hg (Nat.le_refl _) (by have := hb.size; simp; omega)).setCell hlo _
theorem Src.up {w : World} {size : Nat} {p : Option Addr} {m : Nat} {news : List Value} {o : Obj} (h : Src w size p m news) : Src (w.alloc o) size p m news :=
 ⟨h.1, h.2.1, fun a ha j u hu => by have h1 := h.2.2.1 a ha j u hu; generalize a.add j = b at h1 ⊢; obtain ⟨b, o', s⟩ := b; exact Lib.cell?_alloc_some _ h1, h.2.2.2⟩
theorem awake_from {w : World} (hE : StOk w) (hM : MaxOk w) (X : World) (hb : Below w.heap.size w X) : Calls Tryz.prog 10 #[] X fun e w' => e = .returned (.bool true) ∧ Below w.heap.size w w' :=
 (awake_any X (hE.below hb) (hM.below hb)).mono fun _ _ h => ⟨h.1, hb.trans (h.2.mono hb.size)⟩
end
section
open Go.RowKit
theorem lines_ok {pp : List UInt8 → List Stp × Nat × Nat} : ∀ {ls : List (List UInt8)} {n : Nat} {L : List Ent}, linesP pp ls n = .ok L → L.length ≤ ls.length ∧ ∀ e ∈ L, ∃ l ∈ ls, entryP pp l = some e
 | [], n, L, h => by
   rw [linesP] at h; injection h with h; subst h
   exact ⟨Nat.le_refl _, fun e he => by simp at he⟩
 | l :: r, n, L, h => by
   rw [linesP] at h
   split at h
   · obtain ⟨h1, h2⟩ := lines_ok h
     exact ⟨by rw [List.length_cons]; omega, fun e he => by obtain ⟨x, hx, hy⟩ := h2 e he; exact ⟨x, List.mem_cons_of_mem _ hx, hy⟩⟩
   · cases hen : entryP pp l with
     | none => rw [hen] at h; cases h
     | some e =>
       rw [hen] at h
       cases hl : linesP pp r (n + 1) with
       | error k => rw [hl] at h; cases h
       | ok L' =>
         rw [hl] at h
         injection h with h
         subst h
         obtain ⟨h1, h2⟩ := lines_ok hl
         refine ⟨by rw [List.length_cons, List.length_cons]; omega, fun e' he => ?_⟩
         rcases List.mem_cons.1 he with rfl | he
         · exact ⟨l, List.mem_cons_self .., hen⟩
         · obtain ⟨x, hx, hy⟩ := h2 e' he
           exact ⟨x, List.mem_cons_of_mem _ hx, hy⟩
theorem parse_lim (l : List UInt8) : limD (parseD parseP l).1 = true := by
 unfold parseD
 split
 · exact (by decide : limD dat0 = true)
 · rename_i hl
   cases hx : linesP parseP (splitC 10 l) 1 with
   | error n => exact (by decide : limD dat0 = true)
   | ok L =>
     obtain ⟨h1, h2⟩ := lines_ok hx
     have hc : (splitC 10 l).length ≤ 65537 := by rw [splitC_len]; have := List.count_le_length (a := (10 : UInt8)) (l := l); omega
     refine build_lim (L := L) ⟨by omega, fun e he => ?_⟩
     obtain ⟨x, hx, hy⟩ := h2 e he
     exact ent_lims pp_ok pp_len (Nat.le_trans (splitC_mem_len 10 l x hx) (by omega)) hy
set_option maxRecDepth 100000 in
set_option maxHeartbeats 4000000 in
theorem lawPropertiesParses (l : List UInt8) (w : World) (hO : StOk w ∧ MaxOk w) : Calls Tryz.prog 8 #[.string (S l)] w fun e w' => e = .returned (.bool true) ∧ Below w.heap.size w w' := by
 have HE := Lib.hid hO.1
 have HM := Lib.hid hO.2
 clear hO
 by_cases hbig : 600 < l.length
 · have b1 : (600 : Int) < (l.length : Int) := by omega
   have b2 : decide ((600 : Int) < (l.length : Int)) = true := decide_eq_true b1
   go_enter Tryz.func8, Tryz.ntmps8
   go_wp2_with fail
   refine (awake_any _ HE.out HM.out).mono ?_
   rintro e w1 ⟨rfl, hb⟩
   have HB := Lib.hid hb
   clear hb
   go_wp2_with fail
   go_ret
   exact ⟨rfl, HB.out⟩
 have b1 : ¬ ((600 : Int) < (l.length : Int)) := by omega
 have b2 : decide ((600 : Int) < (l.length : Int)) = false := decide_eq_false b1
 have HPP := Lib.hid (PParse_any pp_ok pp_len l (by omega) w HE.out HM.out)
 have HPR := Lib.hid (fun w' => refPParse_any pp_ok pp_len l (by omega) w')
 have HLR := Lib.hid (parse_lim l)
 generalize parseD parseP l = r at HPP HPR HLR
 obtain ⟨d, en, ep⟩ := r
 simp only at HLR
 go_enter Tryz.func8, Tryz.ntmps8
 go_wp2_with fail
 refine HPP.out.mono ?_
 rintro e w1 hp
 obtain ⟨p, cap, q, caq, rfl, hr, hb⟩ := hp.open
 simp only at hr ⊢
 have hn := two_new w1 #[.int .i64 d.k, .int .i64 d.n, .string (S d.s), .slice p d.its.length cap, .slice q d.mem.length caq] #[.int .i64 (en : Int), .int .i64 (ep : Int)] 26 29
 have HB1 := Lib.hid hb
 have HR1 := Lib.hid hr
 clear hb hr hp HPP
 go_upto_region 4 with fail
 generalize (w1.alloc (.cells #[.int .i64 d.k, .int .i64 d.n, .string (S d.s), .slice p d.its.length cap, .slice q d.mem.length caq] 26)).alloc (.cells #[.int .i64 (en : Int), .int .i64 (ep : Int)] 29) = w2 at hn ⊢
 have HB2 := Lib.hid (HB1.out.trans (hn.2.2.mono HB1.out.size))
 have HR2 := Lib.hid (HR1.out.under hn.2.2)
 have K2 := Lib.hid (And.intro hn.1 hn.2.1)
 clear hn HB1 HR1
 go_wp2_with fail
 refine (HPR.out _).mono ?_
 rintro e w3 hp
 obtain ⟨p3, cap3, q3, caq3, rfl, hr, hb⟩ := hp.open
 simp only at hr ⊢
 have hn := two_new w3 #[.int .i64 d.k, .int .i64 d.n, .string (S d.s), .slice p3 d.its.length cap3, .slice q3 d.mem.length caq3] #[.int .i64 (en : Int), .int .i64 (ep : Int)] 26 29
 have HB3 := Lib.hid (HB2.out.trans (hb.mono HB2.out.size))
 have HR3 := Lib.hid (And.intro (HR2.out.under hb) hr)
 have K3 := Lib.hid (And.intro (K2.out.1.below hb) (K2.out.2.below hb))
 clear hb hr hp HB2 HR2 K2 HPR
 go_upto_region 5 with fail
 generalize (w3.alloc (.cells #[.int .i64 d.k, .int .i64 d.n, .string (S d.s), .slice p3 d.its.length cap3, .slice q3 d.mem.length caq3] 26)).alloc (.cells #[.int .i64 (en : Int), .int .i64 (ep : Int)] 29) = w4 at hn ⊢
 have HB4 := Lib.hid (HB3.out.trans (hn.2.2.mono HB3.out.size))
 have HR4 := Lib.hid (And.intro (HR3.out.1.under hn.2.2) (HR3.out.2.under hn.2.2))
 have hA := K3.out.1.below hn.2.2
 have hF := K3.out.2.below hn.2.2
 have c0 := hA.cell 0
 have c1 := hA.cell 1
 have c2 := hA.cell 2
 have c3 := hA.cell 3
 have c4 := hA.cell 4
 have d0 := hn.1.cell 0
 have d1 := hn.1.cell 1
 have d2 := hn.1.cell 2
 have d3 := hn.1.cell 3
 have d4 := hn.1.cell 4
 simp at c0 c1 c2 c3 c4 d0 d1 d2 d3 d4
 have e0 := hF.cell 0
 have e1 := hF.cell 1
 have g0 := hn.2.1.cell 0
 have g1 := hn.2.1.cell 1
 simp at e0 e1 g0 g1
 clear hn hA hF HB3 HR3 K3
 have t1 : ((en : Int) == (en : Int)) = true := beq_self_eq_true _
 have t2 : ((ep : Int) == (ep : Int)) = true := beq_self_eq_true _
 go_wp2_with fail
 refine (dSame_any (SizeOf.sizeOf d + 1) d d (Nat.lt_succ_self _) _ _ _ _ _ _ _ HR4.out.1 HR4.out.2 HLR.out HLR.out).mono ?_
 rintro e w6 ⟨r, rfl, hr, hb⟩
 obtain rfl : r = true := hr.2 rfl
 have HB6 := Lib.hid (HB4.out.trans (hb.mono HB4.out.size))
 clear hr hb HB4 HR4
 go_wp2_with fail
 refine (awake_from HE.out HM.out _ HB6.out).mono ?_
 rintro e w7 ⟨rfl, hb⟩
 have HB7 := Lib.hid hb
 clear hb
 go_wp2_with fail
 go_ret
 exact ⟨rfl, HB7.out⟩
end
section
open Go.ChangeShapes Go.WideShapes Go.ChangeAt Go.RowKit
theorem own : ownKnob Tryz.prog.godebug = none := by kernel_rfl
def laidList : List (String × DataW Unit) := Rows.propertiesLinesRow.laid
theorem cellsErr : Tryz.prog.cellsOf 243 = 1 := by kernel_rfl
theorem cellsStr : Tryz.prog.cellsOf 9 = 1 := by kernel_rfl
theorem starErr : "*" ++ "errors.errorString" = "*errors.errorString" := by decide
theorem rowErr (u : TypeId) (h : Tryz.prog.typeName? 3 u = some "*errors.errorString") : u = 241 :=
 typeName_ptr_named (nm := "errors.errorString") (by rw [starErr]; kernel_rfl) (by kernel_rfl) (by decide) u (by rw [starErr]; exact h)
theorem gES : Tryz.prog.globalNamed "strconv.ErrSyntax" = some 4 := by kernel_rfl
theorem gESType : (Tryz.prog.globals[4]?).map (·.type) = some 146 := by kernel_rfl
theorem gER : Tryz.prog.globalNamed "strconv.ErrRange" = some 5 := by kernel_rfl
theorem gERType : (Tryz.prog.globals[5]?).map (·.type) = some 146 := by kernel_rfl
theorem gTab : Tryz.prog.globalNamed "internal/strconv.uint64pow10" = some 3 := by kernel_rfl
theorem gTabType : (Tryz.prog.globals[3]?).map (·.type) = some 226 := by kernel_rfl
theorem cellsTab : Tryz.prog.cellsOf 226 = 20 := by kernel_rfl
theorem cellsU64 : Tryz.prog.cellsOf 159 = 1 := by kernel_rfl
theorem numOk {W : World} (h : laidMetH Tryz.prog laidList W) : NumOk W := by
 have h1 : laidMet Tryz.prog laidList W := h
 have hP := h1.tail.tail
 have hR := h1.tail.tail.tail.tail
 have hS := h1.tail.tail.tail.tail.tail
 obtain ⟨a0, s0, hv0, -, -, -⟩ := laid_sentinel hS gES gESType Tryz.underlying146 rowErr Tryz.underlying241 Tryz.underlying243 rfl rfl Tryz.underlying9 cellsErr cellsStr
 obtain ⟨a1, s1, hv1, -, -, -⟩ := laid_sentinel hR gER gERType Tryz.underlying146 rowErr Tryz.underlying241 Tryz.underlying243 rfl rfl Tryz.underlying9 cellsErr cellsStr
 exact ⟨Lib.tabIs_of_head gTab gTabType Tryz.underlying226 Tryz.underlying159 cellsU64 cellsTab hP, ⟨_, _, hv0⟩, ⟨_, _, hv1⟩⟩
noncomputable def lowB : Nat := (World.holding Tryz.prog default ⟨#[], #[], []⟩).heap.size
noncomputable def laidWorld (os : Os) : World :=
 let w0 := World.holding Tryz.prog os ⟨#[.cells #[.string ⟨#[118, 97, 108, 117, 101, 32, 111, 117, 116, 32, 111, 102, 32, 114, 97, 110, 103, 101]⟩] 243, .cells #[.string ⟨#[105, 110, 118, 97, 108, 105, 100, 32, 115, 121, 110, 116, 97, 120]⟩] 243], #[], []⟩
 { w0 with heap := (((((((w0.heap.modify 6 fun
     | .cells _ t frozen => .cells #[.int .u8 0, .int .u8 1, .int .u8 28, .int .u8 2, .int .u8 29, .int .u8 14, .int .u8 24, .int .u8 3, .int .u8 30, .int .u8 22, .int .u8 20, .int .u8 15, .int .u8 25, .int .u8 17, .int .u8 4, .int .u8 8, .int .u8 31, .int .u8 27, .int .u8 13, .int .u8 23, .int .u8 21, .int .u8 19, .int .u8 16, .int .u8 7, .int .u8 26, .int .u8 12, .int .u8 18, .int .u8 6, .int .u8 11, .int .u8 5, .int .u8 10, .int .u8 9] t frozen
     | o => o).modify 7 fun
     | .cells _ t frozen => .cells #[.int .u8 0, .int .u8 1, .int .u8 56, .int .u8 2, .int .u8 57, .int .u8 49, .int .u8 28, .int .u8 3, .int .u8 61, .int .u8 58, .int .u8 42, .int .u8 50, .int .u8 38, .int .u8 29, .int .u8 17, .int .u8 4, .int .u8 62, .int .u8 47, .int .u8 59, .int .u8 36, .int .u8 45, .int .u8 43, .int .u8 51, .int .u8 22, .int .u8 53, .int .u8 39, .int .u8 33, .int .u8 30, .int .u8 24, .int .u8 18, .int .u8 12, .int .u8 5, .int .u8 63, .int .u8 55, .int .u8 48, .int .u8 27, .int .u8 60, .int .u8 41, .int .u8 37, .int .u8 16, .int .u8 46, .int .u8 35, .int .u8 44, .int .u8 21, .int .u8 52, .int .u8 32, .int .u8 23, .int .u8 11, .int .u8 54, .int .u8 26, .int .u8 40, .int .u8 15, .int .u8 34, .int .u8 20, .int .u8 31, .int .u8 10, .int .u8 25, .int .u8 14, .int .u8 19, .int .u8 9, .int .u8 13, .int .u8 8, .int .u8 7, .int .u8 6] t frozen
     | o => o).modify 3 fun
     | .cells _ t frozen => .cells #[.int .u64 1, .int .u64 10, .int .u64 100, .int .u64 1000, .int .u64 10000, .int .u64 100000, .int .u64 1000000, .int .u64 10000000, .int .u64 100000000, .int .u64 1000000000, .int .u64 10000000000, .int .u64 100000000000, .int .u64 1000000000000, .int .u64 10000000000000, .int .u64 100000000000000, .int .u64 1000000000000000, .int .u64 10000000000000000, .int .u64 100000000000000000, .int .u64 1000000000000000000, .int .u64 10000000000000000000] t frozen
     | o => o).modify 2 fun
     | .cells _ t frozen => .cells #[.int .u8 128, .int .u8 191, .int .u8 160, .int .u8 191, .int .u8 128, .int .u8 159, .int .u8 144, .int .u8 191, .int .u8 128, .int .u8 143, .int .u8 0, .int .u8 0, .int .u8 0, .int .u8 0, .int .u8 0, .int .u8 0, .int .u8 0, .int .u8 0, .int .u8 0, .int .u8 0, .int .u8 0, .int .u8 0, .int .u8 0, .int .u8 0, .int .u8 0, .int .u8 0, .int .u8 0, .int .u8 0, .int .u8 0, .int .u8 0, .int .u8 0, .int .u8 0] t frozen
     | o => o).modify 5 fun
     | .cells _ t frozen => .cells #[.iface 241 (.pointer (some ⟨lowB + 0, 0, none⟩))] t frozen
     | o => o).modify 4 fun
     | .cells _ t frozen => .cells #[.iface 241 (.pointer (some ⟨lowB + 1, 0, none⟩))] t frozen
     | o => o).modify 1 fun
     | .cells _ t frozen => .cells (Go.Pinned.utf8FirstZ.map fun (n : Nat) => Value.int .u8 (n : Int)).toArray t frozen
     | o => o) }
theorem laid_met (os : Os) (args : Array Value) : laidMet Tryz.prog laidList ((laidWorld os).forCall (fun _ _ => 0) ⟨#[], args, []⟩).memory :=
 laidMet_of_run' 8 (by kernel_rfl) (by kernel_rfl)
theorem int_of_shape {P : Program} {w : World} {g : Nat} {t : TypeId} {zero : Array Value} (h : w.ShapedOpen P) (hg : g < P.globals.size)
   (h0 : ((begin P (fun _ _ => 0) default).world.heap[g]?).bind Obj.row? = some (zero, t)) (hz : zero.size = 1)
   (hb : P.buildable t = true) (hc : P.cellTypes P.depth t = some [t]) (hu : P.underlying t = some (.int .i64)) : ∃ m, w.cell? ⟨g, 0, none⟩ = some (.int .i64 m) := by
 obtain ⟨cs, hh, hs, hr⟩ := h.1 g zero t hg h0
 obtain ⟨ts, hts, _, hall⟩ := hr hb
 rw [hc] at hts
 cases hts
 have h1 : 0 < cs.size := by omega
 obtain ⟨u, hu', hok⟩ := hall 0 cs[0] (by simp [h1])
 have : u = t := by simpa using hu'.symm
 subst this
 have hcell : w.cell? ⟨g, 0, none⟩ = some cs[0] := by simp [World.cell?, hh, h1]
 rw [hcell]
 unfold Cell.ok at hok
 rw [hu] at hok
 cases hv : cs[0] <;> rw [hv] at hok <;> simp at hok
 obtain ⟨rfl, -⟩ := hok
 exact ⟨_, rfl⟩
theorem maxOk {W : World} (h : W.ShapedOpen Tryz.prog) : MaxOk W :=
 int_of_shape (g := 0) (t := 3) (zero := #[.int .i64 0]) h (of_decide_eq_true (by kernel_rfl)) (by kernel_rfl) rfl (by kernel_rfl) (by kernel_rfl) Tryz.underlying3
theorem errOk {W : World} (h : laidMetH Tryz.prog laidList W) : ErrOk W := by
 have h1 : laidMet Tryz.prog laidList W := h
 have h2 := h1.tail.tail.tail.tail.tail
 obtain ⟨a0, s0, hv0, -, -, -⟩ := laid_sentinel h2 gES gESType Tryz.underlying146 rowErr Tryz.underlying241 Tryz.underlying243 rfl rfl Tryz.underlying9 cellsErr cellsStr
 exact ⟨_, _, by have h0 := World.var?_cell gES hv0 0; simpa using h0⟩
theorem stMax {W : World} (h : laidMetH Tryz.prog laidList W) (hsh : W.ShapedOpen Tryz.prog) : StOk W ∧ MaxOk W := ⟨⟨numOk h, errOk h⟩, maxOk hsh⟩
end
end Go.Proofs.YtoahmganodehkaaGreatDoor
