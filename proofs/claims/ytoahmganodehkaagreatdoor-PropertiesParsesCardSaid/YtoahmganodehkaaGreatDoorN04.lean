import Derived.Test.YtoahmganodehkaaGreatDoorN03
import Derived.Handy
import Derived.Test.YtoahmganodehkaaGreatDoorN02
import Derived.LoopTactic
import Derived.Outline
import Derived.BigQuiet
import Derived.Test.YtoahmganodehkaaGreatDoorN01
import Derived.IntWalk
import Derived.Deep.LoopGhost
import Derived.Deep.DeepCutAuto
import Derived.Deep.CutBlock
namespace Go.Proofs.YtoahmganodehkaaGreatDoor
set_option linter.unusedSimpArgs false
set_option linter.unusedVariables false
section
open Go.RowKit
theorem fault_any (n : Int) (w : World) : Calls Tryz.prog 169 #[.int .i64 n] w fun e w' => e = .returned (.agg #[.int .i64 8, .int .i64 n]) ∧ Below w.heap.size w w' := by
 go_enter Tryz.func169, Tryz.ntmps169
 go_wp2
 exact bodyPost_ret (v := .agg #[.int .i64 8, .int .i64 n]) (by simp [results, Tryz.results169, go_sem]) rfl ⟨rfl, by go_grown⟩
set_option maxRecDepth 100000 in
set_option maxHeartbeats 1000000 in
theorem refUnquote_any (l : List UInt8) (hl : l.length ≤ 1000000) (w : World) :
   Calls Tryz.prog 125 #[.string (S l)] w fun e w' => e = .returned (uqVal (unqL l)) ∧ Below w.heap.size w w' := by
 have hT : Two (w.alloc (.cells #[.int .i64 0, .int .i64 0] 29)) w.heap.size 29 (.int .i64 0) (.int .i64 0) := Two.new w _ _ _
 have hBn : Below w.heap.size w (w.alloc (.cells #[.int .i64 0, .int .i64 0] 29)) := (Below.refl _ _).alloc (Nat.le_refl _) _
 by_cases hbig : 65536 < l.length
 · have hf : unqL l = ([], 2, 0) := by unfold unqL; rw [if_pos hbig]
   generalize unqL l = r at hf ⊢
   have HF := Lib.hid hf; clear hf
   go_enter Tryz.func125, Tryz.ntmps125
   go_wp2_with fail
   exact bodyPost_ret (v := .tuple #[.string ⟨#[]⟩, .agg #[.int .i64 2, .int .i64 0]]) (by simp [results, Tryz.results125, go_sem]) rfl ⟨ret_uq HF.out, by go_grown⟩
 cases l with
 | nil =>
   have HF := Lib.hid (show unqL [] = ([], 8, 0) by rfl)
   have hc0 := hT.cell0
   have hc1 := hT.cell1
   have hf0 := hT.frozen0
   have hf1 := hT.frozen1
   go_enter Tryz.func125, Tryz.ntmps125
   go_wp2_with fail
   refine (fault_any _ _).mono ?_
   rintro e w9 ⟨rfl, hb9⟩
   clear hc0 hc1 hf0 hf1
   have hT9 := hT.below hb9
   have hc0 := hT9.cell0
   have hc1 := hT9.cell1
   have hf0 := hT9.frozen0
   have hf1 := hT9.frozen1
   have hBw9 : Below w.heap.size w w9 := hBn.trans (hb9.mono hBn.size)
   go_wp2_with fail
   exact bodyPost_ret (v := .tuple #[.string ⟨#[]⟩, .agg #[.int .i64 8, .int .i64 0]]) (by simp [results, Tryz.results125, go_sem, hc0, hc1]) rfl ⟨ret_uq HF.out, by go_grown⟩
 | cons c t =>
 by_cases h34 : c = 34
 · subst h34
   have hf : unqL (34 :: t) = scan ((34 :: t).drop 1) 0 1 [] := by unfold unqL; rw [if_neg hbig]; rfl
   have e0 : byt (34 :: t) 0 = 34 := rfl
   have hl0 : 0 < ((34 : UInt8) :: t).length := by simp
   have hne : ((((34 : UInt8) :: t).length : Int) == 0) = false := by simp; omega
   generalize (34 : UInt8) :: t = l at *
   generalize unqL l = r at hf ⊢
   have HF := Lib.hid hf; clear hf
   obtain ⟨i0, hi, hz0, hz1, hz2⟩ := info_parts infoU8
   have hb' : l.length ≤ 65536 := by omega
   go_enter Tryz.func125, Tryz.ntmps125
   go_wp2_with fail
   clear e0 hne hT hBn
   obtain ⟨w0, hw0⟩ : ∃ w0, w0 = w.alloc (.cells #[.int .i64 0, .int .i64 0] 29) := ⟨_, rfl⟩
   have hT0 : Two w0 w.heap.size 29 (.int .i64 0) (.int .i64 0) := by rw [hw0]; exact Two.new w _ _ _
   have hs0 : w.heap.size + 1 ≤ w0.heap.size := by rw [hw0]; simp
   have hB0 : Below w.heap.size w w0 := by rw [hw0]; exact (Below.refl _ _).alloc (Nat.le_refl _) _
   rw [← hw0]
   clear hw0
   go_loopw [4, 5] (fun v i wr => ∃ (k : Nat) (acc : List UInt8), k ≤ l.length ∧ 1 ≤ k ∧ i = .int .i64 k ∧ acc.length ≤ k ∧ wr.ownsRow (w.heap.size + 1) 5 1 v acc.length (bcells acc) ∧ Below (w.heap.size + 1) w0 wr ∧ Hid (r = scan (l.drop k) 0 k acc))
     (fun _ i _ => l.length - (intOf i).toNat)
   case atStart => exact ⟨1, [], by omega, by omega, rfl, by simp, World.ownsRow_nil _ _ _ _, Below.refl _ _, HF.out⟩
   case round =>
     clear HF
     obtain ⟨k, acc, hk, hk1, rfl, hacc, hown, hBr, hh⟩ := hrel
     have hT : Two wr w.heap.size 29 (.int .i64 0) (.int .i64 0) := (hBr.block _ (by omega)).trans hT0
     have hc0 := hT.cell0
     have hc1 := hT.cell1
     have hf0 := hT.frozen0
     have hf1 := hT.frozen1
     have hBw : Below w.heap.size w wr := hB0.trans (hBr.mono (by omega))
     by_cases hend : l.length ≤ k
     · have hr : r = ([], 8, l.length) := by
         rw [hh.out, List.drop_eq_nil_of_le hend, show k = l.length by omega]; rfl
       have HR := Lib.hid hr; clear hr
       go_wp2_with fail
       refine (fault_any _ _).mono ?_
       rintro e w9 ⟨rfl, hb9⟩
       clear hc0 hc1 hf0 hf1
       have hT9 := hT.below hb9
       have hc0 := hT9.cell0
       have hc1 := hT9.cell1
       have hf0 := hT9.frozen0
       have hf1 := hT9.frozen1
       have hBw9 : Below w.heap.size w w9 := hBw.trans (hb9.mono hBw.size)
       go_wp2_with fail
       exact bodyPost_ret (v := .tuple #[.string ⟨#[]⟩, .agg #[.int .i64 8, .int .i64 l.length]]) (by simp [results, Tryz.results125, go_sem, hc0, hc1]) rfl ⟨ret_uq HR.out, by go_grown⟩
     · have hlt : k < l.length := by omega
       clear hend
       have hdrop := drop_byt l k hlt
       by_cases c34 : byt l k = 34
       · by_cases hmore : k + 1 < l.length
         · have hr : r = ([], 8, k + 1) := by
             rw [hh.out, hdrop, c34, drop_byt l (k + 1) hmore]; rfl
           have HR := Lib.hid hr; clear hr hdrop
           go_wp2_with fail
           refine (fault_any _ _).mono ?_
           rintro e w9 ⟨rfl, hb9⟩
           clear hc0 hc1 hf0 hf1
           have hT9 := hT.below hb9
           have hc0 := hT9.cell0
           have hc1 := hT9.cell1
           have hf0 := hT9.frozen0
           have hf1 := hT9.frozen1
           have hBw9 : Below w.heap.size w w9 := hBw.trans (hb9.mono hBw.size)
           go_wp2_with fail
           exact bodyPost_ret (v := .tuple #[.string ⟨#[]⟩, .agg #[.int .i64 8, .int .i64 ((k + 1 : Nat) : Int)]]) (by simp [results, Tryz.results125, go_sem, hc0, hc1]) rfl ⟨ret_uq HR.out, by go_grown⟩
         · have hr : r = (acc, 0, 0) := by
             rw [hh.out, hdrop, c34, List.drop_eq_nil_of_le (show l.length ≤ k + 1 by omega)]; rfl
           have HR := Lib.hid hr; clear hr hdrop
           have hcv := conv_own (P := Tryz.prog) wr 138 9 5 (w.heap.size + 1) _ acc Tryz.underlying138 Tryz.underlying5 Tryz.underlying9 hown
           go_wp2_with fail
           exact bodyPost_ret (v := .tuple #[.string (S acc), .agg #[.int .i64 0, .int .i64 0]]) (by simp [results, Tryz.results125, go_sem, hc0, hc1]) rfl ⟨ret_uq HR.out, by go_grown⟩
       · have e34 : (((byt l k).toNat : Int) == 34) = false := u8_ne c34
         have hsz : w.heap.size + 1 ≤ wr.heap.size := Nat.le_trans hs0 hBr.size
         by_cases c92 : byt l k = 92
         · have hu := unesc_len (l.drop k)
           rw [List.length_drop] at hu
           have hr : r = if (unesc (l.drop k)).2 = 0 then ([], 8, k) else scan (l.drop (k + 1)) ((unesc (l.drop k)).2 - 1) (k + (unesc (l.drop k)).2) (acc ++ [(unesc (l.drop k)).1]) := by
             rw [hh.out, hdrop, c92]; simp [scan]
           have hcall := Escape_any l k hl hlt c92 wr
           obtain ⟨c, n, hcn⟩ : ∃ c n, unesc (l.drop k) = (c, n) := ⟨_, _, rfl⟩
           rw [hcn] at hr hu hcall
           simp only [] at hr hu
           have HC := Lib.hid hcall; clear hcall hcn hdrop
           by_cases hn : n = 0
           · rw [if_pos hn] at hr
             subst hn
             have HR := Lib.hid hr; clear hr
             go_wp2_with fail
             refine HC.out.mono ?_
             rintro e w1 ⟨rfl, hb1⟩
             clear HC hc0 hc1 hf0 hf1
             have hT1 := hT.below hb1
             have hc0 := hT1.cell0
             have hc1 := hT1.cell1
             have hf0 := hT1.frozen0
             have hf1 := hT1.frozen1
             have hBw1 : Below w.heap.size w w1 := hBw.trans (hb1.mono (by omega))
             dsimp only [uneVal]
             go_wp2_with fail
             refine (fault_any _ _).mono ?_
             rintro e w9 ⟨rfl, hb9⟩
             clear hc0 hc1 hf0 hf1
             have hT9 := hT1.below hb9
             have hc0 := hT9.cell0
             have hc1 := hT9.cell1
             have hf0 := hT9.frozen0
             have hf1 := hT9.frozen1
             have hBw9 : Below w.heap.size w w9 := hBw1.trans (hb9.mono hBw1.size)
             go_wp2_with fail
             exact bodyPost_ret (v := .tuple #[.string ⟨#[]⟩, .agg #[.int .i64 8, .int .i64 k]]) (by simp [results, Tryz.results125, go_sem, hc0, hc1]) rfl ⟨ret_uq HR.out, by go_grown⟩
           · rw [if_neg hn, scan_skip _ _ _ _ (by rw [List.length_drop]; omega), List.drop_drop, show k + 1 + (n - 1) = k + n by omega] at hr
             have HR := Lib.hid hr; clear hr
             have hn0 : ((n : Int) == 0) = false := by simp; exact hn
             have hn1 : n ≤ 4 := hu.2
             have hn2 : k + n ≤ l.length := by omega
             go_wp2_with fail
             refine HC.out.mono ?_
             rintro e w1 ⟨rfl, hb1⟩
             clear HC hc0 hc1 hf0 hf1
             have hown1 := own_under hown hb1
             have hB1 : Below (w.heap.size + 1) w0 w1 := hBr.trans (hb1.mono (by omega))
             have hsz1 : w.heap.size + 1 ≤ w1.heap.size := Nat.le_trans hsz hb1.size
             dsimp only [uneVal]
             go_wp2_with (at_builtin; refine wpList_append_own _ rfl _ _ 138 rfl (w.heap.size + 1) 5 i0 (.int .u8 0) 1 1 Tryz.underlying138 hi hz0 hz1 hz2 rfl (by decide) _ _ _ rfl (hown1.alloc _) ⟨w1.heap.size, 0, none⟩ 1 1 [.int .u8 (c.toNat : Int)] rfl rfl (cell_one_new _ _ _) (by simp [Value.oneCell']) (by unfold maxLen; omega) (by omega) (by simp; omega) ?_; intro v' w2 hown' hgrow _)
             have hB2 : Below (w.heap.size + 1) w0 w2 := own_below1 hB1 hown1 hgrow (by omega)
             have hown2 : w2.ownsRow (w.heap.size + 1) 5 1 v' (acc ++ [c]).length (bcells (acc ++ [c])) := by rw [← bcells_append, List.length_append]; exact hown'
             clear hgrow hown'
             go_wp2_with fail
             go_roundw
             case rel => exact ⟨k + n, acc ++ [c], by omega, by omega, by go_num, by rw [List.length_append]; simp; omega, hown2, hB2, HR.out⟩
             case measure => simp [intOf]; omega
         · have e92 : (((byt l k).toNat : Int) == 92) = false := u8_ne c92
           by_cases hp : byt l k < 32 ∨ 126 < byt l k
           · have hr : r = ([], 8, k) := by
               rw [hh.out, hdrop]; simp [scan, c34, c92, hp]
             have HR := Lib.hid hr; clear hr hdrop
             have hq : ¬ (32 ≤ (byt l k).toNat ∧ (byt l k).toNat ≤ 126) := by
               rcases hp with h | h <;> rw [UInt8.lt_iff_toNat_lt] at h <;> simp at h <;> omega
             clear hp
             by_cases h32 : (byt l k).toNat < 32
             · go_wp2_with fail
               refine (fault_any _ _).mono ?_
               rintro e w9 ⟨rfl, hb9⟩
               clear hc0 hc1 hf0 hf1
               have hT9 := hT.below hb9
               have hc0 := hT9.cell0
               have hc1 := hT9.cell1
               have hf0 := hT9.frozen0
               have hf1 := hT9.frozen1
               have hBw9 : Below w.heap.size w w9 := hBw.trans (hb9.mono hBw.size)
               go_wp2_with fail
               exact bodyPost_ret (v := .tuple #[.string ⟨#[]⟩, .agg #[.int .i64 8, .int .i64 k]]) (by simp [results, Tryz.results125, go_sem, hc0, hc1]) rfl ⟨ret_uq HR.out, by go_grown⟩
             · have h126 : 126 < (byt l k).toNat := by omega
               go_wp2_with fail
               refine (fault_any _ _).mono ?_
               rintro e w9 ⟨rfl, hb9⟩
               clear hc0 hc1 hf0 hf1
               have hT9 := hT.below hb9
               have hc0 := hT9.cell0
               have hc1 := hT9.cell1
               have hf0 := hT9.frozen0
               have hf1 := hT9.frozen1
               have hBw9 : Below w.heap.size w w9 := hBw.trans (hb9.mono hBw.size)
               go_wp2_with fail
               exact bodyPost_ret (v := .tuple #[.string ⟨#[]⟩, .agg #[.int .i64 8, .int .i64 k]]) (by simp [results, Tryz.results125, go_sem, hc0, hc1]) rfl ⟨ret_uq HR.out, by go_grown⟩
           · have h32 : 32 ≤ (byt l k).toNat := by
               have := fun h => hp (.inl h); rw [UInt8.lt_iff_toNat_lt] at this; simp at this; exact this
             have h126 : (byt l k).toNat ≤ 126 := by
               have := fun h => hp (.inr h); rw [UInt8.lt_iff_toNat_lt] at this; simp at this; exact this
             have hr : r = scan (l.drop (k + 1)) 0 (k + 1) (acc ++ [byt l k]) := by
               rw [hh.out, hdrop]; simp [scan, c34, c92, hp]
             have HR := Lib.hid hr; clear hr hdrop hp
             go_wp2_with (at_builtin; refine wpList_append_own _ rfl _ _ 138 rfl (w.heap.size + 1) 5 i0 (.int .u8 0) 1 1 Tryz.underlying138 hi hz0 hz1 hz2 rfl (by decide) _ _ _ rfl (hown.alloc _) ⟨wr.heap.size, 0, none⟩ 1 1 [.int .u8 ((byt l k).toNat : Int)] rfl rfl (cell_one_new _ _ _) (by simp [Value.oneCell']) (by unfold maxLen; omega) (by omega) (by simp; omega) ?_; intro v' w2 hown' hgrow _)
             have hB2 : Below (w.heap.size + 1) w0 w2 := own_below1 hBr hown hgrow (by omega)
             have hown2 : w2.ownsRow (w.heap.size + 1) 5 1 v' (acc ++ [(byt l k)]).length (bcells (acc ++ [(byt l k)])) := by rw [← bcells_append, List.length_append]; exact hown'
             clear hgrow hown'
             go_wp2_with fail
             go_roundw
             case rel => exact ⟨k + 1, acc ++ [byt l k], by omega, by omega, by go_num, by rw [List.length_append]; simp; omega, hown2, hB2, HR.out⟩
             case measure => simp [intOf]; omega
 · have hf : unqL (c :: t) = ([], 8, 0) := by unfold unqL; rw [if_neg hbig]; simp [h34]
   have e0 : byt (c :: t) 0 = c := rfl
   have hl0 : 0 < (c :: t).length := by simp
   have hne : (((c :: t).length : Int) == 0) = false := by simp; omega
   generalize c :: t = l at *
   have HF := Lib.hid hf; clear hf
   have e34 : ((c.toNat : Int) == 34) = false := u8_ne h34
   clear h34
   have hc0 := hT.cell0
   have hc1 := hT.cell1
   have hf0 := hT.frozen0
   have hf1 := hT.frozen1
   go_enter Tryz.func125, Tryz.ntmps125
   go_wp2_with fail
   refine (fault_any _ _).mono ?_
   rintro e w9 ⟨rfl, hb9⟩
   clear hc0 hc1 hf0 hf1
   have hT9 := hT.below hb9
   have hc0 := hT9.cell0
   have hc1 := hT9.cell1
   have hf0 := hT9.frozen0
   have hf1 := hT9.frozen1
   have hBw9 : Below w.heap.size w w9 := hBn.trans (hb9.mono hBn.size)
   go_wp2_with fail
   exact bodyPost_ret (v := .tuple #[.string ⟨#[]⟩, .agg #[.int .i64 8, .int .i64 0]]) (by simp [results, Tryz.results125, go_sem, hc0, hc1]) rfl ⟨ret_uq HF.out, by go_grown⟩
end
section
open Go.RowKit
set_option maxHeartbeats 400000 in
theorem Label_any (l : List UInt8) (hl : l.length ≤ 1000000) (w : World) :
   Calls Tryz.prog 58 #[.string (S l)] w fun e w' => e = .returned (.string (S (labelL l))) ∧ Below w.heap.size w w' := by
 generalize hr : labelL l = r
 unfold labelL at hr
 cases hi : identB l with
 | true =>
   have hr' : l = r := by rw [← hr, hi]; simp
   have HI := Lib.hid (fun w => Ident_any l hl w); have HE := Lib.hid hi; have HR := Lib.hid hr'; clear hi hr hr'
   go_enter Tryz.func58, Tryz.ntmps58
   go_wp2_with fail
   refine (HI.out _).mono ?_
   rintro e w1 ⟨rfl, hb1⟩
   rw [HE.out]
   go_wp2_with fail
   go_ret
   exact ⟨ret_S HR.out, hb1⟩
 | false =>
   have hr' : quoteL l = r := by rw [← hr, hi]; simp
   have HI := Lib.hid (fun w => Ident_any l hl w); have HE := Lib.hid hi; have HR := Lib.hid hr'; clear hi hr hr'
   go_enter Tryz.func58, Tryz.ntmps58
   go_wp2_with fail
   refine (HI.out _).mono ?_
   rintro e w1 ⟨rfl, hb1⟩
   rw [HE.out]
   go_wp2_with fail
   refine (quote_any l hl _).mono ?_
   rintro e w2 ⟨rfl, hb2⟩
   go_wp2_with fail
   go_ret
   exact ⟨ret_S HR.out, hb1.trans (hb2.mono hb1.size)⟩
end
section
open Go.RowKit
abbrev stv (x : Stp) : Value := .agg #[.string (S x.lab), .int .i64 x.idx]
def SlS (W : World) (v : Value) (L : List Stp) : Prop :=
 ((∃ p cap, v = .slice p 0 cap) ∧ L = []) ∨ ∃ B o cap, v = .slice (some ⟨B, o, none⟩) L.length cap ∧ L.length ≤ cap ∧ B < W.heap.size ∧
   ∀ j x, L[j]? = some x → W.cell? ⟨B, o + j * 2, none⟩ = some (.string (S x.lab)) ∧ W.cell? ⟨B, o + j * 2 + 1, none⟩ = some (.int .i64 x.idx)
theorem SlS.below {W W' : World} {v : Value} {L : List Stp} (h : SlS W v L) (hb : Below W.heap.size W W') : SlS W' v L := by
 rcases h with h | ⟨B, o, cap, hv, hc, hB, hx⟩
 · exact .inl h
 · exact .inr ⟨B, o, cap, hv, hc, Nat.lt_of_lt_of_le hB hb.size, fun j x hj => ⟨(hb.cell (p := ⟨B, o + j * 2, none⟩) hB).trans (hx j x hj).1, (hb.cell (p := ⟨B, o + j * 2 + 1, none⟩) hB).trans (hx j x hj).2⟩⟩
theorem bool_two (b : Bool) : b = false ∨ b = true := by cases b <;> simp
theorem okS_ways (l : List UInt8) (i : Int) : (l = [] ∧ i < 0 ∧ okS ⟨l, i⟩ = false) ∨ (l = [] ∧ 0 ≤ i ∧ 1000000 < i ∧ okS ⟨l, i⟩ = false) ∨ (l = [] ∧ 0 ≤ i ∧ i ≤ 1000000 ∧ okS ⟨l, i⟩ = true) ∨ (l.isEmpty = false ∧ (i == 0) = true ∧ okS ⟨l, i⟩ = true) ∨ (l.isEmpty = false ∧ (i == 0) = false ∧ okS ⟨l, i⟩ = false) := by
 unfold okS
 by_cases h : l = []
 · simp only [h, if_true, true_and]
   by_cases h0 : 0 ≤ i <;> by_cases h1 : i ≤ 1000000 <;> simp [h0, h1] <;> omega
 · by_cases h0 : i = 0 <;> simp [h, h0]
theorem valid_any (l : List UInt8) (i : Int) (w : World) : Calls Tryz.prog 101 #[stv ⟨l, i⟩] w fun e w' => e = .returned (.bool (okS ⟨l, i⟩)) ∧ Below w.heap.size w w' := by
 obtain ⟨r, hr⟩ : ∃ r, okS ⟨l, i⟩ = r := ⟨_, rfl⟩
 have hw := okS_ways l i
 rw [hr] at hw ⊢
 clear hr
 rcases hw with ⟨rfl, h1, rfl⟩ | ⟨rfl, h1, h2, rfl⟩ | ⟨rfl, h1, h2, rfl⟩ | ⟨h0, h1, rfl⟩ | ⟨h0, h1, rfl⟩
 all_goals
   go_enter Tryz.func101, Tryz.ntmps101
   go_wp2_with fail
   go_ret
   exact ⟨ret_bool (by first | rfl | (simp; omega)), by go_grown⟩
theorem Is_any (l : List UInt8) (i : Int) (w : World) : Calls Tryz.prog 119 #[stv ⟨l, i⟩] w fun e w' => e = .returned (.bool (okS ⟨l, i⟩)) ∧ Below w.heap.size w w' := by
 obtain ⟨r, hr⟩ : ∃ r, okS ⟨l, i⟩ = r := ⟨_, rfl⟩
 have hw := okS_ways l i
 rw [hr] at hw ⊢
 clear hr
 rcases hw with ⟨rfl, h1, rfl⟩ | ⟨rfl, h1, h2, rfl⟩ | ⟨rfl, h1, h2, rfl⟩ | ⟨h0, h1, rfl⟩ | ⟨h0, h1, rfl⟩
 all_goals
   go_enter Tryz.func119, Tryz.ntmps119
   go_wp2_with fail
   go_ret
   exact ⟨ret_bool (by first | rfl | (simp; omega)), by go_grown⟩
theorem okL_snoc (L : List Stp) (j : Nat) (h : j < L.length) (h1 : okL (L.take j) = true) : okL (L.take (j + 1)) = okS L[j] := by
 unfold okL at *
 rw [List.take_add_one, List.all_append, h1, List.getElem?_eq_getElem h]; simp
theorem okL_no (L : List Stp) (j : Nat) (h : j < L.length) (h1 : okS L[j] = false) : okL L = false := by
 unfold okL
 rw [List.all_eq_false]
 exact ⟨_, List.getElem_mem h, by simp [h1]⟩
theorem sl_cells {w wr : World} {B o : Nat} {L : List Stp} (hB : B < w.heap.size) (hx : ∀ j x, L[j]? = some x → w.cell? ⟨B, o + j * 2, none⟩ = some (.string (S x.lab)) ∧ w.cell? ⟨B, o + j * 2 + 1, none⟩ = some (.int .i64 x.idx)) (hb : Below w.heap.size w wr) (j : Nat) (h : j < L.length) :
   wr.cell? ⟨B, o + j * 2, none⟩ = some (.string (S L[j].lab)) ∧ wr.cell? ⟨B, o + j * 2 + 1, none⟩ = some (.int .i64 L[j].idx) :=
 ⟨(hb.cell (p := ⟨B, o + j * 2, none⟩) hB).trans (hx j _ (List.getElem?_eq_getElem h)).1, (hb.cell (p := ⟨B, o + j * 2 + 1, none⟩) hB).trans (hx j _ (List.getElem?_eq_getElem h)).2⟩
set_option maxHeartbeats 1000000 in
theorem Valid_any (v : Value) (L : List Stp) (w : World) (hv : SlS w v L) (hL : L.length ≤ 1000000) : Calls Tryz.prog 56 #[v] w fun e w' => e = .returned (.bool (okL L)) ∧ Below w.heap.size w w' := by
 obtain ⟨r, hr⟩ : ∃ r, okL L = r := ⟨_, rfl⟩
 rw [hr]
 have HR := Lib.hid hr
 clear hr
 rcases hv with ⟨⟨p0, cap0, rfl⟩, rfl⟩ | ⟨B, o, cap, rfl, hc, hB, hx⟩
 · have h : r = true := HR.out.symm
   subst h
   go_enter Tryz.func56, Tryz.ntmps56
   go_wp2_with fail
   go_loopw [7] (fun i wr => i = .int .i64 0 ∧ wr = w) (fun _ _ => 0)
   case atStart => exact ⟨rfl, rfl⟩
   case round =>
     obtain ⟨rfl, rfl⟩ := hrel
     go_wp2_with fail
     go_ret
     exact ⟨rfl, Below.refl _ _⟩
 · have HX := Lib.hid hx
   clear hx
   go_enter Tryz.func56, Tryz.ntmps56
   go_wp2_with fail
   go_loopw [7] (fun i wr => ∃ j : Nat, i = .int .i64 (j : Int) ∧ j ≤ L.length ∧ Hid (okL (L.take j) = true ∧ Below w.heap.size w wr)) (fun i _ => L.length - (intOf i).toNat)
   case atStart => exact ⟨0, rfl, Nat.zero_le _, Lib.hid ⟨rfl, Below.refl _ _⟩⟩
   case round =>
     obtain ⟨j, rfl, hj, HW⟩ := hrel
     by_cases hlt : j < L.length
     · have hx0 := sl_cells hB HX.out HW.out.2 j hlt
       obtain ⟨⟨lj, ij⟩, hxj⟩ : ∃ x, L[j] = x := ⟨_, rfl⟩
       have HXJ := Lib.hid hxj
       rw [hxj] at hx0
       obtain ⟨c0, c1⟩ := hx0
       clear hxj
       simp only at c0 c1
       go_wp2_with fail
       refine (valid_any lj ij _).mono ?_
       rintro e w1 ⟨rfl, hb1⟩
       have hb2 : Below w.heap.size w w1 := (HW.out.2.alloc HW.out.2.size _).trans (hb1.mono (by simp; exact Nat.le_succ_of_le HW.out.2.size))
       rcases bool_two (okS ⟨lj, ij⟩) with ho | ho
       · have h : r = false := by rw [← HR.out]; exact okL_no L j hlt (by rw [HXJ.out]; exact ho)
         subst h
         rw [ho]
         go_wp2_with fail
         go_ret
         exact ⟨rfl, hb2⟩
       · rw [ho]
         go_wp2_with fail
         go_roundw
         case rel => exact ⟨j + 1, rfl, hlt, Lib.hid ⟨by rw [okL_snoc L j hlt HW.out.1, HXJ.out]; exact ho, hb2⟩⟩
         case measure => simp [intOf]; omega
     · have h : r = true := by rw [← HR.out, ← HW.out.1, List.take_of_length_le (by omega)]
       subst h
       go_wp2_with fail
       go_ret
       exact ⟨rfl, HW.out.2⟩
set_option maxHeartbeats 1000000 in
theorem refValid_any (v : Value) (L : List Stp) (w : World) (hv : SlS w v L) (hL : L.length ≤ 1000000) : Calls Tryz.prog 80 #[v] w fun e w' => e = .returned (.bool (okL L)) ∧ Below w.heap.size w w' := by
 obtain ⟨r, hr⟩ : ∃ r, okL L = r := ⟨_, rfl⟩
 rw [hr]
 have HR := Lib.hid hr
 clear hr
 rcases hv with ⟨⟨p0, cap0, rfl⟩, rfl⟩ | ⟨B, o, cap, rfl, hc, hB, hx⟩
 · have h : r = true := HR.out.symm
   subst h
   go_enter Tryz.func80, Tryz.ntmps80
   go_wp2_with fail
   go_loopw [3] (fun i wr => i = .int .i64 0 ∧ wr = w) (fun _ _ => 0)
   case atStart => exact ⟨rfl, rfl⟩
   case round =>
     obtain ⟨rfl, rfl⟩ := hrel
     go_wp2_with fail
     go_ret
     exact ⟨rfl, Below.refl _ _⟩
 · have HX := Lib.hid hx
   clear hx
   go_enter Tryz.func80, Tryz.ntmps80
   go_wp2_with fail
   go_loopw [3] (fun i wr => ∃ j : Nat, i = .int .i64 (j : Int) ∧ j ≤ L.length ∧ Hid (okL (L.take j) = true ∧ Below w.heap.size w wr)) (fun i _ => L.length - (intOf i).toNat)
   case atStart => exact ⟨0, rfl, Nat.zero_le _, Lib.hid ⟨rfl, Below.refl _ _⟩⟩
   case round =>
     obtain ⟨j, rfl, hj, HW⟩ := hrel
     by_cases hlt : j < L.length
     · have hx0 := sl_cells hB HX.out HW.out.2 j hlt
       obtain ⟨⟨lj, ij⟩, hxj⟩ : ∃ x, L[j] = x := ⟨_, rfl⟩
       have HXJ := Lib.hid hxj
       rw [hxj] at hx0
       obtain ⟨c0, c1⟩ := hx0
       clear hxj
       simp only at c0 c1
       go_wp2_with fail
       refine (Is_any lj ij _).mono ?_
       rintro e w1 ⟨rfl, hb1⟩
       have hb2 : Below w.heap.size w w1 := HW.out.2.trans (hb1.mono HW.out.2.size)
       rcases bool_two (okS ⟨lj, ij⟩) with ho | ho
       · have h : r = false := by rw [← HR.out]; exact okL_no L j hlt (by rw [HXJ.out]; exact ho)
         subst h
         rw [ho]
         go_wp2_with fail
         go_ret
         exact ⟨rfl, hb2⟩
       · rw [ho]
         go_wp2_with fail
         go_roundw
         case rel => exact ⟨j + 1, rfl, hlt, Lib.hid ⟨by rw [okL_snoc L j hlt HW.out.1, HXJ.out]; exact ho, hb2⟩⟩
         case measure => simp [intOf]; omega
     · have h : r = true := by rw [← HR.out, ← HW.out.1, List.take_of_length_le (by omega)]
       subst h
       go_wp2_with fail
       go_ret
       exact ⟨rfl, HW.out.2⟩
end
section
open Go.RowKit
theorem S_nil : S [] = ⟨#[]⟩ := rfl
def wordB (c : UInt8) : Bool := letterB c || digitB c || c == 95 || c == 35
theorem wordB_nat (c : UInt8) : wordB c = (decide (97 ≤ c.toNat ∧ c.toNat ≤ 122) || decide (65 ≤ c.toNat ∧ c.toNat ≤ 90) || decide (48 ≤ c.toNat ∧ c.toNat ≤ 57) || decide (c.toNat = 95) || decide (c.toNat = 35)) := by
 unfold wordB
 rw [letterB_nat, digitB_nat]
 have h1 : (c == 95) = decide (c.toNat = 95) := by rw [Bool.eq_iff_iff]; simp [← UInt8.toNat_inj]
 have h2 : (c == 35) = decide (c.toNat = 35) := by rw [Bool.eq_iff_iff]; simp [← UInt8.toNat_inj]
 rw [h1, h2]
set_option maxHeartbeats 1000000 in
theorem word_any (c : UInt8) (w : World) : Calls Tryz.prog 181 #[.int .u8 (c.toNat : Int)] w fun e w' => e = .returned (.bool (wordB c)) ∧ w = w' := by
 have hlt := c.toNat_lt
 have hn := wordB_nat c
 generalize wordB c = b at hn ⊢
 have HN := Lib.hid hn
 clear hn
 go_enter Tryz.func181, Tryz.ntmps181
 go_wp2
 all_goals
   go_ret
   exact ⟨ret_bool (by rw [HN.out, Bool.eq_iff_iff]; first | (simp; omega) | (simp [*]; done)), rfl⟩
def badAt (l : List UInt8) (k : Nat) : Bool := !identB (l.take (k + 1)) && !identB (l.take (k + 1) ++ [97])
def wrongN (l : List UInt8) : Nat := ((List.range l.length).find? (badAt l)).getD l.length
theorem wrongN_at (l : List UInt8) (m : Nat) (hm : m < l.length) (h : badAt l m = true) (h0 : ∀ k, k < m → badAt l k = false) : wrongN l = m := by
 unfold wrongN
 rw [List.find?_range_eq_some.2 ⟨h, by simpa using hm, fun j hj => by simp [h0 j hj]⟩]; rfl
theorem wrongN_none (l : List UInt8) (h0 : ∀ k, k < l.length → badAt l k = false) : wrongN l = l.length := by
 unfold wrongN
 rw [List.find?_range_eq_none.2 (fun k hk => by simp [h0 k hk])]; rfl
set_option maxHeartbeats 1000000 in
theorem wrong_any (l : List UInt8) (hl : l.length ≤ 100000) (w : World) : Calls Tryz.prog 182 #[.string (S l)] w fun e w' => e = .returned (.int .i64 (wrongN l : Int)) ∧ Below w.heap.size w w' := by
 obtain ⟨r, hr⟩ : ∃ r, wrongN l = r := ⟨_, rfl⟩
 rw [hr]
 have HR := Lib.hid hr
 clear hr
 go_enter Tryz.func182, Tryz.ntmps182
 go_wp2_with fail
 go_loopw [3] (fun i wr => ∃ j : Nat, i = .int .i64 ((j : Int) + 1) ∧ j ≤ l.length ∧ Hid ((∀ k, k < j → badAt l k = false) ∧ Below w.heap.size w wr)) (fun i _ => l.length + 1 - (intOf i).toNat)
 case atStart => exact ⟨0, rfl, Nat.zero_le _, Lib.hid ⟨fun k hk => by omega, Below.refl _ _⟩⟩
 case round =>
   obtain ⟨j, rfl, hj, HW⟩ := hrel
   by_cases hlt : j < l.length
   · have j0 : (0 : Int) ≤ (j : Int) + 1 := by omega
     have j1 : (j : Int) + 1 ≤ (l.length : Int) := by omega
     have j2 : ((j : Int) + 1).toNat = j + 1 := by omega
     go_wp2_with fail
     obtain ⟨x, hx⟩ : ∃ x, sl l 0 (j + 1) = x := ⟨_, rfl⟩
     have hxl : x.length ≤ 100000 := by rw [← hx]; have := sl_le l 0 (j + 1); omega
     rw [hx]
     have HX := Lib.hid (show l.take (j + 1) = x from by rw [← sl_to]; exact hx)
     clear hx
     refine (Ident_any x (by omega) _).mono ?_
     rintro e w1 ⟨rfl, hb1⟩
     have HB1 := Lib.hid (HW.out.2.trans (hb1.mono HW.out.2.size))
     clear hb1
     rcases (bool_two (identB x)).symm with hp | hp
     · rw [hp]
       have hbad : badAt l j = false := by unfold badAt; rw [HX.out, hp]; simp
       have HBAD := Lib.hid hbad
       clear hbad hp
       go_wp2_with fail
       go_roundw
       case rel => exact ⟨j + 1, rfl, hlt, Lib.hid ⟨fun k hk => by rcases Nat.lt_succ_iff_lt_or_eq.1 hk with h | h; exact HW.out.1 k h; rw [h]; exact HBAD.out, HB1.out⟩⟩
       case measure => simp [intOf]; omega
     · rw [hp]
       have HP := Lib.hid hp
       clear hp
       go_wp2_with fail
       refine (Ident_any (ct x [97]) (by rw [ct_len]; simp; omega) _).mono ?_
       rintro e w2 ⟨rfl, hb2⟩
       have HB2 := Lib.hid (HB1.out.trans (hb2.mono HB1.out.size))
       clear hb2
       rcases (bool_two (identB (ct x [97]))).symm with hq | hq
       · rw [hq]
         have hbad : badAt l j = false := by unfold badAt; rw [HX.out, HP.out, show x ++ [97] = ct x [97] from rfl, hq]; rfl
         have HBAD := Lib.hid hbad
         clear hbad hq
         go_wp2_with fail
         go_roundw
         case rel => exact ⟨j + 1, rfl, hlt, Lib.hid ⟨fun k hk => by rcases Nat.lt_succ_iff_lt_or_eq.1 hk with h | h; exact HW.out.1 k h; rw [h]; exact HBAD.out, HB2.out⟩⟩
         case measure => simp [intOf]; omega
       · rw [hq]
         have hbad : badAt l j = true := by unfold badAt; rw [HX.out, HP.out, show x ++ [97] = ct x [97] from rfl, hq]; rfl
         have hr : r = j := by rw [← HR.out]; exact wrongN_at l j hlt hbad HW.out.1
         subst hr
         clear hbad hq
         go_wp2_with fail
         go_ret
         exact ⟨ret_i64 (by omega), HB2.out⟩
   · have hjl : j = l.length := by omega
     subst hjl
     have hr : r = l.length := by rw [← HR.out]; exact wrongN_none l HW.out.1
     subst hr
     go_wp2_with fail
     go_ret
     exact ⟨rfl, HW.out.2⟩
def rdv (r : Stp × Nat × Bool) : Value := .tuple #[stv r.1, .int .i64 (r.2.1 : Int), .bool r.2.2]
def noS : Stp := ⟨[], 0⟩
def runW (l : List UInt8) : Nat := (l.takeWhile wordB).length
def nameP (t : List UInt8) : Stp × Nat × Bool := if identB (t.take (runW t)) then (⟨t.take (runW t), 0⟩, runW t, true) else (noS, wrongN (t.take (runW t)), false)
theorem runW_at (l : List UInt8) (m : Nat) (hm : m ≤ l.length) (h0 : ∀ k, k < m → wordB (byt l k) = true) (h1 : m = l.length ∨ wordB (byt l m) = false) : runW l = m := by
 unfold runW
 induction l generalizing m with
 | nil => simp at hm; simp [hm]
 | cons c t ih =>
   cases m with
   | zero =>
     rcases h1 with h1 | h1
     · simp at h1
     · have : wordB c = false := h1
       simp [this]
   | succ m =>
     have hc : wordB c = true := h0 0 (by omega)
     rw [List.takeWhile_cons, if_pos hc, List.length_cons]
     rw [ih m (by simpa using hm) (fun k hk => h0 (k + 1) (by omega)) (by rcases h1 with h1 | h1; exact .inl (by simpa using h1); exact .inr h1)]
set_option maxHeartbeats 1000000 in
theorem name_any (l : List UInt8) (hl : l.length ≤ 100000) (w : World) : Calls Tryz.prog 135 #[.string (S l)] w fun e w' => e = .returned (rdv (nameP l)) ∧ Below w.heap.size w w' := by
 obtain ⟨r, hr⟩ : ∃ r, nameP l = r := ⟨_, rfl⟩
 rw [hr]
 have HR := Lib.hid hr
 clear hr
 go_enter Tryz.func135, Tryz.ntmps135
 go_wp2_with fail
 have hB0 := Blk.new w #[.string ⟨#[]⟩, .int .i64 0] 44
 have hb0 : Below w.heap.size w (w.alloc (.cells #[.string ⟨#[]⟩, .int .i64 0] 44)) := by go_grown
 generalize w.alloc (.cells #[.string ⟨#[]⟩, .int .i64 0] 44) = W0 at hB0 hb0 ⊢
 go_loopw [5] (fun i wr => wr = W0 ∧ ∃ j : Nat, i = .int .i64 (j : Int) ∧ j ≤ l.length ∧ Hid (∀ k, k < j → wordB (byt l k) = true)) (fun i _ => l.length - (intOf i).toNat)
 case atStart => exact ⟨rfl, 0, rfl, Nat.zero_le _, Lib.hid (fun k hk => by omega)⟩
 case round =>
   obtain ⟨rfl, j, rfl, hj, HW⟩ := hrel
   by_cases hgo : j < l.length ∧ wordB (byt l j) = true
   · obtain ⟨hlt, hwb⟩ := hgo
     go_wp2_with (go_at_call 181; refine (word_any _ _).mono ?_; rintro e w' ⟨rfl, rfl⟩; rw [hwb])
     go_roundw
     case rel => exact ⟨by first | rfl | trivial, j + 1, rfl, hlt, Lib.hid (fun k hk => by rcases Nat.lt_succ_iff_lt_or_eq.1 hk with h | h; exact HW.out k h; rw [h]; exact hwb)⟩
     case measure => simp [intOf]; omega
   · have hstop : j = l.length ∨ wordB (byt l j) = false := by
       rcases Nat.lt_or_ge j l.length with h | h
       · refine .inr ?_
         cases hc : wordB (byt l j) with
         | false => rfl
         | true => exact absurd ⟨h, hc⟩ hgo
       · exact .inl (by omega)
     have HRUN := Lib.hid (runW_at l j hj HW.out hstop)
     have j0 : (0 : Int) ≤ (j : Int) := by omega
     have j1 : (j : Int) ≤ (l.length : Int) := by omega
     have hxl : (sl l 0 j).length ≤ 100000 := by have := sl_le l 0 j; omega
     have HSL := Lib.hid (sl_to l j)
     have HS := Lib.hid hB0
     have HB := Lib.hid hb0
     clear hB0 hb0 hgo
     have hmid : (∃ _ : j < l.length, wordB (byt l j) = false) ∨ ¬ j < l.length := by
       rcases hstop with h | h
       · exact .inr (by omega)
       · rcases Nat.lt_or_ge j l.length with h' | h'
         · exact .inl ⟨h', h⟩
         · exact .inr (by omega)
     clear hstop
     obtain ⟨x, hx⟩ : ∃ x, sl l 0 j = x := ⟨_, rfl⟩
     rw [hx] at hxl HSL
     have HX := Lib.hid hx
     rcases hmid with ⟨hlt, hwb⟩ | hlt
     all_goals
       go_wp2_with (go_at_call 181; refine (word_any _ _).mono ?_; rintro e w' ⟨rfl, rfl⟩; rw [hwb])
       refine (Ident_any x (by omega) _).mono ?_
       rintro e w1 ⟨rfl, hb1⟩
       have hB1 := HS.out.below hb1
       have HB1 := Lib.hid (HB.out.trans (hb1.mono HB.out.size))
       clear hb1
       rcases (bool_two (identB x)).symm with hp | hp
       · rw [hp]
         have hr : r = (⟨x, 0⟩, j, true) := by rw [← HR.out]; unfold nameP; rw [HRUN.out, ← HSL.out, hp]; rfl
         subst hr
         clear hp
         have f0 := hB1.frozen 0
         have f1 := hB1.frozen 1
         have x0 := hB1.cell 0
         have x1 := hB1.cell 1
         simp at x0 x1
         go_wp2_with fail
         exact bodyPost_ret (v := rdv _) (by simp [results, Tryz.results135, go_sem, rdv, x0, x1]) rfl ⟨rfl, (HB1.out.setCell (Nat.le_refl _) _).setCell (Nat.le_refl _) _⟩
       · rw [hp]
         have HP := Lib.hid hp
         clear hp
         go_wp2_with fail
         refine (wrong_any x hxl _).mono ?_
         rintro e w2 ⟨rfl, hb2⟩
         have hB2 := hB1.below hb2
         have HB2 := Lib.hid (HB1.out.trans (hb2.mono HB1.out.size))
         clear hb2
         have hr : r = (noS, wrongN x, false) := by rw [← HR.out]; unfold nameP; rw [HRUN.out, ← HSL.out, HP.out]; rfl
         subst hr
         have f0 := hB2.frozen 0
         have f1 := hB2.frozen 1
         have x0 := hB2.cell 0
         have x1 := hB2.cell 1
         simp at x0 x1
         go_wp2_with fail
         exact bodyPost_ret (v := rdv _) (by simp [results, Tryz.results135, go_sem, rdv, noS, S_nil, x0, x1]) rfl ⟨rfl, (HB2.out.setCell (Nat.le_refl _) _).setCell (Nat.le_refl _) _⟩
end
section
open Go.RowKit
def hexS : List UInt8 := [48, 49, 50, 51, 52, 53, 54, 55, 56, 57, 97, 98, 99, 100, 101, 102]
def pairH (n : Nat) : List UInt8 := ct (sl hexS (n / 16) (n / 16 + 1)) (sl hexS (n % 16) (n % 16 + 1))
def wrN (n : Nat) : Bool := !(decide (32 ≤ n) && decide (n ≤ 126) || n == 9 || n == 10 || n == 13)
def hexAt (s : List UInt8) (n : Nat) : Bool := wrN n && (pairH n).take s.length == s
def hexP (s : List UInt8) : Bool := (List.range 256).any (hexAt s)
theorem wrN_ways (n : Nat) : (wrN n = false ∧ 32 ≤ n ∧ n ≤ 126) ∨ (wrN n = false ∧ n < 32 ∧ ((n : Int) == 9) = true) ∨ (wrN n = false ∧ n < 32 ∧ ((n : Int) == 9) = false ∧ ((n : Int) == 10) = true) ∨
   (wrN n = false ∧ n < 32 ∧ ((n : Int) == 9) = false ∧ ((n : Int) == 10) = false ∧ ((n : Int) == 13) = true) ∨
   (wrN n = true ∧ n < 32 ∧ ((n : Int) == 9) = false ∧ ((n : Int) == 10) = false ∧ ((n : Int) == 13) = false) ∨ (wrN n = true ∧ 126 < n ∧ ((n : Int) == 9) = false ∧ ((n : Int) == 10) = false ∧ ((n : Int) == 13) = false) := by
 unfold wrN
 by_cases h1 : 32 ≤ n <;> by_cases h2 : n ≤ 126 <;> by_cases h3 : n = 9 <;> by_cases h4 : n = 10 <;> by_cases h5 : n = 13 <;> simp [h1, h2, h3, h4, h5] <;> omega
theorem pairH_len (n : Nat) (h : n < 256) : (pairH n).length = 2 := by
 unfold pairH
 rw [ct_len, sl_len _ _ _ (by omega) (by simp [hexS]; omega), sl_len _ _ _ (by omega) (by simp [hexS]; omega)]; omega
theorem hexP_yes (s : List UInt8) (n : Nat) (hn : n < 256) (h : hexAt s n = true) : hexP s = true := by
 unfold hexP; rw [List.any_eq_true]; exact ⟨n, by simpa using hn, h⟩
theorem hexP_no (s : List UInt8) (h : ∀ k, k < 256 → hexAt s k = false) : hexP s = false := by
 unfold hexP; rw [List.any_eq_false]; exact fun k hk => by simp [h k (by simpa using hk)]
set_option maxRecDepth 100000 in
set_option maxHeartbeats 2000000 in
theorem hexadecimal_any (s : List UInt8) (hs : s.length ≤ 2) (w : World) : Calls Tryz.prog 183 #[.string (S s)] w fun e w' => e = .returned (.bool (hexP s)) ∧ Below w.heap.size w w' := by
 obtain ⟨r, hr⟩ : ∃ r, hexP s = r := ⟨_, rfl⟩
 rw [hr]
 have HR := Lib.hid hr
 clear hr
 have s0 : (0 : Int) ≤ (s.length : Int) := by omega
 have s1 : (s.length : Int) ≤ 2 := by omega
 go_enter Tryz.func183, Tryz.ntmps183
 go_wp2_with fail
 go_loopw [6] (fun i wr => ∃ n : Nat, i = .int .i64 (n : Int) ∧ n ≤ 256 ∧ Hid ((∀ k, k < n → hexAt s k = false) ∧ Below w.heap.size w wr)) (fun i _ => 256 - (intOf i).toNat)
 case atStart => exact ⟨0, rfl, by decide, Lib.hid ⟨fun k hk => by omega, Below.refl _ _⟩⟩
 case round =>
   obtain ⟨n, rfl, hn, HW⟩ := hrel
   by_cases hlt : n < 256
   · have q0 : IntKind.u8.wrap (n : Int) = (n : Int) := IntWalk.u8_in _ (by omega)
     have hnext : hexAt s n = false → ∀ k, k < n + 1 → hexAt s k = false := fun h k hk => by
       rcases Nat.lt_succ_iff_lt_or_eq.1 hk with h' | h'
       · exact HW.out.1 k h'
       · rw [h']; exact h
     have HNX := Lib.hid hnext
     clear hnext
     rcases wrN_ways n with ⟨hw, h1, h2⟩ | ⟨hw, h1, h2⟩ | ⟨hw, h1, h2, h3⟩ | ⟨hw, h1, h2, h3, h4⟩ | ⟨hw, h1, h2, h3, h4⟩ | ⟨hw, h1, h2, h3, h4⟩
     iterate 4
       · have HAT := Lib.hid (show hexAt s n = false by unfold hexAt; rw [hw]; rfl)
         clear hw
         go_wp2_with fail
         go_roundw
         case rel => exact ⟨n + 1, rfl, hlt, Lib.hid ⟨HNX.out HAT.out, HW.out.2⟩⟩
         case measure => simp [intOf]; omega
     all_goals
       have HWR := Lib.hid hw
       have hpl := pairH_len n hlt
       have l1 : (sl [48, 49, 50, 51, 52, 53, 54, 55, 56, 57, 97, 98, 99, 100, 101, 102] (n / 16) (n / 16 + 1)).length ≤ 1 := by have := sl_le [48, 49, 50, 51, 52, 53, 54, 55, 56, 57, 97, 98, 99, 100, 101, 102] (n / 16) (n / 16 + 1); omega
       have l2 : (sl [48, 49, 50, 51, 52, 53, 54, 55, 56, 57, 97, 98, 99, 100, 101, 102] (n % 16) (n % 16 + 1)).length ≤ 1 := by have := sl_le [48, 49, 50, 51, 52, 53, 54, 55, 56, 57, 97, 98, 99, 100, 101, 102] (n % 16) (n % 16 + 1); omega
       have q1 : IntKind.u8.wrap ((n : Int) / 16 + 1) = (n : Int) / 16 + 1 := IntWalk.u8_in _ (by omega)
       have q4 : bits .and .u8 (n : Int) 15 = (n : Int) % 16 := u8_and15 _ (by omega) (by omega)
       have q5 : IntKind.u8.wrap ((n : Int) % 16 + 1) = (n : Int) % 16 + 1 := IntWalk.u8_in _ (by omega)
       have q2 : (0 : Int) ≤ (n : Int) / 16 := by omega
       have q3 : (n : Int) / 16 + 1 ≤ 16 := by omega
       have q6 : (0 : Int) ≤ (n : Int) % 16 := by omega
       have q7 : (n : Int) % 16 + 1 ≤ 16 := by omega
       clear hw
       go_wp2_with fail
       go_quiet (fail)
       clear q1 q4 q5
       have hxe : ct (sl [48, 49, 50, 51, 52, 53, 54, 55, 56, 57, 97, 98, 99, 100, 101, 102] (n / 16) (n / 16 + 1)) (sl [48, 49, 50, 51, 52, 53, 54, 55, 56, 57, 97, 98, 99, 100, 101, 102] (n % 16) (n % 16 + 1)) = pairH n := rfl
       rw [hxe]
       have HAT : Hid (hexAt s n = (sl (pairH n) 0 s.length == s)) := Lib.hid (by unfold hexAt; rw [HWR.out, Bool.true_and, sl_to])
       clear hxe l1 l2
       obtain ⟨x, hx⟩ : ∃ x, pairH n = x := ⟨_, rfl⟩
       rw [hx] at hpl HAT ⊢
       clear hx
       have x1 : (x.length : Int) = 2 := by omega
       rcases bool_two (hexAt s n) with ha | ha
       · have hb : (sl x 0 s.length == s) = false := by rw [← HAT.out]; exact ha
         have HA := Lib.hid ha
         clear ha
         go_wp2_with fail
         go_roundw
         case rel => exact ⟨n + 1, rfl, hlt, Lib.hid ⟨HNX.out HA.out, by first | exact HW.out.2 | exact below_drewN HW.out.2 _⟩⟩
         case measure => simp [intOf]; omega
       · have hb : (sl x 0 s.length == s) = true := by rw [← HAT.out]; exact ha
         have hr : r = true := by rw [← HR.out]; exact hexP_yes s n hlt ha
         subst hr
         clear ha
         go_wp2_with fail
         go_ret
         exact ⟨rfl, by first | exact HW.out.2 | exact below_drewN HW.out.2 _⟩
   · have hn' : n = 256 := by omega
     subst hn'
     have hr : r = false := by rw [← HR.out]; exact hexP_no s HW.out.1
     subst hr
     go_wp2_with fail
     go_ret
     exact ⟨rfl, HW.out.2⟩
def isB (c : UInt8) (n : Int) : Bool := (c.toNat : Int) == n
def escP (t : List UInt8) : Nat × Bool :=
 if t.length < 2 then (1, false)
 else if isB (byt t 1) 34 || isB (byt t 1) 92 || isB (byt t 1) 110 || isB (byt t 1) 116 || isB (byt t 1) 114 then (2, true)
 else if isB (byt t 1) 120 then
   if t.length < 3 then (t.length, false) else if hexP (sl t 2 3) = false then (2, false)
   else if t.length < 4 then (t.length, false) else if hexP (sl t 2 4) = false then (3, false) else (4, true)
 else (1, false)
def edv (r : Nat × Bool) : Value := .tuple #[.int .i64 (r.1 : Int), .bool r.2]
set_option maxRecDepth 100000 in
set_option maxHeartbeats 2000000 in
theorem escapeP_any (t : List UInt8) (ht : t.length ≤ 100000) (w : World) : Calls Tryz.prog 136 #[.string (S t)] w fun e w' => e = .returned (edv (escP t)) ∧ Below w.heap.size w w' := by
 obtain ⟨r, hr⟩ : ∃ r, escP t = r := ⟨_, rfl⟩
 rw [hr]
 by_cases h2 : t.length < 2
 · have hr' : r = (1, false) := by rw [← hr]; unfold escP; rw [if_pos h2]
   subst hr'
   clear hr
   go_enter Tryz.func136, Tryz.ntmps136
   go_wp2_with fail
   go_ret2
   exact ⟨rfl, Below.refl _ _⟩
 · unfold escP at hr
   rw [if_neg h2] at hr
   obtain ⟨b, hb⟩ : ∃ b, byt t 1 = b := ⟨_, rfl⟩
   rw [hb] at hr
   unfold isB at hr
   have HRR := Lib.hid hr
   clear hr
   rcases (bool_two ((b.toNat : Int) == 34)).symm with e1 | e1
   rotate_left
   rcases (bool_two ((b.toNat : Int) == 92)).symm with e2 | e2
   rotate_left
   rcases (bool_two ((b.toNat : Int) == 110)).symm with e3 | e3
   rotate_left
   rcases (bool_two ((b.toNat : Int) == 116)).symm with e4 | e4
   rotate_left
   rcases (bool_two ((b.toNat : Int) == 114)).symm with e5 | e5
   rotate_left
   rcases (bool_two ((b.toNat : Int) == 120)).symm with e6 | e6
   rotate_left
   · have hr := HRR.out
     simp only [e1, e2, e3, e4, e5, e6, Bool.or_self, Bool.false_eq_true, if_false] at hr
     subst hr
     clear HRR
     go_enter Tryz.func136, Tryz.ntmps136
     go_wp2_with fail
     go_ret2
     exact ⟨rfl, Below.refl _ _⟩
   · have hr := HRR.out
     simp only [e1, Bool.true_or, if_true] at hr
     subst hr
     clear HRR
     go_enter Tryz.func136, Tryz.ntmps136
     go_wp2_with fail
     go_ret2
     exact ⟨rfl, Below.refl _ _⟩
   · have hr := HRR.out
     simp only [e1, e2, Bool.or_true, Bool.true_or, if_true] at hr
     subst hr
     clear HRR
     go_enter Tryz.func136, Tryz.ntmps136
     go_wp2_with fail
     go_ret2
     exact ⟨rfl, Below.refl _ _⟩
   · have hr := HRR.out
     simp only [e1, e2, e3, Bool.or_true, Bool.true_or, Bool.or_self, if_true] at hr
     subst hr
     clear HRR
     go_enter Tryz.func136, Tryz.ntmps136
     go_wp2_with fail
     go_ret2
     exact ⟨rfl, Below.refl _ _⟩
   · have hr := HRR.out
     simp only [e1, e2, e3, e4, Bool.or_true, Bool.true_or, Bool.or_self, if_true] at hr
     subst hr
     clear HRR
     go_enter Tryz.func136, Tryz.ntmps136
     go_wp2_with fail
     go_ret2
     exact ⟨rfl, Below.refl _ _⟩
   · have hr := HRR.out
     simp only [e1, e2, e3, e4, e5, Bool.or_true, Bool.or_self, if_true] at hr
     subst hr
     clear HRR
     go_enter Tryz.func136, Tryz.ntmps136
     go_wp2_with fail
     go_ret2
     exact ⟨rfl, Below.refl _ _⟩
   · have hr := HRR.out
     simp only [e1, e2, e3, e4, e5, e6, Bool.or_self, Bool.false_eq_true, if_false, if_true] at hr
     have HR := Lib.hid hr
     clear HRR hr
     go_enter Tryz.func136, Tryz.ntmps136
     go_wp2_with fail
     go_loopw [4] (fun i wr => (i = .int .i64 3 ∨ (i = .int .i64 4 ∧ Hid (3 ≤ t.length ∧ hexP (sl t 2 3) = true)) ∨ (i = .int .i64 5 ∧ Hid (4 ≤ t.length ∧ hexP (sl t 2 3) = true ∧ hexP (sl t 2 4) = true))) ∧ Hid (Below w.heap.size w wr)) (fun i _ => 6 - (intOf i).toNat)
     case atStart => exact ⟨.inl rfl, Lib.hid (Below.refl _ _)⟩
     case round =>
       obtain ⟨hi, HW⟩ := hrel
       rcases hi with rfl | ⟨rfl, HP⟩ | ⟨rfl, HP⟩
       · by_cases h3 : t.length < 3
         · have hr : r = (t.length, false) := by rw [← HR.out, if_pos h3]
           subst hr
           go_wp2_with fail
           go_ret2
           exact ⟨rfl, HW.out⟩
         · go_wp2_with fail
           refine (hexadecimal_any (sl t 2 3) (by have := sl_le t 2 3; omega) _).mono ?_
           rintro e w1 ⟨rfl, hb1⟩
           have HB1 := Lib.hid (HW.out.trans (hb1.mono HW.out.size))
           clear hb1
           rcases bool_two (hexP (sl t 2 3)) with hh | hh
           · rw [hh]
             have hr : r = (2, false) := by rw [← HR.out, if_neg h3, if_pos hh]
             subst hr
             go_wp2_with fail
             go_ret2
             exact ⟨rfl, HB1.out⟩
           · rw [hh]
             have HH := Lib.hid hh
             clear hh
             go_wp2_with fail
             go_roundw
             case rel => exact ⟨.inr (.inl ⟨rfl, Lib.hid ⟨by omega, HH.out⟩⟩), HB1⟩
             case measure => simp [intOf]
       · have hl3 := HP.out.1
         by_cases h3 : t.length < 4
         · have hr : r = (t.length, false) := by rw [← HR.out, if_neg (by omega), if_neg (by rw [HP.out.2]; decide), if_pos h3]
           subst hr
           go_wp2_with fail
           go_ret2
           exact ⟨rfl, HW.out⟩
         · go_wp2_with fail
           refine (hexadecimal_any (sl t 2 4) (by have := sl_le t 2 4; omega) _).mono ?_
           rintro e w1 ⟨rfl, hb1⟩
           have HB1 := Lib.hid (HW.out.trans (hb1.mono HW.out.size))
           clear hb1
           rcases bool_two (hexP (sl t 2 4)) with hh | hh
           · rw [hh]
             have hr : r = (3, false) := by rw [← HR.out, if_neg (by omega), if_neg (by rw [HP.out.2]; decide), if_neg h3, if_pos hh]
             subst hr
             go_wp2_with fail
             go_ret2
             exact ⟨rfl, HB1.out⟩
           · rw [hh]
             have HH := Lib.hid hh
             clear hh
             go_wp2_with fail
             go_roundw
             case rel => exact ⟨.inr (.inr ⟨rfl, Lib.hid ⟨by omega, HP.out.2, HH.out⟩⟩), HB1⟩
             case measure => simp [intOf]
       · have hr : r = (4, true) := by rw [← HR.out, if_neg (by have := HP.out.1; omega), if_neg (by rw [HP.out.2.1]; decide), if_neg (by have := HP.out.1; omega), if_neg (by rw [HP.out.2.2]; decide)]
         subst hr
         go_wp2_with fail
         go_ret2
         exact ⟨rfl, HW.out⟩
end
section
open Go.RowKit
def okB (c : UInt8) : Bool := decide (32 ≤ c.toNat) && decide (c.toNat ≤ 126)
def qscan (t : List UInt8) : Nat → Nat → Nat × Bool
 | 0, i => (i, true)
 | f + 1, i =>
   if t.length ≤ i then (i, true) else if isB (byt t i) 34 then (i, true)
   else if isB (byt t i) 92 then (if (escP (sl t i t.length)).2 then qscan t f (i + (escP (sl t i t.length)).1) else (i + (escP (sl t i t.length)).1, false))
   else if okB (byt t i) then qscan t f (i + 1) else (i, false)
def labQ (t : List UInt8) (q : Nat × Bool) : Stp × Nat × Bool :=
 if q.2 = false then (noS, q.1, false) else if t.length ≤ q.1 then (noS, t.length, false)
 else if (unqL (sl t 0 (q.1 + 1))).1.isEmpty || identB (unqL (sl t 0 (q.1 + 1))).1 then (noS, q.1, false) else (⟨(unqL (sl t 0 (q.1 + 1))).1, 0⟩, q.1 + 1, true)
def labP (t : List UInt8) : Stp × Nat × Bool := if t.isEmpty || !isB (byt t 0) 34 then nameP t else labQ t (qscan t t.length 1)
theorem escP_le (t : List UInt8) : (escP t).1 ≤ t.length + 1 ∧ ((escP t).2 = true → 1 ≤ (escP t).1 ∧ (escP t).1 ≤ t.length) := by
 unfold escP
 repeat' split
 all_goals simp
 all_goals omega
theorem qscan_len (t : List UInt8) (f i : Nat) (h : t.length ≤ i) : qscan t f i = (i, true) := by
 cases f with
 | zero => rfl
 | succ f => rw [qscan, if_pos h]
theorem Blk.drewN {W : World} {B : Nat} {cs : Array Value} {t : TypeId} (h : Blk W B cs t) (n : Nat) : Blk (W.drewN n) B cs t := h
theorem scan_le : ∀ (l : List UInt8) (k i : Nat) (acc : List UInt8), (scan l k i acc).1.length ≤ acc.length + l.length
 | [], k, _, _ => by cases k <;> simp [scan]
 | _ :: t, k + 1, i, acc => by
   simp only [scan]; have := scan_le t k i acc; rw [List.length_cons]; omega
 | c :: t, 0, i, acc => by
   simp only [scan]
   split
   · split <;> simp
   · split
     · split
       · simp
       · have := scan_le t ((unesc (c :: t)).2 - 1) (i + (unesc (c :: t)).2) (acc ++ [(unesc (c :: t)).1])
         simp at this ⊢; omega
     · split
       · simp
       · have := scan_le t 0 (i + 1) (acc ++ [c])
         simp at this ⊢; omega
theorem unq_len (l : List UInt8) : (unqL l).1.length ≤ l.length := by
 unfold unqL
 by_cases h : 65536 < l.length
 · rw [if_pos h]; simp
 · rw [if_neg h]
   cases l with
   | nil => simp
   | cons c t =>
     by_cases hc : c = 34
     · simp only [hc, if_true]; have := scan_le t 0 1 []; simp at this ⊢; omega
     · simp only [hc, if_false]; simp
structure StOk (w : World) : Prop where
 num : NumOk w
 err : ErrOk w
theorem StOk.below {w w' : World} (h : StOk w) (hb : Below w.heap.size w w') : StOk w' := ⟨h.num.below hb, h.err.below hb⟩
set_option maxRecDepth 100000 in
set_option maxHeartbeats 4000000 in
theorem label_any (t : List UInt8) (ht : t.length ≤ 100000) (w : World) (hE : StOk w) : Calls Tryz.prog 95 #[.string (S t)] w fun e w' => e = .returned (rdv (labP t)) ∧ Below w.heap.size w w' := by
 obtain ⟨r, hr⟩ : ∃ r, labP t = r := ⟨_, rfl⟩
 rw [hr]
 have HE := Lib.hid hE
 clear hE
 by_cases h0 : (t.isEmpty || !isB (byt t 0) 34) = true
 · have hr' : r = nameP t := by rw [← hr]; unfold labP; rw [if_pos h0]
   subst hr'
   clear hr
   have hw : t.isEmpty = true ∨ (t.isEmpty = false ∧ 0 < t.length ∧ (((byt t 0).toNat : Int) == 34) = false) := by
     cases t with
     | nil => exact .inl rfl
     | cons c l => right; refine ⟨rfl, by simp, ?_⟩; simpa [isB] using h0
   obtain ⟨x, hx⟩ : ∃ x, nameP t = x := ⟨_, rfl⟩
   obtain ⟨⟨xl, xi⟩, xn, xo⟩ := x
   have HX := Lib.hid hx
   rw [hx]
   clear hx h0
   rcases hw with hw | ⟨hw, h1, h2⟩
   all_goals
     go_enter Tryz.func95, Tryz.ntmps95
     go_wp2_with fail
     refine (name_any t ht _).mono ?_
     rintro e w1 ⟨rfl, hb1⟩
     rw [HX.out]
     unfold rdv
     obtain ⟨bR, hb1⟩ := below_new hb1
     have HB1 := Lib.hid hb1
     have f0 := bR.frozen 0
     have f1 := bR.frozen 1
     have x0 := bR.cell 0
     have x1 := bR.cell 1
     simp at x0 x1
     clear hb1
     go_wp2_with fail
     exact bodyPost_ret (v := rdv _) (by simp [results, Tryz.results95, go_sem, rdv, x0, x1]) rfl ⟨rfl, (HB1.out.setCell (Nat.le_refl _) _).setCell (Nat.le_refl _) _⟩
 · have hne : 0 < t.length ∧ t.isEmpty = false ∧ (((byt t 0).toNat : Int) == 34) = true := by
     cases t with
     | nil => exact absurd rfl h0
     | cons c l => refine ⟨by simp, rfl, ?_⟩; simpa [isB] using h0
   obtain ⟨hl0, he0, h34⟩ := hne
   have h34' : (((byt t 0).toNat : Int) != 34) = false := by rw [bne, h34]; rfl
   obtain ⟨q, hq⟩ : ∃ q, qscan t t.length 1 = q := ⟨_, rfl⟩
   have hr' : labQ t q = r := by rw [← hr]; unfold labP; rw [if_neg h0, hq]
   have HR := Lib.hid hr'
   have HQ0 := Lib.hid hq
   clear hr hr' hq h0
   go_enter Tryz.func95, Tryz.ntmps95
   go_wp2_with fail
   have hB0 := Blk.new w #[.string ⟨#[]⟩, .int .i64 0] 44
   have hb0 : Below w.heap.size w (w.alloc (.cells #[.string ⟨#[]⟩, .int .i64 0] 44)) := by go_grown
   generalize w.alloc (.cells #[.string ⟨#[]⟩, .int .i64 0] 44) = W0 at hB0 hb0 ⊢
   go_loopg [5] t.length (fun f v wr => ∃ i : Nat, v = .int .i64 (i : Int) ∧ 1 ≤ i ∧ i ≤ t.length ∧ t.length ≤ i + f ∧ Hid (qscan t f i = q ∧ Blk wr w.heap.size #[.string ⟨#[]⟩, .int .i64 0] 44 ∧ Below w.heap.size w wr))
   case atStart => exact ⟨1, rfl, Nat.le_refl _, hl0, by omega, Lib.hid ⟨HQ0.out, hB0, hb0⟩⟩
   case round =>
     clear hB0 hb0 HQ0
     obtain ⟨i, rfl, hi1, hi2, hif, HQ⟩ := hrel
     have BN := HQ.out.2.1
     have f0 := BN.frozen 0
     have f1 := BN.frozen 1
     have x0 := BN.cell 0
     have x1 := BN.cell 1
     simp at x0 x1
     have HW := Lib.hid HQ.out.2.2
     have BNH := Lib.hid BN
     clear BN
     by_cases hlt : i < t.length
     · obtain ⟨f, hf⟩ : ∃ f, gk = f + 1 := ⟨gk - 1, by omega⟩
       have hqq := HQ.out.1
       rw [hf, qscan, if_neg (by omega)] at hqq
       have HQQ := Lib.hid hqq
       clear hqq HQ
       have i0 : (0 : Int) ≤ (i : Int) := by omega
       have i1 : (i : Int) < (t.length : Int) := by omega
       obtain ⟨c, hc⟩ : ∃ c, byt t i = c := ⟨_, rfl⟩
       rw [hc] at HQQ
       rcases (bool_two (isB c 34)).symm with h1 | h1
       · have hq := HQQ.out
         rw [if_pos h1] at hq
         have e1 : ((c.toNat : Int) == 34) = true := h1
         subst hq
         clear HQQ h1
         have hr := HR.out
         unfold labQ at hr
         simp only [Bool.true_eq_false, if_false] at hr
         rw [if_neg (by omega)] at hr
         obtain ⟨⟨ua, ue, up⟩, hu⟩ : ∃ u, unqL (sl t 0 (i + 1)) = u := ⟨_, rfl⟩
         rw [hu] at hr
         have HU := Lib.hid hu
         have HR2 := Lib.hid hr
         clear hr hu
         have hsl : (sl t 0 (i + 1)).length ≤ 1000000 := by have := sl_le t 0 (i + 1); omega
         have i2 : (i : Int) + 1 ≤ (t.length : Int) := by omega
         have i3 : ((i : Int) + 1).toNat = i + 1 := by omega
         go_wp2_with fail
         refine (Unquote_any _ hsl _ (HE.out.below HW.out).err).mono ?_
         rintro e w1 ⟨rfl, hb1⟩
         rw [HU.out]
         unfold uqVal
         have B1 := BNH.out.below hb1
         have HW1 := Lib.hid (HW.out.trans (hb1.mono HW.out.size))
         have hul : ua.length ≤ 1000000 := by have := unq_len (sl t 0 (i + 1)); rw [HU.out] at this; simp only at this; omega
         clear hb1 x0 x1 f0 f1
         have hl1 := B1.lt
         have f0 := B1.frozen 0
         have f1 := B1.frozen 1
         have x0 := B1.cell 0
         have x1 := B1.cell 1
         simp at x0 x1
         rcases (bool_two ua.isEmpty).symm with hu0 | hu0
         · have hr := HR2.out
           rw [if_pos (by first | (rw [hu0]; rfl) | (simp only; rw [hu0]; rfl))] at hr
           subst hr
           clear HR2
           have hn1 : ¬ w.heap.size = w1.heap.size := by omega
           have hn2 : ¬ w1.heap.size = w.heap.size := by omega
           go_wp2_with fail
           exact bodyPost_ret (v := rdv _) (by simp [results, Tryz.results95, go_sem, rdv, noS, S_nil, x0, x1, hl1]) rfl ⟨rfl, by first | exact ((HW1.out.alloc HW1.out.size _).setCell (Nat.le_refl _) _).setCell (Nat.le_refl _) _ | exact ((below_drewN (HW1.out.alloc HW1.out.size _) _).setCell (Nat.le_refl _) _).setCell (Nat.le_refl _) _ | exact below_drewN (((HW1.out.alloc HW1.out.size _).setCell (Nat.le_refl _) _).setCell (Nat.le_refl _) _) _ | exact ((HW1.out.setCell (Nat.le_refl _) _).setCell (Nat.le_refl _) _).alloc (by simp; exact HW1.out.size) _ | go_grown⟩
         · go_wp2_with fail
           refine (Ident_any ua hul _).mono ?_
           rintro e w2 ⟨rfl, hb2⟩
           obtain ⟨-, hb2⟩ := below_new hb2
           have B2 := B1.below hb2
           have HW2 := Lib.hid (HW1.out.trans (hb2.mono HW1.out.size))
           clear hb2 x0 x1 f0 f1 hl1
           have f0 := B2.frozen 0
           have f1 := B2.frozen 1
           have x0 := B2.cell 0
           have x1 := B2.cell 1
           simp at x0 x1
           rcases (bool_two (identB ua)).symm with hp | hp
           · have hr := HR2.out
             rw [if_pos (by first | rw [hp, Bool.or_true] | (simp only; rw [hp, Bool.or_true]))] at hr
             rw [hp]
             subst hr
             clear HR2
             go_wp2_with fail
             exact bodyPost_ret (v := rdv _) (by simp [results, Tryz.results95, go_sem, rdv, noS, S_nil, x0, x1]) rfl ⟨rfl, by first | exact (HW2.out.setCell (Nat.le_refl _) _).setCell (Nat.le_refl _) _ | exact ((below_drewN HW2.out _).setCell (Nat.le_refl _) _).setCell (Nat.le_refl _) _ | exact below_drewN ((HW2.out.setCell (Nat.le_refl _) _).setCell (Nat.le_refl _) _) _ | exact ((HW1.out.setCell (Nat.le_refl _) _).setCell (Nat.le_refl _) _).alloc (by simp; exact HW1.out.size) _ | go_grown⟩
           · have hr := HR2.out
             rw [if_neg (by first | (rw [hp, hu0]; decide) | (simp only; rw [hp, hu0]; decide))] at hr
             rw [hp]
             subst hr
             clear HR2
             go_wp2_with fail
             exact bodyPost_ret (v := rdv _) (by simp [results, Tryz.results95, go_sem, rdv, x0, x1]) rfl ⟨rfl, by first | exact (HW2.out.setCell (Nat.le_refl _) _).setCell (Nat.le_refl _) _ | exact ((below_drewN HW2.out _).setCell (Nat.le_refl _) _).setCell (Nat.le_refl _) _ | exact below_drewN ((HW2.out.setCell (Nat.le_refl _) _).setCell (Nat.le_refl _) _) _ | exact ((HW1.out.setCell (Nat.le_refl _) _).setCell (Nat.le_refl _) _).alloc (by simp; exact HW1.out.size) _ | go_grown⟩
       · rw [if_neg (by rw [h1]; decide)] at HQQ
         have e1 : ((c.toNat : Int) == 34) = false := h1
         rcases (bool_two (isB c 92)).symm with h2 | h2
         · have hq := HQQ.out
           rw [if_pos h2] at hq
           have e2 : ((c.toNat : Int) == 92) = true := h2
           have c1 : 32 ≤ c.toNat := by have : (c.toNat : Int) = 92 := by simpa using e2
                                        omega
           have c2 : c.toNat ≤ 126 := by have : (c.toNat : Int) = 92 := by simpa using e2
                                         omega
           have d1 : decide ((32 : Int) ≤ (c.toNat : Int)) = true := by first | (simp; done) | (simp; omega)
           have d2 : decide ((c.toNat : Int) ≤ (126 : Int)) = true := by first | (simp; done) | (simp; omega)
           have hel := escP_le (sl t i t.length)
           have hsl2 : (sl t i t.length).length = t.length - i := sl_len t i t.length (by omega) (Nat.le_refl _)
           obtain ⟨⟨en, eo⟩, he⟩ : ∃ x, escP (sl t i t.length) = x := ⟨_, rfl⟩
           rw [he] at hq hel
           have HES := Lib.hid he
           have HQ3 := Lib.hid hq
           simp only at hel
           rw [hsl2] at hel
           have hsl3 : (sl t i t.length).length ≤ 100000 := by omega
           clear hq HQQ h1 h2 he hsl2
           go_wp2_with fail
           go_quiet (fail)
           go_wp2_with fail
           refine (escapeP_any (sl t i t.length) hsl3 _).mono ?_
           rintro e w1 ⟨rfl, hb1⟩
           rw [HES.out]
           unfold edv
           have B1 := (BNH.out.drewN _).below hb1
           have HW1 := Lib.hid ((below_drewN HW.out _).trans (hb1.mono HW.out.size))
           clear hb1 x0 x1 f0 f1
           have f0 := B1.frozen 0
           have f1 := B1.frozen 1
           have x0 := B1.cell 0
           have x1 := B1.cell 1
           simp at x0 x1
           rcases bool_two eo with rfl | rfl
           · have hq := HQ3.out
             simp only [Bool.false_eq_true, if_false] at hq
             subst hq
             have hr := HR.out
             unfold labQ at hr
             simp only [if_true] at hr
             subst hr
             have hen : en ≤ t.length + 1 := by omega
             go_wp2_with fail
             exact bodyPost_ret (v := rdv _) (by simp [results, Tryz.results95, go_sem, rdv, noS, S_nil, x0, x1]) rfl ⟨rfl, by first | exact (HW1.out.setCell (Nat.le_refl _) _).setCell (Nat.le_refl _) _ | exact ((below_drewN HW1.out _).setCell (Nat.le_refl _) _).setCell (Nat.le_refl _) _ | exact below_drewN ((HW1.out.setCell (Nat.le_refl _) _).setCell (Nat.le_refl _) _) _ | exact ((HW1.out.setCell (Nat.le_refl _) _).setCell (Nat.le_refl _) _).alloc (by simp; exact HW1.out.size) _ | go_grown⟩
           · have hq := HQ3.out
             simp only [if_true] at hq
             have hen := hel.2 rfl
             go_wp2_with fail
             go_roundg f
             case measure => omega
             case rel => exact ⟨i + en, rfl, by omega, by omega, by omega, Lib.hid ⟨hq, B1, HW1.out⟩⟩
         · rw [if_neg (by rw [h2]; decide)] at HQQ
           have e2 : ((c.toNat : Int) == 92) = false := h2
           have hok : (okB c = true ∧ 32 ≤ c.toNat ∧ c.toNat ≤ 126) ∨ (okB c = false ∧ c.toNat < 32) ∨ (okB c = false ∧ 32 ≤ c.toNat ∧ 126 < c.toNat) := by
             unfold okB
             by_cases g1 : 32 ≤ c.toNat <;> by_cases g2 : c.toNat ≤ 126 <;> simp [g1, g2] <;> omega
           clear h1 h2
           rcases hok with ⟨ho, c1, c2⟩ | ⟨ho, c1⟩ | ⟨ho, c1, c2⟩
           · have d1 : decide ((32 : Int) ≤ (c.toNat : Int)) = true := by first | (simp; done) | (simp; omega)
             have d2 : decide ((c.toNat : Int) ≤ (126 : Int)) = true := by first | (simp; done) | (simp; omega)
             have hq := HQQ.out
             rw [if_pos ho] at hq
             have HQ3 := Lib.hid hq
             clear hq HQQ ho
             go_wp2_with fail
             go_quiet (fail)
             go_wp2_with fail
             go_roundg f
             case measure => omega
             case rel => exact ⟨i + 1, rfl, by omega, by omega, by omega, Lib.hid ⟨HQ3.out, BNH.out.drewN _, below_drewN HW.out _⟩⟩
           · have d1 : decide ((32 : Int) ≤ (c.toNat : Int)) = false := by first | (simp; done) | (simp; omega)
             have hq := HQQ.out
             rw [if_neg (by rw [ho]; decide)] at hq
             subst hq
             have hr := HR.out
             unfold labQ at hr
             simp only [if_true] at hr
             subst hr
             clear HQQ ho
             go_wp2_with fail
             go_quiet (fail)
             go_wp2_with fail
             exact bodyPost_ret (v := rdv _) (by simp [results, Tryz.results95, go_sem, rdv, noS, S_nil, x0, x1]) rfl ⟨rfl, by first | exact (HW.out.setCell (Nat.le_refl _) _).setCell (Nat.le_refl _) _ | exact ((below_drewN HW.out _).setCell (Nat.le_refl _) _).setCell (Nat.le_refl _) _ | exact below_drewN ((HW.out.setCell (Nat.le_refl _) _).setCell (Nat.le_refl _) _) _ | exact ((HW1.out.setCell (Nat.le_refl _) _).setCell (Nat.le_refl _) _).alloc (by simp; exact HW1.out.size) _ | go_grown⟩
           · have d1 : decide ((32 : Int) ≤ (c.toNat : Int)) = true := by first | (simp; done) | (simp; omega)
             have d2 : decide ((c.toNat : Int) ≤ (126 : Int)) = false := by first | (simp; done) | (simp; omega)
             have hq := HQQ.out
             rw [if_neg (by rw [ho]; decide)] at hq
             subst hq
             have hr := HR.out
             unfold labQ at hr
             simp only [if_true] at hr
             subst hr
             clear HQQ ho
             go_wp2_with fail
             go_quiet (fail)
             go_wp2_with fail
             exact bodyPost_ret (v := rdv _) (by simp [results, Tryz.results95, go_sem, rdv, noS, S_nil, x0, x1]) rfl ⟨rfl, by first | exact (HW.out.setCell (Nat.le_refl _) _).setCell (Nat.le_refl _) _ | exact ((below_drewN HW.out _).setCell (Nat.le_refl _) _).setCell (Nat.le_refl _) _ | exact below_drewN ((HW.out.setCell (Nat.le_refl _) _).setCell (Nat.le_refl _) _) _ | exact ((HW1.out.setCell (Nat.le_refl _) _).setCell (Nat.le_refl _) _).alloc (by simp; exact HW1.out.size) _ | go_grown⟩
     · have hil : i = t.length := by omega
       subst hil
       have hq := HQ.out.1
       rw [qscan_len t gk _ (Nat.le_refl _)] at hq
       subst hq
       have hr' := HR.out
       unfold labQ at hr'
       simp only [Bool.true_eq_false, if_false, Nat.le_refl, if_true] at hr'
       subst hr'
       go_wp2_with fail
       exact bodyPost_ret (v := rdv _) (by simp [results, Tryz.results95, go_sem, rdv, noS, S_nil, x0, x1]) rfl ⟨rfl, by first | exact (HW.out.setCell (Nat.le_refl _) _).setCell (Nat.le_refl _) _ | exact ((below_drewN HW.out _).setCell (Nat.le_refl _) _).setCell (Nat.le_refl _) _ | exact below_drewN ((HW.out.setCell (Nat.le_refl _) _).setCell (Nat.le_refl _) _) _⟩
end
section
open Go
theorem valA_mono (a : Nat) (l : List UInt8) : a ≤ valA a l := by
 rw [valA_eq]
 exact Nat.le_trans (Nat.le_mul_of_pos_right a (Nat.pow_pos (by decide))) (Nat.le_add_right _ _)
theorem uintM_digits (l : List UInt8) : ∀ a, (∀ c ∈ l, dgt c) → valA a l ≤ 100000000000000000 → Lib.parseUintM (2 ^ 64 - 1) a l = .ok (valA a l) := by
 induction l with
 | nil => intro a _ _; rfl
 | cons c l ih =>
   intro a hd hv
   have hc := hd c (List.mem_cons_self ..)
   rw [valA_cons] at hv ⊢
   have hm := valA_mono (a * 10 + (c.toNat - 48)) l
   rw [Lib.parseUintM, if_pos (show 48 ≤ c.toNat ∧ c.toNat ≤ 57 from hc), if_neg (by omega), if_neg (by omega)]
   exact ih _ (fun x hx => hd x (List.mem_cons_of_mem _ hx)) hv
def padP (p : List UInt8) : List UInt8 := p ++ List.replicate (4 - p.length) 48
theorem padP_trim (f : Nat) (h : f < 10000) : padP (trimZ (pad4 f)) = pad4 f := by
 obtain ⟨k, -, hk, hl, -, -⟩ := frac_parts f h
 unfold padP
 rw [show 4 - (trimZ (pad4 f)).length = k by omega]; exact hk.symm
theorem padP_more (p : List UInt8) (h : p.length < 4) : padP p = padP (p ++ [48]) := by
 unfold padP
 have e : 4 - p.length = 4 - (p ++ [(48 : UInt8)]).length + 1 := by simp; omega
 rw [List.append_assoc, e, List.replicate_succ]; rfl
theorem padP_all (p : List UInt8) (h : ¬ p.length < 4) : padP p = p := by
 unfold padP; rw [show 4 - p.length = 0 by omega]; simp
theorem cut_text (u : Int) (h : vld u = true) : cutW (textI u) = (if u < 0 then [45] else []) ++ Lib.decDigits (u.natAbs / 10000) ∧ cutP (textI u) = trimZ (pad4 (u.natAbs % 10000)) := by
 have hb := body_cut (u.natAbs / 10000) (u.natAbs % 10000)
 rw [textI_val u h]
 have hs := cut_app (if u < 0 then [45] else []) (Lib.decDigits (u.natAbs / 10000) ++ fracL (u.natAbs % 10000)) (by split <;> simp)
 rw [hs.1, hs.2, hb.1, hb.2]; exact ⟨rfl, rfl⟩
theorem parseInt_text (u : Int) (h : vld u = true) : Lib.parseIntB 64 (cutW (textI u) ++ padP (cutP (textI u))) = .ok u := by
 have hf : u.natAbs % 10000 < 10000 := by omega
 have ha := abs_lt h
 obtain ⟨h1, h2⟩ := cut_text u h
 rw [h1, h2, padP_trim _ hf, List.append_assoc]
 have hv : valD (Lib.decDigits (u.natAbs / 10000) ++ pad4 (u.natAbs % 10000)) = u.natAbs := by
   rw [valD_app, dec_val, pad4_val _ hf, show (pad4 (u.natAbs % 10000)).length = 4 from rfl]; omega
 have hd : ∀ c ∈ Lib.decDigits (u.natAbs / 10000) ++ pad4 (u.natAbs % 10000), dgt c := by
   intro c hc
   rcases List.mem_append.1 hc with hc | hc
   · exact dec_dgt _ c hc
   · exact pad4_dgt _ c hc
 have hm := uintM_digits _ 0 hd (by rw [show valA 0 _ = valD _ from rfl, hv]; omega)
 rw [show valA 0 _ = valD _ from rfl, hv] at hm
 obtain ⟨c, m, e, hc⟩ := head_dec (u.natAbs / 10000) (pad4 (u.natAbs % 10000))
 rw [e] at hm ⊢
 have hU : Lib.parseUintB 64 (c :: m) = .ok u.natAbs := by
   unfold Lib.parseUintB; rw [if_neg (by simp)]; exact hm
 by_cases hu : u < 0
 · rw [if_pos hu]
   show Lib.parseIntB 64 (45 :: c :: m) = _
   unfold Lib.parseIntB
   simp only [show (45 : UInt8).toNat = 45 from rfl, or_true, if_true]
   rw [hU]
   simp only [not_true_eq_false, false_and, if_false, true_and]
   rw [if_neg (by omega)]; congr 1; omega
 · rw [if_neg hu, List.nil_append]
   have n1 : ¬ (c.toNat = 43 ∨ c.toNat = 45) := by have := hc.1; omega
   have n2 : ¬ c.toNat = 45 := by have := hc.1; omega
   unfold Lib.parseIntB
   have n3 : ¬ c.toNat = 43 := by have := hc.1; omega
   simp only [n3, n2, or_self, if_false]
   rw [hU]
   simp only [not_false_eq_true, true_and, false_and, if_false]
   rw [if_neg (by omega)]; congr 1; omega
theorem prog_long (l : List UInt8) (h : 4 < (cutP l).length) : parseI l = (0, 8) :=
 parseI_no l fun v hv e => by
   have hf : v.natAbs % 10000 < 10000 := by omega
   obtain ⟨k, -, -, hl, -, -⟩ := frac_parts _ hf
   rw [← e, (cut_text v hv).2] at h; omega
theorem prog_ok (l : List UInt8) (u : Int) (h : Lib.parseIntB 64 (cutW l ++ padP (cutP l)) = .ok u) : parseI l = if vld u = true ∧ textI u = l then (u, 0) else (0, 8) :=
 parseI_of l u fun v hv e => by
   rw [← e, parseInt_text v hv] at h
   injection h with h; exact h.symm
theorem prog_no (l : List UInt8) (h : ∀ u, Lib.parseIntB 64 (cutW l ++ padP (cutP l)) ≠ .ok u) : parseI l = (0, 8) :=
 parseI_no l fun v hv e => by rw [← e] at h; exact h v (parseInt_text v hv)
theorem cut_step (l : List UInt8) (i : Nat) (h : i < l.length) (hc : byt l i ≠ 46) : cutW (l.drop i) = byt l i :: cutW (l.drop (i + 1)) ∧ cutP (l.drop i) = cutP (l.drop (i + 1)) := by
 unfold cutW cutP
 rw [drop_byt l i h, List.takeWhile_cons, List.dropWhile_cons, if_pos (by simpa using hc), if_pos (by simpa using hc)]
 exact ⟨rfl, rfl⟩
theorem cut_at (l : List UInt8) (i : Nat) (h : i < l.length) (hc : byt l i = 46) : cutW (l.drop i) = [] ∧ cutP (l.drop i) = l.drop (i + 1) := by
 unfold cutW cutP
 rw [drop_byt l i h, List.takeWhile_cons, List.dropWhile_cons, hc]; exact ⟨rfl, rfl⟩
def rscan (fst : Bool) (n : Nat) (p : Option Nat) : List UInt8 → Option (Nat × Option Nat)
 | [] => some (n, p)
 | c :: r =>
   if c = 46 ∧ p = none then rscan false n (some 0) r
   else if dgt c then rscan false (n * 10 + (c.toNat - 48)) (p.map (· + 1)) r
   else if fst = true ∧ c = 45 then rscan false n p r else none
def rscale (n k : Nat) : Option Nat := if 4 ≤ k then some n else if 1000000000000000 < n then none else rscale (n * 10) (k + 1)
termination_by 4 - k
theorem rscan_digits (d r : List UInt8) : ∀ f n p, (∀ c ∈ d, dgt c) → (d ≠ [] ∨ f = false) → rscan f n p (d ++ r) = rscan false (valA n d) (p.map (· + d.length)) r := by
 induction d with
 | nil =>
   intro f n p _ h
   rcases h with h | h
   · exact absurd rfl h
   · rw [h]; cases p <;> rfl
 | cons c d ih =>
   intro f n p hd _
   have hc := hd c (List.mem_cons_self ..)
   have h46 : c ≠ 46 := by intro e; subst e; exact absurd hc.1 (by decide)
   rw [List.cons_append, rscan, if_neg (by simp [h46]), if_pos hc, ih false _ _ (fun x hx => hd x (List.mem_cons_of_mem _ hx)) (.inr rfl), valA_cons]
   congr 1
   cases p <;> simp <;> omega
theorem rscale_ok (k j n : Nat) (hk : k + j = 4) (h : n * 10 ^ j ≤ 1000000000000000) : rscale n k = some (n * 10 ^ j) := by
 induction j generalizing k n with
 | zero => rw [rscale, if_pos (by omega)]; simp
 | succ j ih =>
   rw [Nat.pow_succ, Nat.mul_comm (10 ^ j), ← Nat.mul_assoc] at h ⊢
   have h1 : n * 10 ≤ n * 10 * 10 ^ j := Nat.le_mul_of_pos_right _ (Nat.pow_pos (by decide))
   rw [rscale, if_neg (by omega), if_neg (by omega)]
   exact ih (k + 1) (n * 10) (by omega) h
theorem rscan_text (u : Int) (h : vld u = true) : ∃ n p, rscan true 0 none (textI u) = some (n, p) ∧ rscale n (p.getD 0) = some u.natAbs := by
 have hf : u.natAbs % 10000 < 10000 := by omega
 have ha := abs_lt h
 obtain ⟨k, hk4, hk, hl, hv, hd⟩ := frac_parts _ hf
 rw [textI_val u h]
 have hdl := (dec_len (u.natAbs / 10000) 20 (by omega) (by omega)).1
 have hne : Lib.decDigits (u.natAbs / 10000) ≠ [] := List.length_pos_iff.1 hdl
 have hbody : ∀ f, rscan f 0 none (Lib.decDigits (u.natAbs / 10000) ++ fracL (u.natAbs % 10000)) = rscan false (u.natAbs / 10000) none (fracL (u.natAbs % 10000)) := by
   intro f
   rw [rscan_digits _ _ f 0 none (dec_dgt _) (.inl hne), show valA 0 _ = valD _ from rfl, dec_val]; rfl
 have hs : rscan true 0 none ((if u < 0 then [45] else []) ++ (Lib.decDigits (u.natAbs / 10000) ++ fracL (u.natAbs % 10000))) = rscan false (u.natAbs / 10000) none (fracL (u.natAbs % 10000)) := by
   split
   · rw [show [45] ++ (Lib.decDigits (u.natAbs / 10000) ++ fracL (u.natAbs % 10000)) = 45 :: (Lib.decDigits (u.natAbs / 10000) ++ fracL (u.natAbs % 10000)) from rfl]
     rw [rscan, if_neg (by decide), if_neg (by decide), if_pos (by decide)]; exact hbody false
   · exact hbody true
 rw [hs]
 by_cases hz : trimZ (pad4 (u.natAbs % 10000)) = []
 · have h0 := (trim_nil _ hf).1 hz
   refine ⟨u.natAbs / 10000, none, by unfold fracL; rw [if_pos hz]; rfl, ?_⟩
   show rscale _ 0 = _
   rw [rscale_ok 0 4 _ (by omega) (by omega)]; congr 1; omega
 · refine ⟨u.natAbs / 10000 * 10 ^ (trimZ (pad4 (u.natAbs % 10000))).length + valD (trimZ (pad4 (u.natAbs % 10000))), some (0 + (trimZ (pad4 (u.natAbs % 10000))).length), ?_, ?_⟩
   · unfold fracL
     rw [if_neg hz, rscan, if_pos (by decide)]
     rw [← List.append_nil (trimZ (pad4 (u.natAbs % 10000))), rscan_digits _ _ false _ _ hd (.inr rfl), valA_eq, List.append_nil]; rfl
   · have hsum : (u.natAbs / 10000 * 10 ^ (trimZ (pad4 (u.natAbs % 10000))).length + valD (trimZ (pad4 (u.natAbs % 10000)))) * 10 ^ k = u.natAbs := by
       rw [Nat.add_mul, hv, Nat.mul_assoc, ← Nat.pow_add, hl]; omega
     show rscale _ (0 + _) = _
     rw [rscale_ok _ k _ (by omega) (by rw [hsum]; exact ha), hsum]
def signI (l : List UInt8) (m : Nat) : Int := if l.head? = some 45 then -(m : Int) else m
theorem signI_text (u : Int) (h : vld u = true) : signI (textI u) u.natAbs = u := by
 unfold signI
 rw [textI_val u h]
 by_cases hu : u < 0
 · rw [if_pos hu, if_pos (by rfl)]; omega
 · rw [if_neg hu, List.nil_append]
   obtain ⟨c, m, e, hc⟩ := head_dec (u.natAbs / 10000) (fracL (u.natAbs % 10000))
   rw [e, if_neg]
   · omega
   · intro hx
     have : c = 45 := by simpa using hx
     subst this; exact absurd hc.1 (by decide)
theorem ref_none (l : List UInt8) (h : rscan true 0 none l = none) : parseI l = (0, 8) :=
 parseI_no l fun v hv e => by
   obtain ⟨n, p, h1, -⟩ := rscan_text v hv
   rw [← e, h1] at h; cases h
theorem ref_over (l : List UInt8) (n : Nat) (p : Option Nat) (h : rscan true 0 none l = some (n, p)) (h2 : rscale n (p.getD 0) = none) : parseI l = (0, 8) :=
 parseI_no l fun v hv e => by
   obtain ⟨n', p', h1, h3⟩ := rscan_text v hv
   rw [← e, h1] at h
   injection h with h; injection h with ha hb
   rw [ha, hb, h2] at h3; cases h3
theorem ref_some (l : List UInt8) (n : Nat) (p : Option Nat) (m : Nat) (h : rscan true 0 none l = some (n, p)) (h2 : rscale n (p.getD 0) = some m) : parseI l = if vld (signI l m) = true ∧ textI (signI l m) = l then (signI l m, 0) else (0, 8) :=
 parseI_of l _ fun v hv e => by
   obtain ⟨n', p', h1, h3⟩ := rscan_text v hv
   rw [← e, h1] at h
   injection h with h; injection h with ha hb
   rw [ha, hb, h2] at h3
   injection h3 with h3
   rw [← e, h3]; exact signI_text v hv
end
section
open Go.RowKit
def PInt (l : List UInt8) (w : World) (e : Ending) (w' : World) : Prop :=
 Below w.heap.size w w' ∧ ((∃ v, Lib.parseIntB 64 l = .ok v ∧ e = .returned (.tuple #[.int .i64 v, .nilIface])) ∨ ((∀ v, Lib.parseIntB 64 l ≠ .ok v) ∧ ∃ v N, e = .returned (.tuple #[.int .i64 v, .iface 218 (.pointer (some ⟨N, 0, none⟩))])))
theorem ParseInt_any (l : List UInt8) (hl : l.length ≤ 1000000) (w : World) (hE : NumOk w) : Calls Tryz.prog 131 #[.string (S l), .int .i64 10, .int .i64 64] w (PInt l w) := by
 cases h : Lib.parseIntB 64 l
 · rename_i v
   refine (Tryz.strconv_ParseInt_10_at64_ok (S l) (by show l.length ≤ _; omega) v h w).mono ?_
   rintro e w' ⟨rfl, hw⟩
   refine ⟨?_, .inl ⟨v, h, rfl⟩⟩
   rcases hw with rfl | ⟨t, rfl⟩
   · exact Below.refl _ _
   · exact Go.Joins.below_bytesWorld _ _ _ _ (Nat.le_refl _)
 · obtain ⟨tp, p, hv⟩ := hE.es
   refine (Tryz.strconv_ParseInt_10_at64_syntax_var (S l) (by show l.length ≤ _; omega) h tp p w hv).mono ?_
   rintro e w' ⟨N, rfl, -, -, hb⟩
   exact ⟨hb, .inr ⟨(by intro v hv; rw [h] at hv; cases hv), _, N, rfl⟩⟩
 · obtain ⟨tp, p, hv⟩ := hE.er
   refine (Tryz.strconv_ParseInt_10_at64_range_var (S l) (by show l.length ≤ _; omega) h tp p w hv).mono ?_
   rintro e w' ⟨N, rfl, -, -, hb⟩
   exact ⟨hb, .inr ⟨(by intro v hv; rw [h] at hv; cases hv), _, N, rfl⟩⟩
theorem cutW_len (l : List UInt8) : (cutW l).length ≤ l.length := (List.takeWhile_sublist _).length_le
theorem cutP_len (l : List UInt8) : (cutP l).length ≤ l.length := by
 unfold cutP; rw [List.length_drop]; have := (List.dropWhile_sublist (fun c : UInt8 => c != 46) (l := l)).length_le; omega
theorem s_eq {a b : List UInt8} (h : a = b) : Value.string (S a) = .string (S b) := by rw [h]
set_option maxHeartbeats 1000000 in
theorem fxParse_any (l : List UInt8) (w : World) (hl : l.length ≤ 1000000) (hE : NumOk w) : Calls Tryz.prog 92 #[.string (S l)] w (OkB (parseI l) w) := by
 by_cases hlong : 20 < l.length
 · have HP := Lib.hid (parseI_long l (by omega))
   go_enter Tryz.func92, Tryz.ntmps92
   go_wp2_with fail
   go_ret2
   exact ⟨ret_pr HP.out, Below.refl _ _⟩
 · have HE := Lib.hid hE; clear hE
   have hl20 : l.length ≤ 20 := by omega
   clear hlong hl
   go_enter Tryz.func92, Tryz.ntmps92
   go_upto_block 0 with fail
   go_cut [4, 5] (fun a b wx => a = .string (S (cutW l)) ∧ b = .string (S (cutP l)) ∧ ∃ n, wx = w.drewN n)
   case first =>
     go_wp2_with fail
     go_loop [4, 5, 15] (fun a b v => ∃ i : Nat, i ≤ l.length ∧ a = .string (S l) ∧ b = .string ⟨#[]⟩ ∧ v = .int .i64 (i : Int) ∧ Hid (cutW l = l.take i ++ cutW (l.drop i) ∧ cutP l = cutP (l.drop i))) (fun _ _ v => l.length - (intOf v).toNat)
     case atStart => exact ⟨0, by omega, rfl, rfl, rfl, Lib.hid (by simp)⟩
     case round =>
       obtain ⟨i, hi, rfl, rfl, rfl, HR⟩ := hrel
       by_cases hlt : i < l.length
       · by_cases hz : byt l i = 46
         · have T : (((byt l i).toNat : Int) == 46) = true := by rw [hz]; rfl
           have HN := Lib.hid (cut_at l i hlt hz)
           clear hz
           go_wp2_with fail
           have b1 : IntKind.i64.wrap ((i : Int) + 1) = (i : Int) + 1 := IntWalk.i64_in _ (by omega)
           have b2 : (0 : Int) ≤ (i : Int) + 1 := by omega
           have b3 : ((i : Int) + 1).toNat = i + 1 := by omega
           have b4 : (i : Int) + 1 ≤ (l.length : Int) := by omega
           go_quiet (fail)
           clear b1 b2 b3 b4
           go_wp2_with fail
           go_meet
           exact ⟨s_eq (by rw [HR.out.1, HN.out.1, sl_to, List.append_nil]), s_eq (by rw [HR.out.2, HN.out.2, sl_from]), nq, rfl⟩
         · have T : (((byt l i).toNat : Int) == 46) = false := by rw [beq_eq_false_iff_ne]; intro e; exact hz (UInt8.toNat_inj.1 (by rw [show (46 : UInt8).toNat = 46 from rfl]; omega))
           have HN := Lib.hid (cut_step l i hlt hz)
           clear hz
           go_wp2_with fail
           go_round
           case rel => exact ⟨i + 1, by omega, rfl, rfl, by go_num, Lib.hid ⟨by rw [HR.out.1, HN.out.1, take_byt l i hlt, List.append_assoc]; rfl, HR.out.2.trans HN.out.2⟩⟩
           case measure => simp [intOf]; omega
       · have HL := Lib.hid (show i = l.length by omega)
         go_wp2_with fail
         go_meet
         exact ⟨s_eq (by rw [HR.out.1, HL.out]; simp [cutW]), s_eq (a := []) (by rw [HR.out.2, HL.out]; simp [cutP]), 0, rfl⟩
   case rest =>
     obtain ⟨rfl, rfl, n, rfl⟩ := hcut
     have hWl := cutW_len l
     have hPl := cutP_len l
     obtain ⟨W, hW⟩ : ∃ W, cutW l = W := ⟨_, rfl⟩
     obtain ⟨P, hP⟩ : ∃ P, cutP l = P := ⟨_, rfl⟩
     rw [hW] at hWl ⊢
     rw [hP] at hPl ⊢
     have HWP := Lib.hid (And.intro hW hP)
     clear hW hP
     by_cases hbig : 4 < P.length
     · have HX := Lib.hid (prog_long l (by rw [HWP.out.2]; exact hbig))
       go_wp2_with fail
       go_loop [5] (fun v => v = .string (S P)) (fun v => 4 - strLen v)
       case atStart => rfl
       case round =>
         subst hrel
         go_wp2_with fail
         go_ret2
         exact ⟨ret_pr HX.out, below_drewN (Below.refl _ _) _⟩
     · go_wp2_with fail
       go_loop [5] (fun v => ∃ p : List UInt8, v = .string (S p) ∧ p.length ≤ 4 ∧ Hid (padP P = padP p)) (fun v => 4 - strLen v)
       case atStart => exact ⟨P, rfl, by omega, Lib.hid rfl⟩
       case round =>
         obtain ⟨p, rfl, hp4, HP⟩ := hrel
         by_cases hlt : p.length < 4
         · have HN := Lib.hid (padP_more p hlt)
           go_wp2_with fail
           go_round
           case rel => exact ⟨_, rfl, by rw [ct_len]; simp; omega, Lib.hid (HP.out.trans HN.out)⟩
           case measure => simp [strLen, S_size, ct_len]; omega
         · have HN := Lib.hid (HP.out.trans (padP_all p hlt))
           have HC := Lib.hid (show ct W p = cutW l ++ padP (cutP l) by rw [HWP.out.1, HWP.out.2, HN.out]; rfl)
           have hctl : (ct W p).length ≤ 100 := by rw [ct_len]; omega
           go_wp2_with fail
           refine (ParseInt_any (ct W p) (by omega) _ (HE.out.below (below_drewN (Below.refl _ _) n))).mono ?_
           rintro e w1 ⟨hb, ⟨u, hu, rfl⟩ | ⟨hno, u, N, rfl⟩⟩
           · have HU := Lib.hid (prog_ok l u (by rw [← HC.out]; exact hu))
             have hB := below_drewN (Below.refl w.heap.size w) n |>.trans hb
             have HB := Lib.hid hB
             clear hu hb hB
             cases hv : vld u
             · go_wp2_with (go_at_call 132; refine (fxValid_any _ _).mono ?_; rintro e w' ⟨rfl, rfl⟩; rw [hv])
               go_ret2
               exact ⟨ret_pr (by rw [HU.out, hv]; simp), HB.out⟩
             · by_cases hte : textI u = l
               · have HT := Lib.hid hte
                 clear hte
                 go_wp2_with (go_at_call 132; refine (fxValid_any _ _).mono ?_; rintro e w' ⟨rfl, rfl⟩; rw [hv])
                 refine (fxText_any u _ (HE.out.below HB.out)).mono ?_
                 rintro e w2 ⟨rfl, hb2⟩
                 rw [HT.out]
                 go_wp2_with fail
                 go_ret2
                 exact ⟨ret_pr (by rw [HU.out, if_pos ⟨hv, HT.out⟩]), HB.out.trans (hb2.mono HB.out.size)⟩
               · have HT := Lib.hid hte
                 have T : (textI u == l) = false := by rw [beq_eq_false_iff_ne]; exact hte
                 clear hte
                 go_wp2_with (go_at_call 132; refine (fxValid_any _ _).mono ?_; rintro e w' ⟨rfl, rfl⟩; rw [hv])
                 refine (fxText_any u _ (HE.out.below HB.out)).mono ?_
                 rintro e w2 ⟨rfl, hb2⟩
                 go_wp2_with fail
                 go_ret2
                 exact ⟨ret_pr (by rw [HU.out, if_neg (fun h => HT.out h.2)]), HB.out.trans (hb2.mono HB.out.size)⟩
           · have HU := Lib.hid (prog_no l (by rw [← HC.out]; exact hno))
             have hB := below_drewN (Below.refl w.heap.size w) n |>.trans hb
             have HB := Lib.hid hB
             clear hno hb hB
             go_wp2_with fail
             go_ret2
             exact ⟨ret_pr HU.out, HB.out⟩
end
end Go.Proofs.YtoahmganodehkaaGreatDoor
