import Derived.Test.YtdalfkklkeblaaaGreatDoorN31
import Derived.Test.YtdalfkklkeblaaaGreatDoorN15
import Derived.Deep.RegionHeld3
namespace Go.Proofs.YtdalfkklkeblaaaGreatDoor
set_option linter.unusedSimpArgs false
set_option linter.unusedVariables false
section
open Go.RowKit
theorem infoStrY : (Tryz.prog.info? 9).map (fun i => (i.zero, i.size, i.bytes)) = some (some (.string ⟨#[]⟩), 1, 16) := by kernel_rfl
theorem infoLnF : (Tryz.prog.info? 93).map (fun i => (i.zero, i.size, i.bytes)) = some (some (.agg #[.int .i64 0, .int .i64 0, .string ⟨#[]⟩]), 3, 32) := by kernel_rfl
theorem take_sl (s : List UInt8) {a b : Nat} (h : a ≤ b) : s.take b = s.take a ++ sl s a b := by
 unfold sl
 rw [← List.take_add, Nat.add_sub_cancel' h]
theorem sl_next (s : List UInt8) {a b : Nat} (h : a ≤ b) (hb : b < s.length) : sl s a (b + 1) = sl s a b ++ [byt s b] := by
 have e : byt s b = s[b] := by simp [byt, List.getD, hb]
 unfold sl
 rw [show b + 1 - a = (b - a) + 1 by omega, e]
 have hd : b - a < (s.drop a).length := by rw [List.length_drop]; omega
 rw [List.take_succ_eq_append_getElem hd, List.getElem_drop]
 congr 2
 simp [Nat.add_sub_cancel' h]
structure PcI (s : List UInt8) (P : List (List UInt8)) (f i : Nat) : Prop where
 no : ∀ p ∈ P, noLF p
 tk : s.take f = P.flatMap fun p => p ++ [10]
 cur : noLF (sl s f i)
 few : P.length ≤ f
theorem PcI.start (s : List UInt8) : PcI s [] 0 0 := ⟨by simp, rfl, by unfold sl noLF; simp, Nat.le_refl _⟩
theorem PcI.lf {s : List UInt8} {P : List (List UInt8)} {f i : Nat} (h : PcI s P f i) (hf : f ≤ i) (hi : i < s.length) (hb : byt s i = 10) : PcI s (P ++ [sl s f i]) (i + 1) (i + 1) := by
 refine ⟨fun p hp => ?_, ?_, by unfold sl noLF; simp, by have := h.few; simp; omega⟩
 · rcases List.mem_append.1 hp with hp | hp
   · exact h.no p hp
   · rw [List.mem_singleton.1 hp]; exact h.cur
 · rw [take_sl s (show f ≤ i + 1 by omega), h.tk, sl_next s hf hi, hb, List.flatMap_append]
   simp
theorem PcI.skip {s : List UInt8} {P : List (List UInt8)} {f i : Nat} (h : PcI s P f i) (hf : f ≤ i) (hi : i < s.length) (hb : byt s i ≠ 10) : PcI s P f (i + 1) := by
 refine ⟨h.no, h.tk, ?_, h.few⟩
 rw [sl_next s hf hi]
 intro c hc
 rcases List.mem_append.1 hc with hc | hc
 · exact h.cur c hc
 · rw [List.mem_singleton.1 hc]; exact hb
theorem PcI.whole {s : List UInt8} {P : List (List UInt8)} {f : Nat} (h : PcI s P f s.length) : s = (P.flatMap fun p => p ++ [10]) ++ sl s f s.length := by
 conv => lhs; rw [← List.take_append_drop f s]
 rw [h.tk, sl_rest]
theorem PcI.done {s : List UInt8} {P : List (List UInt8)} {f : Nat} (h : PcI s P f s.length) (hf : ¬ f < s.length) : pieces s = P := by
 have e := h.whole
 rw [sl_rest, List.drop_eq_nil_of_le (by omega), List.append_nil] at e
 rw [e]
 exact pieces_join P h.no
theorem PcI.open {s : List UInt8} {P : List (List UInt8)} {f : Nat} (h : PcI s P f s.length) (hf : f < s.length) : pieces s = P ++ [sl s f s.length] := by
 have h0 : sl s f s.length ≠ [] := by
   intro e
   have := congrArg List.length e
   rw [sl_rest, List.length_drop] at this
   simp at this; omega
 have e := pieces_open P (sl s f s.length) h.no h.cur h0
 rw [← h.whole] at e
 exact e
theorem scells_snoc (P : List (List UInt8)) (x : List UInt8) : scells (P ++ [x]) = scells P ++ [.string (S x)] := by simp [scells]
def PcsP (w : World) (s : List UInt8) (e : Ending) (w' : World) : Prop :=
 ∃ p c, e = .returned (.slice p (pieces s).length c) ∧ w'.ownsRow w.heap.size 9 1 (.slice p (pieces s).length c) (pieces s).length (scells (pieces s)) ∧ Below w.heap.size w w'
set_option maxRecDepth 100000 in
set_option maxHeartbeats 4000000 in
theorem rpieces_any (l : List UInt8) (hl : l.length ≤ 1000000) (w : World) : Calls Tryz.prog 22 #[.string (S l)] w (PcsP w l) := by
 obtain ⟨i0, hi, hz0, hz1, hz2⟩ := info_parts infoStrY
 go_enter Tryz.func22, Tryz.ntmps22
 go_wp2_with fail
 go_loopw [3, 4, 5] (fun v f x wr => ∃ (i a : Nat) (P : List (List UInt8)) (p : Option Addr) (c : Nat), v = .slice p P.length c ∧ f = .int .i64 (a : Int) ∧ x = .int .i64 (i : Int) ∧ a ≤ i ∧ i ≤ l.length ∧ Hid (PcI l P a i) ∧ Hid (wr.ownsRow w.heap.size 9 1 (.slice p P.length c) P.length (scells P)) ∧ Hid (Below w.heap.size w wr)) (fun _ _ x _ => l.length - (intOf x).toNat)
 case atStart => exact ⟨0, 0, [], none, 0, rfl, rfl, rfl, Nat.le_refl _, Nat.zero_le _, Lib.hid (PcI.start l), Lib.hid (World.ownsRow_nil _ _ _ _), Lib.hid (Below.refl _ _)⟩
 case round =>
   obtain ⟨i, a, P, p, c, rfl, rfl, rfl, ha, hi', HP, HO, HB⟩ := hrel
   have hfew := HP.out.few
   by_cases hlt : i < l.length
   · by_cases h10 : byt l i = 10
     · have T1 : (((byt l i).toNat : Int) == 10) = true := by rw [h10]; rfl
       have HP1 := Lib.hid (HP.out.lf ha hlt h10)
       have own1 := HO.out
       have hsz := HB.out.size
       have hai : (a : Int) ≤ (i : Int) := by omega
       clear h10 HP
       go_wp2_with (at_builtin; refine wpList_append_own _ rfl _ _ 39 rfl w.heap.size 9 i0 (.string ⟨#[]⟩) 1 16 Tryz.underlying39 hi hz0 hz1 hz2 rfl (by decide) _ _ _ rfl (own1.alloc _) ⟨wr.heap.size, 0, none⟩ 1 1 [.string (S (sl l a i))] rfl rfl (cells_new5 wr _ _) (by simp [Value.oneCell']) (by unfold maxLen; omega) (by omega) (by simp; omega) ?_; intro v' w2 hown2 hgrow _)
       obtain ⟨up, uc, rfl⟩ := own_form5 hown2
       have HB2 := Lib.hid (below_own (below_alA HB.out (Nat.le_refl _) _) (own1.alloc _) hgrow (by omega) (by simp; omega))
       have HO2 := Lib.hid hown2
       clear hgrow own1 hown2
       go_wp2_with fail
       go_roundw
       case rel => exact ⟨i + 1, i + 1, P ++ [sl l a i], up, uc, by simp, by go_num, by go_num, Nat.le_refl _, hlt, HP1, Lib.hid (by rw [scells_snoc, List.length_append]; exact HO2.out), HB2⟩
       case measure => simp [intOf]; omega
     · have T1 : (((byt l i).toNat : Int) == 10) = false := u8_ne h10
       have HP1 := Lib.hid (HP.out.skip ha hlt h10)
       clear h10 HP
       go_wp2_with fail
       go_roundw
       case rel => exact ⟨i + 1, a, P, p, c, rfl, rfl, by go_num, by omega, hlt, HP1, HO, HB⟩
       case measure => simp [intOf]; omega
   · obtain rfl : i = l.length := by omega
     by_cases hf : a < l.length
     · have HR := Lib.hid (HP.out.open hf)
       have own1 := HO.out
       have hsz := HB.out.size
       have hfi : (a : Int) < (l.length : Int) := by omega
       have hai : (a : Int) ≤ (l.length : Int) := by omega
       clear HP
       go_wp2_with (at_builtin; refine wpList_append_own _ rfl _ _ 39 rfl w.heap.size 9 i0 (.string ⟨#[]⟩) 1 16 Tryz.underlying39 hi hz0 hz1 hz2 rfl (by decide) _ _ _ rfl (own1.alloc _) ⟨wr.heap.size, 0, none⟩ 1 1 [.string (S (sl l a l.length))] rfl rfl (cells_new5 wr _ _) (by simp [Value.oneCell']) (by unfold maxLen; omega) (by omega) (by simp; omega) ?_; intro v' w2 hown2 hgrow _)
       obtain ⟨up, uc, rfl⟩ := own_form5 hown2
       have HB2 := Lib.hid (below_own (below_alA HB.out (Nat.le_refl _) _) (own1.alloc _) hgrow (by omega) (by simp; omega))
       have HO2 := Lib.hid hown2
       clear hgrow own1 hown2
       go_wp2_with fail
       go_ret
       refine ⟨up, uc, ?_, ?_, HB2.out⟩
       · rw [HR.out, List.length_append]; rfl
       · rw [HR.out, scells_snoc, List.length_append]; exact HO2.out
     · have HR := Lib.hid (HP.out.done hf)
       have hfi : ¬ ((a : Int) < (l.length : Int)) := by omega
       clear HP
       go_wp2_with fail
       go_ret
       exact ⟨p, c, by rw [HR.out]; rfl, by rw [HR.out]; exact HO.out, HB.out⟩
def lead (x : List UInt8) : Nat := (x.takeWhile fun c => c == 32).length
theorem lead_le (x : List UInt8) : lead x ≤ x.length := (List.takeWhile_sublist _).length_le
theorem lead_lt : ∀ (x : List UInt8) (n : Nat), n < lead x → byt x n = 32
 | [], n, h => absurd h (Nat.not_lt_zero _)
 | c :: r, n, h => by
   unfold lead at h
   rw [List.takeWhile_cons] at h
   split at h
   · rename_i hc
     cases n with
     | zero => exact beq_iff_eq.1 hc
     | succ n =>
       rw [List.length_cons] at h
       exact lead_lt r n (Nat.lt_of_succ_lt_succ h)
   · exact absurd h (Nat.not_lt_zero _)
theorem lead_at : ∀ (x : List UInt8), lead x < x.length → byt x (lead x) ≠ 32
 | [], h => absurd h (Nat.not_lt_zero _)
 | c :: r, h => by
   by_cases hc : (c == 32) = true
   · have e : lead (c :: r) = lead r + 1 := by unfold lead; rw [List.takeWhile_cons, if_pos hc]; rfl
     rw [e] at h ⊢
     exact lead_at r (Nat.lt_of_succ_lt_succ h)
   · have e : lead (c :: r) = 0 := by unfold lead; rw [List.takeWhile_cons, if_neg hc]; rfl
     rw [e]
     intro h2
     exact hc (beq_iff_eq.2 h2)
theorem dropS_lead (x : List UInt8) : dropS x = sl x (lead x) x.length := by rw [sl_rest]; rfl
theorem line_none {x : List UInt8} (i : Nat) (h : ¬ lead x < x.length ∨ byt x (lead x) = 35) : lineOf x i = none := by
 rw [lineOf_drop, if_pos]
 rcases h with h | h
 · left
   show x.drop (lead x) = []
   exact List.drop_eq_nil_of_le (by omega)
 · rcases Nat.lt_or_ge (lead x) x.length with h1 | h1
   · right
     show byt (x.drop (lead x)) 0 = 35
     rw [← h]
     simp [byt, List.getD]
   · left
     show x.drop (lead x) = []
     exact List.drop_eq_nil_of_le h1
theorem line_some {x : List UInt8} (i : Nat) (h : lead x < x.length) (h2 : byt x (lead x) ≠ 35) : lineOf x i = some ⟨lead x, sl x (lead x) x.length, i⟩ := by
 rw [lineOf_drop, if_neg, ← dropS_lead]
 · rfl
 · rintro (h3 | h3)
   · have := congrArg List.length h3
     rw [dropS_lead, sl_rest, List.length_drop] at this
     simp at this; omega
   · refine h2 ?_
     rw [← h3]
     show byt x (lead x) = byt (x.drop (lead x)) 0
     simp [byt, List.getD]
def LnfP (w : World) (s : List UInt8) (e : Ending) (w' : World) : Prop := ∃ v, e = .returned v ∧ LnF w' v (linesY s) ∧ Below w.heap.size w w'
set_option maxRecDepth 100000 in
set_option maxHeartbeats 8000000 in
theorem rlines_any (l : List UInt8) (hl : l.length ≤ 65536) (w : World) : Calls Tryz.prog 42 #[.string (S l)] w (LnfP w l) := by
 obtain ⟨i0, hi, hz0, hz1, hz2⟩ := info_parts infoLnF
 have HPC := Lib.hid (rpieces_any l (by omega) w)
 have hpn := pieces_count l
 have HPL := Lib.hid (pieces_mem l)
 have HLY := Lib.hid (show linesY l = linesN (pieces l) 0 from rfl)
 unfold PcsP at HPC
 have HLP := Lib.hid (fun (e : Ending) (w' : World) (h : ∃ v, e = .returned v ∧ LnF w' v (linesY l) ∧ Below w.heap.size w w') => (show LnfP w l e w' from h))
 generalize linesY l = R at HLY HLP
 generalize pieces l = ps at HPC hpn HPL HLY
 go_enter Tryz.func42, Tryz.ntmps42
 go_wp2_with fail
 refine HPC.out.mono ?_
 rintro e W ⟨pp, pc, rfl, hown, hb⟩
 have hcs : ∀ k (h : k < ps.length), ∃ B, pp = some ⟨B, 0, none⟩ ∧ ps.length ≤ pc ∧ B < W.heap.size ∧ W.cell? ⟨B, k, none⟩ = some (.string (S ps[k])) := by
   intro k h
   rcases own_head hown with ⟨-, h0⟩ | ⟨g, cap, e0, -, hc, hg, -⟩
   · omega
   · injection e0 with e0 _ e2
     subst e0; subst e2
     refine ⟨g, rfl, hc, hg, ?_⟩
     have := hown.cells (g := g) rfl k (.string (S ps[k])) (by simp [scells, h])
     rw [Lib.add_plain, Nat.zero_add] at this
     exact this
 have HCS := Lib.hid hcs
 have HB0 := Lib.hid hb
 clear hcs hown hb HPC
 go_wp2_with fail
 go_loopw [3, 10] (fun v x wr => ∃ k : Nat, x = .int .i64 (k : Int) ∧ k ≤ ps.length ∧ Hid (wr.ownsRow W.heap.size 93 3 v (linesN (ps.take k) 0).length (flatF (linesN (ps.take k) 0))) ∧ Hid (Below W.heap.size W wr)) (fun _ x _ => ps.length - (intOf x).toNat)
 case atStart => exact ⟨0, rfl, Nat.zero_le _, Lib.hid ⟨rfl, .inl ⟨rfl, rfl⟩⟩, Lib.hid (Below.refl _ _)⟩
 case round =>
   obtain ⟨k, rfl, hk, HO, HBW⟩ := hrel
   by_cases hlt : k < ps.length
   · obtain ⟨B, rfl, hcap, hBl, c0⟩ := HCS.out k hlt
     replace c0 := (HBW.out.cell (p := ⟨B, k, none⟩) hBl).trans c0
     have hll := HPL.out _ (List.getElem_mem hlt)
     have HT := Lib.hid (linesN_take hlt)
     generalize ps[k] = x at c0 hll HT
     have hle := lead_le x
     have HLT := Lib.hid (lead_lt x)
     have HAT := Lib.hid (lead_at x)
     have HN1 := Lib.hid (fun h => line_none (x := x) (k + 1) h)
     have HS1 := Lib.hid (fun h h2 => line_some (x := x) (k + 1) h h2)
     generalize lead x = t at hle HLT HAT HN1 HS1
     have hkc : k < pc := by omega
     have hBr : B < wr.heap.size := Nat.lt_of_lt_of_le hBl HBW.out.size
     go_upto_region 6 with fail
     clear c0
     go_loopw [6] (fun y wz => ∃ n : Nat, y = .int .i64 (n : Int) ∧ n ≤ t ∧ wz = wr) (fun y _ => t - (intOf y).toNat)
     case atStart => exact ⟨0, rfl, Nat.zero_le _, rfl⟩
     case round =>
       obtain ⟨n, rfl, hn, hwz⟩ := hrel
       subst hwz
       by_cases hnt : n < t
       · have hb := HLT.out n hnt
         have T1 : (((byt x n).toNat : Int) == 32) = true := by rw [hb]; rfl
         have hnl : n < x.length := by omega
         clear hb
         go_wp2_with fail
         go_roundw
         case rel => exact ⟨n + 1, by go_num, hnt, by first | rfl | trivial⟩
         case measure => simp [intOf]; omega
       · obtain rfl : n = t := by omega
         by_cases hnl : n < x.length
         · have hb := HAT.out hnl
           have T1 : (((byt x n).toNat : Int) == 32) = false := u8_ne hb
           have hnl' : (n : Int) ≤ (x.length : Int) := by omega
           by_cases h35 : byt x n = 35
           · have T2 : (((byt x n).toNat : Int) == 35) = true := by rw [h35]; rfl
             have T3 : (((byt x n).toNat : Int) != 35) = false := by rw [h35]; rfl
             have HR := Lib.hid (show linesN (ps.take (k + 1)) 0 = linesN (ps.take k) 0 by rw [HT.out, HN1.out (.inr h35)]; simp)
             clear hb h35 HT HN1 HS1 HAT HLT
             go_wp2_with fail
             go_roundw
             case rel => exact ⟨k + 1, by go_num, hlt, by rw [HR.out]; exact HO, HBW⟩
             case measure => simp [intOf]; omega
           · have T2 : (((byt x n).toNat : Int) == 35) = false := u8_ne h35
             have T3 : (((byt x n).toNat : Int) != 35) = true := by
               show (!(((byt x n).toNat : Int) == 35)) = true
               rw [T2]; rfl
             have HR := Lib.hid (show linesN (ps.take (k + 1)) 0 = linesN (ps.take k) 0 ++ [⟨n, sl x n x.length, k + 1⟩] by rw [HT.out, HS1.out hnl h35]; rfl)
             have hlk := linesN_len (ps.take k) 0
             rw [List.length_take] at hlk
             clear hb h35 HT HN1 HS1 HAT HLT
             generalize linesN (ps.take k) 0 = M at HO HR hlk
             have own1 := HO.out
             have hsz1 := HB0.out.size
             have hsz2 := HBW.out.size
             go_wp2_with (at_builtin; refine wpList_append_own _ rfl _ _ 68 rfl W.heap.size 93 i0 (.agg #[.int .i64 0, .int .i64 0, .string ⟨#[]⟩]) 3 32 Tryz.underlying68 hi hz0 hz1 hz2 rfl (by decide) _ _ _ rfl (own1.alloc _) ⟨wr.heap.size, 0, none⟩ 1 1 [.int .i64 ((k : Int) + 1), .int .i64 (n : Int), .string (S (sl x n x.length))] rfl rfl (cells_new5 wr _ _) (by simp [Value.oneCell']) (by unfold maxLen; omega) (by omega) (by simp; omega) ?_; intro v' w2 hown2 hgrow _)
             have HBW2 := Lib.hid (below_own (below_alA HBW.out (Nat.le_refl _) _) (own1.alloc _) hgrow (Nat.le_refl _) (by simp; omega))
             have HO2 := Lib.hid hown2
             clear hgrow hown2 own1
             go_wp2_with fail
             go_roundw
             case rel => exact ⟨k + 1, by go_num, hlt, Lib.hid (by rw [HR.out, flatF_snoc, List.length_append]; exact HO2.out), HBW2⟩
             case measure => simp [intOf]; omega
         · have hnl2 : ¬ ((n : Int) < (x.length : Int)) := by omega
           have HR := Lib.hid (show linesN (ps.take (k + 1)) 0 = linesN (ps.take k) 0 by rw [HT.out, HN1.out (.inl hnl)]; simp)
           clear HT HN1 HS1 HAT HLT
           go_wp2_with fail
           go_roundw
           case rel => exact ⟨k + 1, by go_num, hlt, by rw [HR.out]; exact HO, HBW⟩
           case measure => simp [intOf]; omega
   · obtain rfl : k = ps.length := by omega
     rw [List.take_length, ← HLY.out] at HO
     have HF := Lib.hid (own_LnF HO.out)
     have HB := Lib.hid (HB0.out.trans (HBW.out.mono HB0.out.size))
     go_wp2_with fail
     go_ret
     exact HLP.out _ _ ⟨_, rfl, HF.out, HB.out⟩
end
section
open Go.RowKit
theorem one_lim {d : Dat} {p : List UInt8 × Dat} (hlim : limD d = true) (hp : p ∈ d.mem) : limD (oneM p) = true := by
 obtain ⟨-, -, -, -, h⟩ := lim_iff.1 hlim
 refine lim_iff.2 ⟨Nat.zero_le _, Nat.zero_le _, by show (1 : Nat) ≤ _; omega, (fun x hx => by cases hx), fun x hx => ?_⟩
 rw [List.mem_singleton.1 hx]
 exact h p hp
theorem one_len {d : Dat} (h : chk d 1 = 0) (hs : smallD d = true) (hk : d.k = 6) {p : List UInt8 × Dat} (hp : p ∈ d.mem) : chk p.2 2 = 0 ∧ textY (oneM p) = (joinLn (memY p 0), 0) ∧ docLn (oneM p) = memY p 0 ∧ (joinLn (memY p 0)).length ≤ 30000 := by
 have hm : d.mem ≠ [] := fun e => by rw [e] at hp; simp at hp
 obtain ⟨-, -, hc⟩ := dat_six h hk
 have ht := one_text (hc p hp)
 have e : docLn (oneM p) = memY p 0 := by
   show (match shortY (oneM p) with | some t => [(0, t)] | none => lnD (oneM p) 0) = _
   have : shortY (oneM p) = none := rfl
   rw [this]
   show lnD (oneM p) 0 = _
   rw [lnD_eq]
   show lnI [] 0 ++ lnM [p] 0 = _
   rw [lnI, lnM_cons, lnM, List.nil_append, List.append_nil]
 refine ⟨hc p hp, ht, e, ?_⟩
 have hl := doc_len h hs
 rw [doc_six h hk hm, lnM_flatG] at hl
 obtain ⟨l1, l2, e2⟩ := List.append_of_mem hp
 rw [e2, List.flatMap_append, List.flatMap_cons, join_app, join_app, List.length_append, List.length_append] at hl
 omega
set_option maxRecDepth 100000 in
set_option maxHeartbeats 8000000 in
theorem lawYamltextTwice_of (d : Dat) (n0 : Nat) (hn0 : n0 < 256) (vi vm : Value) (ok : Nat → Prop) (w : World) (hr : Rep w ok d vi vm) (hE : StOk w) (hP : ∀ l : List UInt8, l.length ≤ 1000000 → ParseAt w l) :
   Calls Tryz.prog 8 #[.agg #[.int .i64 d.k, .int .i64 d.n, .string (S d.s), vi, vm], .int .u8 (n0 : Int)] w fun e w' => e = .returned (.bool true) ∧ Below w.heap.size w w' := by
 have HE := Lib.hid hE
 have HAL := Lib.hid (fun X (hb : Below w.heap.size w X) => alive_of X (hE.below hb) (fun l hl w' hb' => hP l hl w' (hb.trans (hb'.mono hb.size))))
 have HP := Lib.hid hP
 have HREP := Lib.hid hr
 obtain ⟨p, cap, rfl, -, -⟩ := id hr.items
 obtain ⟨q, caq, rfl, -, -⟩ := id hr.members
 clear hE hP hr
 obtain ⟨sm, hsm⟩ : ∃ sm, smallD d = sm := ⟨_, rfl⟩
 have HSM := Lib.hid hsm
 have HSW := Lib.hid (fun w' (hb : Below w.heap.size w w') => small_any (HREP.out.under hb))
 have HCW := Lib.hid (fun w' (hb : Below w.heap.size w w') => refChk_any (HREP.out.under hb))
 rw [hsm] at HSW
 clear hsm
 have hS : CkS w.heap.size w d (.slice p d.its.length cap) (.slice q d.mem.length caq) (w.alloc (.cells #[.int .i64 d.k, .int .i64 d.n, .string (S d.s), .slice p d.its.length cap, .slice q d.mem.length caq] 25)) := CkS.new w d _ _
 rcases Bool.eq_false_or_eq_true sm with rfl | rfl
 case inr =>
   go_enter Tryz.func8, Tryz.ntmps8
   go_upto_region 1 with fail
   generalize w.alloc (.cells #[.int .i64 d.k, .int .i64 d.n, .string (S d.s), .slice p d.its.length cap, .slice q d.mem.length caq] 25) = W at hS ⊢
   have HS0 := Lib.hid hS
   clear hS
   obtain ⟨c0, c1, c2, c3, c4, hlw⟩ := HS0.out.cells
   go_wp2_with fail
   refine (HSW.out _ HS0.out.2).mono ?_
   rintro e w1 ⟨rfl, hb⟩
   have HS1 := Lib.hid (HS0.out.below hb)
   clear hb c0 c1 c2 c3 c4 hlw HS0
   obtain ⟨c0, c1, c2, c3, c4, hlw⟩ := HS1.out.cells
   go_wp2_with fail
   refine (HAL.out _ HS1.out.2).mono ?_
   rintro e w2 ⟨rfl, hb⟩
   have HB9 := Lib.hid (HS1.out.2.trans (hb.mono HS1.out.2.size))
   clear hb c0 c1 c2 c3 c4 hlw HS1
   go_wp2_with fail
   go_ret
   exact ⟨rfl, HB9.out⟩
 by_cases hc : chk d 1 = 0
 case neg =>
   generalize hck : chk d 1 = ck at HCW hc
   have t0 : ((ck : Int) != 0) = true := by simp; omega
   have t1 : ((ck : Int) == 0) = false := by simp; omega
   clear hck hc
   go_enter Tryz.func8, Tryz.ntmps8
   go_upto_region 1 with fail
   generalize w.alloc (.cells #[.int .i64 d.k, .int .i64 d.n, .string (S d.s), .slice p d.its.length cap, .slice q d.mem.length caq] 25) = W at hS ⊢
   have HS0 := Lib.hid hS
   clear hS
   obtain ⟨c0, c1, c2, c3, c4, hlw⟩ := HS0.out.cells
   go_wp2_with fail
   refine (HSW.out _ HS0.out.2).mono ?_
   rintro e w1 ⟨rfl, hb⟩
   have HS1 := Lib.hid (HS0.out.below hb)
   clear hb c0 c1 c2 c3 c4 hlw HS0
   obtain ⟨c0, c1, c2, c3, c4, hlw⟩ := HS1.out.cells
   go_wp2_with fail
   refine (HCW.out _ HS1.out.2).mono ?_
   rintro e w2 ⟨rfl, hb⟩
   have HS2 := Lib.hid (HS1.out.below hb)
   clear hb c0 c1 c2 c3 c4 hlw HS1
   obtain ⟨c0, c1, c2, c3, c4, hlw⟩ := HS2.out.cells
   go_wp2_with fail
   refine (HAL.out _ HS2.out.2).mono ?_
   rintro e w3 ⟨rfl, hb⟩
   have HB9 := Lib.hid (HS2.out.2.trans (hb.mono HS2.out.2.size))
   clear hb c0 c1 c2 c3 c4 hlw HS2
   go_wp2_with fail
   go_ret
   exact ⟨rfl, HB9.out⟩
 rw [hc] at HCW
 by_cases hk : d.k = 6
 case neg =>
   have t0 : (d.k != 6) = true := by simpa using hk
   have t1 : (d.k == 6) = false := by simpa using hk
   clear hk hc
   go_enter Tryz.func8, Tryz.ntmps8
   go_upto_region 1 with fail
   generalize w.alloc (.cells #[.int .i64 d.k, .int .i64 d.n, .string (S d.s), .slice p d.its.length cap, .slice q d.mem.length caq] 25) = W at hS ⊢
   have HS0 := Lib.hid hS
   clear hS
   obtain ⟨c0, c1, c2, c3, c4, hlw⟩ := HS0.out.cells
   go_wp2_with fail
   refine (HSW.out _ HS0.out.2).mono ?_
   rintro e w1 ⟨rfl, hb⟩
   have HS1 := Lib.hid (HS0.out.below hb)
   clear hb c0 c1 c2 c3 c4 hlw HS0
   obtain ⟨c0, c1, c2, c3, c4, hlw⟩ := HS1.out.cells
   go_wp2_with fail
   refine (HCW.out _ HS1.out.2).mono ?_
   rintro e w2 ⟨rfl, hb⟩
   have HS2 := Lib.hid (HS1.out.below hb)
   clear hb c0 c1 c2 c3 c4 hlw HS1
   obtain ⟨c0, c1, c2, c3, c4, hlw⟩ := HS2.out.cells
   go_wp2_with fail
   refine (HAL.out _ HS2.out.2).mono ?_
   rintro e w3 ⟨rfl, hb⟩
   have HB9 := Lib.hid (HS2.out.2.trans (hb.mono HS2.out.2.size))
   clear hb c0 c1 c2 c3 c4 hlw HS2
   go_wp2_with fail
   go_ret
   exact ⟨rfl, HB9.out⟩
 have k0 : (d.k != 6) = false := by simpa using hk
 by_cases hm : d.mem = []
 case pos =>
   have t0 : ((d.mem.length : Int) == 0) = true := by rw [hm]; rfl
   clear hk hc hm
   go_enter Tryz.func8, Tryz.ntmps8
   go_upto_region 1 with fail
   generalize w.alloc (.cells #[.int .i64 d.k, .int .i64 d.n, .string (S d.s), .slice p d.its.length cap, .slice q d.mem.length caq] 25) = W at hS ⊢
   have HS0 := Lib.hid hS
   clear hS
   obtain ⟨c0, c1, c2, c3, c4, hlw⟩ := HS0.out.cells
   go_wp2_with fail
   refine (HSW.out _ HS0.out.2).mono ?_
   rintro e w1 ⟨rfl, hb⟩
   have HS1 := Lib.hid (HS0.out.below hb)
   clear hb c0 c1 c2 c3 c4 hlw HS0
   obtain ⟨c0, c1, c2, c3, c4, hlw⟩ := HS1.out.cells
   go_wp2_with fail
   refine (HCW.out _ HS1.out.2).mono ?_
   rintro e w2 ⟨rfl, hb⟩
   have HS2 := Lib.hid (HS1.out.below hb)
   clear hb c0 c1 c2 c3 c4 hlw HS1
   obtain ⟨c0, c1, c2, c3, c4, hlw⟩ := HS2.out.cells
   go_wp2_with fail
   refine (HAL.out _ HS2.out.2).mono ?_
   rintro e w3 ⟨rfl, hb⟩
   have HB9 := Lib.hid (HS2.out.2.trans (hb.mono HS2.out.2.size))
   clear hb c0 c1 c2 c3 c4 hlw HS2
   go_wp2_with fail
   go_ret
   exact ⟨rfl, HB9.out⟩
 have hml : 0 < d.mem.length := List.length_pos_iff.2 hm
 have m0 : ((d.mem.length : Int) == 0) = false := by simp; omega
 have hlim := small_lim HSM.out
 have HLIM := Lib.hid hlim
 have HTX := Lib.hid (fun w' (hb : Below w.heap.size w w') => text_anyY (HREP.out.under hb) hlim (fun h => by have := doc_len h HSM.out; omega) (HE.out.num.below hb))
 have hi : n0 % d.mem.length < d.mem.length := Nat.mod_lt _ hml
 have hmod : ((n0 : Int).tmod (d.mem.length : Int)) = ((n0 % d.mem.length : Nat) : Int) := by rw [Int.tmod_eq_emod_of_nonneg (by omega)]; rfl
 generalize n0 % d.mem.length = ix at hi hmod
 have hp := List.getElem_mem hi
 have hpt := parse_twice hc HSM.out hk hp
 obtain ⟨hc2, hot, hod, hol⟩ := one_len hc HSM.out hk hp
 have hol2 := one_lim hlim hp
 have hte := text_doc d hc
 have hdl := doc_len hc HSM.out
 obtain ⟨q', caq', eq', -, hme⟩ := HREP.out.members
 injection eq' with e1 _ e3
 subst e1; subst e3
 obtain ⟨B, o, xi, xm, rfl, hcap, hB, hlab, hdc, hx⟩ := hme ix hi
 generalize d.mem[ix] = m at hpt hc2 hot hod hol hol2 hlab hdc hx
 obtain ⟨lab, x⟩ := m
 simp only at hdc hlab hx
 obtain ⟨p1, cap1, rfl, -, -⟩ := hx.items
 obtain ⟨q1, caq1, rfl, -, -⟩ := hx.members
 have HON := Lib.hid (fun w' (hb : Below w.heap.size w w') => one_any (hx.under hb) lab hol2 (fun _ => by rw [hod]; omega) (HE.out.num.below hb))
 rw [hot] at HON hpt
 unfold textV2 at HTX
 rw [hte] at HTX hpt
 have hpp := pieces_count (joinLn (docLn d))
 generalize joinLn (docLn d) = tl at HTX hpt hdl hpp
 generalize joinLn (memY (lab, x) 0) = ol at HON hpt hol
 simp only at HTX HON hpt hdl hpp
 have HPC := Lib.hid (fun w' => rpieces_any tl (by omega) w')
 unfold PcsP at HPC
 generalize (pieces tl).length = np at HPC hpt hpp
 generalize pieces tl = ps at HPC
 have HFL := Lib.hid (fun X (hb : Below w.heap.size w X) => fails_of (l := ct tl ol) (e := 6) (p := np + 1) (ei := 6) (pi := (np : Int) + 1) hpt rfl rfl (HP.out (ct tl ol) (by rw [ct_len]; omega)) X hb)
 obtain ⟨d0, d1, d2, d3, d4⟩ := hdc
 have hixc : ix < caq := by omega
 have hmx := (lim_len hlim).2.1
 have hcat : ¬ (9223372036854775807 < tl.length + ol.length) := by omega
 have hw1 : IntKind.i64.wrap ((n0 : Nat) : Int) = (n0 : Int) := IntWalk.i64_in _ (by omega)
 have hw2 : IntKind.i64.wrap ((ix : Nat) : Int) = (ix : Int) := IntWalk.i64_in _ (by omega)
 have hi0 : (0 : Int) ≤ (ix : Int) := by omega
 have hi1 : (ix : Int) < (d.mem.length : Int) := by omega
 clear hlim hc hk hp hc2 hot hod hol2 hte hx hme hcap
 go_enter Tryz.func8, Tryz.ntmps8
 go_upto_region 1 with fail
 generalize w.alloc (.cells #[.int .i64 d.k, .int .i64 d.n, .string (S d.s), .slice p d.its.length cap, .slice (some ⟨B, o, none⟩) d.mem.length caq] 25) = W at hS ⊢
 have HS0 := Lib.hid hS
 clear hS
 obtain ⟨c0, c1, c2, c3, c4, hlw⟩ := HS0.out.cells
 go_wp2_with fail
 refine (HSW.out _ HS0.out.2).mono ?_
 rintro e w1 ⟨rfl, hb⟩
 have HS1 := Lib.hid (HS0.out.below hb)
 clear hb c0 c1 c2 c3 c4 hlw HS0
 obtain ⟨c0, c1, c2, c3, c4, hlw⟩ := HS1.out.cells
 go_wp2_with fail
 refine (HCW.out _ HS1.out.2).mono ?_
 rintro e w2 ⟨rfl, hb⟩
 have HS2 := Lib.hid (HS1.out.below hb)
 clear hb c0 c1 c2 c3 c4 hlw HS1
 obtain ⟨c0, c1, c2, c3, c4, hlw⟩ := HS2.out.cells
 go_wp2_with fail
 refine (HTX.out _ HS2.out.2).mono ?_
 rintro e w3 ⟨rfl, hb⟩
 have HS3 := Lib.hid (HS2.out.below hb)
 clear hb c0 c1 c2 c3 c4 hlw HS2
 obtain ⟨c0, c1, c2, c3, c4, hlw⟩ := HS3.out.cells
 go_wp2_with fail
 refine (HPC.out _).mono ?_
 rintro e w4 ⟨pp, pc, rfl, -, hb⟩
 have HS4 := Lib.hid (HS3.out.below hb)
 clear hb c0 c1 c2 c3 c4 hlw HS3 HPC
 obtain ⟨c0, c1, c2, c3, c4, hlw⟩ := HS4.out.cells
 have hBw := Nat.lt_of_lt_of_le hB HS4.out.2.size
 have g0 := (HS4.out.2.cell (p := ⟨B, o + ix * 6, none⟩) hB).trans hlab
 have g1 := (HS4.out.2.cell (p := ⟨B, o + ix * 6 + 1, none⟩) hB).trans d0
 have g2 := (HS4.out.2.cell (p := ⟨B, o + ix * 6 + 2, none⟩) hB).trans d1
 have g3 := (HS4.out.2.cell (p := ⟨B, o + ix * 6 + 3, none⟩) hB).trans d2
 have g4 := (HS4.out.2.cell (p := ⟨B, o + ix * 6 + 4, none⟩) hB).trans d3
 have g5 := (HS4.out.2.cell (p := ⟨B, o + ix * 6 + 5, none⟩) hB).trans d4
 have hnp : (np : Int) + 1 ≤ 40000 := by omega
 go_upto_region 5 with fail
 have HKE := Lib.hid (fun w' (hb : Below w4.heap.size w4 w') => (show _ ∧ _ ∧ _ ∧ _ ∧ _ ∧ _ ∧ _ from ⟨(hb.cell (p := ⟨w.heap.size, 4, none⟩) hlw).trans c4, (hb.cell (p := ⟨B, o + ix * 6, none⟩) hBw).trans g0, (hb.cell (p := ⟨B, o + ix * 6 + 1, none⟩) hBw).trans g1, (hb.cell (p := ⟨B, o + ix * 6 + 2, none⟩) hBw).trans g2, (hb.cell (p := ⟨B, o + ix * 6 + 3, none⟩) hBw).trans g3, (hb.cell (p := ⟨B, o + ix * 6 + 4, none⟩) hBw).trans g4, (hb.cell (p := ⟨B, o + ix * 6 + 5, none⟩) hBw).trans g5⟩))
 have HBW := Lib.hid (fun w' (hb : Below w4.heap.size w4 w') => HS4.out.2.trans (hb.mono (Nat.le_of_lt HS4.out.1.lt)))
 have HB0 := Lib.hid (below_drew (Below.refl w4.heap.size w4))
 clear c0 c1 c2 c3 c4 hlw HS4 g0 g1 g2 g3 g4 g5 hlab d0 d1 d2 d3 d4
 go_region_held3 (fun w' => w'.cell? ⟨w.heap.size, 4, none⟩ = some (.slice (some ⟨B, o, none⟩) d.mem.length caq) ∧ w'.cell? ⟨B, o + ix * 6, none⟩ = some (.string (S lab)) ∧ w'.cell? ⟨B, o + ix * 6 + 1, none⟩ = some (.int .i64 x.k) ∧ w'.cell? ⟨B, o + ix * 6 + 2, none⟩ = some (.int .i64 x.n) ∧ w'.cell? ⟨B, o + ix * 6 + 3, none⟩ = some (.string (S x.s)) ∧ w'.cell? ⟨B, o + ix * 6 + 4, none⟩ = some (.slice p1 x.its.length cap1) ∧ w'.cell? ⟨B, o + ix * 6 + 5, none⟩ = some (.slice q1 x.mem.length caq1))
   (first
     | with_reducible exact HKE.out _ HB0.out
     | with_reducible exact HKE.out _ HB1.out
     | with_reducible exact HKE.out _ HB2.out
     | with_reducible exact HKE.out _ HB3.out
     | go_keep)
   (first
     | (go_at_call 23; refine (HON.out _ (HBW.out _ HB0.out)).mono ?_; rintro e x1 ⟨rfl, hb⟩; have HB1 := Lib.hid (HB0.out.trans (hb.mono HB0.out.size)); clear hb)
     | (go_at_call 24; refine (HFL.out _ (HBW.out _ HB1.out)).mono ?_; rintro e x2 ⟨rfl, hb⟩; have HB2 := Lib.hid (HB1.out.trans (hb.mono HB1.out.size)); clear hb)
     | (go_at_call 13; refine (HAL.out _ (HBW.out _ HB2.out)).mono ?_; rintro e x3 ⟨rfl, hb⟩; have HB3 := Lib.hid (HB2.out.trans (hb.mono HB2.out.size)); clear hb))
 all_goals
   go_wp2_with fail
   go_ret
   exact ⟨rfl, HBW.out _ HB3.out⟩
end
section
open Go.RowKit
theorem loose_snoc (note : List UInt8) (n : Nat) : ∀ (a : List (List UInt8)) (x : List UInt8) (i : Nat), looseL note n (a ++ [x]) i = looseL note n a i ++ (preY note n (i + a.length) ++ [x])
 | [], x, i => by rw [List.nil_append, looseL, looseL, looseL]; rfl
 | y :: r, x, i => by
   rw [List.cons_append, looseL, looseL, loose_snoc note n r x (i + 1), List.length_cons, show i + 1 + r.length = i + (r.length + 1) by omega]
   simp
def preT (note : List UInt8) (t : List UInt8) : Nat → List UInt8
 | 0 => ct t [10]
 | 1 => ct t [32, 32, 32, 10]
 | 2 => ct (ct (ct t [32, 35]) note) [10]
 | _ => t
theorem loose_step {note : List UInt8} {n : Nat} {ps : List (List UInt8)} {j : Nat} (h : j < ps.length) : joinP (looseL note n (ps.take (j + 1)) 0) = ct (ct (preT note (joinP (looseL note n (ps.take j) 0)) ((n + j) % 4)) ps[j]) [10] := by
 rw [List.take_succ_eq_append_getElem h, loose_snoc, joinP_app, joinP_app, Nat.zero_add, List.length_take, Nat.min_eq_left (by omega)]
 generalize joinP (looseL note n (ps.take j) 0) = t
 generalize ps[j] = x
 unfold preY
 have h4 : (n + j) % 4 < 4 := Nat.mod_lt _ (by decide)
 generalize (n + j) % 4 = r at h4
 rcases (show r = 0 ∨ r = 1 ∨ r = 2 ∨ r = 3 by omega) with rfl | rfl | rfl | rfl
 · simp [joinP, preT, ct_eq]
 · simp [joinP, preT, ct_eq]
 · simp [joinP, preT, ct_eq]
 · simp [joinP, preT, ct_eq]
theorem loose_len {d : Dat} {note : List UInt8} (h : chk d 1 = 0) (hs : smallD d = true) (hn : noLF note) (hl : note.length ≤ 100) (n : Nat) : ∀ j, (joinP (looseL note n ((pieces (textY d).1).take j) 0)).length ≤ 60000 := by
 intro j
 have hgd := doc_good h
 have hdl := doc_lens h hs
 have hp : pieces (textY d).1 = (docLn d).map padLn := by rw [text_doc d h]; exact (lines_join hgd).1
 rw [hp]
 have ha : ∀ p ∈ ((docLn d).map padLn).take j, noLF p ∧ p.length ≤ 700 := by
   intro p hp
   obtain ⟨q, hq, rfl⟩ := List.mem_map.1 (List.mem_of_mem_take hp)
   refine ⟨pad_line (hgd q hq), ?_⟩
   have := hdl.2 q hq
   unfold padLn
   rw [List.length_append, List.length_replicate]; omega
 obtain ⟨h1, h2⟩ := loose_all hn n (B := 700) (by omega) (((docLn d).map padLn).take j) 0 ha
 have h3 := joinP_len (B := 700) (looseL note n (((docLn d).map padLn).take j) 0) fun p hp => (h1 p hp).2
 rw [List.length_take, List.length_map] at h2
 have h4 : (looseL note n (((docLn d).map padLn).take j) 0).length * (700 + 1) ≤ 80 * 701 := Nat.mul_le_mul_right _ (by omega)
 omega
set_option maxRecDepth 100000 in
set_option maxHeartbeats 8000000 in
theorem lawYamltextLoose_of (d : Dat) (note : List UInt8) (n0 : Nat) (hn0 : n0 < 256) (vi vm : Value) (ok : Nat → Prop) (w : World) (hr : Rep w ok d vi vm) (hE : StOk w) (hP : ∀ l : List UInt8, l.length ≤ 1000000 → ParseAt w l) :
   Calls Tryz.prog 6 #[.agg #[.int .i64 d.k, .int .i64 d.n, .string (S d.s), vi, vm], .string (S note), .int .u8 (n0 : Int)] w fun e w' => e = .returned (.bool true) ∧ Below w.heap.size w w' := by
 have HE := Lib.hid hE
 have HAL := Lib.hid (fun X (hb : Below w.heap.size w X) => alive_of X (hE.below hb) (fun l hl w' hb' => hP l hl w' (hb.trans (hb'.mono hb.size))))
 have HP := Lib.hid hP
 have HREP := Lib.hid hr
 obtain ⟨p, cap, rfl, -, -⟩ := id hr.items
 obtain ⟨q, caq, rfl, -, -⟩ := id hr.members
 clear hE hP hr
 obtain ⟨sm, hsm⟩ : ∃ sm, smallD d = sm := ⟨_, rfl⟩
 have HSM := Lib.hid hsm
 have HSW := Lib.hid (fun w' (hb : Below w.heap.size w w') => small_any (HREP.out.under hb))
 have HCW := Lib.hid (fun w' (hb : Below w.heap.size w w') => refChk_any (HREP.out.under hb))
 rw [hsm] at HSW
 clear hsm
 have hS : CkS w.heap.size w d (.slice p d.its.length cap) (.slice q d.mem.length caq) (w.alloc (.cells #[.int .i64 d.k, .int .i64 d.n, .string (S d.s), .slice p d.its.length cap, .slice q d.mem.length caq] 25)) := CkS.new w d _ _
 rcases Bool.eq_false_or_eq_true sm with rfl | rfl
 case inr =>
   go_enter Tryz.func6, Tryz.ntmps6
   go_upto_region 1 with fail
   generalize w.alloc (.cells #[.int .i64 d.k, .int .i64 d.n, .string (S d.s), .slice p d.its.length cap, .slice q d.mem.length caq] 25) = W at hS ⊢
   have HS0 := Lib.hid hS
   clear hS
   obtain ⟨c0, c1, c2, c3, c4, hlw⟩ := HS0.out.cells
   go_wp2_with fail
   refine (HSW.out _ HS0.out.2).mono ?_
   rintro e w1 ⟨rfl, hb⟩
   have HS1 := Lib.hid (HS0.out.below hb)
   clear hb c0 c1 c2 c3 c4 hlw HS0
   obtain ⟨c0, c1, c2, c3, c4, hlw⟩ := HS1.out.cells
   go_wp2_with fail
   refine (HAL.out _ HS1.out.2).mono ?_
   rintro e w2 ⟨rfl, hb⟩
   have HB9 := Lib.hid (HS1.out.2.trans (hb.mono HS1.out.2.size))
   clear hb c0 c1 c2 c3 c4 hlw HS1
   go_wp2_with fail
   go_ret
   exact ⟨rfl, HB9.out⟩
 by_cases hnb : 100 < note.length
 case pos =>
   have b1 : (100 : Int) < (note.length : Int) := by omega
   have b2 : decide ((100 : Int) < (note.length : Int)) = true := decide_eq_true b1
   go_enter Tryz.func6, Tryz.ntmps6
   go_upto_region 1 with fail
   generalize w.alloc (.cells #[.int .i64 d.k, .int .i64 d.n, .string (S d.s), .slice p d.its.length cap, .slice q d.mem.length caq] 25) = W at hS ⊢
   have HS0 := Lib.hid hS
   clear hS
   obtain ⟨c0, c1, c2, c3, c4, hlw⟩ := HS0.out.cells
   go_wp2_with fail
   refine (HSW.out _ HS0.out.2).mono ?_
   rintro e w1 ⟨rfl, hb⟩
   have HS1 := Lib.hid (HS0.out.below hb)
   clear hb c0 c1 c2 c3 c4 hlw HS0
   obtain ⟨c0, c1, c2, c3, c4, hlw⟩ := HS1.out.cells
   go_wp2_with fail
   refine (HAL.out _ HS1.out.2).mono ?_
   rintro e w2 ⟨rfl, hb⟩
   have HB9 := Lib.hid (HS1.out.2.trans (hb.mono HS1.out.2.size))
   clear hb c0 c1 c2 c3 c4 hlw HS1
   go_wp2_with fail
   go_ret
   exact ⟨rfl, HB9.out⟩
 have hn100 : note.length ≤ 100 := by omega
 have b1 : ¬ ((100 : Int) < (note.length : Int)) := by omega
 have b2 : decide ((100 : Int) < (note.length : Int)) = false := decide_eq_false b1
 have hlim := small_lim HSM.out
 have HLIM := Lib.hid hlim
 have HTX := Lib.hid (fun w' (hb : Below w.heap.size w w') => text_anyY (HREP.out.under hb) hlim (fun h => by have := doc_len h HSM.out; omega) (HE.out.num.below hb))
 clear hlim hnb
 go_enter Tryz.func6, Tryz.ntmps6
 go_upto_region 1 with fail
 generalize w.alloc (.cells #[.int .i64 d.k, .int .i64 d.n, .string (S d.s), .slice p d.its.length cap, .slice q d.mem.length caq] 25) = W at hS ⊢
 have HS0 := Lib.hid hS
 clear hS
 obtain ⟨c0, c1, c2, c3, c4, hlw⟩ := HS0.out.cells
 go_wp2_with fail
 refine (HSW.out _ HS0.out.2).mono ?_
 rintro e w1 ⟨rfl, hb⟩
 have HS1 := Lib.hid (HS0.out.below hb)
 clear hb c0 c1 c2 c3 c4 hlw HS0
 obtain ⟨c0, c1, c2, c3, c4, hlw⟩ := HS1.out.cells
 go_wp2_with fail
 clear c0 c1 c2 c3 c4 hlw
 go_loopw [7] (fun x wr => ∃ i : Nat, x = .int .i64 (i : Int) ∧ i ≤ note.length ∧ Hid (∀ j, j < i → byt note j ≠ 10) ∧ wr = w1) (fun x _ => note.length - (intOf x).toNat)
 case atStart => exact ⟨0, rfl, Nat.zero_le _, Lib.hid (fun j h => absurd h (Nat.not_lt_zero _)), rfl⟩
 case round =>
   obtain ⟨i, rfl, hi, HJ, hwr⟩ := hrel
   subst hwr
   by_cases hlt : i < note.length
   · by_cases h10 : byt note i = 10
     · have T1 : (((byt note i).toNat : Int) == 10) = true := by rw [h10]; rfl
       clear h10
       obtain ⟨c0, c1, c2, c3, c4, hlw⟩ := HS1.out.cells
       go_wp2_with fail
       refine (HAL.out _ HS1.out.2).mono ?_
       rintro e w2 ⟨rfl, hb⟩
       have HB9 := Lib.hid (HS1.out.2.trans (hb.mono HS1.out.2.size))
       clear hb c0 c1 c2 c3 c4 hlw HS1
       go_wp2_with fail
       go_ret
       exact ⟨rfl, HB9.out⟩
     · have T1 : (((byt note i).toNat : Int) == 10) = false := u8_ne h10
       have HJ1 := Lib.hid (fun j (hj : j < i + 1) => (show byt note j ≠ 10 from by
         rcases Nat.lt_or_ge j i with h | h
         · exact HJ.out j h
         · obtain rfl : j = i := by omega
           exact h10))
       clear h10
       go_wp2_with fail
       go_roundw
       case rel => exact ⟨i + 1, by go_num, hlt, HJ1, by first | rfl | trivial⟩
       case measure => simp [intOf]; omega
   · have hnl : noLF note := fun c hc => by
       obtain ⟨j, hj, rfl⟩ := List.mem_iff_getElem.1 hc
       have := HJ.out j (by omega)
       simpa [byt, List.getD, hj] using this
     have g9 : ¬ ((i : Int) < (note.length : Int)) := by omega
     obtain ⟨c0, c1, c2, c3, c4, hlw⟩ := HS1.out.cells
     by_cases hc : chk d 1 = 0
     case neg =>
       have hte : textY d = ([], chk d 1) := by unfold textY; rw [if_neg hc]
       unfold textV2 at HTX
       rw [hte] at HTX
       generalize hck : chk d 1 = ck at HTX hc
       have t0 : ((ck : Int) != 0) = true := by simp; omega
       have t1 : ((ck : Int) == 0) = false := by simp; omega
       simp only at HTX
       clear hte hck hc hnl HJ
       go_wp2_with fail
       refine (HTX.out _ HS1.out.2).mono ?_
       rintro e w2 ⟨rfl, hb⟩
       have HS2 := Lib.hid (HS1.out.below hb)
       clear hb c0 c1 c2 c3 c4 hlw HS1
       obtain ⟨c0, c1, c2, c3, c4, hlw⟩ := HS2.out.cells
       go_wp2_with fail
       refine (HAL.out _ HS2.out.2).mono ?_
       rintro e w3 ⟨rfl, hb⟩
       have HB9 := Lib.hid (HS2.out.2.trans (hb.mono HS2.out.2.size))
       clear hb c0 c1 c2 c3 c4 hlw HS2
       go_wp2_with fail
       go_ret
       exact ⟨rfl, HB9.out⟩
     obtain ⟨hpl, hjne⟩ := parse_loose hc HSM.out hnl hn100 n0
     have hlen := loose_len hc HSM.out hnl hn100 n0
     have hte := text_doc d hc
     have hdl := doc_len hc HSM.out
     unfold textV2 at HTX
     rw [hte] at HTX hpl hjne hlen
     generalize joinLn (docLn d) = tl at HTX hpl hjne hlen hdl
     simp only at HTX hpl hjne hlen
     have HPC := Lib.hid (fun w' => rpieces_any tl (by omega) w')
     unfold PcsP at HPC
     have hpml := pieces_mem tl
     have hpn := pieces_count tl
     generalize pieces tl = ps at HPC hpl hjne hlen hpml hpn
     have HPN := Lib.hid (show ps.length ≤ 30000 by omega)
     clear hpn
     have HPM := Lib.hid (fun x (h : x ∈ ps) => (show x.length ≤ 30000 by have := hpml x h; omega))
     have hst := fun j (h : j < ps.length) => loose_step (note := note) (n := n0) h
     obtain ⟨jP, hjp⟩ : ∃ f : Nat → List UInt8, f = fun j => joinP (looseL note n0 (ps.take j) 0) := ⟨_, rfl⟩
     have hJ : ∀ j, joinP (looseL note n0 (ps.take j) 0) = jP j := fun j => by rw [hjp]
     have hJ2 : joinP (looseL note n0 ps 0) = jP ps.length := by rw [hjp]; simp
     simp only [hJ] at hst hlen
     have HST := Lib.hid hst
     have HLE := Lib.hid hlen
     have z0 : jP 0 = [] := by rw [hjp]; rfl
     have HEND := Lib.hid (show parseY (if n0 % 2 = 1 then (jP ps.length).take ((jP ps.length).length - 1) else jP ps.length ++ 35 :: note) = (d, 0, 0) from by
       have h := hpl
       unfold looseY at h
       rwa [hJ2] at h)
     have HJN := Lib.hid (show jP ps.length ≠ [] by rw [← hJ2]; exact hjne)
     obtain ⟨en, hen⟩ : ∃ k : Nat, k = 0 := ⟨_, rfl⟩
     obtain ⟨ep, hep⟩ : ∃ k : Nat, k = 0 := ⟨_, rfl⟩
     have HZ := Lib.hid (And.intro hen hep)
     have e0 : ((en : Int) == 0) = true := by rw [hen]; rfl
     clear hc hnl hpl hjne hte hdl hpml hst hlen hjp hJ hJ2 HJ hen hep
     go_wp2_with fail
     refine (HTX.out _ HS1.out.2).mono ?_
     rintro e w2 ⟨rfl, hb⟩
     have HS2 := Lib.hid (HS1.out.below hb)
     clear hb c0 c1 c2 c3 c4 hlw HS1
     obtain ⟨c0, c1, c2, c3, c4, hlw⟩ := HS2.out.cells
     go_wp2_with fail
     refine (HPC.out _).mono ?_
     rintro e w3 ⟨pp, pc, rfl, hown, hb⟩
     have HS3 := Lib.hid (HS2.out.below hb)
     have HCE := Lib.hid (show ∀ k (h : k < ps.length), ∃ B, pp = some ⟨B, 0, none⟩ ∧ ps.length ≤ pc ∧ B < w3.heap.size ∧ w3.cell? ⟨B, k, none⟩ = some (.string (S ps[k])) from by
       intro k h
       rcases own_head hown with ⟨-, h0⟩ | ⟨g, cap, e0, -, hc, hg, -⟩
       · omega
       · injection e0 with e0 _ e2
         subst e0; subst e2
         refine ⟨g, rfl, hc, hg, ?_⟩
         have := hown.cells (g := g) rfl k (.string (S ps[k])) (by simp [scells, h])
         rw [Lib.add_plain, Nat.zero_add] at this
         exact this)
     clear hb hown c0 c1 c2 c3 c4 hlw HS2 HPC
     go_wp2_with fail
     go_loopw [10, 46] (fun t x wr => ∃ j : Nat, t = .string (S (jP j)) ∧ x = .int .i64 (j : Int) ∧ j ≤ ps.length ∧ wr = w3) (fun _ x _ => ps.length - (intOf x).toNat)
     case atStart => exact ⟨0, by rw [z0]; rfl, rfl, Nat.zero_le _, rfl⟩
     case round =>
       clear z0
       obtain ⟨j, rfl, rfl, hj, hwr⟩ := hrel
       subst hwr
       by_cases hlt2 : j < ps.length
       · obtain ⟨B, rfl, hcap, hB, cj⟩ := HCE.out j hlt2
         have HS1 := Lib.hid (HST.out j hlt2)
         have hl0 := HLE.out j
         have hlx := HPM.out _ (List.getElem_mem hlt2)
         generalize ps[j] = x at cj HS1 hlx
         have hjc : j < pc := by omega
         have hmod : (((n0 : Int) + (j : Int)).tmod 4) = (((n0 + j) % 4 : Nat) : Int) := by rw [Int.tmod_eq_emod_of_nonneg (by omega)]; rfl
         have hr4 : (n0 + j) % 4 < 4 := Nat.mod_lt _ (by decide)
         have hjb : j ≤ 40000 := by have := HPN.out; omega
         have hw1 : IntKind.i64.wrap ((n0 : Nat) : Int) = (n0 : Int) := IntWalk.i64_in _ (by omega)
         generalize (n0 + j) % 4 = r at HS1 hmod hr4
         have hq1 : ¬ (9223372036854775807 < (jP j).length + 1) := by omega
         have hr : r = 0 ∨ r = 1 ∨ r = 2 ∨ r = 3 := by omega
         rcases hr with rfl | rfl | rfl | rfl
         · have HS2 := Lib.hid HS1.out
           have hk0 : ¬ (9223372036854775807 < (jP j).length + 1 + x.length) := by omega
           have hk1 : ¬ (9223372036854775807 < (jP j).length + 1 + x.length + 1) := by omega
           go_wp2_with fail
           go_roundw
           case rel => exact ⟨j + 1, by rw [HS2.out]; rfl, by go_num, hlt2, by first | rfl | trivial⟩
           case measure => simp [intOf]; omega
         · have HS2 := Lib.hid HS1.out
           have hk0 : ¬ (9223372036854775807 < (jP j).length + 4) := by omega
           have hk1 : ¬ (9223372036854775807 < (jP j).length + 4 + x.length) := by omega
           have hk2 : ¬ (9223372036854775807 < (jP j).length + 4 + x.length + 1) := by omega
           go_wp2_with fail
           go_roundw
           case rel => exact ⟨j + 1, by rw [HS2.out]; rfl, by go_num, hlt2, by first | rfl | trivial⟩
           case measure => simp [intOf]; omega
         · have HS2 := Lib.hid HS1.out
           have hk0 : ¬ (9223372036854775807 < (jP j).length + 2) := by omega
           have hk1 : ¬ (9223372036854775807 < (jP j).length + 2 + note.length) := by omega
           have hk2 : ¬ (9223372036854775807 < (jP j).length + 2 + note.length + 1) := by omega
           have hk3 : ¬ (9223372036854775807 < (jP j).length + 2 + note.length + 1 + x.length) := by omega
           have hk4 : ¬ (9223372036854775807 < (jP j).length + 2 + note.length + 1 + x.length + 1) := by omega
           go_wp2_with fail
           go_roundw
           case rel => exact ⟨j + 1, by rw [HS2.out]; rfl, by go_num, hlt2, by first | rfl | trivial⟩
           case measure => simp [intOf]; omega
         · have HS2 := Lib.hid HS1.out
           have hk0 : ¬ (9223372036854775807 < (jP j).length + x.length) := by omega
           have hk1 : ¬ (9223372036854775807 < (jP j).length + x.length + 1) := by omega
           go_wp2_with fail
           go_roundw
           case rel => exact ⟨j + 1, by rw [HS2.out]; rfl, by go_num, hlt2, by first | rfl | trivial⟩
           case measure => simp [intOf]; omega
       · have hee : j = ps.length := by omega
         have HEE := Lib.hid hee
         have hlj := HLE.out j
         have g8 : ¬ ((j : Int) < (ps.length : Int)) := by omega
         have hjn : jP j ≠ [] := by rw [hee]; exact HJN.out
         have hjl : 0 < (jP j).length := List.length_pos_iff.2 hjn
         have hz : (((jP j).length : Int) == 0) = false := by rw [beq_eq_false_iff_ne]; omega
         have hen2 := HEND.out
         rw [← hee] at hen2
         generalize jP j = t at hlj hjl hz hen2
         have hm2 : ((n0 : Int).tmod 2) = ((n0 % 2 : Nat) : Int) := by rw [Int.tmod_eq_emod_of_nonneg (by omega)]; rfl
         clear HEND HST HLE HCE hjn hee
         obtain ⟨c0, c1, c2, c3, c4, hlw⟩ := HS3.out.cells
         by_cases h2 : n0 % 2 = 1
         · rw [if_pos h2] at hen2
           rw [h2] at hm2
           have hw5 : IntKind.i64.wrap ((t.length : Int) - 1) = ((t.length - 1 : Nat) : Int) := by rw [IntWalk.i64_in _ (by omega)]; omega
           have hsl : t.length - 1 ≤ t.length := by omega
           have HPX := Lib.hid (fun w' (hb : Below w.heap.size w w') => (show Calls Tryz.prog 18 #[.string (S (sl t 0 (t.length - 1)))] w' (PrsP w' (d, en, ep)) from by
             have h := HP.out (sl t 0 (t.length - 1)) (by rw [sl_head, List.length_take]; omega) w' hb
             rw [HZ.out.1, HZ.out.2]
             rwa [show parseY (sl t 0 (t.length - 1)) = (d, 0, 0) from by rw [sl_head]; exact hen2] at h))
           clear h2 hen2
           go_wp2_with fail
           refine (HPX.out _ HS3.out.2).mono ?_
           rintro e v4 hp
           obtain ⟨xp, xc, yp, yc, rfl, hr, hb⟩ := hp.open
           simp only at hr ⊢
           have hn := val_two v4 #[.int .i64 d.k, .int .i64 d.n, .string (S d.s), .slice xp d.its.length xc, .slice yp d.mem.length yc] #[.int .i64 (en : Int), .int .i64 (ep : Int)] 25 33
           have hS5 := (HS3.out.below hb).below hn.2.2
           have hx5 := hr.under hn.2.2
           clear hr hp hb c0 c1 c2 c3 c4 hlw HS3 HPX
           go_upto_region 30 with fail
           generalize (v4.alloc (.cells #[.int .i64 d.k, .int .i64 d.n, .string (S d.s), .slice xp d.its.length xc, .slice yp d.mem.length yc] 25)).alloc (.cells #[.int .i64 (en : Int), .int .i64 (ep : Int)] 33) = w4 at hn hS5 hx5 ⊢
           have HS4 := Lib.hid hS5
           have HX5 := Lib.hid hx5
           have HF5 := Lib.hid (And.intro hn.1 hn.2.1)
           clear hS5 hx5 hn
           obtain ⟨c0, c1, c2, c3, c4, hlw⟩ := HS4.out.cells
           have b0 := HF5.out.1.cell 0
           have b1 := HF5.out.1.cell 1
           have b2 := HF5.out.1.cell 2
           have b3 := HF5.out.1.cell 3
           have b4 := HF5.out.1.cell 4
           have f0 := HF5.out.2.cell 0
           have f1 := HF5.out.2.cell 1
           simp at b0 b1 b2 b3 b4 f0 f1
           have hbl := HF5.out.1.lt
           have hfl := HF5.out.2.lt
           go_wp2_with fail
           refine (dSame_any (SizeOf.sizeOf d + 1) d d (Nat.lt_succ_self _) _ _ _ _ _ _ _ HX5.out (HREP.out.under HS4.out.2) HLIM.out HLIM.out).mono ?_
           rintro e w5 ⟨r, rfl, hr, hb⟩
           obtain rfl : r = true := hr.2 rfl
           have HS5 := Lib.hid (HS4.out.below hb)
           clear hr hb c0 c1 c2 c3 c4 hlw b0 b1 b2 b3 b4 f0 f1 hbl hfl HS4
           obtain ⟨c0, c1, c2, c3, c4, hlw⟩ := HS5.out.cells
           go_wp2_with fail
           refine (HAL.out _ HS5.out.2).mono ?_
           rintro e w6 ⟨rfl, hb⟩
           have HB9 := Lib.hid (HS5.out.2.trans (hb.mono HS5.out.2.size))
           clear hb c0 c1 c2 c3 c4 hlw HS5
           go_wp2_with fail
           go_ret
           exact ⟨rfl, HB9.out⟩
         · rw [if_neg h2] at hen2
           have h20 : n0 % 2 = 0 := by omega
           rw [h20] at hm2
           have hq1 : ¬ (9223372036854775807 < t.length + 1) := by omega
           have hq2 : ¬ (9223372036854775807 < t.length + 1 + note.length) := by omega
           have HPX := Lib.hid (fun w' (hb : Below w.heap.size w w') => (show Calls Tryz.prog 18 #[.string (S (ct (ct t [35]) note))] w' (PrsP w' (d, en, ep)) from by
             have h := HP.out (ct (ct t [35]) note) (by simp only [ct_len]; simp; omega) w' hb
             rw [HZ.out.1, HZ.out.2]
             rwa [show parseY (ct (ct t [35]) note) = (d, 0, 0) from by rw [show ct (ct t [35]) note = t ++ 35 :: note by simp [ct_eq]]; exact hen2] at h))
           clear h2 h20 hen2
           go_wp2_with fail
           refine (HPX.out _ HS3.out.2).mono ?_
           rintro e v4 hp
           obtain ⟨xp, xc, yp, yc, rfl, hr, hb⟩ := hp.open
           simp only at hr ⊢
           have hn := val_two v4 #[.int .i64 d.k, .int .i64 d.n, .string (S d.s), .slice xp d.its.length xc, .slice yp d.mem.length yc] #[.int .i64 (en : Int), .int .i64 (ep : Int)] 25 33
           have hS5 := (HS3.out.below hb).below hn.2.2
           have hx5 := hr.under hn.2.2
           clear hr hp hb c0 c1 c2 c3 c4 hlw HS3 HPX
           go_upto_region 30 with fail
           generalize (v4.alloc (.cells #[.int .i64 d.k, .int .i64 d.n, .string (S d.s), .slice xp d.its.length xc, .slice yp d.mem.length yc] 25)).alloc (.cells #[.int .i64 (en : Int), .int .i64 (ep : Int)] 33) = w4 at hn hS5 hx5 ⊢
           have HS4 := Lib.hid hS5
           have HX5 := Lib.hid hx5
           have HF5 := Lib.hid (And.intro hn.1 hn.2.1)
           clear hS5 hx5 hn
           obtain ⟨c0, c1, c2, c3, c4, hlw⟩ := HS4.out.cells
           have b0 := HF5.out.1.cell 0
           have b1 := HF5.out.1.cell 1
           have b2 := HF5.out.1.cell 2
           have b3 := HF5.out.1.cell 3
           have b4 := HF5.out.1.cell 4
           have f0 := HF5.out.2.cell 0
           have f1 := HF5.out.2.cell 1
           simp at b0 b1 b2 b3 b4 f0 f1
           have hbl := HF5.out.1.lt
           have hfl := HF5.out.2.lt
           go_wp2_with fail
           refine (dSame_any (SizeOf.sizeOf d + 1) d d (Nat.lt_succ_self _) _ _ _ _ _ _ _ HX5.out (HREP.out.under HS4.out.2) HLIM.out HLIM.out).mono ?_
           rintro e w5 ⟨r, rfl, hr, hb⟩
           obtain rfl : r = true := hr.2 rfl
           have HS5 := Lib.hid (HS4.out.below hb)
           clear hr hb c0 c1 c2 c3 c4 hlw b0 b1 b2 b3 b4 f0 f1 hbl hfl HS4
           obtain ⟨c0, c1, c2, c3, c4, hlw⟩ := HS5.out.cells
           go_wp2_with fail
           refine (HAL.out _ HS5.out.2).mono ?_
           rintro e w6 ⟨rfl, hb⟩
           have HB9 := Lib.hid (HS5.out.2.trans (hb.mono HS5.out.2.size))
           clear hb c0 c1 c2 c3 c4 hlw HS5
           go_wp2_with fail
           go_ret
           exact ⟨rfl, HB9.out⟩
end
section
open Go.RowKit
def oneT (p : List UInt8 × Dat) : List UInt8 := (textY (oneM p)).1
def sA (d : Dat) (i : Nat) : List UInt8 := (d.mem.take i).flatMap oneT
def tA (d : Dat) (i : Nat) : List UInt8 := (d.mem.take i).reverse.flatMap oneT
theorem sA_step {d : Dat} {i : Nat} (h : i < d.mem.length) : sA d (i + 1) = ct (sA d i) (oneT d.mem[i]) := by
 unfold sA
 rw [List.take_succ_eq_append_getElem h, List.flatMap_append, List.flatMap_cons, List.flatMap_nil, List.append_nil]
 rfl
theorem tA_step {d : Dat} {i : Nat} (h : i < d.mem.length) : tA d (i + 1) = ct (oneT d.mem[i]) (tA d i) := by
 unfold tA
 rw [List.take_succ_eq_append_getElem h, List.reverse_append, List.reverse_singleton, List.singleton_append, List.flatMap_cons]
 rfl
theorem tA_len {d : Dat} : ∀ {i : Nat}, i ≤ d.mem.length → (tA d i).length = (sA d i).length
 | 0, _ => by unfold tA sA; simp
 | i + 1, h => by rw [tA_step (show i < d.mem.length by omega), sA_step (show i < d.mem.length by omega), ct_len, ct_len, tA_len (show i ≤ d.mem.length by omega)]; omega
theorem sA_le (d : Dat) (i : Nat) : (sA d i).length ≤ (d.mem.flatMap oneT).length := by
 have h : d.mem.flatMap oneT = sA d i ++ (d.mem.drop i).flatMap oneT := by
   unfold sA
   rw [← List.flatMap_append, List.take_append_drop]
 rw [h, List.length_append]; omega
theorem order_all {d : Dat} (h : chk d 1 = 0) (hs : smallD d = true) (hk : d.k = 6) (hm : d.mem ≠ []) : sA d d.mem.length = joinLn (docLn d) ∧ parseY (tA d d.mem.length) = (d, 0, 0) ∧ ∀ i, (sA d i).length ≤ 27480 := by
 have h6 := text_six h hk hm
 rw [text_doc d h] at h6
 injection h6 with h6 _
 have h7 : joinLn (docLn d) = d.mem.flatMap oneT := h6
 refine ⟨by unfold sA; rw [List.take_length, h7], ?_, fun i => ?_⟩
 · unfold tA
   rw [List.take_length]
   exact parse_any_order h hs hk hm (List.reverse_perm d.mem)
 · have := doc_len h hs
   rw [h7] at this
   exact Nat.le_trans (sA_le d i) this
set_option maxRecDepth 100000 in
set_option maxHeartbeats 8000000 in
theorem lawYamltextOrder_of (d : Dat) (vi vm : Value) (ok : Nat → Prop) (w : World) (hr : Rep w ok d vi vm) (hE : StOk w) (hP : ∀ l : List UInt8, l.length ≤ 1000000 → ParseAt w l) :
   Calls Tryz.prog 7 #[.agg #[.int .i64 d.k, .int .i64 d.n, .string (S d.s), vi, vm]] w fun e w' => e = .returned (.bool true) ∧ Below w.heap.size w w' := by
 have HE := Lib.hid hE
 have HAL := Lib.hid (fun X (hb : Below w.heap.size w X) => alive_of X (hE.below hb) (fun l hl w' hb' => hP l hl w' (hb.trans (hb'.mono hb.size))))
 have HP := Lib.hid hP
 have HREP := Lib.hid hr
 obtain ⟨p, cap, rfl, -, -⟩ := id hr.items
 obtain ⟨q, caq, rfl, -, -⟩ := id hr.members
 clear hE hP hr
 obtain ⟨sm, hsm⟩ : ∃ sm, smallD d = sm := ⟨_, rfl⟩
 have HSM := Lib.hid hsm
 have HSW := Lib.hid (fun w' (hb : Below w.heap.size w w') => small_any (HREP.out.under hb))
 have HCW := Lib.hid (fun w' (hb : Below w.heap.size w w') => refChk_any (HREP.out.under hb))
 rw [hsm] at HSW
 clear hsm
 have hS : CkS w.heap.size w d (.slice p d.its.length cap) (.slice q d.mem.length caq) (w.alloc (.cells #[.int .i64 d.k, .int .i64 d.n, .string (S d.s), .slice p d.its.length cap, .slice q d.mem.length caq] 25)) := CkS.new w d _ _
 rcases Bool.eq_false_or_eq_true sm with rfl | rfl
 case inr =>
   go_enter Tryz.func7, Tryz.ntmps7
   go_upto_region 1 with fail
   generalize w.alloc (.cells #[.int .i64 d.k, .int .i64 d.n, .string (S d.s), .slice p d.its.length cap, .slice q d.mem.length caq] 25) = W at hS ⊢
   have HS0 := Lib.hid hS
   clear hS
   obtain ⟨c0, c1, c2, c3, c4, hlw⟩ := HS0.out.cells
   go_wp2_with fail
   refine (HSW.out _ HS0.out.2).mono ?_
   rintro e w1 ⟨rfl, hb⟩
   have HS1 := Lib.hid (HS0.out.below hb)
   clear hb c0 c1 c2 c3 c4 hlw HS0
   obtain ⟨c0, c1, c2, c3, c4, hlw⟩ := HS1.out.cells
   go_wp2_with fail
   refine (HAL.out _ HS1.out.2).mono ?_
   rintro e w2 ⟨rfl, hb⟩
   have HB9 := Lib.hid (HS1.out.2.trans (hb.mono HS1.out.2.size))
   clear hb c0 c1 c2 c3 c4 hlw HS1
   go_wp2_with fail
   go_ret
   exact ⟨rfl, HB9.out⟩
 by_cases hc : chk d 1 = 0
 case neg =>
   generalize hck : chk d 1 = ck at HCW hc
   have t0 : ((ck : Int) != 0) = true := by simp; omega
   have t1 : ((ck : Int) == 0) = false := by simp; omega
   clear hck hc
   go_enter Tryz.func7, Tryz.ntmps7
   go_upto_region 1 with fail
   generalize w.alloc (.cells #[.int .i64 d.k, .int .i64 d.n, .string (S d.s), .slice p d.its.length cap, .slice q d.mem.length caq] 25) = W at hS ⊢
   have HS0 := Lib.hid hS
   clear hS
   obtain ⟨c0, c1, c2, c3, c4, hlw⟩ := HS0.out.cells
   go_wp2_with fail
   refine (HSW.out _ HS0.out.2).mono ?_
   rintro e w1 ⟨rfl, hb⟩
   have HS1 := Lib.hid (HS0.out.below hb)
   clear hb c0 c1 c2 c3 c4 hlw HS0
   obtain ⟨c0, c1, c2, c3, c4, hlw⟩ := HS1.out.cells
   go_wp2_with fail
   refine (HCW.out _ HS1.out.2).mono ?_
   rintro e w2 ⟨rfl, hb⟩
   have HS2 := Lib.hid (HS1.out.below hb)
   clear hb c0 c1 c2 c3 c4 hlw HS1
   obtain ⟨c0, c1, c2, c3, c4, hlw⟩ := HS2.out.cells
   go_wp2_with fail
   refine (HAL.out _ HS2.out.2).mono ?_
   rintro e w3 ⟨rfl, hb⟩
   have HB9 := Lib.hid (HS2.out.2.trans (hb.mono HS2.out.2.size))
   clear hb c0 c1 c2 c3 c4 hlw HS2
   go_wp2_with fail
   go_ret
   exact ⟨rfl, HB9.out⟩
 rw [hc] at HCW
 by_cases hk : d.k = 6
 case neg =>
   have t0 : (d.k != 6) = true := by simpa using hk
   have t1 : (d.k == 6) = false := by simpa using hk
   clear hk hc
   go_enter Tryz.func7, Tryz.ntmps7
   go_upto_region 1 with fail
   generalize w.alloc (.cells #[.int .i64 d.k, .int .i64 d.n, .string (S d.s), .slice p d.its.length cap, .slice q d.mem.length caq] 25) = W at hS ⊢
   have HS0 := Lib.hid hS
   clear hS
   obtain ⟨c0, c1, c2, c3, c4, hlw⟩ := HS0.out.cells
   go_wp2_with fail
   refine (HSW.out _ HS0.out.2).mono ?_
   rintro e w1 ⟨rfl, hb⟩
   have HS1 := Lib.hid (HS0.out.below hb)
   clear hb c0 c1 c2 c3 c4 hlw HS0
   obtain ⟨c0, c1, c2, c3, c4, hlw⟩ := HS1.out.cells
   go_wp2_with fail
   refine (HCW.out _ HS1.out.2).mono ?_
   rintro e w2 ⟨rfl, hb⟩
   have HS2 := Lib.hid (HS1.out.below hb)
   clear hb c0 c1 c2 c3 c4 hlw HS1
   obtain ⟨c0, c1, c2, c3, c4, hlw⟩ := HS2.out.cells
   go_wp2_with fail
   refine (HAL.out _ HS2.out.2).mono ?_
   rintro e w3 ⟨rfl, hb⟩
   have HB9 := Lib.hid (HS2.out.2.trans (hb.mono HS2.out.2.size))
   clear hb c0 c1 c2 c3 c4 hlw HS2
   go_wp2_with fail
   go_ret
   exact ⟨rfl, HB9.out⟩
 have k0 : (d.k != 6) = false := by simpa using hk
 by_cases hm : d.mem = []
 case pos =>
   have t0 : ((d.mem.length : Int) == 0) = true := by rw [hm]; rfl
   clear hk hc hm
   go_enter Tryz.func7, Tryz.ntmps7
   go_upto_region 1 with fail
   generalize w.alloc (.cells #[.int .i64 d.k, .int .i64 d.n, .string (S d.s), .slice p d.its.length cap, .slice q d.mem.length caq] 25) = W at hS ⊢
   have HS0 := Lib.hid hS
   clear hS
   obtain ⟨c0, c1, c2, c3, c4, hlw⟩ := HS0.out.cells
   go_wp2_with fail
   refine (HSW.out _ HS0.out.2).mono ?_
   rintro e w1 ⟨rfl, hb⟩
   have HS1 := Lib.hid (HS0.out.below hb)
   clear hb c0 c1 c2 c3 c4 hlw HS0
   obtain ⟨c0, c1, c2, c3, c4, hlw⟩ := HS1.out.cells
   go_wp2_with fail
   refine (HCW.out _ HS1.out.2).mono ?_
   rintro e w2 ⟨rfl, hb⟩
   have HS2 := Lib.hid (HS1.out.below hb)
   clear hb c0 c1 c2 c3 c4 hlw HS1
   obtain ⟨c0, c1, c2, c3, c4, hlw⟩ := HS2.out.cells
   go_wp2_with fail
   refine (HAL.out _ HS2.out.2).mono ?_
   rintro e w3 ⟨rfl, hb⟩
   have HB9 := Lib.hid (HS2.out.2.trans (hb.mono HS2.out.2.size))
   clear hb c0 c1 c2 c3 c4 hlw HS2
   go_wp2_with fail
   go_ret
   exact ⟨rfl, HB9.out⟩
 have hml : 0 < d.mem.length := List.length_pos_iff.2 hm
 have m0 : ((d.mem.length : Int) == 0) = false := by simp; omega
 have hlim := small_lim HSM.out
 have HLIM := Lib.hid hlim
 have HTX := Lib.hid (fun w' (hb : Below w.heap.size w w') => text_anyY (HREP.out.under hb) hlim (fun h => by have := doc_len h HSM.out; omega) (HE.out.num.below hb))
 obtain ⟨hs1, hpt, hsl⟩ := order_all hc HSM.out hk hm
 have hte := text_doc d hc
 have hmx := (lim_len hlim).2.1
 obtain ⟨q', caq', eq', -, hme⟩ := HREP.out.members
 injection eq' with e1 _ e3
 subst e1; subst e3
 have HME := Lib.hid (fun i (h : i < d.mem.length) => (show ∃ B o xi xm, q = some ⟨B, o, none⟩ ∧ d.mem.length ≤ caq ∧ B < w.heap.size ∧ w.cell? ⟨B, o + i * 6, none⟩ = some (.string (S d.mem[i].1)) ∧ DCell w B (o + i * 6 + 1) d.mem[i].2 xi xm ∧ Rep w ok d.mem[i].2 xi xm ∧ limD (oneM d.mem[i]) = true ∧ docLn (oneM d.mem[i]) = memY d.mem[i] 0 ∧ (joinLn (memY d.mem[i] 0)).length ≤ 30000 ∧ textY (oneM d.mem[i]) = (oneT d.mem[i], 0) ∧ (oneT d.mem[i]).length ≤ 30000 from by
   obtain ⟨B, o, xi, xm, a1, a2, a3, a4, a5, a6⟩ := hme i h
   obtain ⟨b1, b2, b3, b4⟩ := one_len hc HSM.out hk (List.getElem_mem h)
   have b5 : textY (oneM d.mem[i]) = (oneT d.mem[i], 0) := by unfold oneT; rw [b2]
   exact ⟨B, o, xi, xm, a1, a2, a3, a4, a5, a6, one_lim hlim (List.getElem_mem h), b3, b4, b5, by unfold oneT; rw [b2]; exact b4⟩))
 have HSL := Lib.hid hsl
 have HTL := Lib.hid (fun i (h : i ≤ d.mem.length) => tA_len h)
 have HSS := Lib.hid (fun i (h : i < d.mem.length) => And.intro (sA_step h) (tA_step h))
 unfold textV2 at HTX
 rw [hte, ← hs1] at HTX
 obtain ⟨en, hen⟩ : ∃ n : Nat, n = 0 := ⟨_, rfl⟩
 obtain ⟨ep, hep⟩ : ∃ n : Nat, n = 0 := ⟨_, rfl⟩
 have HPX := Lib.hid (fun w' (hb : Below w.heap.size w w') => (show Calls Tryz.prog 18 #[.string (S (tA d d.mem.length))] w' (PrsP w' (d, en, ep)) from by
   have h := HP.out (tA d d.mem.length) (by have := HTL.out d.mem.length (Nat.le_refl _); have := HSL.out d.mem.length; omega) w' hb
   rw [hen, hep]
   rwa [hpt] at h))
 have e0 : ((en : Int) == 0) = true := by rw [hen]; rfl
 simp only at HTX
 have HS1 : Hid (∃ f g : Nat → List UInt8, f = sA d ∧ g = tA d) := Lib.hid ⟨_, _, rfl, rfl⟩
 have z0 : (sA d 0) = [] := rfl
 have z1 : (tA d 0) = [] := rfl
 generalize sA d = f at *
 generalize tA d = g at *
 clear hlim hc hk hs1 hpt hsl hte hme hen hep hm HS1
 go_enter Tryz.func7, Tryz.ntmps7
 go_upto_region 1 with fail
 generalize w.alloc (.cells #[.int .i64 d.k, .int .i64 d.n, .string (S d.s), .slice p d.its.length cap, .slice q d.mem.length caq] 25) = W at hS ⊢
 have HS0 := Lib.hid hS
 clear hS
 obtain ⟨c0, c1, c2, c3, c4, hlw⟩ := HS0.out.cells
 go_wp2_with fail
 refine (HSW.out _ HS0.out.2).mono ?_
 rintro e w1 ⟨rfl, hb⟩
 have HS1 := Lib.hid (HS0.out.below hb)
 clear hb c0 c1 c2 c3 c4 hlw HS0
 obtain ⟨c0, c1, c2, c3, c4, hlw⟩ := HS1.out.cells
 go_wp2_with fail
 refine (HCW.out _ HS1.out.2).mono ?_
 rintro e w2 ⟨rfl, hb⟩
 have HS2 := Lib.hid (HS1.out.below hb)
 clear hb c0 c1 c2 c3 c4 hlw HS1
 obtain ⟨c0, c1, c2, c3, c4, hlw⟩ := HS2.out.cells
 go_wp2_with fail
 clear c0 c1 c2 c3 c4 hlw
 go_loopw [3, 4, 34] (fun s t x wr => ∃ i : Nat, s = .string (S (f i)) ∧ t = .string (S (g i)) ∧ x = .int .i64 (i : Int) ∧ i ≤ d.mem.length ∧ Hid (CkS w.heap.size w d (.slice p d.its.length cap) (.slice q d.mem.length caq) wr)) (fun _ _ x _ => d.mem.length - (intOf x).toNat)
 case atStart => exact ⟨0, by rw [z0]; rfl, by rw [z1]; rfl, rfl, Nat.zero_le _, HS2⟩
 case round =>
   clear HS2 z0 z1
   obtain ⟨i, rfl, rfl, rfl, hi, HS⟩ := hrel
   by_cases hlt : i < d.mem.length
   · obtain ⟨B, o, xi, xm, rfl, hcap, hB, hlab, hdc, hx, hol, hod, hoj, hot, hoy⟩ := HME.out i hlt
     have HST := Lib.hid (HSS.out i hlt)
     have hfl := HSL.out i
     have hgl := HTL.out i hi
     generalize d.mem[i] = m at hlab hdc hx hol hod hoj hot hoy HST
     obtain ⟨lab, x⟩ := m
     simp only at hlab hdc hx
     obtain ⟨p1, cap1, rfl, -, -⟩ := hx.items
     obtain ⟨q1, caq1, rfl, -, -⟩ := hx.members
     have HON := Lib.hid (fun w' (hb : Below w.heap.size w w') => one_any (hx.under hb) lab hol (fun _ => by rw [hod]; omega) (HE.out.num.below hb))
     rw [hot] at HON
     generalize oneT (lab, x) = ol at HON hoy HST
     simp only at HON
     obtain ⟨d0, d1, d2, d3, d4⟩ := hdc
     have hB2 := Nat.lt_of_lt_of_le hB HS.out.2.size
     have g0 := (HS.out.2.cell (p := ⟨B, o + i * 6, none⟩) hB).trans hlab
     have g1 := (HS.out.2.cell (p := ⟨B, o + i * 6 + 1, none⟩) hB).trans d0
     have g2 := (HS.out.2.cell (p := ⟨B, o + i * 6 + 2, none⟩) hB).trans d1
     have g3 := (HS.out.2.cell (p := ⟨B, o + i * 6 + 3, none⟩) hB).trans d2
     have g4 := (HS.out.2.cell (p := ⟨B, o + i * 6 + 4, none⟩) hB).trans d3
     have g5 := (HS.out.2.cell (p := ⟨B, o + i * 6 + 5, none⟩) hB).trans d4
     have hic : i < caq := by omega
     have hcat1 : ¬ (9223372036854775807 < (f i).length + ol.length) := by omega
     have hcat2 : ¬ (9223372036854775807 < ol.length + (g i).length) := by omega
     have hN := Blk.new wr #[.string (S lab), .int .i64 x.k, .int .i64 x.n, .string (S x.s), .slice p1 x.its.length cap1, .slice q1 x.mem.length caq1] 43
     have hS4 := HS.out.below ((Below.refl wr.heap.size wr).alloc (Nat.le_refl _) (.cells #[.string (S lab), .int .i64 x.k, .int .i64 x.n, .string (S x.s), .slice p1 x.its.length cap1, .slice q1 x.mem.length caq1] 43))
     clear hlab d0 d1 d2 d3 d4 hx hot hoj hod hol hcap
     go_upto_region 7 with fail
     generalize wr.alloc (.cells #[.string (S lab), .int .i64 x.k, .int .i64 x.n, .string (S x.s), .slice p1 x.its.length cap1, .slice q1 x.mem.length caq1] 43) = W4 at hN hS4 ⊢
     have HN := Lib.hid hN
     have HS4 := Lib.hid hS4
     clear hN hS4 g0 g1 g2 g3 g4 g5
     have n0 := HN.out.cell 0
     have n1 := HN.out.cell 1
     have n2 := HN.out.cell 2
     have n3 := HN.out.cell 3
     have n4 := HN.out.cell 4
     have n5 := HN.out.cell 5
     simp at n0 n1 n2 n3 n4 n5
     have hnl := HN.out.lt
     go_wp2_with fail
     refine (HON.out _ HS4.out.2).mono ?_
     rintro e w5 ⟨rfl, hb⟩
     have HS5 := Lib.hid (HS4.out.below hb)
     have HN5 := Lib.hid (HN.out.below hb)
     clear hb HS4 HN n0 n1 n2 n3 n4 n5 hnl
     have n0 := HN5.out.cell 0
     have n1 := HN5.out.cell 1
     have n2 := HN5.out.cell 2
     have n3 := HN5.out.cell 3
     have n4 := HN5.out.cell 4
     have n5 := HN5.out.cell 5
     simp at n0 n1 n2 n3 n4 n5
     have hnl := HN5.out.lt
     go_wp2_with fail
     refine (HON.out _ HS5.out.2).mono ?_
     rintro e w6 ⟨rfl, hb⟩
     have HS6 := Lib.hid (HS5.out.below hb)
     clear hb HS5 HN5 n0 n1 n2 n3 n4 n5 hnl HON
     go_wp2_with fail
     go_roundw
     case rel => exact ⟨i + 1, by rw [HST.out.1], by rw [HST.out.2], by go_num, hlt, HS6⟩
     case measure => simp [intOf]; omega
   · obtain rfl : i = d.mem.length := by omega
     have t1 : (f d.mem.length == f d.mem.length) = true := beq_self_eq_true _
     have HS0 := HS
     clear HS
     obtain ⟨c0, c1, c2, c3, c4, hlw⟩ := HS0.out.cells
     clear HSS HSL HTL
     go_wp2_with fail
     refine (HTX.out _ HS0.out.2).mono ?_
     rintro e w1 ⟨rfl, hb⟩
     have HS1 := Lib.hid (HS0.out.below hb)
     clear hb c0 c1 c2 c3 c4 hlw HS0
     obtain ⟨c0, c1, c2, c3, c4, hlw⟩ := HS1.out.cells
     go_wp2_with fail
     refine (HPX.out _ HS1.out.2).mono ?_
     rintro e v2 hp
     obtain ⟨xp, xc, yp, yc, rfl, hr, hb⟩ := hp.open
     simp only at hr ⊢
     have hn := val_two v2 #[.int .i64 d.k, .int .i64 d.n, .string (S d.s), .slice xp d.its.length xc, .slice yp d.mem.length yc] #[.int .i64 (en : Int), .int .i64 (ep : Int)] 25 33
     have hS5 := (HS1.out.below hb).below hn.2.2
     have hx5 := hr.under hn.2.2
     clear hr hp hb c0 c1 c2 c3 c4 hlw HS1 HPX
     go_upto_region 12 with fail
     generalize (v2.alloc (.cells #[.int .i64 d.k, .int .i64 d.n, .string (S d.s), .slice xp d.its.length xc, .slice yp d.mem.length yc] 25)).alloc (.cells #[.int .i64 (en : Int), .int .i64 (ep : Int)] 33) = w2 at hn hS5 hx5 ⊢
     have HS2 := Lib.hid hS5
     have HX5 := Lib.hid hx5
     have HF5 := Lib.hid (And.intro hn.1 hn.2.1)
     clear hS5 hx5 hn
     obtain ⟨c0, c1, c2, c3, c4, hlw⟩ := HS2.out.cells
     have b0 := HF5.out.1.cell 0
     have b1 := HF5.out.1.cell 1
     have b2 := HF5.out.1.cell 2
     have b3 := HF5.out.1.cell 3
     have b4 := HF5.out.1.cell 4
     have f0 := HF5.out.2.cell 0
     have f1 := HF5.out.2.cell 1
     simp at b0 b1 b2 b3 b4 f0 f1
     have hbl := HF5.out.1.lt
     have hfl := HF5.out.2.lt
     go_wp2_with fail
     refine (dSame_any (SizeOf.sizeOf d + 1) d d (Nat.lt_succ_self _) _ _ _ _ _ _ _ HX5.out (HREP.out.under HS2.out.2) HLIM.out HLIM.out).mono ?_
     rintro e w3 ⟨r, rfl, hr, hb⟩
     obtain rfl : r = true := hr.2 rfl
     have HS3 := Lib.hid (HS2.out.below hb)
     clear hr hb c0 c1 c2 c3 c4 hlw b0 b1 b2 b3 b4 f0 f1 hbl hfl HS2
     obtain ⟨c0, c1, c2, c3, c4, hlw⟩ := HS3.out.cells
     go_wp2_with fail
     refine (HAL.out _ HS3.out.2).mono ?_
     rintro e w4 ⟨rfl, hb⟩
     have HB9 := Lib.hid (HS3.out.2.trans (hb.mono HS3.out.2.size))
     clear hb c0 c1 c2 c3 c4 hlw HS3
     go_wp2_with fail
     go_ret
     exact ⟨rfl, HB9.out⟩
end
end Go.Proofs.YtdalfkklkeblaaaGreatDoor
