/- Walk of the specification's Interp: the parts of an interpolated string, or the offset of the first fault. -/
import Derived.Test.YtadbilonialjnaaGreatDoorTkU
import Derived.Test.YtadbilonialjnaaGreatDoorTkE
namespace Go.Proofs.YtadbilonialjnaaGreatDoor
open Go.RowKit

theorem infoRPrt : (Tryz.prog.info? 85).map (fun i => (i.zero, i.size, i.bytes)) = some (some (.agg #[.string ⟨#[]⟩, .bool false, .int .i64 0]), 3, 32) := by kernel_rfl
theorem own_ne {W : World} {b B : Nat} {e : TypeId} {s : Nat} {v : Value} {k : Nat} {xs : List Value} (h : W.ownsRow b e s v k xs) (hb : B < b) : some B ≠ v.ownBlock := by
  intro ej
  have := (own_base h B ej.symm).1
  omega
theorem own_below2 {B b : Nat} {w0 W w1 : World} {e : TypeId} {size : Nat} {v : Value} {k : Nat} {xs : List Value} {o : Obj} (hB : Below B w0 W) (h : W.ownsRow b e size v k xs) (hb : B ≤ b) (hgrow : (W.alloc o).grownBy w1 v.ownBlock)
    (hs : B ≤ W.heap.size) : Below B w0 w1 :=
  (hB.alloc hs _).grown hgrow (by simp; omega) (fun j ej => Nat.le_trans hb (own_base h j ej).1)
/-- what the specification's Interp answers -/
def RIntR (l : List UInt8) (w : World) (e : Ending) (w' : World) : Prop :=
  Below w.heap.size w w' ∧
  match interpL l with
  | .error i => e = .returned (.tuple #[.slice none 0 0, .agg #[.int .i64 8, .int .i64 (i : Int)]])
  | .ok ps => ∃ v, e = .returned (.tuple #[v, .agg #[.int .i64 0, .int .i64 0]]) ∧ w'.ownsRow w.heap.size 85 3 v ps.length (flatP ps)
theorem rret_err {l : List UInt8} {w w' : World} {i : Nat} (h : interpL l = .error i) (hb : Below w.heap.size w w') : RIntR l w (.returned (.tuple #[.slice none 0 0, .agg #[.int .i64 8, .int .i64 (i : Int)]])) w' := by
  refine ⟨hb, ?_⟩; rw [h]
theorem rret_ok {l : List UInt8} {w w' : World} {v : Value} {ps : List Prt} (h : interpL l = .ok ps) (hb : Below w.heap.size w w') (ho : w'.ownsRow w.heap.size 85 3 v ps.length (flatP ps)) : RIntR l w (.returned (.tuple #[v, .agg #[.int .i64 0, .int .i64 0]])) w' := by
  refine ⟨hb, ?_⟩; rw [h]; exact ⟨v, rfl, ho⟩
/-- the blocks of the specification's Interp: the fault, the parts -/
structure RiS (N : Nat) (w W : World) (vo : Value) (out : List Prt) : Prop where
  ft : Blk W N #[.int .i64 0, .int .i64 0] 26
  oo : W.ownsRow (N + 1) 85 3 vo out.length (flatP out)
  bel : Below N w W
theorem RiS.lt {N : Nat} {w W : World} {vo : Value} {out : List Prt} (h : RiS N w W vo out) : N < W.heap.size := h.ft.lt
theorem RiS.step {N : Nat} {w W W' : World} {vo : Value} {out : List Prt} (h : RiS N w W vo out) (hb : Below W.heap.size W W') : RiS N w W' vo out :=
  ⟨h.ft.below hb, own_under h.oo hb, h.bel.trans (hb.mono (Nat.le_of_lt h.lt))⟩
theorem RiS.alloc {N : Nat} {w W : World} {vo : Value} {out : List Prt} (h : RiS N w W vo out) (o : Obj) : RiS N w (W.alloc o) vo out :=
  h.step ((Below.refl _ _).alloc (Nat.le_refl _) _)
theorem RiS.app {N : Nat} {w W : World} {vo : Value} {out : List Prt} {o : Obj} {v' : Value} {w1 : World} (h : RiS N w W vo out) (x : Prt) (hg : (W.alloc o).grownBy w1 vo.ownBlock)
    (ho : w1.ownsRow (N + 1) 85 3 v' (out.length + 1) (flatP out ++ [.string (S x.t), .bool x.c, .int .i64 (x.p : Int)])) : RiS N w w1 v' (out ++ [x]) :=
  ⟨(h.ft.alloc _).kept hg (own_ne h.oo (Nat.lt_succ_self _)), by rw [flatP_snoc, List.length_append]; exact ho, own_below2 h.bel h.oo (Nat.le_succ _) hg (Nat.le_of_lt h.lt)⟩
theorem RiS.start (w : World) : RiS w.heap.size w (w.alloc (.cells #[.int .i64 0, .int .i64 0] 26)) (.slice none 0 0) [] :=
  ⟨Blk.new w _ _, ⟨rfl, .inl ⟨rfl, rfl⟩⟩, (Below.refl _ _).alloc (Nat.le_refl _) _⟩
theorem tkInt_pc {l : List UInt8} {i f : Nat} {text : List UInt8} {fr : Nat} {out : List Prt} (h : i < l.length) (hn : ¬ (byt l i = 92 ∧ i + 1 < l.length ∧ byt l (i + 1) = 40)) :
    tkInt (f + 1) (l.drop i) i text fr out = if (pieceL (l.drop i)).2 = 0 then .error i else tkInt f (l.drop (i + (pieceL (l.drop i)).2)) (i + (pieceL (l.drop i)).2) (text ++ [(pieceL (l.drop i)).1]) (if text = [] then i else fr) out := by
  rw [drop_byt l i h, tkInt_piece]
  · rw [← drop_byt l i h, List.drop_drop]
  · rintro ⟨h1, h2⟩
    by_cases h3 : i + 1 < l.length
    · rw [head_byt h3] at h2; exact hn ⟨h1, h3, by injection h2⟩
    · rw [List.drop_of_length_le (by omega)] at h2; simp at h2
theorem code_off {l : List UInt8} {i : Nat} (h40 : byt l (i + 1) = 40) : codeA (l.drop (i + 2)) (i + 2) 1 = (codeA (l.drop (i + 1)) 0 0).map (· + (i + 1)) := by
  have e := codeA_zero (t := l.drop (i + 1)) (by rw [byt_drop]; exact h40)
  rw [← e, List.drop_drop, show i + 1 + 1 = i + 2 by omega, ← codeA_shift (i + 1) (l.drop (i + 2)) 1 1, show 1 + (i + 1) = i + 2 by omega]
theorem sl_code (l : List UInt8) (i j : Nat) : sl (l.drop (i + 1)) 1 (j + 1) = sl l (i + 2) (i + 2 + j) := by
  unfold sl; rw [List.drop_drop, show i + 1 + 1 = i + 2 by omega, show i + 2 + j - (i + 2) = j + 1 - 1 by omega]
theorem flushP_zero {text : List UInt8} (h : text.length = 0) (fr : Nat) (out : List Prt) : flushP text fr out = out := by
  rw [List.eq_nil_of_length_eq_zero h, flushP_nil]

set_option maxRecDepth 100000 in
set_option maxHeartbeats 4000000 in
theorem refInterp_any (l : List UInt8) (hl : l.length ≤ 60000) (w : World) : Calls Tryz.prog 42 #[.string (S l)] w (RIntR l w) := by
  obtain ⟨iP, hiP, hzP0, hzP1, hzP2⟩ := info_parts infoRPrt
  go_enter Tryz.func42, Tryz.ntmps42
  go_wp2_with fail
  have HI := Lib.hid (RiS.start w)
  generalize w.alloc (.cells #[.int .i64 0, .int .i64 0] 26) = w0 at *
  obtain ⟨N, hN⟩ : ∃ N, w.heap.size = N := ⟨_, rfl⟩
  rw [hN] at HI ⊢
  have HN := Lib.hid hN
  clear hN
  go_loopw [4, 5, 6, 7] (fun vo x y z wr => ∃ (i fr f from_ : Nat) (text : List UInt8) (out : List Prt), x = .string (S text) ∧ y = .int .i64 (from_ : Int) ∧ z = .int .i64 (i : Int) ∧ i ≤ l.length ∧ from_ + text.length ≤ i ∧ out.length ≤ i ∧ (text.length = 0 → from_ = i) ∧ Hid ((0 < text.length → fr = from_) ∧ RiS N w wr vo out ∧ interpL l = tkInt f (l.drop i) i text fr out ∧ l.length - i ≤ f)) (fun _ _ _ z _ => l.length - (intOf z).toNat)
  case atStart => exact ⟨0, 0, l.length, 0, [], [], rfl, rfl, rfl, by omega, by simp, by simp, fun _ => rfl, Lib.hid ⟨fun h => absurd h (by simp), HI.out, rfl, by omega⟩⟩
  case round =>
    clear HI w0
    obtain ⟨i, fr, f, from_, text, out, rfl, rfl, rfl, hi, hft, hou, h0i, HR⟩ := hrel
    obtain ⟨hfr, hS, hq, hf⟩ := HR.out
    clear HR
    have HS := Lib.hid hS
    have HQ := Lib.hid hq
    have HFR := Lib.hid hfr
    have d0 := hS.ft.cell 0
    have d1 := hS.ft.cell 1
    have g0 := hS.ft.frozen 0
    have g1 := hS.ft.frozen 1
    have hsz := hS.lt
    clear hq hfr hS
    by_cases hlt : i < l.length
    · obtain ⟨g, rfl⟩ : ∃ g, f = g + 1 := ⟨f - 1, by omega⟩
      have b0 : (0 : Int) ≤ (i : Int) := by omega
      have b1 : (i : Int) < (l.length : Int) := by omega
      by_cases hcd : byt l i = 92 ∧ i + 1 < l.length ∧ byt l (i + 1) = 40
      · obtain ⟨h92, hi1, h40⟩ := hcd
        have T : (((byt l i).toNat : Int) == 92) = true := byte_test (d := 92) h92
        have T2 : (((byt l (i + 1)).toNat : Int) == 40) = true := byte_test (d := 40) h40
        have hq := HQ.out.trans (tkInt_code hlt h92 hi1 h40)
        have HC := Lib.hid (code_off (l := l) h40)
        obtain ⟨o, ho⟩ : ∃ o, codeA (l.drop (i + 1)) 0 0 = o := ⟨_, rfl⟩
        rw [ho] at hq HC
        have h1 : o = none ∨ ∃ j, o = some (j + 1) ∧ i + 2 + j < l.length := by
          cases o with
          | none => exact .inl rfl
          | some j =>
            right
            have hm0 : byt (l.drop (i + 1)) 0 = 40 := by rw [byt_drop]; exact h40
            have hb := codeA_le _ _ _ _ ho
            rw [← codeA_zero hm0] at ho
            have hb2 := codeA_le _ _ _ _ ho
            rw [List.length_drop] at hb
            obtain ⟨j, rfl⟩ : ∃ k, j = k + 1 := ⟨j - 1, by omega⟩
            exact ⟨j, rfl, by omega⟩
        clear h92 h40 ho
        rcases h1 with rfl | ⟨j, rfl, hj⟩
        · have HN2 := Lib.hid hq
          clear hq
          go_wp2_with fail
          refine (closing_any l (by omega) (i + 2) _).mono ?_
          rintro e w' ⟨rfl, rfl⟩
          rw [HC.out]
          simp only [Option.map_none, closeV]
          go_wp2_with fail
          exact bodyPost_ret (v := .tuple #[.slice none 0 0, .agg #[.int .i64 8, .int .i64 (i : Int)]]) (by simp [results, Tryz.results42, go_sem, d0, d1]) rfl (rret_err HN2.out (by rw [HN.out]; exact (HS.out.bel.setCell (by show N ≤ N; omega) _).setCell (by show N ≤ N; omega) _))
        · have HN2 := Lib.hid (show interpL l = tkInt g (l.drop (i + 2 + j + 1)) (i + 2 + j + 1) [] (if text = [] then i else fr) (flushP text (if text = [] then i else fr) out ++ [⟨sl l (i + 2) (i + 2 + j), true, i + 2⟩]) by
            rw [hq]; simp only; rw [sl_code, show i + (j + 1 + 2) = i + 2 + j + 1 by omega])
          have HV := Lib.hid (show closeV (codeA (l.drop (i + 2)) (i + 2) 1) = ((i + 2 + j : Nat) : Int) by rw [HC.out]; simp only [Option.map_some, closeV]; omega)
          clear hq HC
          have hsl := sl_len l (i + 2) (i + 2 + j) (by omega) (by omega)
          by_cases h0 : text.length = 0
          · have hfi := h0i h0
            subst hfi
            have HN3 := Lib.hid (show interpL l = tkInt g (l.drop (from_ + 2 + j + 1)) (from_ + 2 + j + 1) [] (if text = [] then from_ else fr) (out ++ [⟨sl l (from_ + 2) (from_ + 2 + j), true, from_ + 2⟩]) by rw [HN2.out, flushP_zero h0])
            clear h0 h0i hft HN2
            go_wp2_with fail
            refine (closing_any l (by omega) (from_ + 2) _).mono ?_
            rintro e w' ⟨rfl, rfl⟩
            rw [HV.out]
            go_wp2_with (at_builtin; refine wpList_append_own _ rfl _ _ 76 rfl (N + 1) 85 iP (.agg #[.string ⟨#[]⟩, .bool false, .int .i64 0]) 3 32 Tryz.underlying76 hiP hzP0 hzP1 hzP2 rfl (by decide) _ _ _ rfl (HS.out.alloc _).oo ⟨wr.heap.size, 0, none⟩ 1 1 [.string (S (sl l (from_ + 2) (from_ + 2 + j))), .bool true, .int .i64 ((from_ : Int) + 2)] rfl rfl (cells_new wr _ _) (by simp [Value.oneCell']) (by unfold maxLen; omega) (by omega) (by simp; omega) ?_; intro v' w3 hown' hgrow _; have HS3 := Lib.hid (HS.out.app ⟨sl l (from_ + 2) (from_ + 2 + j), true, from_ + 2⟩ hgrow hown'); clear hgrow hown')
            go_roundw
            case rel => exact ⟨from_ + 2 + j + 1, _, g, from_ + 2 + j + 1, [], _, rfl, by go_num, by go_num, by omega, by simp, by rw [List.length_append]; simp; omega, fun _ => rfl, Lib.hid ⟨fun h => absurd h (by simp), HS3.out, HN3.out, by omega⟩⟩
            case measure => simp [intOf]; omega
          · have hfp := HFR.out (by omega)
            subst hfp
            have hne : ¬ text = [] := fun e => h0 (by rw [e]; rfl)
            have HN3 := Lib.hid (show interpL l = tkInt g (l.drop (i + 2 + j + 1)) (i + 2 + j + 1) [] fr ((out ++ [⟨text, false, fr⟩]) ++ [⟨sl l (i + 2) (i + 2 + j), true, i + 2⟩]) by rw [HN2.out, if_neg hne, flushP_some (by omega)])
            have hfl : (fr : Int) < (i : Int) := by omega
            clear h0 h0i HN2 hne HFR
            go_wp2_with fail
            refine (closing_any l (by omega) (i + 2) _).mono ?_
            rintro e w' ⟨rfl, rfl⟩
            rw [HV.out]
            go_upto_region 11 with (at_builtin; refine wpList_append_own _ rfl _ _ 76 rfl (N + 1) 85 iP (.agg #[.string ⟨#[]⟩, .bool false, .int .i64 0]) 3 32 Tryz.underlying76 hiP hzP0 hzP1 hzP2 rfl (by decide) _ _ _ rfl (HS.out.alloc _).oo ⟨wr.heap.size, 0, none⟩ 1 1 [.string (S text), .bool false, .int .i64 (fr : Int)] rfl rfl (cells_new wr _ _) (by simp [Value.oneCell']) (by unfold maxLen; omega) (by omega) (by simp; omega) ?_; intro v2 w2 hown' hgrow _; have HS2 := Lib.hid (HS.out.app ⟨text, false, fr⟩ hgrow hown'); clear hgrow hown' d0 d1 g0 g1 hsz; have hsz := HS2.out.lt)
            go_wp2_with (at_builtin; refine wpList_append_own _ rfl _ _ 76 rfl (N + 1) 85 iP (.agg #[.string ⟨#[]⟩, .bool false, .int .i64 0]) 3 32 Tryz.underlying76 hiP hzP0 hzP1 hzP2 rfl (by decide) _ _ _ rfl (HS2.out.alloc _).oo ⟨w2.heap.size, 0, none⟩ 1 1 [.string (S (sl l (i + 2) (i + 2 + j))), .bool true, .int .i64 ((i : Int) + 2)] rfl rfl (cells_new w2 _ _) (by simp [Value.oneCell']) (by unfold maxLen; simp; omega) (by simp; omega) (by simp; omega) ?_; intro v' w3 hown' hgrow _; have HS3 := Lib.hid (HS2.out.app ⟨sl l (i + 2) (i + 2 + j), true, i + 2⟩ hgrow hown'); clear hgrow hown')
            go_roundw
            case rel => exact ⟨i + 2 + j + 1, _, g, i + 2 + j + 1, [], _, rfl, by go_num, by go_num, by omega, by simp, by simp; omega, fun _ => rfl, Lib.hid ⟨fun h => absurd h (by simp), HS3.out, HN3.out, by omega⟩⟩
            case measure => simp [intOf]; omega
      · have hW : (((byt l i).toNat : Int) == 92) = false ∨ ((((byt l i).toNat : Int) == 92) = true ∧ l.length ≤ i + 1) ∨ ((((byt l i).toNat : Int) == 92) = true ∧ i + 1 < l.length ∧ (((byt l (i + 1)).toNat : Int) == 40) = false) := by
          by_cases h92 : byt l i = 92
          · by_cases h1 : i + 1 < l.length
            · exact .inr (.inr ⟨byte_test (d := 92) h92, h1, u8_ne (d := 40) fun e => hcd ⟨h92, h1, e⟩⟩)
            · exact .inr (.inl ⟨byte_test (d := 92) h92, by omega⟩)
          · exact .inl (u8_ne (d := 92) h92)
        have hq := HQ.out.trans (tkInt_pc hlt hcd)
        have hple := piece_le (l.drop i)
        rw [List.length_drop] at hple
        have HY := Lib.hid (piece_yes (l.drop i))
        have HP := Lib.hid (piece_any l (by omega) i hlt)
        obtain ⟨⟨b, n⟩, hpc⟩ : ∃ r, pieceL (l.drop i) = r := ⟨_, rfl⟩
        rw [hpc] at hq hple HY HP
        simp only at hq hple HY HP
        clear hcd hpc
        by_cases hn : n = 0
        · subst hn
          rw [if_pos rfl] at hq
          have HN2 := Lib.hid hq
          clear hq HY hple
          rcases hW with T1 | ⟨T1, T2⟩ | ⟨T1, T2, T3⟩
          all_goals
            go_wp2_with fail
            refine (HP.out _).mono ?_
            rintro e w1 ⟨rfl, hb1⟩
            have HS1 := Lib.hid (HS.out.step hb1)
            clear hb1 d0 d1 g0 g1
            have d0 := HS1.out.ft.cell 0
            have d1 := HS1.out.ft.cell 1
            have g0 := HS1.out.ft.frozen 0
            have g1 := HS1.out.ft.frozen 1
            go_wp2_with fail
            exact bodyPost_ret (v := .tuple #[.slice none 0 0, .agg #[.int .i64 8, .int .i64 (i : Int)]]) (by simp [results, Tryz.results42, go_sem, d0, d1]) rfl (rret_err HN2.out (by rw [HN.out]; exact (HS1.out.bel.setCell (by show N ≤ N; omega) _).setCell (by show N ≤ N; omega) _))
        · rw [if_neg hn] at hq
          have HN2 := Lib.hid hq
          have hn0 : ((n : Int) == 0) = false := beq_eq_false_iff_ne.2 (by omega)
          have hn1 : 0 < n := by omega
          have HY2 := Lib.hid (HY.out (by omega))
          have HV := Lib.hid (piece_str l i n (by omega))
          have hsl := sl_len l i (i + n) (by omega) (by omega)
          have hsl2 : (ct (ct [34] (sl l i (i + n))) [34]).length ≤ 1000000 := by simp [ct, hsl]; omega
          have c1 : (i : Int) ≤ (i : Int) + (n : Int) := by omega
          have c2 : (i : Int) + (n : Int) ≤ (l.length : Int) := by omega
          have e1 : ((i : Int) + (n : Int)).toNat = i + n := by omega
          clear hq HY hn
          rcases hW with T1 | ⟨T1, T2⟩ | ⟨T1, T2, T3⟩
          all_goals
            go_wp2_with fail
            refine (HP.out _).mono ?_
            rintro e w1 ⟨rfl, hb1⟩
            have HS1 := Lib.hid (HS.out.step hb1)
            clear hb1
            go_wp2_with fail
            refine (refUnquote_any (ct (ct [34] (sl l i (i + n))) [34]) hsl2 _).mono ?_
            rintro e w2 ⟨rfl, hb2⟩
            rw [HV.out, HY2.out]
            have HS2 := Lib.hid (HS1.out.step hb2)
            clear hb2
            unfold uqVal
            go_wp2_with fail
            go_roundw
            case rel => exact ⟨i + n, _, g, from_, text ++ [b], out, rfl, rfl, by go_num, by omega, by simp; omega, by omega, fun h => absurd h (by simp), Lib.hid ⟨fun _ => (by
              by_cases h0 : text = []
              · rw [if_pos h0]; exact (h0i (by rw [h0]; rfl)).symm
              · rw [if_neg h0]; exact HFR.out (List.length_pos_iff.2 h0)), by have h := HS2.out; first | exact h.step (by go_grown) | exact h, HN2.out, by omega⟩⟩
            case measure => simp [intOf]; omega
    · have hil : i = l.length := by omega
      subst hil
      have hq := HQ.out.trans (tkInt_end (Nat.le_refl _))
      by_cases h0 : text.length = 0
      · have hfi := h0i h0
        subst hfi
        rw [flushP_zero h0] at hq
        have HN2 := Lib.hid hq
        clear hq h0 h0i
        go_wp2_with fail
        exact bodyPost_ret (v := .tuple #[u4, .agg #[.int .i64 0, .int .i64 0]]) (by simp [results, Tryz.results42, go_sem, d0, d1]) rfl (rret_ok HN2.out (by rw [HN.out]; exact (HS.out.bel.setCell (by show N ≤ N; omega) _).setCell (by show N ≤ N; omega) _) (own_lower (ownsRow_setCell_other (ownsRow_setCell_other HS.out.oo (own_not HS.out.oo HS.out.ft (by decide)) (.int .i64 0) (a := ⟨N, 0, none⟩)) (own_not HS.out.oo HS.out.ft (by decide)) (.int .i64 0) (a := ⟨N, 1, none⟩)) (by rw [HN.out]; omega)))
      · rw [flushP_some (by omega)] at hq
        have hfp := HFR.out (by omega)
        subst hfp
        have HN2 := Lib.hid hq
        have hfl : (fr : Int) < (l.length : Int) := by omega
        clear hq h0 h0i HFR
        go_wp2_with (at_builtin; refine wpList_append_own _ rfl _ _ 76 rfl (N + 1) 85 iP (.agg #[.string ⟨#[]⟩, .bool false, .int .i64 0]) 3 32 Tryz.underlying76 hiP hzP0 hzP1 hzP2 rfl (by decide) _ _ _ rfl (HS.out.alloc _).oo ⟨wr.heap.size, 0, none⟩ 1 1 [.string (S text), .bool false, .int .i64 (fr : Int)] rfl rfl (cells_new wr _ _) (by simp [Value.oneCell']) (by unfold maxLen; omega) (by omega) (by simp; omega) ?_; intro v2 w2 hown' hgrow _; have HS2 := Lib.hid (HS.out.app ⟨text, false, fr⟩ hgrow hown'); clear hgrow hown' d0 d1 g0 g1 hsz; have hsz := HS2.out.lt; have d0 := HS2.out.ft.cell 0; have d1 := HS2.out.ft.cell 1; have g0 := HS2.out.ft.frozen 0; have g1 := HS2.out.ft.frozen 1)
        exact bodyPost_ret (v := .tuple #[v2, .agg #[.int .i64 0, .int .i64 0]]) (by simp [results, Tryz.results42, go_sem, d0, d1]) rfl (rret_ok HN2.out (by rw [HN.out]; exact (HS2.out.bel.setCell (by show N ≤ N; omega) _).setCell (by show N ≤ N; omega) _) (own_lower (ownsRow_setCell_other (ownsRow_setCell_other HS2.out.oo (own_not HS2.out.oo HS2.out.ft (by decide)) (.int .i64 0) (a := ⟨N, 0, none⟩)) (own_not HS2.out.oo HS2.out.ft (by decide)) (.int .i64 0) (a := ⟨N, 1, none⟩)) (by rw [HN.out]; omega)))
end Go.Proofs.YtadbilonialjnaaGreatDoor
