/- The program's Interp: the parts of an interpolated string, or the offset of the first fault. -/
import Derived.StillTailTactics
import Derived.Deep.RegionHeld3
import Derived.Deep.AppendLies
import Derived.Deep.RegionLaw
import Derived.Test.YtadbilonialjnaaGreatDoorTkD
namespace Go.Proofs.YtadbilonialjnaaGreatDoor
open Go.RowKit

theorem own_lower {W : World} {b b' : Nat} {e : TypeId} {s : Nat} {v : Value} {k : Nat} {xs : List Value} (h : W.ownsRow b e s v k xs) (hb : b' ≤ b) : W.ownsRow b' e s v k xs := by
  refine ⟨h.1, ?_⟩
  rcases h.2 with hn | ⟨g, cap, cur, rfl, hb0, hr⟩
  · exact .inl hn
  · exact .inr ⟨g, cap, cur, rfl, by omega, hr⟩
/-- what Interp answers -/
def IntR (l : List UInt8) (w : World) (e : Ending) (w' : World) : Prop :=
  Below w.heap.size w w' ∧
  match interpL l with
  | .error i => e = .returned (.tuple #[.slice none 0 0, .agg #[.int .i64 8, .int .i64 (i : Int)]])
  | .ok ps => ∃ v, e = .returned (.tuple #[v, .agg #[.int .i64 0, .int .i64 0]]) ∧ w'.ownsRow w.heap.size 37 3 v ps.length (flatP ps)
theorem ErrOk.underB {w w' : World} (h : ErrOk w) (hb : Below w.heap.size w w') : ErrOk w' := h.below hb
theorem flushP_le (text : List UInt8) (fr : Nat) (out : List Prt) : (flushP text fr out).length ≤ out.length + 1 := by
  unfold flushP; split <;> simp
theorem sl_end (l : List UInt8) (a : Nat) : sl l a l.length = l.drop a := by unfold sl; rw [List.take_of_length_le]; rw [List.length_drop]; omega
theorem codeA_zero {t : List UInt8} (h : byt t 0 = 40) : codeA (t.drop 1) 1 1 = codeA t 0 0 := by
  cases t with
  | nil => simp [byt] at h
  | cons c t => have : c = 40 := h; subst this; simp [codeA]
theorem head_byt {l : List UInt8} {k : Nat} (h : k < l.length) : (l.drop k).head? = some (byt l k) := by rw [drop_byt l k h]; rfl
theorem flushP_from (text : List UInt8) (i fr : Nat) (out : List Prt) : flushP text (if text = [] then i else fr) out = flushP text fr out := by
  unfold flushP; split <;> rfl
theorem byt_drop (l : List UInt8) (a k : Nat) : byt (l.drop a) k = byt l (a + k) := by simp [byt, List.getD, List.getElem?_drop]
theorem tkInt_code {l : List UInt8} {i f : Nat} {text : List UInt8} {fr : Nat} {out : List Prt} (h : i < l.length) (h92 : byt l i = 92) (h1 : i + 1 < l.length) (h40 : byt l (i + 1) = 40) :
    tkInt (f + 1) (l.drop i) i text fr out = match codeA (l.drop (i + 1)) 0 0 with
      | none => .error i
      | some j => tkInt f (l.drop (i + (j + 2))) (i + (j + 2)) [] (if text = [] then i else fr) (flushP text (if text = [] then i else fr) out ++ [⟨sl (l.drop (i + 1)) 1 j, true, i + 2⟩]) := by
  rw [drop_byt l i h, tkInt, if_pos ⟨h92, by rw [head_byt h1, h40]⟩, codeA_zero (by rw [byt_drop]; exact h40), flushP_from]
  cases codeA (l.drop (i + 1)) 0 0 with
  | none => rfl
  | some j =>
    simp only
    rw [List.drop_drop, show i + 1 + (j + 1) = i + (j + 2) by omega, show ((l.drop (i + 1)).take j).drop 1 = sl (l.drop (i + 1)) 1 j by unfold sl; rw [List.drop_take]]
theorem tkInt_esc {l : List UInt8} {i f : Nat} {text : List UInt8} {fr : Nat} {out : List Prt} (h : i < l.length) (h92 : byt l i = 92) (h40 : ¬ (i + 1 < l.length ∧ byt l (i + 1) = 40)) :
    tkInt (f + 1) (l.drop i) i text fr out = if (unesc (l.drop i)).2 = 0 then .error i else tkInt f (l.drop (i + (unesc (l.drop i)).2)) (i + (unesc (l.drop i)).2) (text ++ [(unesc (l.drop i)).1]) (if text = [] then i else fr) out := by
  rw [drop_byt l i h, tkInt, if_neg, if_pos h92, ← drop_byt l i h, List.drop_drop]
  rintro ⟨_, hh⟩
  by_cases h1 : i + 1 < l.length
  · rw [head_byt h1] at hh; exact h40 ⟨h1, by injection hh⟩
  · rw [List.drop_of_length_le (by omega)] at hh; simp at hh
theorem tkInt_bad {l : List UInt8} {i f : Nat} {text : List UInt8} {fr : Nat} {out : List Prt} (h : i < l.length) (h92 : ¬ byt l i = 92) (hb : byt l i < 32 ∨ 126 < byt l i ∨ byt l i = 34) :
    tkInt (f + 1) (l.drop i) i text fr out = .error i := by
  rw [drop_byt l i h, tkInt, if_neg (fun e => h92 e.1), if_neg h92, if_pos hb]
theorem tkInt_reg {l : List UInt8} {i f : Nat} {text : List UInt8} {fr : Nat} {out : List Prt} (h : i < l.length) (h92 : ¬ byt l i = 92) (hb : ¬ (byt l i < 32 ∨ 126 < byt l i ∨ byt l i = 34)) :
    tkInt (f + 1) (l.drop i) i text fr out = tkInt f (l.drop (i + 1)) (i + 1) (text ++ [byt l i]) (if text = [] then i else fr) out := by
  rw [drop_byt l i h, tkInt, if_neg (fun e => h92 e.1), if_neg h92, if_neg hb]
theorem tkInt_end {l : List UInt8} {i f : Nat} {text : List UInt8} {fr : Nat} {out : List Prt} (h : l.length ≤ i) : tkInt f (l.drop i) i text fr out = .ok (flushP text fr out) := by
  rw [List.drop_of_length_le h]; cases f <;> rfl
theorem pre_code {l : List UInt8} {i : Nat} (h : i + 1 < l.length) (h92 : byt l i = 92) (h40 : byt l (i + 1) = 40) : Lib.hasPrefix (sl l i l.length) [92, 40] = true := by
  rw [sl_end, drop_byt l i (by omega), drop_byt l (i + 1) h, h92, h40]; simp [Lib.hasPrefix, List.isPrefixOf]
theorem pre_nocode {l : List UInt8} {i : Nat} (h : i < l.length) (hn : ¬ (byt l i = 92 ∧ i + 1 < l.length ∧ byt l (i + 1) = 40)) : Lib.hasPrefix (sl l i l.length) [92, 40] = false := by
  rw [sl_end, drop_byt l i h]
  by_cases h1 : i + 1 < l.length
  · rw [drop_byt l (i + 1) h1]
    simp only [Lib.hasPrefix, List.isPrefixOf, Bool.and_true, Bool.and_eq_false_iff, beq_eq_false_iff_ne]
    by_cases h92 : byt l i = 92
    · right; intro e; exact hn ⟨h92, h1, e.symm⟩
    · left; intro e; exact h92 e.symm
  · rw [List.drop_of_length_le (by omega)]
    simp [Lib.hasPrefix, List.isPrefixOf]
theorem ret_err {l : List UInt8} {w w' : World} {i : Nat} (h : interpL l = .error i) (hb : Below w.heap.size w w') : IntR l w (.returned (.tuple #[.slice none 0 0, .agg #[.int .i64 8, .int .i64 (i : Int)]])) w' := by
  refine ⟨hb, ?_⟩; rw [h]
theorem ret_ok {l : List UInt8} {w w' : World} {v : Value} {ps : List Prt} (h : interpL l = .ok ps) (hb : Below w.heap.size w w') (ho : w'.ownsRow w.heap.size 37 3 v ps.length (flatP ps)) : IntR l w (.returned (.tuple #[v, .agg #[.int .i64 0, .int .i64 0]])) w' := by
  refine ⟨hb, ?_⟩; rw [h]; exact ⟨v, rfl, ho⟩
theorem InS.start (w : World) : InS w.heap.size [] 0 [] (.slice none 0 0) (.slice none 0 0) ((((w.alloc (.cells #[.int .i64 0, .int .i64 0] 26)).alloc (.cells #[.slice none 0 0] 33)).alloc (.cells #[.slice none 0 0] 45)).alloc (.cells #[.int .i64 0] 3)) := by
  have s1 : (w.alloc (.cells #[.int .i64 0, .int .i64 0] 26)).heap.size = w.heap.size + 1 := by simp
  have s2 : ((w.alloc (.cells #[.int .i64 0, .int .i64 0] 26)).alloc (.cells #[.slice none 0 0] 33)).heap.size = w.heap.size + 2 := by simp
  have s3 : (((w.alloc (.cells #[.int .i64 0, .int .i64 0] 26)).alloc (.cells #[.slice none 0 0] 33)).alloc (.cells #[.slice none 0 0] 45)).heap.size = w.heap.size + 3 := by simp
  have b1 := Blk.new (w.alloc (.cells #[.int .i64 0, .int .i64 0] 26)) #[.slice none 0 0] 33
  have b2 := Blk.new ((w.alloc (.cells #[.int .i64 0, .int .i64 0] 26)).alloc (.cells #[.slice none 0 0] 33)) #[.slice none 0 0] 45
  have b3 := Blk.new (((w.alloc (.cells #[.int .i64 0, .int .i64 0] 26)).alloc (.cells #[.slice none 0 0] 33)).alloc (.cells #[.slice none 0 0] 45)) #[.int .i64 0] 3
  rw [s1] at b1
  rw [s2] at b2
  rw [s3] at b3
  exact ⟨(((Blk.new w _ _).alloc _).alloc _).alloc _, (b1.alloc _).alloc _, b2.alloc _, b3, ⟨rfl, .inl ⟨rfl, rfl⟩⟩, ⟨rfl, .inl ⟨rfl, rfl⟩⟩⟩

set_option maxRecDepth 100000 in
set_option maxHeartbeats 4000000 in
theorem interp_any (l : List UInt8) (hl : l.length ≤ 1000000) (w : World) (hE : ErrOk w) : Calls Tryz.prog 8 #[.string (S l)] w (IntR l w) := by
  have HE := Lib.hid hE
  clear hE
  have hmf : ∀ (fn : Fn) (first cap : Array Value) (w : World), (Instr.makeFunc fn first cap).run Tryz.prog w = .ok (.func fn first cap) w := fun _ _ _ _ => rfl
  obtain ⟨iB, hiB, hzB0, hzB1, hzB2⟩ := info_parts infoU8
  obtain ⟨iP, hiP, hzP0, hzP1, hzP2⟩ := info_parts infoPrt
  go_enter Tryz.func8, Tryz.ntmps8
  go_wp2_with fail
  have HI := Lib.hid (InS.start w)
  have HB := Lib.hid (show Below w.heap.size w ((((w.alloc (.cells #[.int .i64 0, .int .i64 0] 26)).alloc (.cells #[.slice none 0 0] 33)).alloc (.cells #[.slice none 0 0] 45)).alloc (.cells #[.int .i64 0] 3)) from by go_grown)
  rw [show w.heap.size + 1 + 1 + 1 = w.heap.size + 3 from rfl, show w.heap.size + 1 + 1 = w.heap.size + 2 from rfl]
  generalize ((((w.alloc (.cells #[.int .i64 0, .int .i64 0] 26)).alloc (.cells #[.slice none 0 0] 33)).alloc (.cells #[.slice none 0 0] 45)).alloc (.cells #[.int .i64 0] 3)) = w0 at *
  obtain ⟨N, hN⟩ : ∃ N, w.heap.size = N := ⟨_, rfl⟩
  rw [hN] at HI HB ⊢
  have HN := Lib.hid hN
  clear hN
  go_loopw [8] (fun v wr => ∃ (i fr f : Nat) (text : List UInt8) (out : List Prt), v = .int .i64 (i : Int) ∧ i ≤ l.length ∧ text.length ≤ i ∧ out.length ≤ i ∧ Hid (Below N w wr ∧ InA N text fr out wr ∧ interpL l = tkInt f (l.drop i) i text fr out ∧ l.length - i ≤ f)) (fun v _ => l.length - (intOf v).toNat)
  case atStart => exact ⟨0, 0, l.length, [], [], rfl, by omega, by simp, by simp, Lib.hid ⟨HB.out, ⟨_, _, HI.out⟩, rfl, by omega⟩⟩
  case round =>
    clear HI HB w0
    obtain ⟨i, fr, f, text, out, rfl, hi, htx, hou, HR⟩ := hrel
    obtain ⟨hB, ⟨vo, vt, hS⟩, hq, hf⟩ := HR.out
    clear HR
    have HB := Lib.hid hB
    have HS := Lib.hid hS
    have HQ := Lib.hid hq
    clear hq hB
    obtain ⟨c1, f1, c2, f2, c3, f3⟩ := hS.cells
    have hsz := hS.lt
    by_cases hlt : i < l.length
    · obtain ⟨g, rfl⟩ : ∃ g, f = g + 1 := ⟨f - 1, by omega⟩
      obtain ⟨fr', hfr⟩ : ∃ fr', (if text = [] then i else fr) = fr' := ⟨_, rfl⟩
      have HFR := Lib.hid hfr
      clear hfr
      go_upto_region 7 with (fail)
      go_cut [20] (fun v wx => v = .bool (decide (text.length = 0)) ∧ wr = wx)
      case first =>
        rcases own_shape hS.ot with ⟨rfl, h0⟩ | ⟨gb, cap, rfl⟩
        · have hd : decide (text.length = 0) = true := decide_eq_true h0
          clear hS
          go_wp2_with fail
          go_meet
          exact ⟨by rw [hd], rfl⟩
        · clear hS
          go_wp2_with fail
          go_meet
          exact ⟨by congr 1; rw [Bool.eq_iff_iff]; simp, rfl⟩
      case rest =>
      obtain ⟨rfl, rfl⟩ := hcut
      go_upto_if 20 with (fail)
      go_cut [] (fun wx => Hid (Below N w wx ∧ InS N text fr' out vo vt wx))
      case first =>
        by_cases h0 : text.length = 0
        · obtain rfl := List.eq_nil_of_length_eq_zero h0
          clear hS
          go_wp2_with fail
          go_meet
          exact Lib.hid ⟨HB.out.setCell (by show N ≤ N + 3; omega) _, by rw [show fr' = i by have h := HFR.out; simp at h; exact h.symm]; exact HS.out.setF i⟩
        · have hd : decide (text.length = 0) = false := decide_eq_false h0
          clear hS
          go_wp2_with fail
          go_meet
          exact Lib.hid ⟨HB.out, by rw [show fr' = fr by rw [← HFR.out, if_neg (by intro e; rw [e] at h0; exact h0 rfl)]]; exact HS.out⟩
      case rest =>
        clear c1 f1 c2 f2 c3 f3 hS HS HB hsz
        obtain ⟨hB1, hS1⟩ := hcut.out
        have HB := Lib.hid hB1
        have HS := Lib.hid hS1
        obtain ⟨c1, f1, c2, f2, c3, f3⟩ := hS1.cells
        have d0 := hS1.ft.cell 0
        have d1 := hS1.ft.cell 1
        have g0 := hS1.ft.frozen 0
        have g1 := hS1.ft.frozen 1
        have hsz := hS1.lt
        clear hcut hB1 hS1
        have hsl := sl_len l i l.length hi (Nat.le_refl _)
        by_cases h92 : byt l i = 92
        · by_cases h40 : i + 1 < l.length ∧ byt l (i + 1) = 40
          · have HP := Lib.hid (pre_code h40.1 h92 h40.2)
            have hq := HQ.out.trans (tkInt_code hlt h92 h40.1 h40.2)
            rw [HFR.out] at hq
            have hm0 : byt (sl l (i + 1) l.length) 0 = 40 := by rw [sl_end, byt_drop]; exact h40.2
            have hml := sl_len l (i + 1) l.length (by omega) (Nat.le_refl _)
            have hlt1 : i + 1 < l.length := h40.1
            obtain ⟨o, ho⟩ : ∃ o, codeA (l.drop (i + 1)) 0 0 = o := ⟨_, rfl⟩
            rw [ho] at hq
            have HO := Lib.hid (show codeA (sl l (i + 1) l.length) 0 0 = o by rw [sl_end]; exact ho)
            clear h92 h40 ho
            cases o with
            | none =>
              have HN2 := Lib.hid hq
              clear hq
              go_wp2_with (first | (go_at_call 14; refine (Tryz.strings_HasPrefix _ _ _).mono ?_; rintro e w' ⟨rfl, rfl⟩; rw [S_data, show Lib.hasPrefix (sl l i l.length) _ = true from HP.out]) | (go_at_call 15; refine (tcode_any (sl l (i + 1) l.length) (by omega) hm0 _).mono ?_; rintro e w' ⟨rfl, rfl⟩; rw [show codeVal (sl l (i + 1) l.length) _ = .tuple #[.string (S []), .bool false] by rw [HO.out]; rfl]))
              exact bodyPost_ret (v := .tuple #[.slice none 0 0, .agg #[.int .i64 8, .int .i64 (i : Int)]]) (by simp [results, Tryz.results8, go_sem, d0, d1]) rfl (ret_err HN2.out (by rw [HN.out]; exact (HB.out.setCell (by show N ≤ N; omega) _).setCell (by show N ≤ N; omega) _))
            | some j =>
              have hj := codeA_le _ _ _ _ HO.out
              have hj1 : 1 ≤ j := by
                have h := HO.out
                rw [← codeA_zero hm0] at h
                exact (codeA_le _ _ _ _ h).1
              obtain ⟨j', rfl⟩ : ∃ j', j = j' + 1 := ⟨j - 1, by omega⟩
              have hmj := sl_len (sl l (i + 1) l.length) 1 (j' + 1) (by omega) (by omega)
              rw [show j' + 1 - 1 = j' from rfl] at hmj
              have HN2 := Lib.hid hq
              clear hq
              go_upto_region 16 with (first | (go_at_call 14; refine (Tryz.strings_HasPrefix _ _ _).mono ?_; rintro e w' ⟨rfl, rfl⟩; rw [S_data, show Lib.hasPrefix (sl l i l.length) _ = true from HP.out]) | (go_at_call 15; refine (tcode_any (sl l (i + 1) l.length) (by omega) hm0 _).mono ?_; rintro e w' ⟨rfl, rfl⟩; rw [show codeVal (sl l (i + 1) l.length) _ = .tuple #[.string (S (sl (sl l (i + 1) l.length) 1 (j' + 1))), .bool true] by rw [HO.out]; rfl]) | (go_at_call 13; refine (flush_any N text fr' out vo vt _ HS.out (by omega) (by omega)).mono ?_; rintro e w2 ⟨rfl, ⟨vo2, hS2⟩, hB2⟩; obtain ⟨k1, kf1, k2, kf2, k3, kf3⟩ := hS2.cells; have hsz2 := hS2.lt))
              go_wp2_with (at_builtin; refine wpList_append_own _ rfl _ _ 33 rfl (N + 4) 37 iP (.agg #[.string ⟨#[]⟩, .bool false, .int .i64 0]) 3 32 Tryz.underlying33 hiP hzP0 hzP1 hzP2 rfl (by decide) vo2 _ _ rfl (hS2.alloc _).oo ⟨w2.heap.size, 0, none⟩ 1 1 [.string (S (sl (sl l (i + 1) l.length) 1 (j' + 1))), .bool true, .int .i64 ((i : Int) + 2)] rfl rfl (cells_new w2 _ _) (by simp [Value.oneCell']) (by have := flushP_le text fr' out; unfold maxLen; omega) (by have := flushP_le text fr' out; omega) (by simp; omega) ?_; intro v' w3 hown' hgrow _; obtain ⟨g', cap', rfl⟩ := ownsRow_pos hown' (by omega); have e1 := ((hS2.alloc (.cells #[.string (S (sl (sl l (i + 1) l.length) 1 (j' + 1))), .bool true, .int .i64 ((i : Int) + 2)] 37)).bo.kept hgrow (fun e => own_not (hS2.alloc (.cells #[.string (S (sl (sl l (i + 1) l.length) 1 (j' + 1))), .bool true, .int .i64 ((i : Int) + 2)] 37)).oo (hS2.alloc (.cells #[.string (S (sl (sl l (i + 1) l.length) 1 (j' + 1))), .bool true, .int .i64 ((i : Int) + 2)] 37)).bo (by decide) e.symm)); have e2 := e1.cell 0; have e3 := e1.frozen 0)
              have HW := Lib.hid ((hS2.alloc _).setO hgrow (out' := flushP text fr' out ++ [⟨sl (sl l (i + 1) l.length) 1 (j' + 1), true, i + 2⟩]) (by rw [flatP_snoc, List.length_append]; exact hown'))
              have HBW := Lib.hid ((((HB.out.trans hB2).alloc (show N ≤ w2.heap.size by omega) (.cells #[.string (S (sl (sl l (i + 1) l.length) 1 (j' + 1))), .bool true, .int .i64 ((i : Int) + 2)] 37)).grown hgrow (by simp; omega) (fun j hj => by have := (own_base (hS2.alloc (.cells #[.string (S (sl (sl l (i + 1) l.length) 1 (j' + 1))), .bool true, .int .i64 ((i : Int) + 2)] 37)).oo j hj).1; omega)).setCell (by show N ≤ N + 1; omega) (.slice (some ⟨g', 0, none⟩) ((flushP text fr' out).length + 1) cap') (p := ⟨N + 1, 0, none⟩))
              have hfl := flushP_le text fr' out
              clear hgrow hown' e1
              go_wp2_with fail
              go_roundw
              case rel => exact ⟨i + (j' + 1 + 2), fr', g, [], flushP text fr' out ++ [⟨sl (sl l (i + 1) l.length) 1 (j' + 1), true, i + 2⟩], by go_num, by omega, by simp, by simp; omega, Lib.hid ⟨HBW.out, ⟨_, _, HW.out⟩, by have h := HN2.out; rw [← sl_end l (i + 1)] at h; exact h, by omega⟩⟩
              case measure => simp [intOf]; omega
          · have HP := Lib.hid (pre_nocode hlt (fun h => h40 h.2))
            have hq := HQ.out.trans (tkInt_esc hlt h92 h40)
            rw [HFR.out, ← sl_end] at hq
            have T92 : (((byt l i).toNat : Int) == 92) = true := byte_test (d := 92) h92
            have hm0 : byt (sl l i l.length) 0 = 92 := by rw [sl_end, byt_drop]; exact h92
            have hul := (unesc_len (sl l i l.length)).1
            obtain ⟨⟨b, n⟩, hu⟩ : ∃ x, unesc (sl l i l.length) = x := ⟨_, rfl⟩
            rw [hu] at hq hul
            simp only at hq hul
            have HU := Lib.hid hu
            clear h92 h40 hu
            by_cases hn : n = 0
            · subst hn
              rw [if_pos rfl] at hq
              have HN2 := Lib.hid hq
              clear hq
              go_wp2_with (first | (go_at_call 14; refine (Tryz.strings_HasPrefix _ _ _).mono ?_; rintro e w' ⟨rfl, rfl⟩; rw [S_data, show Lib.hasPrefix (sl l i l.length) _ = false from HP.out]) | (go_at_call 16; refine (tescape_any (sl l i l.length) (by omega) hm0 _ (HE.out.underB (HN.out ▸ HB.out))).mono ?_; rintro e w2 ⟨rfl, hb2⟩; rw [HU.out]; unfold bnVal; have HB2 := Lib.hid hb2; obtain ⟨k1, kf1, k2, kf2, k3, kf3⟩ := (HS.out.below hb2).cells; have kd0 := (HS.out.below hb2).ft.cell 0; have kd1 := (HS.out.below hb2).ft.cell 1; have kg0 := (HS.out.below hb2).ft.frozen 0; have kg1 := (HS.out.below hb2).ft.frozen 1; clear hb2))
              exact bodyPost_ret (v := .tuple #[.slice none 0 0, .agg #[.int .i64 8, .int .i64 (i : Int)]]) (by simp [results, Tryz.results8, go_sem, kd0, kd1]) rfl (ret_err HN2.out (by rw [HN.out]; exact ((HB.out.trans (HB2.out.mono (by omega))).setCell (by show N ≤ N; omega) _).setCell (by show N ≤ N; omega) _))
            · rw [if_neg hn] at hq
              have HN2 := Lib.hid hq
              have hnz : ((n : Int) == 0) = false := beq_eq_false_iff_ne.2 (by omega)
              clear hq
              go_upto_region 22 with (first | (go_at_call 14; refine (Tryz.strings_HasPrefix _ _ _).mono ?_; rintro e w' ⟨rfl, rfl⟩; rw [S_data, show Lib.hasPrefix (sl l i l.length) _ = false from HP.out]) | (go_at_call 16; refine (tescape_any (sl l i l.length) (by omega) hm0 _ (HE.out.underB (HN.out ▸ HB.out))).mono ?_; rintro e w2 ⟨rfl, hb2⟩; rw [HU.out]; unfold bnVal; have HB2 := Lib.hid hb2; obtain ⟨k1, kf1, k2, kf2, k3, kf3⟩ := (HS.out.below hb2).cells; have HS2 := Lib.hid (HS.out.below hb2); clear hb2))
              go_wp2_with (at_builtin; refine wpList_append_own _ rfl _ _ 45 rfl (N + 4) 5 iB (.int .u8 0) 1 1 Tryz.underlying45 hiB hzB0 hzB1 hzB2 rfl (by decide) vt _ _ rfl (HS2.out.alloc _).ot ⟨w2.heap.size, 0, none⟩ 1 1 [.int .u8 (b.toNat : Int)] rfl rfl (cell_one_new _ _ _) (by simp [Value.oneCell']) (by unfold maxLen; omega) (by omega) (by have := HS2.out.lt; simp; omega) ?_; intro v' w3 hown' hgrow _; obtain ⟨g', cap', rfl⟩ := ownsRow_pos hown' (by omega); have e1 := ((HS2.out.alloc (.cells #[.int .u8 (b.toNat : Int)] 5)).bt.kept hgrow (fun e => own_not (HS2.out.alloc (.cells #[.int .u8 (b.toNat : Int)] 5)).ot (HS2.out.alloc (.cells #[.int .u8 (b.toNat : Int)] 5)).bt (by decide) e.symm)); have e2 := e1.cell 0; have e3 := e1.frozen 0)
              have HW := Lib.hid ((HS2.out.alloc _).setT hgrow (text' := text ++ [b]) (by rw [← bcells_append, List.length_append]; exact hown'))
              have HBW := Lib.hid ((((HB.out.trans (HB2.out.mono (by omega))).alloc (show N ≤ w2.heap.size by have := HS2.out.lt; omega) (.cells #[.int .u8 (b.toNat : Int)] 5)).grown hgrow (by have := HS2.out.lt; simp; omega) (fun j hj => by have := (own_base (HS2.out.alloc (.cells #[.int .u8 (b.toNat : Int)] 5)).ot j hj).1; omega)).setCell (by show N ≤ N + 2; omega) (.slice (some ⟨g', 0, none⟩) (text.length + 1) cap') (p := ⟨N + 2, 0, none⟩))
              clear hgrow hown' e1
              go_wp2_with fail
              go_roundw
              case rel => exact ⟨i + n, fr', g, text ++ [b], out, by go_num, by omega, by simp; omega, by omega, Lib.hid ⟨HBW.out, ⟨_, _, HW.out⟩, HN2.out, by omega⟩⟩
              case measure => simp [intOf]; omega
        · by_cases hb : byt l i < 32 ∨ 126 < byt l i ∨ byt l i = 34
          · have HN2 := Lib.hid (HQ.out.trans (tkInt_bad hlt h92 hb))
            have HP := Lib.hid (pre_nocode hlt (fun h => h92 h.1))
            have T92 : (((byt l i).toNat : Int) == 92) = false := u8_ne h92
            by_cases h34 : byt l i = 34
            · have e34 : (byt l i).toNat = 34 := by rw [h34]; rfl
              have T34 : (((byt l i).toNat : Int) == 34) = true := byte_test (d := 34) h34
              clear h92 hb h34
              go_wp2_with (go_at_call 14; refine (Tryz.strings_HasPrefix _ _ _).mono ?_; rintro e w' ⟨rfl, rfl⟩; rw [S_data, show Lib.hasPrefix (sl l i l.length) _ = false from HP.out])
              exact bodyPost_ret (v := .tuple #[.slice none 0 0, .agg #[.int .i64 8, .int .i64 (i : Int)]]) (by simp [results, Tryz.results8, go_sem, d0, d1]) rfl (ret_err HN2.out (by rw [HN.out]; exact (HB.out.setCell (by show N ≤ N; omega) _).setCell (by show N ≤ N; omega) _))
            · have T34 : (((byt l i).toNat : Int) == 34) = false := u8_ne h34
              have hb' : (byt l i).toNat < 32 ∨ 126 < (byt l i).toNat := by
                rcases hb with h | h | h
                · left; rw [UInt8.lt_iff_toNat_lt] at h; simpa using h
                · right; rw [UInt8.lt_iff_toNat_lt] at h; simpa using h
                · exact absurd h h34
              clear h92 hb h34
              rcases hb' with hb' | hb'
              · go_wp2_with (go_at_call 14; refine (Tryz.strings_HasPrefix _ _ _).mono ?_; rintro e w' ⟨rfl, rfl⟩; rw [S_data, show Lib.hasPrefix (sl l i l.length) _ = false from HP.out])
                exact bodyPost_ret (v := .tuple #[.slice none 0 0, .agg #[.int .i64 8, .int .i64 (i : Int)]]) (by simp [results, Tryz.results8, go_sem, d0, d1]) rfl (ret_err HN2.out (by rw [HN.out]; exact (HB.out.setCell (by show N ≤ N; omega) _).setCell (by show N ≤ N; omega) _))
              · have h32 : ¬ (byt l i).toNat < 32 := by omega
                go_wp2_with (go_at_call 14; refine (Tryz.strings_HasPrefix _ _ _).mono ?_; rintro e w' ⟨rfl, rfl⟩; rw [S_data, show Lib.hasPrefix (sl l i l.length) _ = false from HP.out])
                exact bodyPost_ret (v := .tuple #[.slice none 0 0, .agg #[.int .i64 8, .int .i64 (i : Int)]]) (by simp [results, Tryz.results8, go_sem, d0, d1]) rfl (ret_err HN2.out (by rw [HN.out]; exact (HB.out.setCell (by show N ≤ N; omega) _).setCell (by show N ≤ N; omega) _))
          · have HN2 := Lib.hid (HQ.out.trans (tkInt_reg hlt h92 hb))
            have HP := Lib.hid (pre_nocode hlt (fun h => h92 h.1))
            have T92 : (((byt l i).toNat : Int) == 92) = false := u8_ne h92
            have T34 : (((byt l i).toNat : Int) == 34) = false := u8_ne (fun e => hb (.inr (.inr e)))
            have h32 : ¬ ((byt l i).toNat : Int) < 32 := by
              have := fun h => hb (.inl h); rw [UInt8.lt_iff_toNat_lt] at this; simp at this; omega
            have h126 : ¬ (126 : Int) < ((byt l i).toNat : Int) := by
              have := fun h => hb (.inr (.inl h)); rw [UInt8.lt_iff_toNat_lt] at this; simp at this; omega
            have b0 : (0 : Int) ≤ (i : Int) := by omega
            have b1 : (i : Int) < (l.length : Int) := by omega
            rw [HFR.out] at HN2
            clear h92 hb
            go_upto_region 9 with (go_at_call 14; refine (Tryz.strings_HasPrefix _ _ _).mono ?_; rintro e w' ⟨rfl, rfl⟩; rw [S_data, show Lib.hasPrefix (sl l i l.length) _ = false from HP.out])
            have HS2 := Lib.hid ((HS.out.alloc (.cells #[.int .u8 ((byt l i).toNat : Int)] 5)).drew)
            have HB2 := Lib.hid (below_drew (HB.out.alloc (show N ≤ w'.heap.size by omega) (.cells #[.int .u8 ((byt l i).toNat : Int)] 5)))
            have k2 := (HS.out.alloc (.cells #[.int .u8 ((byt l i).toNat : Int)] 5)).cells.2.2.1
            go_region_law ((refine step_append_lies _ (by rfl) _ _ _ (by rfl) (N + 4) 5 iB _ 1 1 Tryz.underlying45 hiB hzB0 hzB1 hzB2 rfl (by omega) vt _ _ (by rfl) HS2.out.ot ⟨w'.heap.size, 0, none⟩ 1 1 [.int .u8 ((byt l i).toNat : Int)] (by rfl) (by rfl) (World.news_of_block (cs := #[.int .u8 ((byt l i).toNat : Int)]) (t := 5) (fr := (0, 0)) (heap_alloc_new w' _)) (by simp [Value.oneCell']) (by omega) (by unfold maxLen; omega) (by omega) (by simp; omega) (w'.heap.size + 1) (by simp) ?_; intro g' cap' w3 hown' hgrow hat hlt1; have e1 := (HS2.out.bt.kept hgrow (fun e => own_not HS2.out.ot HS2.out.bt (by decide) e.symm)); have e2 := e1.cell 0; have e3 := e1.frozen 0))
            all_goals
              have HW := Lib.hid (HS2.out.setT hgrow (text' := text ++ [byt l i]) (by rw [← bcells_append, List.length_append]; exact hown'))
              have HBW := Lib.hid ((HB2.out.grown hgrow (by simp; omega) (fun j hj => by have := (own_base HS2.out.ot j hj).1; omega)).setCell (by show N ≤ N + 2; omega) (.slice (some ⟨g', 0, none⟩) (text.length + 1) cap') (p := ⟨N + 2, 0, none⟩))
              clear hgrow hown' e1
              go_wp2_with fail
              go_roundw
              case rel => exact ⟨i + 1, fr', g, text ++ [byt l i], out, by go_num, by omega, by simp; omega, by omega, Lib.hid ⟨HBW.out, ⟨_, _, HW.out⟩, HN2.out, by omega⟩⟩
              case measure => simp [intOf]; omega
    · have HN2 := Lib.hid (HQ.out.trans (tkInt_end (by omega)))
      have HBW := Lib.hid hsz
      clear c1 f1 c2 f2 c3 f3 hS
      go_wp2_with (go_at_call 13; refine (flush_any N text fr out vo vt _ HS.out (by omega) (by omega)).mono ?_; rintro e w2 ⟨rfl, ⟨vo2, hS2⟩, hB2⟩; obtain ⟨k1, kf1, k2, kf2, k3, kf3⟩ := hS2.cells; have hsz2 := hS2.lt; have d0 := hS2.ft.cell 0; have d1 := hS2.ft.cell 1; have g0 := hS2.ft.frozen 0; have g1 := hS2.ft.frozen 1)
      have HO := Lib.hid (ownsRow_setCell_other (ownsRow_setCell_other hS2.oo (own_not hS2.oo hS2.ft (by decide)) (.int .i64 0) (a := ⟨N, 0, none⟩)) (own_not hS2.oo hS2.ft (by decide)) (.int .i64 0) (a := ⟨N, 1, none⟩))
      exact bodyPost_ret (v := .tuple #[vo2, .agg #[.int .i64 0, .int .i64 0]]) (by simp [results, Tryz.results8, go_sem, d0, d1]) rfl (ret_ok HN2.out (by rw [HN.out]; exact ((HB.out.trans hB2).setCell (by show N ≤ N; omega) _).setCell (by show N ≤ N; omega) _) (by rw [HN.out]; exact own_lower HO.out (by omega)))
end Go.Proofs.YtadbilonialjnaaGreatDoor
