/- The program's Scan: the tokens of a text, or the first fault. -/
import Derived.Test.YtadbilonialjnaaDoorTkI
namespace Go.Proofs.YtadbilonialjnaaDoor
open Go.RowKit

theorem tkScan_end {nb : List UInt8 → Bool} {s : List UInt8} {a f : Nat} {ln : Bool} {L : List Tok} (h : s.length ≤ a) : tkScan nb f (s.drop a) a ln L = .ok (L ++ [⟨0, [], a, a⟩]) := by
  rw [List.drop_of_length_le h]; cases f <;> rfl
theorem tkScan_line {nb : List UInt8 → Bool} {s : List UInt8} {a f : Nat} {L : List Tok} (h : a < s.length) (hc : byt s a = 10) : tkScan nb (f + 1) (s.drop a) a true L = tkScan nb f (s.drop (a + 1)) (a + 1) false (L ++ [⟨7, [10], a, a + 1⟩]) := by
  rw [drop_byt s a h, tkScan, if_pos ⟨hc, rfl⟩]
theorem tkScan_blank {nb : List UInt8 → Bool} {s : List UInt8} {a f : Nat} {ln : Bool} {L : List Tok} (h : a < s.length) (h1 : ¬ (byt s a = 10 ∧ ln = true)) (hc : byt s a = 10 ∨ byt s a = 32 ∨ byt s a = 9 ∨ byt s a = 13) : tkScan nb (f + 1) (s.drop a) a ln L = tkScan nb f (s.drop (a + 1)) (a + 1) ln L := by
  rw [drop_byt s a h, tkScan, if_neg h1, if_pos hc]
theorem tkScan_next {nb : List UInt8 → Bool} {s : List UInt8} {a f : Nat} {ln : Bool} {L : List Tok} (h : a < s.length) (hc : ¬ (byt s a = 10 ∨ byt s a = 32 ∨ byt s a = 9 ∨ byt s a = 13)) : tkScan nb (f + 1) (s.drop a) a ln L = match tkNext nb (s.drop a) with
    | none => .error a
    | some (k, x, n) => tkScan nb f (s.drop (a + n)) (a + n) (tkLn k x ln) (L ++ [⟨k, x, a, a + n⟩]) := by
  rw [drop_byt s a h, tkScan, if_neg (fun e => hc (.inl e.1)), if_neg hc, ← drop_byt s a h]
  cases tkNext nb (s.drop a) with
  | none => rfl
  | some x => obtain ⟨k, t, n⟩ := x; simp only [List.drop_drop]
theorem tkStr_len {m : List UInt8} (h : 1 ≤ m.length) {k n : Nat} {x : List UInt8} (hs : tkStr m = some (k, x, n)) : 1 ≤ n ∧ n ≤ m.length := by
  unfold tkStr at hs
  have h1 := tkLit_le m h
  have hn : n = (tkLit m).1 ∧ ¬ (tkLit m).1 = 0 := by
    split at hs
    · cases hs
    · next h0 =>
      split at hs
      · split at hs
        · cases hs; exact ⟨rfl, h0⟩
        · cases hs
      · split at hs
        · cases hs; exact ⟨rfl, h0⟩
        · cases hs
  omega
theorem tkNext_len {nb : List UInt8 → Bool} {m : List UInt8} (h : 0 < m.length) {k n : Nat} {x : List UInt8} (hs : tkNext nb m = some (k, x, n)) : 1 ≤ n ∧ n ≤ m.length := by
  rw [next_head h] at hs
  split at hs
  · next hp =>
    cases hs
    have h1 := run_two m hp
    have h2 := runN_le (· != 10) m
    omega
  · split at hs
    · next hw => cases hs; exact ⟨hw, tkWord_le m⟩
    · split at hs
      · next hd =>
        split at hs
        · cases hs
          refine ⟨?_, tkNum_le m⟩
          have h1 : 1 ≤ runN digitB m := by
            have := runN_yes (p := digitB) (l := m) (k := 0) h hd
            simp only [List.drop_zero] at this; omega
          have h2 : runN digitB m ≤ tkNum m := by
            unfold tkNum
            split
            · split <;> omega
            · exact Nat.le_refl _
          omega
        · cases hs
      · split at hs
        · exact tkStr_len h hs
        · split at hs
          · cases hs
          · next ho => cases hs; have := op_len m ho; omega
/-- what Scan answers -/
def ScanR (l : List UInt8) (w : World) (e : Ending) (w' : World) : Prop :=
  Below w.heap.size w w' ∧ ∃ v, e = .returned (.tuple #[v, .agg #[.int .i64 ((scanT nbOk l).2.1 : Int), .int .i64 ((scanT nbOk l).2.2 : Int)]]) ∧ w'.ownsRow w.heap.size 40 4 v (scanT nbOk l).1.length (flatT (scanT nbOk l).1)
theorem scan_ret {l : List UInt8} {w w' : World} {v : Value} {L : List Tok} {e p : Nat} (h : scanT nbOk l = (L, e, p)) (hb : Below w.heap.size w w') (ho : w'.ownsRow w.heap.size 40 4 v L.length (flatT L)) :
    ScanR l w (.returned (.tuple #[v, .agg #[.int .i64 (e : Int), .int .i64 (p : Int)]])) w' := by
  refine ⟨hb, v, ?_, ?_⟩ <;> rw [h] <;> first | rfl | exact ho
theorem own_none (W : World) (b : Nat) : W.ownsRow b 40 4 (.slice none 0 0) ([] : List Tok).length (flatT []) := ⟨rfl, .inl ⟨rfl, rfl⟩⟩
theorem ScW.setA {w0 : World} {B : Nat} {s : List UInt8} {a : Nat} {L : List Tok} {ln : Bool} {v : Value} {W : World} (h : ScW w0 B s a L ln v W) (n : Nat) : ScW w0 B s n L ln v (W.setCell ⟨B, 1, none⟩ (.int .i64 (n : Int))) :=
  ⟨h.ok, h.bel.setCell (by show w0.heap.size ≤ B; exact h.sc.hb) _, h.sc.setA n⟩
theorem ScW.setL {w0 : World} {B : Nat} {s : List UInt8} {a : Nat} {L : List Tok} {ln : Bool} {v : Value} {W : World} (h : ScW w0 B s a L ln v W) (b : Bool) : ScW w0 B s a L b v (W.setCell ⟨B, 3, none⟩ (.bool b)) :=
  ⟨h.ok, h.bel.setCell (by show w0.heap.size ≤ B; exact h.sc.hb) _, h.sc.setL b⟩

set_option maxRecDepth 100000 in
set_option maxHeartbeats 4000000 in
theorem scan_any (s : List UInt8) (hl : s.length ≤ 1000000) (w : World) (hE : TkOk w) : Calls Tryd.prog 13 #[.string (S s)] w (ScanR s w) := by
  by_cases hbig : 65536 < s.length
  · have HN := Lib.hid (show scanT nbOk s = ([], 2, 0) by unfold scanT; rw [if_pos hbig])
    go_enter Tryd.func13, Tryd.ntmps13
    go_wp2_with fail
    go_step3
    go_wp2_with fail
    try rw [Exit.noGoto_ret]
    exact bodyPost_ret (v := .tuple #[.slice none 0 0, .agg #[.int .i64 2, .int .i64 0]]) (by simp [results, Tryd.results13, go_sem]) rfl (scan_ret HN.out (by go_grown) (own_none _ _))
  · have HE := Lib.hid hE
    clear hE
    have hs : s.length ≤ 65536 := by omega
    have HT := Lib.hid (show scanT nbOk s = match tkScan nbOk s.length s 0 false [] with
      | .ok l => (l, 0, 0)
      | .error i => ([], 8, i) by unfold scanT; rw [if_neg hbig]; cases tkScan nbOk s.length s 0 false [] <;> rfl)
    clear hbig hl
    obtain ⟨r, hr⟩ : ∃ r, tkScan nbOk s.length s 0 false [] = r := ⟨_, rfl⟩
    rw [hr] at HT
    have HR := Lib.hid hr
    clear hr
    go_enter Tryd.func13, Tryd.ntmps13
    go_wp2_with fail
    go_step3
    go_wp2_with fail
    go_step3
    go_wp2_with fail
    have HF := Lib.hid (Blk.new w #[.int .i64 0, .int .i64 0] 26)
    have HW := Lib.hid (show Below w.heap.size w (w.alloc (.cells #[.int .i64 0, .int .i64 0] 26)) from (Below.refl _ _).alloc (Nat.le_refl _) _)
    have HZ := Lib.hid (show (w.alloc (.cells #[.int .i64 0, .int .i64 0] 26)).heap.size = w.heap.size + 1 by simp)
    have HS0 := Lib.hid (show ScW (w.alloc (.cells #[.int .i64 0, .int .i64 0] 26)) (w.heap.size + 1) s 0 [] false (.slice none 0 0) ((w.alloc (.cells #[.int .i64 0, .int .i64 0] 26)).alloc (.cells #[.string (S s), .int .i64 0, .slice none 0 0, .bool false] 58)) from by
      have hb := Blk.new (w.alloc (.cells #[.int .i64 0, .int .i64 0] 26)) #[.string (S s), .int .i64 0, .slice none 0 0, .bool false] 58
      rw [HZ.out] at hb
      exact ⟨HE.out.below HW.out, (Below.refl _ _).alloc (Nat.le_refl _) _, ⟨by rw [HZ.out]; exact Nat.le_refl _, hb, own_none _ _⟩⟩)
    generalize ((w.alloc (.cells #[.int .i64 0, .int .i64 0] 26)).alloc (.cells #[.string (S s), .int .i64 0, .slice none 0 0, .bool false] 58)) = w1 at HS0 ⊢
    generalize (w.alloc (.cells #[.int .i64 0, .int .i64 0] 26)) = w0 at HS0 HF HW HZ ⊢
    go_loopg [] (s.length + 1) (fun f wr => ∃ (a f' : Nat) (L : List Tok) (ln : Bool) (v : Value), a ≤ s.length ∧ L.length ≤ a ∧ f = s.length + 1 - a ∧ Hid (ScW w0 (w.heap.size + 1) s a L ln v wr ∧ r = tkScan nbOk f' (s.drop a) a ln L ∧ s.length - a ≤ f'))
    case atStart => exact ⟨0, s.length, [], false, _, by omega, by simp, by omega, Lib.hid ⟨HS0.out, HR.out.symm, by omega⟩⟩
    case round =>
      clear HS0 w1 HR
      obtain ⟨a, f', L, ln, v, ha, hL, hg, H⟩ := hrel
      obtain ⟨hS, hq, hf⟩ := H.out
      clear H
      have HS := Lib.hid hS
      have HQ := Lib.hid hq
      obtain ⟨c0, c1, c2, c3⟩ := hS.sc.cells
      obtain ⟨f0, f1, f2, f3⟩ := hS.sc.free
      have hlt := hS.sc.lt
      clear hq hS
      by_cases hal : a < s.length
      · obtain ⟨g, rfl⟩ : ∃ g, f' = g + 1 := ⟨f' - 1, by omega⟩
        by_cases h10 : byt s a = 10
        · have T10 : (((byt s a).toNat : Int) == 10) = true := byte_test (d := 10) h10
          rcases bool_two ln with rfl | rfl
          · have HN := Lib.hid (HQ.out.trans (tkScan_line hal h10))
            clear h10
            go_wp2_with (go_at_call 26; refine (addW_any w0 (w.heap.size + 1) s a L true v 7 [10] 1 _ HS.out (by omega) (by omega) (by decide) (fun h => absurd h (by decide))).mono ?_; rintro e w3 ⟨rfl, v3, h3⟩; obtain ⟨x0, x1, x2, x3⟩ := h3.sc.cells; obtain ⟨y0, y1, y2, y3⟩ := h3.sc.free; have hlt3 := h3.sc.lt; have HS3 := Lib.hid h3; clear h3)
            go_roundg (s.length + 1 - (a + 1))
            case rel => exact ⟨a + 1, g, L ++ [⟨7, [10], a, a + 1⟩], false, v3, by omega, by simp; omega, rfl, Lib.hid ⟨HS3.out.setL false, HN.out, by omega⟩⟩
            case measure => omega
          · have HN := Lib.hid (HQ.out.trans (tkScan_blank hal (by simp) (.inl h10)))
            clear h10
            go_wp2_with fail
            go_roundg (s.length + 1 - (a + 1))
            case rel => exact ⟨a + 1, g, L, false, v, by omega, by omega, rfl, Lib.hid ⟨HS.out.setA (a + 1), HN.out, by omega⟩⟩
            case measure => omega
        · have T10 : (((byt s a).toNat : Int) == 10) = false := u8_ne h10
          by_cases h32 : byt s a = 32
          · have T32 : (((byt s a).toNat : Int) == 32) = true := byte_test (d := 32) h32
            have HN := Lib.hid (HQ.out.trans (tkScan_blank hal (fun h => h10 h.1) (.inr (.inl h32))))
            clear h10 h32
            go_wp2_with fail
            go_roundg (s.length + 1 - (a + 1))
            case rel => exact ⟨a + 1, g, L, ln, v, by omega, by omega, rfl, Lib.hid ⟨HS.out.setA (a + 1), HN.out, by omega⟩⟩
            case measure => omega
          · have T32 : (((byt s a).toNat : Int) == 32) = false := u8_ne h32
            by_cases h9 : byt s a = 9
            · have T9 : (((byt s a).toNat : Int) == 9) = true := byte_test (d := 9) h9
              have HN := Lib.hid (HQ.out.trans (tkScan_blank hal (fun h => h10 h.1) (.inr (.inr (.inl h9)))))
              clear h10 h32 h9
              go_wp2_with fail
              go_roundg (s.length + 1 - (a + 1))
              case rel => exact ⟨a + 1, g, L, ln, v, by omega, by omega, rfl, Lib.hid ⟨HS.out.setA (a + 1), HN.out, by omega⟩⟩
              case measure => omega
            · have T9 : (((byt s a).toNat : Int) == 9) = false := u8_ne h9
              by_cases h13 : byt s a = 13
              · have T13 : (((byt s a).toNat : Int) == 13) = true := byte_test (d := 13) h13
                have HN := Lib.hid (HQ.out.trans (tkScan_blank hal (fun h => h10 h.1) (.inr (.inr (.inr h13)))))
                clear h10 h32 h9 h13
                go_wp2_with fail
                go_roundg (s.length + 1 - (a + 1))
                case rel => exact ⟨a + 1, g, L, ln, v, by omega, by omega, rfl, Lib.hid ⟨HS.out.setA (a + 1), HN.out, by omega⟩⟩
                case measure => omega
              · have T13 : (((byt s a).toNat : Int) == 13) = false := u8_ne h13
                have hq := HQ.out.trans (tkScan_next hal (fun h => h.elim h10 (fun h => h.elim h32 (fun h => h.elim h9 h13))))
                clear h10 h32 h9 h13
                cases hT : tkNext nbOk (s.drop a) with
                | none =>
                  rw [hT] at hq
                  have HN := Lib.hid (show scanT nbOk s = ([], 8, a) by rw [HT.out, hq])
                  have HX := Lib.hid hT
                  clear hq hT
                  go_upto_region 15 with (go_at_call 27; refine (next_any w0 (w.heap.size + 1) s a L ln v _ HS.out (by omega) hal (by omega)).mono ?_; rintro e w3 h3; rw [HX.out] at h3; obtain ⟨rfl, v3, h3⟩ := h3; obtain ⟨x0, x1, x2, x3⟩ := h3.sc.cells; have hlt3 := h3.sc.lt; have hf3 := HF.out.below h3.bel; have d0 := hf3.cell 0; have d1 := hf3.cell 1; have g0 := hf3.frozen 0; have g1 := hf3.frozen 1; have HK := Lib.hid hf3; clear hf3; have HS3 := Lib.hid h3; clear h3)
                  go_region
                  all_goals
                    go_wp2_with fail
                    try rw [Exit.noGoto_ret]
                    exact bodyPost_ret (v := .tuple #[.slice none 0 0, .agg #[.int .i64 8, .int .i64 (a : Int)]]) (by simp [results, Tryd.results13, go_sem, d0, d1]) rfl (scan_ret HN.out (((below_drew (HW.out.trans (HS3.out.bel.mono (by rw [HZ.out]; omega)))).setCell (by show w.heap.size ≤ w.heap.size; omega) _).setCell (by show w.heap.size ≤ w.heap.size; omega) _) (own_none _ _))
                | some x =>
                  obtain ⟨k, x, n⟩ := x
                  have hn := tkNext_len (by rw [List.length_drop]; omega) hT
                  rw [List.length_drop] at hn
                  rw [hT] at hq
                  have HN := Lib.hid hq
                  have HX := Lib.hid hT
                  clear hq hT
                  go_wp2_with (go_at_call 27; refine (next_any w0 (w.heap.size + 1) s a L ln v _ HS.out (by omega) hal (by omega)).mono ?_; rintro e w3 h3; rw [HX.out] at h3; obtain ⟨rfl, v3, h3⟩ := h3; have HS3 := Lib.hid h3; clear h3)
                  go_roundg (s.length + 1 - (a + n))
                  case rel => exact ⟨a + n, g, L ++ [⟨k, x, a, a + n⟩], tkLn k x ln, v3, by omega, by simp; omega, rfl, Lib.hid ⟨HS3.out, HN.out, by omega⟩⟩
                  case measure => omega
      · have HN := Lib.hid (HQ.out.trans (tkScan_end (by omega)))
        go_wp2_with (go_at_call 26; refine (addW_any w0 (w.heap.size + 1) s a L ln v 0 [] 0 _ HS.out (by omega) (by omega) (by decide) (fun h => absurd h (by decide))).mono ?_; rintro e w3 ⟨rfl, v3, h3⟩; obtain ⟨x0, x1, x2, x3⟩ := h3.sc.cells; have hlt3 := h3.sc.lt; have hf3 := HF.out.below h3.bel; have d0 := hf3.cell 0; have d1 := hf3.cell 1; have g0 := hf3.frozen 0; have g1 := hf3.frozen 1; have HK := Lib.hid hf3; clear hf3; have HS3 := Lib.hid h3; clear h3)
        try rw [Exit.noGoto_ret]
        exact bodyPost_ret (v := .tuple #[v3, .agg #[.int .i64 0, .int .i64 0]]) (by simp [results, Tryd.results13, go_sem, d0, d1]) rfl (scan_ret (show scanT nbOk s = (L ++ [⟨0, [], a, a⟩], 0, 0) by rw [HT.out, HN.out]) (((HW.out.trans (HS3.out.bel.mono (by rw [HZ.out]; omega))).setCell (by show w.heap.size ≤ w.heap.size; omega) _).setCell (by show w.heap.size ≤ w.heap.size; omega) _) (own_lower (ownsRow_setCell_other (ownsRow_setCell_other HS3.out.sc.own (own_not HS3.out.sc.own HK.out (by decide)) (.int .i64 0) (a := ⟨w.heap.size, 0, none⟩)) (own_not HS3.out.sc.own HK.out (by decide)) (.int .i64 0) (a := ⟨w.heap.size, 1, none⟩)) (by rw [HZ.out]; omega)))
end Go.Proofs.YtadbilonialjnaaDoor
