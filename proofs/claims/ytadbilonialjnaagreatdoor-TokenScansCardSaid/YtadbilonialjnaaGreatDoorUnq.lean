/- The program's Unquote computes 'unqL' for every string of at most 1000000 bytes. -/
import Derived.Handy
import Derived.Test.YtadbilonialjnaaGreatDoorPub
namespace Go.Proofs.YtadbilonialjnaaGreatDoor
open Go.RowKit

theorem unesc_len (m : List UInt8) : (unesc m).2 ≤ m.length ∧ (unesc m).2 ≤ 4 := by
  match m with
  | [] => simp [unesc]
  | [_] => simp [unesc]
  | _ :: b :: r =>
    simp only [unesc]
    (repeat' split) <;> simp
/-- a string and a fault -/
def uqVal (r : List UInt8 × Nat × Nat) : Value := .tuple #[.string (S r.1), .agg #[.int .i64 (r.2.1 : Int), .int .i64 (r.2.2 : Int)]]
theorem ret_uq {r : List UInt8 × Nat × Nat} {a : List UInt8} {e p : Nat} (h : r = (a, e, p)) : Ending.returned (.tuple #[.string (S a), .agg #[.int .i64 (e : Int), .int .i64 (p : Int)]]) = .returned (uqVal r) := by rw [h]; rfl

set_option maxRecDepth 100000 in
set_option maxHeartbeats 1000000 in
theorem Unquote_any (l : List UInt8) (hl : l.length ≤ 1000000) (w : World) (hE : ErrOk w) :
    Calls Tryz.prog 33 #[.string (S l)] w fun e w' => e = .returned (uqVal (unqL l)) ∧ Below w.heap.size w w' := by
  have HE := Lib.hid hE
  clear hE
  by_cases hbig : 65536 < l.length
  · have hf : unqL l = ([], 2, 0) := by unfold unqL; rw [if_pos hbig]
    generalize unqL l = r at hf ⊢
    have HF := Lib.hid hf; clear hf
    go_enter Tryz.func33, Tryz.ntmps33
    go_wp2_with fail
    go_step3
    go_wp2_with fail
    try rw [Exit.noGoto_ret]
    exact bodyPost_ret (v := .tuple #[.string ⟨#[]⟩, .agg #[.int .i64 2, .int .i64 0]]) (by simp [results, Tryz.results33, go_sem]) rfl ⟨ret_uq HF.out, by go_grown⟩
  cases l with
  | nil =>
    have HF := Lib.hid (show unqL [] = ([], 8, 0) by rfl)
    go_enter Tryz.func33, Tryz.ntmps33
    go_wp2_with fail
    go_step3
    go_wp2_with fail
    try rw [Exit.noGoto_ret]
    exact bodyPost_ret (v := .tuple #[.string ⟨#[]⟩, .agg #[.int .i64 8, .int .i64 0]]) (by simp [results, Tryz.results33, go_sem]) rfl ⟨ret_uq HF.out, by go_grown⟩
  | cons c t =>
  by_cases h34 : c = 34
  · subst h34
    have hf : unqL (34 :: t) = scan ((34 :: t).drop 1) 0 1 [] := by unfold unqL; rw [if_neg hbig]; rfl
    have e0 : byt (34 :: t) 0 = 34 := rfl
    have hl0 : 0 < ((34 : UInt8) :: t).length := by simp
    have hne : ((((34 : UInt8) :: t).length : Int) == 0) = false := by simp; omega
    generalize (34 : UInt8) :: t = l at *
    generalize unqL l = r at hf ⊢
    have HF := Lib.hid hf; clear hf
    obtain ⟨i0, hi, hz0, hz1, hz2⟩ := info_parts infoU8
    have hb' : l.length ≤ 65536 := by omega
    go_enter Tryz.func33, Tryz.ntmps33
    go_wp2_with fail
    go_step3
    go_wp2_with fail
    clear e0 hne
    go_step3
    go_wp2_with fail
    obtain ⟨w0, hw0⟩ : ∃ w0, w0 = w.alloc (.cells #[.int .i64 0, .int .i64 0] 26) := ⟨_, rfl⟩
    have hT0 : Two w0 w.heap.size 26 (.int .i64 0) (.int .i64 0) := by rw [hw0]; exact Two.new w _ _ _
    have hs0 : w.heap.size + 1 ≤ w0.heap.size := by rw [hw0]; simp
    have hB0 : Below w.heap.size w w0 := by rw [hw0]; exact (Below.refl _ _).alloc (Nat.le_refl _) _
    rw [← hw0]
    clear hw0
    go_loopw [4, 5] (fun v i wr => ∃ (k : Nat) (acc : List UInt8), k ≤ l.length ∧ 1 ≤ k ∧ i = .int .i64 k ∧ acc.length ≤ k ∧ wr.ownsRow (w.heap.size + 1) 5 1 v acc.length (bcells acc) ∧ Below (w.heap.size + 1) w0 wr ∧ Hid (r = scan (l.drop k) 0 k acc))
      (fun _ i _ => l.length - (intOf i).toNat)
    case atStart => exact ⟨1, [], by omega, by omega, rfl, by simp, World.ownsRow_nil _ _ _ _, Below.refl _ _, HF.out⟩
    case round =>
      clear HF
      obtain ⟨k, acc, hk, hk1, rfl, hacc, hown, hBr, hh⟩ := hrel
      have hT : Two wr w.heap.size 26 (.int .i64 0) (.int .i64 0) := (hBr.block _ (by omega)).trans hT0
      have hc0 := hT.cell0
      have hc1 := hT.cell1
      have hf0 := hT.frozen0
      have hf1 := hT.frozen1
      have hBw : Below w.heap.size w wr := hB0.trans (hBr.mono (by omega))
      by_cases hend : l.length ≤ k
      · have hr : r = ([], 8, l.length) := by
          rw [hh.out, List.drop_eq_nil_of_le hend, show k = l.length by omega]; rfl
        have HR := Lib.hid hr; clear hr
        go_wp2_with fail
        try rw [Exit.noGoto_ret]
        exact bodyPost_ret (v := .tuple #[.string ⟨#[]⟩, .agg #[.int .i64 8, .int .i64 l.length]]) (by simp [results, Tryz.results33, go_sem, hc0, hc1]) rfl ⟨ret_uq HR.out, by go_grown⟩
      · have hlt : k < l.length := by omega
        clear hend
        have hdrop := drop_byt l k hlt
        by_cases c34 : byt l k = 34
        · by_cases hmore : k + 1 < l.length
          · have hr : r = ([], 8, k + 1) := by
              rw [hh.out, hdrop, c34, drop_byt l (k + 1) hmore]; rfl
            have HR := Lib.hid hr; clear hr hdrop
            go_wp2_with fail
            try rw [Exit.noGoto_ret]
            exact bodyPost_ret (v := .tuple #[.string ⟨#[]⟩, .agg #[.int .i64 8, .int .i64 ((k + 1 : Nat) : Int)]]) (by simp [results, Tryz.results33, go_sem, hc0, hc1]) rfl ⟨ret_uq HR.out, by go_grown⟩
          · have hr : r = (acc, 0, 0) := by
              rw [hh.out, hdrop, c34, List.drop_eq_nil_of_le (show l.length ≤ k + 1 by omega)]; rfl
            have HR := Lib.hid hr; clear hr hdrop
            have hcv := conv_own (P := Tryz.prog) wr 45 9 5 (w.heap.size + 1) _ acc Tryz.underlying45 Tryz.underlying5 Tryz.underlying9 hown
            go_wp2_with fail
            try rw [Exit.noGoto_ret]
            exact bodyPost_ret (v := .tuple #[.string (S acc), .agg #[.int .i64 0, .int .i64 0]]) (by simp [results, Tryz.results33, go_sem, hc0, hc1]) rfl ⟨ret_uq HR.out, by go_grown⟩
        · have e34 : (((byt l k).toNat : Int) == 34) = false := u8_ne c34
          have hsz : w.heap.size + 1 ≤ wr.heap.size := Nat.le_trans hs0 hBr.size
          by_cases c92 : byt l k = 92
          · have hu := unesc_len (l.drop k)
            rw [List.length_drop] at hu
            have hr : r = if (unesc (l.drop k)).2 = 0 then ([], 8, k) else scan (l.drop (k + 1)) ((unesc (l.drop k)).2 - 1) (k + (unesc (l.drop k)).2) (acc ++ [(unesc (l.drop k)).1]) := by
              rw [hh.out, hdrop, c92]; simp [scan]
            have hcall := unescape_any (sl l k l.length) (by rw [sl_from, List.length_drop]; omega) wr (HE.out.below hBw)
            rw [sl_from] at hcall
            rw [← sl_from l k] at hcall
            obtain ⟨c, n, hcn⟩ : ∃ c n, unesc (l.drop k) = (c, n) := ⟨_, _, rfl⟩
            rw [sl_from l k] at hcall
            rw [hcn] at hr hu hcall
            simp only [] at hr hu
            have hsl := Lib.hid (sl_from l k)
            have HC := Lib.hid hcall; clear hcall hcn hdrop
            by_cases hn : n = 0
            · rw [if_pos hn] at hr
              subst hn
              have HR := Lib.hid hr; clear hr
              go_wp2_with fail
              rw [hsl.out]
              refine HC.out.mono ?_
              rintro e w1 ⟨rfl, hb1⟩
              clear HC hc0 hc1 hf0 hf1
              have hT1 := hT.below hb1
              have hc0 := hT1.cell0
              have hc1 := hT1.cell1
              have hf0 := hT1.frozen0
              have hf1 := hT1.frozen1
              have hBw1 : Below w.heap.size w w1 := hBw.trans (hb1.mono (by omega))
              dsimp only [uneVal]
              go_wp2_with fail
              try rw [Exit.noGoto_ret]
              exact bodyPost_ret (v := .tuple #[.string ⟨#[]⟩, .agg #[.int .i64 8, .int .i64 k]]) (by simp [results, Tryz.results33, go_sem, hc0, hc1]) rfl ⟨ret_uq HR.out, by go_grown⟩
            · rw [if_neg hn, scan_skip _ _ _ _ (by rw [List.length_drop]; omega), List.drop_drop, show k + 1 + (n - 1) = k + n by omega] at hr
              have HR := Lib.hid hr; clear hr
              have hn0 : ((n : Int) == 0) = false := by simp; exact hn
              have hn1 : n ≤ 4 := hu.2
              have hn2 : k + n ≤ l.length := by omega
              go_wp2_with fail
              rw [hsl.out]
              refine HC.out.mono ?_
              rintro e w1 ⟨rfl, hb1⟩
              clear HC hc0 hc1 hf0 hf1
              have hown1 := own_under hown hb1
              have hB1 : Below (w.heap.size + 1) w0 w1 := hBr.trans (hb1.mono (by omega))
              have hsz1 : w.heap.size + 1 ≤ w1.heap.size := Nat.le_trans hsz hb1.size
              dsimp only [uneVal]
              go_wp2_with (at_builtin; refine wpList_append_own _ rfl _ _ 45 rfl (w.heap.size + 1) 5 i0 (.int .u8 0) 1 1 Tryz.underlying45 hi hz0 hz1 hz2 rfl (by decide) _ _ _ rfl (hown1.alloc _) ⟨w1.heap.size, 0, none⟩ 1 1 [.int .u8 (c.toNat : Int)] rfl rfl (cell_one_new _ _ _) (by simp [Value.oneCell']) (by unfold maxLen; omega) (by omega) (by simp; omega) ?_; intro v' w2 hown' hgrow _)
              have hB2 : Below (w.heap.size + 1) w0 w2 := own_below1 hB1 hown1 hgrow (by omega)
              have hown2 : w2.ownsRow (w.heap.size + 1) 5 1 v' (acc ++ [c]).length (bcells (acc ++ [c])) := by rw [← bcells_append, List.length_append]; exact hown'
              clear hgrow hown'
              go_wp2_with fail
              go_roundw
              case rel => exact ⟨k + n, acc ++ [c], by omega, by omega, by go_num, by rw [List.length_append]; simp; omega, hown2, hB2, HR.out⟩
              case measure => simp [intOf]; omega
          · have e92 : (((byt l k).toNat : Int) == 92) = false := u8_ne c92
            by_cases hp : byt l k < 32 ∨ 126 < byt l k
            · have hr : r = ([], 8, k) := by
                rw [hh.out, hdrop]; simp [scan, c34, c92, hp]
              have HR := Lib.hid hr; clear hr hdrop
              have hq : ¬ (32 ≤ (byt l k).toNat ∧ (byt l k).toNat ≤ 126) := by
                rcases hp with h | h <;> rw [UInt8.lt_iff_toNat_lt] at h <;> simp at h <;> omega
              clear hp
              by_cases h32 : (byt l k).toNat < 32
              · go_wp2_with fail
                try rw [Exit.noGoto_ret]
                exact bodyPost_ret (v := .tuple #[.string ⟨#[]⟩, .agg #[.int .i64 8, .int .i64 k]]) (by simp [results, Tryz.results33, go_sem, hc0, hc1]) rfl ⟨ret_uq HR.out, by go_grown⟩
              · have h126 : 126 < (byt l k).toNat := by omega
                go_wp2_with fail
                try rw [Exit.noGoto_ret]
                exact bodyPost_ret (v := .tuple #[.string ⟨#[]⟩, .agg #[.int .i64 8, .int .i64 k]]) (by simp [results, Tryz.results33, go_sem, hc0, hc1]) rfl ⟨ret_uq HR.out, by go_grown⟩
            · have h32 : 32 ≤ (byt l k).toNat := by
                have := fun h => hp (.inl h); rw [UInt8.lt_iff_toNat_lt] at this; simp at this; exact this
              have h126 : (byt l k).toNat ≤ 126 := by
                have := fun h => hp (.inr h); rw [UInt8.lt_iff_toNat_lt] at this; simp at this; exact this
              have hr : r = scan (l.drop (k + 1)) 0 (k + 1) (acc ++ [byt l k]) := by
                rw [hh.out, hdrop]; simp [scan, c34, c92, hp]
              have HR := Lib.hid hr; clear hr hdrop hp
              go_wp2_with (at_builtin; refine wpList_append_own _ rfl _ _ 45 rfl (w.heap.size + 1) 5 i0 (.int .u8 0) 1 1 Tryz.underlying45 hi hz0 hz1 hz2 rfl (by decide) _ _ _ rfl (hown.alloc _) ⟨wr.heap.size, 0, none⟩ 1 1 [.int .u8 ((byt l k).toNat : Int)] rfl rfl (cell_one_new _ _ _) (by simp [Value.oneCell']) (by unfold maxLen; omega) (by omega) (by simp; omega) ?_; intro v' w1 hown' hgrow _)
              have hB1 : Below (w.heap.size + 1) w0 w1 := own_below1 hBr hown hgrow (by omega)
              have hown2 : w1.ownsRow (w.heap.size + 1) 5 1 v' (acc ++ [(byt l k)]).length (bcells (acc ++ [(byt l k)])) := by rw [← bcells_append, List.length_append]; exact hown'
              clear hgrow hown'
              go_wp2_with fail
              go_roundw
              case rel => exact ⟨k + 1, acc ++ [byt l k], by omega, by omega, by go_num, by rw [List.length_append]; simp; omega, hown2, hB1, HR.out⟩
              case measure => simp [intOf]; omega
  · have hf : unqL (c :: t) = ([], 8, 0) := by unfold unqL; rw [if_neg hbig]; simp [h34]
    have e0 : byt (c :: t) 0 = c := rfl
    have hl0 : 0 < (c :: t).length := by simp
    have hne : (((c :: t).length : Int) == 0) = false := by simp; omega
    generalize c :: t = l at *
    have HF := Lib.hid hf; clear hf
    have e34 : ((c.toNat : Int) == 34) = false := u8_ne h34
    clear h34
    go_enter Tryz.func33, Tryz.ntmps33
    go_wp2_with fail
    go_step3
    go_wp2_with fail
    try rw [Exit.noGoto_ret]
    exact bodyPost_ret (v := .tuple #[.string ⟨#[]⟩, .agg #[.int .i64 8, .int .i64 0]]) (by simp [results, Tryz.results33, go_sem]) rfl ⟨ret_uq HF.out, by go_grown⟩

end Go.Proofs.YtadbilonialjnaaGreatDoor
