/- The reference's Unquote computes 'unqL' for every string of at most 1000000 bytes. -/
import Derived.Test.YtadbilonialjnaaDoorUnq
namespace Go.Proofs.YtadbilonialjnaaDoor
open Go.RowKit

theorem fault_any (n : Int) (w : World) : Calls Tryd.prog 30 #[.int .i64 n] w fun e w' => e = .returned (.agg #[.int .i64 8, .int .i64 n]) ∧ Below w.heap.size w w' := by
  go_enter Tryd.func30, Tryd.ntmps30
  go_wp2
  exact bodyPost_ret (v := .agg #[.int .i64 8, .int .i64 n]) (by simp [results, Tryd.results30, go_sem]) rfl ⟨rfl, by go_grown⟩

set_option maxRecDepth 100000 in
set_option maxHeartbeats 1000000 in
theorem refUnquote_any (l : List UInt8) (hl : l.length ≤ 1000000) (w : World) :
    Calls Tryd.prog 25 #[.string (S l)] w fun e w' => e = .returned (uqVal (unqL l)) ∧ Below w.heap.size w w' := by
  have hT : Two (w.alloc (.cells #[.int .i64 0, .int .i64 0] 26)) w.heap.size 26 (.int .i64 0) (.int .i64 0) := Two.new w _ _ _
  have hBn : Below w.heap.size w (w.alloc (.cells #[.int .i64 0, .int .i64 0] 26)) := (Below.refl _ _).alloc (Nat.le_refl _) _
  by_cases hbig : 65536 < l.length
  · have hf : unqL l = ([], 2, 0) := by unfold unqL; rw [if_pos hbig]
    generalize unqL l = r at hf ⊢
    have HF := Lib.hid hf; clear hf
    go_enter Tryd.func25, Tryd.ntmps25
    go_wp2_with fail
    exact bodyPost_ret (v := .tuple #[.string ⟨#[]⟩, .agg #[.int .i64 2, .int .i64 0]]) (by simp [results, Tryd.results25, go_sem]) rfl ⟨ret_uq HF.out, by go_grown⟩
  cases l with
  | nil =>
    have HF := Lib.hid (show unqL [] = ([], 8, 0) by rfl)
    have hc0 := hT.cell0
    have hc1 := hT.cell1
    have hf0 := hT.frozen0
    have hf1 := hT.frozen1
    go_enter Tryd.func25, Tryd.ntmps25
    go_wp2_with fail
    refine (fault_any _ _).mono ?_
    rintro e w9 ⟨rfl, hb9⟩
    clear hc0 hc1 hf0 hf1
    have hT9 := hT.below hb9
    have hc0 := hT9.cell0
    have hc1 := hT9.cell1
    have hf0 := hT9.frozen0
    have hf1 := hT9.frozen1
    have hBw9 : Below w.heap.size w w9 := hBn.trans (hb9.mono hBn.size)
    go_wp2_with fail
    exact bodyPost_ret (v := .tuple #[.string ⟨#[]⟩, .agg #[.int .i64 8, .int .i64 0]]) (by simp [results, Tryd.results25, go_sem, hc0, hc1]) rfl ⟨ret_uq HF.out, by go_grown⟩
  | cons c t =>
  by_cases h34 : c = 34
  · subst h34
    have hf : unqL (34 :: t) = scan ((34 :: t).drop 1) 0 1 [] := by unfold unqL; rw [if_neg hbig]; rfl
    have e0 : byt (34 :: t) 0 = 34 := rfl
    have hl0 : 0 < ((34 : UInt8) :: t).length := by simp
    have hne : ((((34 : UInt8) :: t).length : Int) == 0) = false := by simp; omega
    generalize (34 : UInt8) :: t = l at *
    generalize unqL l = r at hf ⊢
    have HF := Lib.hid hf; clear hf
    obtain ⟨i0, hi, hz0, hz1, hz2⟩ := info_parts infoU8
    have hb' : l.length ≤ 65536 := by omega
    go_enter Tryd.func25, Tryd.ntmps25
    go_wp2_with fail
    clear e0 hne hT hBn
    obtain ⟨w0, hw0⟩ : ∃ w0, w0 = w.alloc (.cells #[.int .i64 0, .int .i64 0] 26) := ⟨_, rfl⟩
    have hT0 : Two w0 w.heap.size 26 (.int .i64 0) (.int .i64 0) := by rw [hw0]; exact Two.new w _ _ _
    have hs0 : w.heap.size + 1 ≤ w0.heap.size := by rw [hw0]; simp
    have hB0 : Below w.heap.size w w0 := by rw [hw0]; exact (Below.refl _ _).alloc (Nat.le_refl _) _
    rw [← hw0]
    clear hw0
    go_loopw [4, 5] (fun v i wr => ∃ (k : Nat) (acc : List UInt8), k ≤ l.length ∧ 1 ≤ k ∧ i = .int .i64 k ∧ acc.length ≤ k ∧ wr.ownsRow (w.heap.size + 1) 5 1 v acc.length (bcells acc) ∧ Below (w.heap.size + 1) w0 wr ∧ Hid (r = scan (l.drop k) 0 k acc))
      (fun _ i _ => l.length - (intOf i).toNat)
    case atStart => exact ⟨1, [], by omega, by omega, rfl, by simp, World.ownsRow_nil _ _ _ _, Below.refl _ _, HF.out⟩
    case round =>
      clear HF
      obtain ⟨k, acc, hk, hk1, rfl, hacc, hown, hBr, hh⟩ := hrel
      have hT : Two wr w.heap.size 26 (.int .i64 0) (.int .i64 0) := (hBr.block _ (by omega)).trans hT0
      have hc0 := hT.cell0
      have hc1 := hT.cell1
      have hf0 := hT.frozen0
      have hf1 := hT.frozen1
      have hBw : Below w.heap.size w wr := hB0.trans (hBr.mono (by omega))
      by_cases hend : l.length ≤ k
      · have hr : r = ([], 8, l.length) := by
          rw [hh.out, List.drop_eq_nil_of_le hend, show k = l.length by omega]; rfl
        have HR := Lib.hid hr; clear hr
        go_wp2_with fail
        refine (fault_any _ _).mono ?_
        rintro e w9 ⟨rfl, hb9⟩
        clear hc0 hc1 hf0 hf1
        have hT9 := hT.below hb9
        have hc0 := hT9.cell0
        have hc1 := hT9.cell1
        have hf0 := hT9.frozen0
        have hf1 := hT9.frozen1
        have hBw9 : Below w.heap.size w w9 := hBw.trans (hb9.mono hBw.size)
        go_wp2_with fail
        exact bodyPost_ret (v := .tuple #[.string ⟨#[]⟩, .agg #[.int .i64 8, .int .i64 l.length]]) (by simp [results, Tryd.results25, go_sem, hc0, hc1]) rfl ⟨ret_uq HR.out, by go_grown⟩
      · have hlt : k < l.length := by omega
        clear hend
        have hdrop := drop_byt l k hlt
        by_cases c34 : byt l k = 34
        · by_cases hmore : k + 1 < l.length
          · have hr : r = ([], 8, k + 1) := by
              rw [hh.out, hdrop, c34, drop_byt l (k + 1) hmore]; rfl
            have HR := Lib.hid hr; clear hr hdrop
            go_wp2_with fail
            refine (fault_any _ _).mono ?_
            rintro e w9 ⟨rfl, hb9⟩
            clear hc0 hc1 hf0 hf1
            have hT9 := hT.below hb9
            have hc0 := hT9.cell0
            have hc1 := hT9.cell1
            have hf0 := hT9.frozen0
            have hf1 := hT9.frozen1
            have hBw9 : Below w.heap.size w w9 := hBw.trans (hb9.mono hBw.size)
            go_wp2_with fail
            exact bodyPost_ret (v := .tuple #[.string ⟨#[]⟩, .agg #[.int .i64 8, .int .i64 ((k + 1 : Nat) : Int)]]) (by simp [results, Tryd.results25, go_sem, hc0, hc1]) rfl ⟨ret_uq HR.out, by go_grown⟩
          · have hr : r = (acc, 0, 0) := by
              rw [hh.out, hdrop, c34, List.drop_eq_nil_of_le (show l.length ≤ k + 1 by omega)]; rfl
            have HR := Lib.hid hr; clear hr hdrop
            have hcv := conv_own (P := Tryd.prog) wr 43 9 5 (w.heap.size + 1) _ acc Tryd.underlying43 Tryd.underlying5 Tryd.underlying9 hown
            go_wp2_with fail
            exact bodyPost_ret (v := .tuple #[.string (S acc), .agg #[.int .i64 0, .int .i64 0]]) (by simp [results, Tryd.results25, go_sem, hc0, hc1]) rfl ⟨ret_uq HR.out, by go_grown⟩
        · have e34 : (((byt l k).toNat : Int) == 34) = false := u8_ne c34
          have hsz : w.heap.size + 1 ≤ wr.heap.size := Nat.le_trans hs0 hBr.size
          by_cases c92 : byt l k = 92
          · have hu := unesc_len (l.drop k)
            rw [List.length_drop] at hu
            have hr : r = if (unesc (l.drop k)).2 = 0 then ([], 8, k) else scan (l.drop (k + 1)) ((unesc (l.drop k)).2 - 1) (k + (unesc (l.drop k)).2) (acc ++ [(unesc (l.drop k)).1]) := by
              rw [hh.out, hdrop, c92]; simp [scan]
            have hcall := Escape_any l k hl hlt c92 wr
            obtain ⟨c, n, hcn⟩ : ∃ c n, unesc (l.drop k) = (c, n) := ⟨_, _, rfl⟩
            rw [hcn] at hr hu hcall
            simp only [] at hr hu
            have HC := Lib.hid hcall; clear hcall hcn hdrop
            by_cases hn : n = 0
            · rw [if_pos hn] at hr
              subst hn
              have HR := Lib.hid hr; clear hr
              go_wp2_with fail
              refine HC.out.mono ?_
              rintro e w1 ⟨rfl, hb1⟩
              clear HC hc0 hc1 hf0 hf1
              have hT1 := hT.below hb1
              have hc0 := hT1.cell0
              have hc1 := hT1.cell1
              have hf0 := hT1.frozen0
              have hf1 := hT1.frozen1
              have hBw1 : Below w.heap.size w w1 := hBw.trans (hb1.mono (by omega))
              dsimp only [uneVal]
              go_wp2_with fail
              refine (fault_any _ _).mono ?_
              rintro e w9 ⟨rfl, hb9⟩
              clear hc0 hc1 hf0 hf1
              have hT9 := hT1.below hb9
              have hc0 := hT9.cell0
              have hc1 := hT9.cell1
              have hf0 := hT9.frozen0
              have hf1 := hT9.frozen1
              have hBw9 : Below w.heap.size w w9 := hBw1.trans (hb9.mono hBw1.size)
              go_wp2_with fail
              exact bodyPost_ret (v := .tuple #[.string ⟨#[]⟩, .agg #[.int .i64 8, .int .i64 k]]) (by simp [results, Tryd.results25, go_sem, hc0, hc1]) rfl ⟨ret_uq HR.out, by go_grown⟩
            · rw [if_neg hn, scan_skip _ _ _ _ (by rw [List.length_drop]; omega), List.drop_drop, show k + 1 + (n - 1) = k + n by omega] at hr
              have HR := Lib.hid hr; clear hr
              have hn0 : ((n : Int) == 0) = false := by simp; exact hn
              have hn1 : n ≤ 4 := hu.2
              have hn2 : k + n ≤ l.length := by omega
              go_wp2_with fail
              refine HC.out.mono ?_
              rintro e w1 ⟨rfl, hb1⟩
              clear HC hc0 hc1 hf0 hf1
              have hown1 := own_under hown hb1
              have hB1 : Below (w.heap.size + 1) w0 w1 := hBr.trans (hb1.mono (by omega))
              have hsz1 : w.heap.size + 1 ≤ w1.heap.size := Nat.le_trans hsz hb1.size
              dsimp only [uneVal]
              go_wp2_with (at_builtin; refine wpList_append_own _ rfl _ _ 43 rfl (w.heap.size + 1) 5 i0 (.int .u8 0) 1 1 Tryd.underlying43 hi hz0 hz1 hz2 rfl (by decide) _ _ _ rfl (hown1.alloc _) ⟨w1.heap.size, 0, none⟩ 1 1 [.int .u8 (c.toNat : Int)] rfl rfl (cell_one_new _ _ _) (by simp [Value.oneCell']) (by unfold maxLen; omega) (by omega) (by simp; omega) ?_; intro v' w2 hown' hgrow _)
              have hB2 : Below (w.heap.size + 1) w0 w2 := own_below1 hB1 hown1 hgrow (by omega)
              have hown2 : w2.ownsRow (w.heap.size + 1) 5 1 v' (acc ++ [c]).length (bcells (acc ++ [c])) := by rw [← bcells_append, List.length_append]; exact hown'
              clear hgrow hown'
              go_wp2_with fail
              go_roundw
              case rel => exact ⟨k + n, acc ++ [c], by omega, by omega, by go_num, by rw [List.length_append]; simp; omega, hown2, hB2, HR.out⟩
              case measure => simp [intOf]; omega
          · have e92 : (((byt l k).toNat : Int) == 92) = false := u8_ne c92
            by_cases hp : byt l k < 32 ∨ 126 < byt l k
            · have hr : r = ([], 8, k) := by
                rw [hh.out, hdrop]; simp [scan, c34, c92, hp]
              have HR := Lib.hid hr; clear hr hdrop
              have hq : ¬ (32 ≤ (byt l k).toNat ∧ (byt l k).toNat ≤ 126) := by
                rcases hp with h | h <;> rw [UInt8.lt_iff_toNat_lt] at h <;> simp at h <;> omega
              clear hp
              by_cases h32 : (byt l k).toNat < 32
              · go_wp2_with fail
                refine (fault_any _ _).mono ?_
                rintro e w9 ⟨rfl, hb9⟩
                clear hc0 hc1 hf0 hf1
                have hT9 := hT.below hb9
                have hc0 := hT9.cell0
                have hc1 := hT9.cell1
                have hf0 := hT9.frozen0
                have hf1 := hT9.frozen1
                have hBw9 : Below w.heap.size w w9 := hBw.trans (hb9.mono hBw.size)
                go_wp2_with fail
                exact bodyPost_ret (v := .tuple #[.string ⟨#[]⟩, .agg #[.int .i64 8, .int .i64 k]]) (by simp [results, Tryd.results25, go_sem, hc0, hc1]) rfl ⟨ret_uq HR.out, by go_grown⟩
              · have h126 : 126 < (byt l k).toNat := by omega
                go_wp2_with fail
                refine (fault_any _ _).mono ?_
                rintro e w9 ⟨rfl, hb9⟩
                clear hc0 hc1 hf0 hf1
                have hT9 := hT.below hb9
                have hc0 := hT9.cell0
                have hc1 := hT9.cell1
                have hf0 := hT9.frozen0
                have hf1 := hT9.frozen1
                have hBw9 : Below w.heap.size w w9 := hBw.trans (hb9.mono hBw.size)
                go_wp2_with fail
                exact bodyPost_ret (v := .tuple #[.string ⟨#[]⟩, .agg #[.int .i64 8, .int .i64 k]]) (by simp [results, Tryd.results25, go_sem, hc0, hc1]) rfl ⟨ret_uq HR.out, by go_grown⟩
            · have h32 : 32 ≤ (byt l k).toNat := by
                have := fun h => hp (.inl h); rw [UInt8.lt_iff_toNat_lt] at this; simp at this; exact this
              have h126 : (byt l k).toNat ≤ 126 := by
                have := fun h => hp (.inr h); rw [UInt8.lt_iff_toNat_lt] at this; simp at this; exact this
              have hr : r = scan (l.drop (k + 1)) 0 (k + 1) (acc ++ [byt l k]) := by
                rw [hh.out, hdrop]; simp [scan, c34, c92, hp]
              have HR := Lib.hid hr; clear hr hdrop hp
              go_wp2_with (at_builtin; refine wpList_append_own _ rfl _ _ 43 rfl (w.heap.size + 1) 5 i0 (.int .u8 0) 1 1 Tryd.underlying43 hi hz0 hz1 hz2 rfl (by decide) _ _ _ rfl (hown.alloc _) ⟨wr.heap.size, 0, none⟩ 1 1 [.int .u8 ((byt l k).toNat : Int)] rfl rfl (cell_one_new _ _ _) (by simp [Value.oneCell']) (by unfold maxLen; omega) (by omega) (by simp; omega) ?_; intro v' w2 hown' hgrow _)
              have hB2 : Below (w.heap.size + 1) w0 w2 := own_below1 hBr hown hgrow (by omega)
              have hown2 : w2.ownsRow (w.heap.size + 1) 5 1 v' (acc ++ [(byt l k)]).length (bcells (acc ++ [(byt l k)])) := by rw [← bcells_append, List.length_append]; exact hown'
              clear hgrow hown'
              go_wp2_with fail
              go_roundw
              case rel => exact ⟨k + 1, acc ++ [byt l k], by omega, by omega, by go_num, by rw [List.length_append]; simp; omega, hown2, hB2, HR.out⟩
              case measure => simp [intOf]; omega
  · have hf : unqL (c :: t) = ([], 8, 0) := by unfold unqL; rw [if_neg hbig]; simp [h34]
    have e0 : byt (c :: t) 0 = c := rfl
    have hl0 : 0 < (c :: t).length := by simp
    have hne : (((c :: t).length : Int) == 0) = false := by simp; omega
    generalize c :: t = l at *
    have HF := Lib.hid hf; clear hf
    have e34 : ((c.toNat : Int) == 34) = false := u8_ne h34
    clear h34
    have hc0 := hT.cell0
    have hc1 := hT.cell1
    have hf0 := hT.frozen0
    have hf1 := hT.frozen1
    go_enter Tryd.func25, Tryd.ntmps25
    go_wp2_with fail
    refine (fault_any _ _).mono ?_
    rintro e w9 ⟨rfl, hb9⟩
    clear hc0 hc1 hf0 hf1
    have hT9 := hT.below hb9
    have hc0 := hT9.cell0
    have hc1 := hT9.cell1
    have hf0 := hT9.frozen0
    have hf1 := hT9.frozen1
    have hBw9 : Below w.heap.size w w9 := hBn.trans (hb9.mono hBn.size)
    go_wp2_with fail
    exact bodyPost_ret (v := .tuple #[.string ⟨#[]⟩, .agg #[.int .i64 8, .int .i64 0]]) (by simp [results, Tryd.results25, go_sem, hc0, hc1]) rfl ⟨ret_uq HF.out, by go_grown⟩

end Go.Proofs.YtadbilonialjnaaDoor
