/- Walks of the versions: Text. -/
import Derived.Laws.AppendOwn
import Derived.Test.YtppbbalojbedpaaDoorSemB
import Derived.Test.YtppbbalojbedpaaDoorNumOk
import Derived.Test.YtppbbalojbedpaaDoorShelf
namespace Go.Proofs.YtppbbalojbedpaaDoor
open Go.RowKit

theorem infoStr : (Tryd.prog.info? 9).map (fun i => (i.zero, i.size, i.bytes)) = some (some (.string ⟨#[]⟩), 1, 16) := by kernel_rfl
theorem itoa_nat (n : Nat) : Lib.itoa (n : Int) = Lib.decDigits n := Lib.itoa_nonneg n
theorem Itoa_any (n : Nat) (hn : n ≤ 1000000) (w : World) (hE : NumOk w) : Calls Tryd.prog 26 #[.int .i64 (n : Int)] w fun e w' => e = .returned (.string (S (Lib.decDigits n))) ∧ Below w.heap.size w w' := by
  refine (Tryd.strconv_Itoa (n : Int) (by omega) (by omega) w hE.tab).mono ?_
  rintro e w' ⟨rfl, k, os, rfl⟩
  exact ⟨by rw [itoa_nat]; rfl, Lib.below_grow _ w (Nat.le_refl _) k os⟩
/-- a slice of strings of the call's own -/
def scells (l : List (List UInt8)) : List Value := l.map fun x => .string (S x)
theorem join_dots (a b c : List UInt8) : Lib.join [a, b, c] [46] = a ++ 46 :: (b ++ 46 :: c) := by
  simp [Lib.join, List.intercalate, List.intersperse]
theorem own_parts {W : World} {base : Nat} {e : TypeId} {v : Value} {k : Nat} {xs : List Value} (h : W.ownsRow base e 1 v k xs) (hk : 0 < k) : ∃ g cap, v = .slice (some ⟨g, 0, none⟩) k cap ∧ base ≤ g ∧ g < W.heap.size ∧ k ≤ cap ∧ (∀ j u, xs[j]? = some u → W.cell? ⟨g, j, none⟩ = some u) := by
  rcases h.2 with ⟨_, h0⟩ | ⟨g, cap, cur, rfl, hb, hg, hc, hm, hs, ht⟩
  · omega
  · refine ⟨g, cap, rfl, hb, (Array.getElem?_eq_some_iff.1 hg).1, hc, fun j u hu => ?_⟩
    have := h.cells (g := g) rfl j u hu
    rwa [Lib.add_plain, Nat.zero_add] at this
theorem Join_any (v : Value) (xs : List (List UInt8)) (w : World) (base : Nat) (hown : w.ownsRow base 9 1 v xs.length (scells xs)) (hl : (Lib.join xs [46]).length ≤ 1000000) (hx : xs.length ≤ 1000) (hx0 : 0 < xs.length) :
    Calls Tryd.prog 27 #[v, .string (S [46])] w fun e w' => e = .returned (.string (S (Lib.join xs [46]))) ∧ Below w.heap.size w w' := by
  obtain ⟨g, cap, rfl, hb, hg, hc, hcells⟩ := own_parts hown hx0
  have hm : (xs.map S).map (·.data.toList) = xs := by
    rw [List.map_map]; conv => rhs; rw [← List.map_id xs]
    apply List.map_congr_left; intro x _; rfl
  have h := Tryd.strings_Join g 0 cap (xs.map S) (S [46]) w (fun j x hj => by
      rw [Nat.zero_add]
      apply hcells
      unfold scells
      rw [List.getElem?_map] at hj ⊢
      cases hx : xs[j]? with
      | none => rw [hx] at hj; cases hj
      | some y => rw [hx] at hj; injection hj with hj; rw [← hj]; rfl) hg (by rw [List.length_map]; omega) (by rw [List.length_map]; exact hc) (by rw [hm]; show (Lib.join xs [46]).length ≤ _; omega)
  rw [hm, List.length_map] at h
  exact h
set_option maxHeartbeats 2000000 in
theorem Text_any (a b c : Int) (w : World) (hE : NumOk w) : Calls Tryd.prog 13 #[.agg #[.int .i64 a, .int .i64 b, .int .i64 c]] w fun e w' => e = .returned (.string (S (textV ⟨a, b, c⟩))) ∧ Below w.heap.size w w' := by
  rcases bool_two (vldV ⟨a, b, c⟩) with hv | hv
  · have HT := Lib.hid (textV_bad _ hv)
    have HV := Lib.hid hv
    clear hv
    go_enter Tryd.func13, Tryd.ntmps13
    go_wp2_with fail
    refine (Valid_any a b c _).mono ?_
    rintro e w1 ⟨rfl, hb1⟩
    rw [HV.out]
    obtain ⟨hB, hb1⟩ := below_new hb1
    go_wp2_with fail
    go_ret
    exact ⟨ret_S HT.out.symm, hb1⟩
  · have HT := Lib.hid (textV_val _ hv)
    have hbd := (vldV_iff _).1 hv
    have HV := Lib.hid hv
    obtain ⟨x, rfl⟩ : ∃ x : Nat, a = x := ⟨a.toNat, by have := hbd.1.1; simp only at this; omega⟩
    obtain ⟨y, rfl⟩ : ∃ y : Nat, b = y := ⟨b.toNat, by have := hbd.2.1.1; simp only at this; omega⟩
    obtain ⟨z, rfl⟩ : ∃ z : Nat, c = z := ⟨c.toNat, by have := hbd.2.2.1; simp only at this; omega⟩
    simp only at hbd HT
    have hx : x ≤ 9999 := by omega
    have hy : y ≤ 9999 := by omega
    have hz : z ≤ 9999 := by omega
    simp only [Int.toNat_natCast] at HT
    have HE := Lib.hid hE
    clear hv hbd hE
    obtain ⟨dx, hdx⟩ : ∃ d, Lib.decDigits x = d := ⟨_, rfl⟩
    obtain ⟨dy, hdy⟩ : ∃ d, Lib.decDigits y = d := ⟨_, rfl⟩
    obtain ⟨dz, hdz⟩ : ∃ d, Lib.decDigits z = d := ⟨_, rfl⟩
    have lx : dx.length ≤ 4 := by rw [← hdx]; exact (dec_len x 4 (by omega) (by omega)).2
    have ly : dy.length ≤ 4 := by rw [← hdy]; exact (dec_len y 4 (by omega) (by omega)).2
    have lz : dz.length ≤ 4 := by rw [← hdz]; exact (dec_len z 4 (by omega) (by omega)).2
    rw [hdx, hdy, hdz] at HT
    have HX := Lib.hid hdx
    have HY := Lib.hid hdy
    have HZ := Lib.hid hdz
    clear hdx hdy hdz
    obtain ⟨i0, hi, hz0, hz1, hz2⟩ := info_parts infoStr
    have k0 : ∀ w, (Instr.index 36 (.agg #[.int .i64 (x : Int), .int .i64 (y : Int), .int .i64 (z : Int)]) (.int .i64 0)).run Tryd.prog w = .ok (.int .i64 (x : Int)) w := fun _ => by kernel_rfl
    have k1 : ∀ w, (Instr.index 36 (.agg #[.int .i64 (x : Int), .int .i64 (y : Int), .int .i64 (z : Int)]) (.int .i64 1)).run Tryd.prog w = .ok (.int .i64 (y : Int)) w := fun _ => by kernel_rfl
    have k2 : ∀ w, (Instr.index 36 (.agg #[.int .i64 (x : Int), .int .i64 (y : Int), .int .i64 (z : Int)]) (.int .i64 2)).run Tryd.prog w = .ok (.int .i64 (z : Int)) w := fun _ => by kernel_rfl
    go_enter Tryd.func13, Tryd.ntmps13
    go_wp2_with fail
    refine (Valid_any _ _ _ _).mono ?_
    rintro e w1 ⟨rfl, hb1⟩
    rw [HV.out]
    obtain ⟨hB, hb1⟩ := below_new hb1
    have c0 := hB.cell 0
    have c1 := hB.cell 1
    have c2 := hB.cell 2
    have hlt := hB.lt
    have HB := Lib.hid hB
    have HB1 := Lib.hid hb1
    clear hB hb1
    go_wp2_with fail
    refine (numbers_any _ _ _ _).mono ?_
    rintro e w2 ⟨rfl, hb2⟩
    have HB2 := Lib.hid (HB1.out.trans (hb2.mono HB1.out.size))
    clear hb2 c0 c1 c2
    go_wp2_with fail
    have h0 : w.heap.size ≤ w2.heap.size := HB2.out.size
    go_loopw [3, 11] (fun v i wr => ∃ l : List (List UInt8), ((i = .int .i64 0 ∧ l = []) ∨ (i = .int .i64 1 ∧ l = [dx]) ∨ (i = .int .i64 2 ∧ l = [dx, dy]) ∨ (i = .int .i64 3 ∧ l = [dx, dy, dz])) ∧ wr.ownsRow w.heap.size 9 1 v l.length (scells l) ∧ Below w.heap.size w wr ∧ w.heap.size ≤ wr.heap.size)
      (fun _ i _ => 3 - (intOf i).toNat)
    case atStart => exact ⟨[], .inl ⟨rfl, rfl⟩, ⟨rfl, .inl ⟨rfl, rfl⟩⟩, HB2.out, h0⟩
    case round =>
      clear h0
      obtain ⟨l, hl, hown, hBr, hsz⟩ := hrel
      rcases hl with ⟨rfl, rfl⟩ | ⟨rfl, rfl⟩ | ⟨rfl, rfl⟩ | ⟨rfl, rfl⟩
      · go_wp2_with fail
        refine (Itoa_any x (by omega) _ (HE.out.below hBr)).mono ?_
        rintro e w3 ⟨rfl, hb3⟩
        rw [HX.out]
        have hown3 := own_under hown hb3
        have hB3 : Below w.heap.size w w3 := hBr.trans (hb3.mono hsz)
        have hsz3 : w.heap.size ≤ w3.heap.size := Nat.le_trans hsz hb3.size
        clear hown hBr hsz hb3
        go_wp2_with (at_builtin; refine wpList_append_own _ rfl _ _ 39 rfl w.heap.size 9 i0 (.string ⟨#[]⟩) 1 16 Tryd.underlying39 hi hz0 hz1 hz2 rfl (by decide) _ _ _ rfl (hown3.alloc _) ⟨w3.heap.size, 0, none⟩ 1 1 [.string (S dx)] rfl rfl (cell_one_new _ _ _) (by simp [Value.oneCell']) (by unfold maxLen; simp) (by simp) (by simp; omega) ?_; intro v' w4 hown' hgrow _)
        have hB4 : Below w.heap.size w w4 := own_below1 hB3 hown3 hgrow hsz3
        have hsz4 : w.heap.size ≤ w4.heap.size := hB4.size
        have hown4 : w4.ownsRow w.heap.size 9 1 v' ([dx] : List (List UInt8)).length (scells [dx]) := hown'
        clear hgrow hown' hown3 hB3 hsz3
        go_wp2_with fail
        go_roundw
        case rel => exact ⟨[dx], .inr (.inl ⟨rfl, rfl⟩), hown4, hB4, hsz4⟩
        case measure => simp [intOf]
      · go_wp2_with fail
        refine (Itoa_any y (by omega) _ (HE.out.below hBr)).mono ?_
        rintro e w3 ⟨rfl, hb3⟩
        rw [HY.out]
        have hown3 := own_under hown hb3
        have hB3 : Below w.heap.size w w3 := hBr.trans (hb3.mono hsz)
        have hsz3 : w.heap.size ≤ w3.heap.size := Nat.le_trans hsz hb3.size
        clear hown hBr hsz hb3
        go_wp2_with (at_builtin; refine wpList_append_own _ rfl _ _ 39 rfl w.heap.size 9 i0 (.string ⟨#[]⟩) 1 16 Tryd.underlying39 hi hz0 hz1 hz2 rfl (by decide) _ _ _ rfl (hown3.alloc _) ⟨w3.heap.size, 0, none⟩ 1 1 [.string (S dy)] rfl rfl (cell_one_new _ _ _) (by simp [Value.oneCell']) (by unfold maxLen; simp) (by simp) (by simp; omega) ?_; intro v' w4 hown' hgrow _)
        have hB4 : Below w.heap.size w w4 := own_below1 hB3 hown3 hgrow hsz3
        have hsz4 : w.heap.size ≤ w4.heap.size := hB4.size
        have hown4 : w4.ownsRow w.heap.size 9 1 v' ([dx, dy] : List (List UInt8)).length (scells [dx, dy]) := hown'
        clear hgrow hown' hown3 hB3 hsz3
        go_wp2_with fail
        go_roundw
        case rel => exact ⟨[dx, dy], .inr (.inr (.inl ⟨rfl, rfl⟩)), hown4, hB4, hsz4⟩
        case measure => simp [intOf]
      · go_wp2_with fail
        refine (Itoa_any z (by omega) _ (HE.out.below hBr)).mono ?_
        rintro e w3 ⟨rfl, hb3⟩
        rw [HZ.out]
        have hown3 := own_under hown hb3
        have hB3 : Below w.heap.size w w3 := hBr.trans (hb3.mono hsz)
        have hsz3 : w.heap.size ≤ w3.heap.size := Nat.le_trans hsz hb3.size
        clear hown hBr hsz hb3
        go_wp2_with (at_builtin; refine wpList_append_own _ rfl _ _ 39 rfl w.heap.size 9 i0 (.string ⟨#[]⟩) 1 16 Tryd.underlying39 hi hz0 hz1 hz2 rfl (by decide) _ _ _ rfl (hown3.alloc _) ⟨w3.heap.size, 0, none⟩ 1 1 [.string (S dz)] rfl rfl (cell_one_new _ _ _) (by simp [Value.oneCell']) (by unfold maxLen; simp) (by simp) (by simp; omega) ?_; intro v' w4 hown' hgrow _)
        have hB4 : Below w.heap.size w w4 := own_below1 hB3 hown3 hgrow hsz3
        have hsz4 : w.heap.size ≤ w4.heap.size := hB4.size
        have hown4 : w4.ownsRow w.heap.size 9 1 v' ([dx, dy, dz] : List (List UInt8)).length (scells [dx, dy, dz]) := hown'
        clear hgrow hown' hown3 hB3 hsz3
        go_wp2_with fail
        go_roundw
        case rel => exact ⟨[dx, dy, dz], .inr (.inr (.inr ⟨rfl, rfl⟩)), hown4, hB4, hsz4⟩
        case measure => simp [intOf]
      · go_wp2_with fail
        refine (Join_any _ [dx, dy, dz] _ w.heap.size hown (by rw [join_dots]; simp; omega) (by simp) (by simp)).mono ?_
        rintro e w3 ⟨rfl, hb3⟩
        rw [join_dots]
        go_wp2_with fail
        go_ret
        exact ⟨ret_S (by rw [HT.out]; rfl), hBr.trans (hb3.mono hsz)⟩
end Go.Proofs.YtppbbalojbedpaaDoor
