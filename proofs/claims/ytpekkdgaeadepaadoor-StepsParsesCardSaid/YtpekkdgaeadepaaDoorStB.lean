/- Walks of the steps: comparing. -/
import Derived.Laws.Cover1
import Derived.Deep.RegionHeld3
import Derived.Deep.DeepCutAuto
import Derived.Deep.CutBlock
import Derived.Test.YtpekkdgaeadepaaDoorStA
namespace Go.Proofs.YtpekkdgaeadepaaDoor
open Go.RowKit

def cmpB (a b : List UInt8) : Int := if Op.bytesLess a b then -1 else if a = b then 0 else 1
def cmpI (x y : Int) : Int := if x < y then -1 else if y < x then 1 else 0
theorem isNaNs_any (s : ByteArray) (w : World) : Calls Tryd.prog 50 #[.string s] w fun e w' => e = .returned (.bool false) ∧ w' = w := by
  go_enter Tryd.func50, Tryd.ntmps50
  go_wp2_with fail
  go_ret
  exact ⟨by simp, rfl⟩
theorem isNaNi_any (x : Int) (w : World) : Calls Tryd.prog 51 #[.int .i64 x] w fun e w' => e = .returned (.bool false) ∧ w' = w := by
  go_enter Tryd.func51, Tryd.ntmps51
  go_wp2_with fail
  go_ret
  exact ⟨by simp, rfl⟩
theorem cmpStr_any (a b : List UInt8) (w : World) : Calls Tryd.prog 34 #[.string (S a), .string (S b)] w fun e w' => e = .returned (.int .i64 (cmpB a b)) ∧ w' = w := by
  have HC : Hid (cmpB a b = if Op.bytesLess a b then -1 else if a = b then 0 else 1) := Lib.hid rfl
  generalize cmpB a b = r at HC ⊢
  rcases bool_two (Op.bytesLess a b) with h1 | h1
  · have H1 := Lib.hid h1
    by_cases h2 : a = b
    · have H2 := Lib.hid h2
      have h3 : (a == b) = true := by simpa using h2
      clear h2
      go_enter Tryd.func34, Tryd.ntmps34
      go_wp2_with (go_at_call 50; refine (isNaNs_any _ _).mono ?_; rintro e w' ⟨rfl, rfl⟩)
      go_ret
      exact ⟨ret_i64 (by rw [HC.out, H1.out, if_neg (by decide), if_pos H2.out]), rfl⟩
    · have H2 := Lib.hid h2
      have h3 : (a == b) = false := by simpa using h2
      clear h2
      go_enter Tryd.func34, Tryd.ntmps34
      go_wp2_with (go_at_call 50; refine (isNaNs_any _ _).mono ?_; rintro e w' ⟨rfl, rfl⟩)
      go_ret
      exact ⟨ret_i64 (by rw [HC.out, H1.out, if_neg (by decide), if_neg H2.out]), rfl⟩
  · have H1 := Lib.hid h1
    go_enter Tryd.func34, Tryd.ntmps34
    go_wp2_with (go_at_call 50; refine (isNaNs_any _ _).mono ?_; rintro e w' ⟨rfl, rfl⟩)
    go_ret
    exact ⟨ret_i64 (by rw [HC.out, H1.out, if_pos rfl]), rfl⟩
theorem cmpInt_any (x y : Int) (w : World) : Calls Tryd.prog 35 #[.int .i64 x, .int .i64 y] w fun e w' => e = .returned (.int .i64 (cmpI x y)) ∧ w' = w := by
  have HC : Hid (cmpI x y = if x < y then -1 else if y < x then 1 else 0) := Lib.hid rfl
  generalize cmpI x y = r at HC ⊢
  by_cases h1 : x < y
  · go_enter Tryd.func35, Tryd.ntmps35
    go_wp2_with (go_at_call 51; refine (isNaNi_any _ _).mono ?_; rintro e w' ⟨rfl, rfl⟩)
    go_ret
    exact ⟨ret_i64 (by rw [HC.out, if_pos (by omega)]), rfl⟩
  · by_cases h2 : y < x
    · go_enter Tryd.func35, Tryd.ntmps35
      go_wp2_with (go_at_call 51; refine (isNaNi_any _ _).mono ?_; rintro e w' ⟨rfl, rfl⟩)
      go_ret
      exact ⟨ret_i64 (by rw [HC.out, if_neg (by omega), if_pos (by omega)]), rfl⟩
    · go_enter Tryd.func35, Tryd.ntmps35
      go_wp2_with (go_at_call 51; refine (isNaNi_any _ _).mono ?_; rintro e w' ⟨rfl, rfl⟩)
      go_ret
      exact ⟨ret_i64 (by rw [HC.out, if_neg (by omega), if_neg (by omega)]), rfl⟩
theorem Or_any (B : Nat) (x y : Int) (w : World) (h0 : w.cell? ⟨B, 0, none⟩ = some (.int .i64 x)) (h1 : w.cell? ⟨B, 1, none⟩ = some (.int .i64 y)) : Calls Tryd.prog 33 #[.slice (some ⟨B, 0, none⟩) 2 2] w fun e w' => e = .returned (.int .i64 (if x ≠ 0 then x else y)) ∧ w' = w := by
  obtain ⟨r, hr⟩ : ∃ r, (if x ≠ 0 then x else y) = r := ⟨_, rfl⟩
  rw [hr]
  have HC := Lib.hid hr
  clear hr
  go_enter Tryd.func33, Tryd.ntmps33
  go_wp2_with fail
  go_loop [8] (fun v => v = .int .i64 0 ∨ (v = .int .i64 1 ∧ Hid (x = 0)) ∨ (v = .int .i64 2 ∧ Hid (x = 0 ∧ y = 0))) (fun v => 3 - (intOf v).toNat)
  case atStart => exact .inl rfl
  case round =>
    rcases hrel with rfl | ⟨rfl, HX⟩ | ⟨rfl, HX⟩
    · by_cases hx : x = 0
      · have h2 : (x == 0) = true := by simpa using hx
        have h2' : (x != 0) = false := by simpa using hx
        have HX := Lib.hid hx
        clear hx
        go_wp2_with fail
        go_round
        case rel => exact .inr (.inl ⟨rfl, HX⟩)
        case measure => simp [intOf]
      · have h2 : (x == 0) = false := by simpa using hx
        have h2' : (x != 0) = true := by simpa using hx
        go_wp2_with fail
        go_ret
        exact ⟨ret_i64 (by rw [← HC.out, if_pos hx]), rfl⟩
    · by_cases hy : y = 0
      · have h2 : (y == 0) = true := by simpa using hy
        have h2' : (y != 0) = false := by simpa using hy
        have HY := Lib.hid hy
        clear hy
        go_wp2_with fail
        go_round
        case rel => exact .inr (.inr ⟨rfl, Lib.hid ⟨HX.out, HY.out⟩⟩)
        case measure => simp [intOf]
      · have h2 : (y == 0) = false := by simpa using hy
        have h2' : (y != 0) = true := by simpa using hy
        go_wp2_with fail
        go_ret
        exact ⟨ret_i64 (by rw [← HC.out, if_neg (fun h => h HX.out)]), rfl⟩
    · go_wp2_with fail
      go_ret
      exact ⟨ret_i64 (by rw [← HC.out, if_neg (fun h => h HX.out.1), HX.out.2]), rfl⟩
theorem sign_any (b : Bool) (w : World) : Calls Tryd.prog 37 #[.bool b] w fun e w' => e = .returned (.int .i64 (if b then -1 else 1)) ∧ w' = w := by
  rcases bool_two b with rfl | rfl
  all_goals
    go_enter Tryd.func37, Tryd.ntmps37
    go_wp2_with fail
    go_ret
    exact ⟨rfl, rfl⟩
theorem one_ways (x y : Stp) : (x.lab.isEmpty = true ∧ y.lab.isEmpty = false ∧ oneS x y = 1) ∨ (x.lab.isEmpty = false ∧ y.lab.isEmpty = true ∧ oneS x y = -1) ∨
    (x.lab.isEmpty = y.lab.isEmpty ∧ (x.lab == y.lab) = false ∧ oneS x y = if Op.bytesLess x.lab y.lab then -1 else 1) ∨
    (x.lab.isEmpty = y.lab.isEmpty ∧ (x.lab == y.lab) = true ∧ (x.idx == y.idx) = false ∧ oneS x y = if decide (x.idx < y.idx) then -1 else 1) ∨
    (x.lab.isEmpty = y.lab.isEmpty ∧ (x.lab == y.lab) = true ∧ (x.idx == y.idx) = true ∧ x = y) := by
  obtain ⟨l, i⟩ := x
  obtain ⟨m, k⟩ := y
  unfold oneS
  cases l with
  | nil => cases m with
    | nil => by_cases h : i = k <;> simp [h]
    | cons c t => simp
  | cons c t => cases m with
    | nil => simp
    | cons d u =>
      by_cases h1 : c :: t = d :: u
      · by_cases h : i = k <;> simp [h1, h]
      · have h2 : (c :: t == d :: u) = false := by rw [beq_eq_false_iff_ne]; exact h1
        have h3 : ¬ ((⟨c :: t, i⟩ : Stp) = ⟨d :: u, k⟩) := fun e => h1 (by injection e)
        simp only [h2, h3, if_false, List.isEmpty_cons, true_and, ne_eq, reduceCtorEq, not_false_eq_true, and_false, false_and, h1, if_true, or_false, false_or]
set_option maxHeartbeats 1000000 in
theorem one_any (l m : List UInt8) (i k : Int) (w : World) : Calls Tryd.prog 36 #[stv ⟨l, i⟩, stv ⟨m, k⟩] w fun e w' => e = .returned (.int .i64 (oneS ⟨l, i⟩ ⟨m, k⟩)) ∧ Below w.heap.size w w' := by
  obtain ⟨r, hr⟩ : ∃ r, oneS ⟨l, i⟩ ⟨m, k⟩ = r := ⟨_, rfl⟩
  have hz := oneS_zero ⟨l, i⟩ ⟨m, k⟩
  have hw := one_ways ⟨l, i⟩ ⟨m, k⟩
  rw [hr] at hw hz ⊢
  clear hr
  obtain ⟨p, hp⟩ : ∃ p, l.isEmpty = p := ⟨_, rfl⟩
  obtain ⟨q, hq⟩ : ∃ q, m.isEmpty = q := ⟨_, rfl⟩
  simp only [hp, hq] at hw
  rcases hw with ⟨rfl, rfl, rfl⟩ | ⟨rfl, rfl, rfl⟩ | ⟨rfl, h1, rfl⟩ | ⟨rfl, h1, h2, rfl⟩ | ⟨rfl, h1, h2, h3⟩
  · clear hz
    go_enter Tryd.func36, Tryd.ntmps36
    go_wp2_with (go_at_call 37; refine (sign_any _ _).mono ?_; rintro e w' ⟨rfl, rfl⟩)
    go_ret
    exact ⟨ret_i64 (by simp), by go_grown⟩
  · clear hz
    go_enter Tryd.func36, Tryd.ntmps36
    go_wp2_with (go_at_call 37; refine (sign_any _ _).mono ?_; rintro e w' ⟨rfl, rfl⟩)
    go_ret
    exact ⟨ret_i64 (by simp), by go_grown⟩
  · clear hz
    have h1' : (l != m) = true := by rw [bne, h1]; rfl
    rcases bool_two p with rfl | rfl <;> rcases bool_two (Op.bytesLess l m) with hb | hb
    all_goals
      simp only [hb, if_true, if_false, Bool.false_eq_true]
      go_enter Tryd.func36, Tryd.ntmps36
      go_wp2_with (go_at_call 37; refine (sign_any _ _).mono ?_; rintro e w' ⟨rfl, rfl⟩)
      go_ret
      exact ⟨ret_i64 (by simp), by go_grown⟩
  · clear hz
    have h1' : (l != m) = false := by rw [bne, h1]; rfl
    have h2' : (i != k) = true := by rw [bne, h2]; rfl
    rcases bool_two p with rfl | rfl <;> by_cases hb : i < k
    all_goals
      simp only [hb, decide_true, decide_false, if_true, if_false, Bool.false_eq_true]
      go_enter Tryd.func36, Tryd.ntmps36
      go_wp2_with (go_at_call 37; refine (sign_any _ _).mono ?_; rintro e w' ⟨rfl, rfl⟩)
      go_ret
      exact ⟨ret_i64 (by simp), by go_grown⟩
  · have hr : r = 0 := hz.2 h3
    subst hr
    clear h3 hz
    have h1' : (l != m) = false := by rw [bne, h1]; rfl
    have h2' : (i != k) = false := by rw [bne, h2]; rfl
    rcases bool_two p with rfl | rfl
    all_goals
      go_enter Tryd.func36, Tryd.ntmps36
      go_wp2_with (go_at_call 37; refine (sign_any _ _).mono ?_; rintro e w' ⟨rfl, rfl⟩)
      go_ret
      exact ⟨rfl, by go_grown⟩
theorem SlS.open {W : World} {v : Value} {L : List Stp} (h : SlS W v L) : ∃ p cap, v = .slice p L.length cap ∧ ∀ j (hj : j < L.length), ∃ B o, p = some ⟨B, o, none⟩ ∧ L.length ≤ cap ∧ B < W.heap.size ∧ W.cell? ⟨B, o + j * 2, none⟩ = some (.string (S L[j].lab)) ∧ W.cell? ⟨B, o + j * 2 + 1, none⟩ = some (.int .i64 L[j].idx) := by
  rcases h with ⟨⟨p0, cap0, rfl⟩, rfl⟩ | ⟨B, o, cap, rfl, hc, hB, hx⟩
  · exact ⟨p0, cap0, rfl, fun j hj => by simp at hj⟩
  · exact ⟨_, cap, rfl, fun j hj => ⟨B, o, rfl, hc, hB, (hx j _ (List.getElem?_eq_getElem hj)).1, (hx j _ (List.getElem?_eq_getElem hj)).2⟩⟩
theorem cmpS_drop (L M : List Stp) (j : Nat) (h1 : j < L.length) (h2 : j < M.length) : cmpS (L.drop j) (M.drop j) = if L[j] = M[j] then cmpS (L.drop (j + 1)) (M.drop (j + 1)) else oneS L[j] M[j] := by
  rw [List.drop_eq_getElem_cons h1, List.drop_eq_getElem_cons h2, cmpS]
theorem cmpS_end (L M : List Stp) (j : Nat) (h1 : j ≤ L.length) (h2 : j ≤ M.length) (h : ¬ (j < L.length ∧ j < M.length)) : cmpS (L.drop j) (M.drop j) = cmpI L.length M.length := by
  unfold cmpI
  by_cases hl : j < L.length
  · have hm : M.length ≤ j := by omega
    rw [List.drop_eq_getElem_cons hl, List.drop_eq_nil_of_le hm, cmpS, if_neg (by omega), if_pos (by omega)]
  · rw [List.drop_eq_nil_of_le (by omega)]
    by_cases hm : j < M.length
    · rw [List.drop_eq_getElem_cons hm, cmpS, if_pos (by omega)]
    · rw [List.drop_eq_nil_of_le (by omega), cmpS, if_neg (by omega), if_neg (by omega)]
theorem keepQ {w W w1 : World} {B1 B2 o1 o2 o3 o4 : Nat} {v0 v1 v2 v3 : Value} (h1 : B1 < w.heap.size) (h2 : B2 < w.heap.size) (hb : Below W.heap.size W w1)
    (h : W.cell? ⟨B1, o1, none⟩ = some v0 ∧ W.cell? ⟨B1, o2, none⟩ = some v1 ∧ W.cell? ⟨B2, o3, none⟩ = some v2 ∧ W.cell? ⟨B2, o4, none⟩ = some v3 ∧ Below w.heap.size w W) :
    w1.cell? ⟨B1, o1, none⟩ = some v0 ∧ w1.cell? ⟨B1, o2, none⟩ = some v1 ∧ w1.cell? ⟨B2, o3, none⟩ = some v2 ∧ w1.cell? ⟨B2, o4, none⟩ = some v3 ∧ Below w.heap.size w w1 := by
  obtain ⟨c0, c1, c2, c3, hB⟩ := h
  have hs := hB.size
  have hc : ∀ b o, b < W.heap.size → w1.cell? ⟨b, o, none⟩ = W.cell? ⟨b, o, none⟩ := fun b o h => hb.cell (p := ⟨b, o, none⟩) h
  exact ⟨(hc _ _ (by omega)).trans c0, (hc _ _ (by omega)).trans c1, (hc _ _ (by omega)).trans c2, (hc _ _ (by omega)).trans c3, hB.trans (hb.mono hs)⟩
set_option maxHeartbeats 2000000 in
theorem refCompare_any (v u : Value) (L M : List Stp) (w : World) (hv : SlS w v L) (hu : SlS w u M) (hL : L.length ≤ 1000000) (hM : M.length ≤ 1000000) : Calls Tryd.prog 21 #[v, u] w fun e w' => e = .returned (.int .i64 (cmpS L M)) ∧ Below w.heap.size w w' := by
  obtain ⟨r, hr⟩ : ∃ r, cmpS L M = r := ⟨_, rfl⟩
  rw [hr]
  have HR := Lib.hid (show cmpS (L.drop 0) (M.drop 0) = r from hr)
  clear hr
  obtain ⟨p, cap, rfl, hp⟩ := hv.open
  obtain ⟨q, caq, rfl, hq⟩ := hu.open
  have HP := Lib.hid hp
  have HQ := Lib.hid hq
  clear hp hq hv hu
  go_enter Tryd.func21, Tryd.ntmps21
  go_wp2_with fail
  go_loopw [5] (fun i wr => ∃ j : Nat, i = .int .i64 (j : Int) ∧ j ≤ L.length ∧ j ≤ M.length ∧ Hid (cmpS (L.drop j) (M.drop j) = r ∧ Below w.heap.size w wr)) (fun i _ => L.length - (intOf i).toNat)
  case atStart => exact ⟨0, rfl, Nat.zero_le _, Nat.zero_le _, Lib.hid ⟨HR.out, Below.refl _ _⟩⟩
  case round =>
    obtain ⟨j, rfl, hj, hk, HW⟩ := hrel
    by_cases hlt : j < L.length ∧ j < M.length
    · obtain ⟨hl, hm⟩ := hlt
      obtain ⟨B1, o1, rfl, hc1, hB1, c0, c1⟩ := HP.out j hl
      obtain ⟨B2, o2, rfl, hc2, hB2, d0, d1⟩ := HQ.out j hm
      have HN := Lib.hid (cmpS_drop L M j hl hm)
      obtain ⟨⟨lx, ix⟩, hx⟩ : ∃ x, L[j] = x := ⟨_, rfl⟩
      obtain ⟨⟨ly, iy⟩, hy⟩ : ∃ y, M[j] = y := ⟨_, rfl⟩
      rw [hx, hy] at HN
      rw [hx] at c0 c1
      rw [hy] at d0 d1
      clear hx hy
      simp only at c0 c1 d0 d1
      have hF := keepQ hB1 hB2 HW.out.2 ⟨c0, c1, d0, d1, Below.refl _ _⟩
      have HF := Lib.hid hF
      obtain ⟨c0, c1, d0, d1, -⟩ := hF
      obtain ⟨n, hn⟩ : ∃ n, oneS ⟨lx, ix⟩ ⟨ly, iy⟩ = n := ⟨_, rfl⟩
      have HO := Lib.hid hn
      clear hn
      have j0 : (0 : Int) ≤ (j : Int) := by omega
      have j1 : (j : Int) < (L.length : Int) := by omega
      have j2 : (j : Int) < (M.length : Int) := by omega
      go_wp2_with fail
      go_region_held3 (fun w' => w'.cell? ⟨B1, o1 + j * 2, none⟩ = some (.string (S lx)) ∧ w'.cell? ⟨B1, o1 + j * 2 + 1, none⟩ = some (.int .i64 ix) ∧ w'.cell? ⟨B2, o2 + j * 2, none⟩ = some (.string (S ly)) ∧ w'.cell? ⟨B2, o2 + j * 2 + 1, none⟩ = some (.int .i64 iy) ∧ Below w.heap.size w w')
        (first
          | with_reducible exact keepQ hB1 hB2 (below_drew (Below.refl _ _)) HF.out
          | with_reducible exact keepQ hB1 hB2 hb9 (by assumption)
          | go_keep)
        (first | (go_at_call 36; refine (one_any _ _ _ _ _).mono ?_; rintro e w9 ⟨rfl, hb9⟩; rw [HO.out]))
      have hB9 := (keepQ hB1 hB2 (Below.refl _ _) (by assumption)).2.2.2.2
      have HB9 := Lib.hid hB9
      clear hB9 HF c0 c1 d0 d1
      by_cases hn0 : n = 0
      · have hxy := (oneS_zero _ _).1 (HO.out.trans hn0)
        have hn1 : (n != 0) = false := by simp [hn0]
        have HN2 := HN.out
        rw [if_pos hxy, HW.out.1] at HN2
        have HN3 := Lib.hid HN2
        clear hn0 HN2 hxy
        go_wp2_with fail
        go_roundw
        case rel => exact ⟨j + 1, rfl, hl, hm, Lib.hid ⟨HN3.out.symm, HB9.out⟩⟩
        case measure => simp [intOf]; omega
      · have hxy : ¬ ((⟨lx, ix⟩ : Stp) = ⟨ly, iy⟩) := fun h => hn0 (HO.out.symm.trans ((oneS_zero _ _).2 h))
        have hn1 : (n != 0) = true := by simp [hn0]
        have HN2 := HN.out
        rw [if_neg hxy, HW.out.1, HO.out] at HN2
        have HN3 := Lib.hid HN2
        clear hn0 HN2 hxy
        go_wp2_with fail
        go_ret
        exact ⟨ret_i64 HN3.out.symm, HB9.out⟩
    · have HE := Lib.hid ((cmpS_end L M j hj hk hlt).symm.trans HW.out.1)
      clear HP HQ
      rcases Nat.lt_trichotomy L.length M.length with h | h | h
      · have g1 : ((L.length : Int) != (M.length : Int)) = true := by first | (simp; done) | (simp; omega)
        have g2 : (L.length : Int) < (M.length : Int) := by omega
        have g3 : decide ((j : Int) < (L.length : Int)) = false := by first | (simp; done) | (simp; omega)
        go_wp2_with (go_at_call 37; refine (sign_any _ _).mono ?_; rintro e w' ⟨rfl, rfl⟩)
        go_ret
        exact ⟨ret_i64 (by rw [← HE.out]; unfold cmpI; rw [if_pos (by omega)]), HW.out.2⟩
      · have g1 : ((L.length : Int) != (M.length : Int)) = false := by first | (simp; done) | (simp; omega)
        have g3 : decide ((j : Int) < (L.length : Int)) = false := by first | (simp; done) | (simp; omega)
        go_wp2_with (go_at_call 37; refine (sign_any _ _).mono ?_; rintro e w' ⟨rfl, rfl⟩)
        go_ret
        exact ⟨ret_i64 (by rw [← HE.out]; unfold cmpI; rw [if_neg (by omega), if_neg (by omega)]), HW.out.2⟩
      · have g1 : ((L.length : Int) != (M.length : Int)) = true := by first | (simp; done) | (simp; omega)
        have g2 : decide ((L.length : Int) < (M.length : Int)) = false := by first | (simp; done) | (simp; omega)
        have g4 : decide ((j : Int) < (M.length : Int)) = false := by first | (simp; done) | (simp; omega)
        by_cases hl : j < L.length
        · go_wp2_with (go_at_call 37; refine (sign_any _ _).mono ?_; rintro e w' ⟨rfl, rfl⟩)
          go_ret
          exact ⟨ret_i64 (by rw [← HE.out]; unfold cmpI; rw [if_neg (by omega), if_pos (by omega)]), HW.out.2⟩
        · exfalso; omega
end Go.Proofs.YtpekkdgaeadepaaDoor
