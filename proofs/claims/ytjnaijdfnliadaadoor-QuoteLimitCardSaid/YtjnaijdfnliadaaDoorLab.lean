/- Labels: Label and Unlabel of the program and of the reference; the law's own 'fails'. -/
import Derived.Handy
import Derived.Test.YtjnaijdfnliadaaDoorQuote
import Derived.Test.YtjnaijdfnliadaaDoorRefI
import Derived.Test.YtjnaijdfnliadaaDoorRefU
namespace Go.Proofs.YtjnaijdfnliadaaDoor
open Go.RowKit

set_option maxHeartbeats 400000 in
theorem Label_any (l : List UInt8) (hl : l.length ≤ 1000000) (w : World) :
    Calls Tryd.prog 21 #[.string (S l)] w fun e w' => e = .returned (.string (S (labelL l))) ∧ Below w.heap.size w w' := by
  generalize hr : labelL l = r
  unfold labelL at hr
  cases hi : identB l with
  | true =>
    have hr' : l = r := by rw [← hr, hi]; simp
    have HI := Lib.hid (fun w => Ident_any l hl w); have HE := Lib.hid hi; have HR := Lib.hid hr'; clear hi hr hr'
    go_enter Tryd.func21, Tryd.ntmps21
    go_wp2_with fail
    refine (HI.out _).mono ?_
    rintro e w1 ⟨rfl, hb1⟩
    rw [HE.out]
    go_wp2_with fail
    go_ret
    exact ⟨ret_S HR.out, hb1⟩
  | false =>
    have hr' : quoteL l = r := by rw [← hr, hi]; simp
    have HI := Lib.hid (fun w => Ident_any l hl w); have HE := Lib.hid hi; have HR := Lib.hid hr'; clear hi hr hr'
    go_enter Tryd.func21, Tryd.ntmps21
    go_wp2_with fail
    refine (HI.out _).mono ?_
    rintro e w1 ⟨rfl, hb1⟩
    rw [HE.out]
    go_wp2_with fail
    refine (quote_any l hl _).mono ?_
    rintro e w2 ⟨rfl, hb2⟩
    go_wp2_with fail
    go_ret
    exact ⟨ret_S HR.out, hb1.trans (hb2.mono hb1.size)⟩

set_option maxHeartbeats 400000 in
theorem refLabel_any (l : List UInt8) (hl : l.length ≤ 1000000) (w : World) :
    Calls Tryd.prog 22 #[.string (S l)] w fun e w' => e = .returned (.string (S (labelL l))) ∧ Below w.heap.size w w' := by
  generalize hr : labelL l = r
  unfold labelL at hr
  cases hi : identB l with
  | true =>
    have hr' : l = r := by rw [← hr, hi]; simp
    have HI := Lib.hid (fun w => refIdent_any l hl w); have HE := Lib.hid hi; have HR := Lib.hid hr'; clear hi hr hr'
    go_enter Tryd.func22, Tryd.ntmps22
    go_wp2_with fail
    refine (HI.out _).mono ?_
    rintro e w1 ⟨rfl, hb1⟩
    rw [HE.out]
    go_wp2_with fail
    go_ret
    exact ⟨ret_S HR.out, hb1⟩
  | false =>
    have hr' : quoteL l = r := by rw [← hr, hi]; simp
    have HI := Lib.hid (fun w => refIdent_any l hl w); have HE := Lib.hid hi; have HR := Lib.hid hr'; clear hi hr hr'
    go_enter Tryd.func22, Tryd.ntmps22
    go_wp2_with fail
    refine (HI.out _).mono ?_
    rintro e w1 ⟨rfl, hb1⟩
    rw [HE.out]
    go_wp2_with fail
    refine (refQuote_any l hl _).mono ?_
    rintro e w2 ⟨rfl, hb2⟩
    go_wp2_with fail
    go_ret
    exact ⟨ret_S HR.out, hb1.trans (hb2.mono hb1.size)⟩

/-- the parts of a string and a fault -/
theorem uq_ex (r : List UInt8 × Nat × Nat) : ∃ a e p, r = (a, e, p) := ⟨_, _, _, rfl⟩
theorem below_two {w w1 : World} {t : TypeId} {u v : Value} (hb : Below (w.alloc (.cells #[u, v] t)).heap.size (w.alloc (.cells #[u, v] t)) w1) : Two w1 w.heap.size t u v ∧ Below w.heap.size w w1 :=
  ⟨(Two.new w t u v).below hb, ((Below.refl _ _).alloc (Nat.le_refl _) _).trans (hb.mono (by simp))⟩

set_option maxHeartbeats 1000000 in
theorem Unlabel_any (l : List UInt8) (hl : l.length ≤ 1000000) (w : World) (hE : ErrOk w) :
    Calls Tryd.prog 17 #[.string (S l)] w fun e w' => e = .returned (uqVal (unlabelL l)) ∧ Below w.heap.size w w' := by
  generalize hr : unlabelL l = r
  unfold unlabelL at hr
  have HEr := Lib.hid hE; clear hE
  cases hi : identB l with
  | true =>
    have hr' : r = (l, 0, 0) := by rw [← hr, hi]; simp
    have HI := Lib.hid (fun w => Ident_any l hl w); have HE := Lib.hid hi; have HR := Lib.hid hr'; clear hi hr hr'
    go_enter Tryd.func17, Tryd.ntmps17
    go_wp2_with fail
    refine (HI.out _).mono ?_
    rintro e w1 ⟨rfl, hb1⟩
    obtain ⟨hT, hB⟩ := below_two hb1
    have hc0 := hT.cell0
    have hc1 := hT.cell1
    have hf0 := hT.frozen0
    have hf1 := hT.frozen1
    rw [HE.out]
    go_wp2_with fail
    exact bodyPost_ret (v := .tuple #[.string (S l), .agg #[.int .i64 0, .int .i64 0]]) (by simp [results, Tryd.results17, go_sem, hc0, hc1]) rfl ⟨ret_uq HR.out, by go_grown⟩
  | false =>
    have hr' : unqL l = r := by rw [← hr, hi]; simp
    have HI := Lib.hid (fun w => Ident_any l hl w); have HE := Lib.hid hi; have HR := Lib.hid hr'; clear hi hr hr'
    obtain ⟨a, en, p, hrp⟩ := uq_ex r
    have HP := Lib.hid hrp; clear hrp
    go_enter Tryd.func17, Tryd.ntmps17
    go_wp2_with fail
    refine (HI.out _).mono ?_
    rintro e w1 ⟨rfl, hb1⟩
    obtain ⟨hT, hB⟩ := below_two hb1
    rw [HE.out]
    go_wp2_with fail
    refine (Unquote_any l hl _ (HEr.out.below hB)).mono ?_
    rintro e w2 ⟨rfl, hb2⟩
    rw [HR.out, HP.out]
    dsimp only [uqVal]
    have hT2 := hT.below hb2
    have hB2 : Below w.heap.size w w2 := hB.trans (hb2.mono hB.size)
    have hc0 := hT2.cell0
    have hc1 := hT2.cell1
    have hf0 := hT2.frozen0
    have hf1 := hT2.frozen1
    go_wp2_with fail
    exact bodyPost_ret (v := .tuple #[.string (S a), .agg #[.int .i64 en, .int .i64 p]]) (by simp [results, Tryd.results17, go_sem, hc0, hc1]) rfl ⟨ret_uq HP.out, by go_grown⟩

set_option maxHeartbeats 1000000 in
theorem refUnlabel_any (l : List UInt8) (hl : l.length ≤ 1000000) (w : World) :
    Calls Tryd.prog 18 #[.string (S l)] w fun e w' => e = .returned (uqVal (unlabelL l)) ∧ Below w.heap.size w w' := by
  generalize hr : unlabelL l = r
  unfold unlabelL at hr
  cases hi : identB l with
  | true =>
    have hr' : r = (l, 0, 0) := by rw [← hr, hi]; simp
    have HI := Lib.hid (fun w => refIdent_any l hl w); have HE := Lib.hid hi; have HR := Lib.hid hr'; clear hi hr hr'
    go_enter Tryd.func18, Tryd.ntmps18
    go_wp2_with fail
    refine (HI.out _).mono ?_
    rintro e w1 ⟨rfl, hb1⟩
    obtain ⟨hT, hB⟩ := below_two hb1
    have hc0 := hT.cell0
    have hc1 := hT.cell1
    have hf0 := hT.frozen0
    have hf1 := hT.frozen1
    rw [HE.out]
    go_wp2_with fail
    exact bodyPost_ret (v := .tuple #[.string (S l), .agg #[.int .i64 0, .int .i64 0]]) (by simp [results, Tryd.results18, go_sem, hc0, hc1]) rfl ⟨ret_uq HR.out, by go_grown⟩
  | false =>
    have hr' : unqL l = r := by rw [← hr, hi]; simp
    have HI := Lib.hid (fun w => refIdent_any l hl w); have HE := Lib.hid hi; have HR := Lib.hid hr'; clear hi hr hr'
    obtain ⟨a, en, p, hrp⟩ := uq_ex r
    have HP := Lib.hid hrp; clear hrp
    go_enter Tryd.func18, Tryd.ntmps18
    go_wp2_with fail
    refine (HI.out _).mono ?_
    rintro e w1 ⟨rfl, hb1⟩
    obtain ⟨hT, hB⟩ := below_two hb1
    rw [HE.out]
    go_wp2_with fail
    refine (refUnquote_any l hl _).mono ?_
    rintro e w2 ⟨rfl, hb2⟩
    rw [HR.out, HP.out]
    dsimp only [uqVal]
    have hT2 := hT.below hb2
    have hB2 : Below w.heap.size w w2 := hB.trans (hb2.mono hB.size)
    have hc0 := hT2.cell0
    have hc1 := hT2.cell1
    have hf0 := hT2.frozen0
    have hf1 := hT2.frozen1
    go_wp2_with fail
    exact bodyPost_ret (v := .tuple #[.string (S a), .agg #[.int .i64 en, .int .i64 p]]) (by simp [results, Tryd.results18, go_sem, hc0, hc1]) rfl ⟨ret_uq HP.out, by go_grown⟩

/-- what 'fails' asks -/
def failsB (l : List UInt8) (p : Int) : Bool := (unqL l).1.isEmpty && ((unqL l).2.1 == 8 && ((unqL l).2.2 : Int) == p)

set_option maxHeartbeats 1000000 in
theorem fails_any (l : List UInt8) (hl : l.length ≤ 1000000) (p : Int) (w : World) (hE : ErrOk w) :
    Calls Tryd.prog 23 #[.string (S l), .int .i64 p] w fun e w' => e = .returned (.bool (failsB l p)) ∧ Below w.heap.size w w' := by
  have H := Lib.hid (Unquote_any l hl w hE)
  clear hE
  unfold failsB
  obtain ⟨a, en, q, hrp⟩ := uq_ex (unqL l)
  have HP := Lib.hid hrp
  rw [hrp]; clear hrp
  cases a with
  | nil =>
    go_enter Tryd.func23, Tryd.ntmps23
    go_wp2_with fail
    refine H.out.mono ?_
    rintro e w1 ⟨rfl, hb1⟩
    have hz1 := hb1.size
    rw [HP.out]
    dsimp only [uqVal]
    go_wp2_with fail
    all_goals
      go_ret
      exact ⟨ret_bool (by rw [Bool.eq_iff_iff]; first | (simp; omega) | (simp [*]; done)), by go_grown⟩
  | cons c t =>
    go_enter Tryd.func23, Tryd.ntmps23
    go_wp2_with fail
    refine H.out.mono ?_
    rintro e w1 ⟨rfl, hb1⟩
    have hz1 := hb1.size
    rw [HP.out]
    dsimp only [uqVal]
    go_wp2_with fail
    go_ret
    exact ⟨rfl, by go_grown⟩
end Go.Proofs.YtjnaijdfnliadaaDoor
