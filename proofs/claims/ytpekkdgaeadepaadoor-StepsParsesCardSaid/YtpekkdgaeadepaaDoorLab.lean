/- Labels: Label and Unlabel of the program and of the reference; the law's own 'fails'. -/
import Derived.Handy
import Derived.Test.YtpekkdgaeadepaaDoorQuote
import Derived.Test.YtpekkdgaeadepaaDoorRefI
import Derived.Test.YtpekkdgaeadepaaDoorUnq
namespace Go.Proofs.YtpekkdgaeadepaaDoor
open Go.RowKit

set_option maxHeartbeats 400000 in
theorem Label_any (l : List UInt8) (hl : l.length ≤ 1000000) (w : World) :
    Calls Tryd.prog 27 #[.string (S l)] w fun e w' => e = .returned (.string (S (labelL l))) ∧ Below w.heap.size w w' := by
  generalize hr : labelL l = r
  unfold labelL at hr
  cases hi : identB l with
  | true =>
    have hr' : l = r := by rw [← hr, hi]; simp
    have HI := Lib.hid (fun w => Ident_any l hl w); have HE := Lib.hid hi; have HR := Lib.hid hr'; clear hi hr hr'
    go_enter Tryd.func27, Tryd.ntmps27
    go_wp2_with fail
    refine (HI.out _).mono ?_
    rintro e w1 ⟨rfl, hb1⟩
    rw [HE.out]
    go_wp2_with fail
    go_ret
    exact ⟨ret_S HR.out, hb1⟩
  | false =>
    have hr' : quoteL l = r := by rw [← hr, hi]; simp
    have HI := Lib.hid (fun w => Ident_any l hl w); have HE := Lib.hid hi; have HR := Lib.hid hr'; clear hi hr hr'
    go_enter Tryd.func27, Tryd.ntmps27
    go_wp2_with fail
    refine (HI.out _).mono ?_
    rintro e w1 ⟨rfl, hb1⟩
    rw [HE.out]
    go_wp2_with fail
    refine (quote_any l hl _).mono ?_
    rintro e w2 ⟨rfl, hb2⟩
    go_wp2_with fail
    go_ret
    exact ⟨ret_S HR.out, hb1.trans (hb2.mono hb1.size)⟩

set_option maxHeartbeats 400000 in
theorem refLabel_any (l : List UInt8) (hl : l.length ≤ 1000000) (w : World) :
    Calls Tryd.prog 29 #[.string (S l)] w fun e w' => e = .returned (.string (S (labelL l))) ∧ Below w.heap.size w w' := by
  generalize hr : labelL l = r
  unfold labelL at hr
  cases hi : identB l with
  | true =>
    have hr' : l = r := by rw [← hr, hi]; simp
    have HI := Lib.hid (fun w => refIdent_any l hl w); have HE := Lib.hid hi; have HR := Lib.hid hr'; clear hi hr hr'
    go_enter Tryd.func29, Tryd.ntmps29
    go_wp2_with fail
    refine (HI.out _).mono ?_
    rintro e w1 ⟨rfl, hb1⟩
    rw [HE.out]
    go_wp2_with fail
    go_ret
    exact ⟨ret_S HR.out, hb1⟩
  | false =>
    have hr' : quoteL l = r := by rw [← hr, hi]; simp
    have HI := Lib.hid (fun w => refIdent_any l hl w); have HE := Lib.hid hi; have HR := Lib.hid hr'; clear hi hr hr'
    go_enter Tryd.func29, Tryd.ntmps29
    go_wp2_with fail
    refine (HI.out _).mono ?_
    rintro e w1 ⟨rfl, hb1⟩
    rw [HE.out]
    go_wp2_with fail
    refine (refQuote_any l hl _).mono ?_
    rintro e w2 ⟨rfl, hb2⟩
    go_wp2_with fail
    go_ret
    exact ⟨ret_S HR.out, hb1.trans (hb2.mono hb1.size)⟩

/-- the parts of a string and a fault -/
theorem uq_ex (r : List UInt8 × Nat × Nat) : ∃ a e p, r = (a, e, p) := ⟨_, _, _, rfl⟩
theorem below_two {w w1 : World} {t : TypeId} {u v : Value} (hb : Below (w.alloc (.cells #[u, v] t)).heap.size (w.alloc (.cells #[u, v] t)) w1) : Two w1 w.heap.size t u v ∧ Below w.heap.size w w1 :=
  ⟨(Two.new w t u v).below hb, ((Below.refl _ _).alloc (Nat.le_refl _) _).trans (hb.mono (by simp))⟩

/-- what 'fails' asks -/
def failsB (l : List UInt8) (p : Int) : Bool := (unqL l).1.isEmpty && ((unqL l).2.1 == 8 && ((unqL l).2.2 : Int) == p)

end Go.Proofs.YtpekkdgaeadepaaDoor