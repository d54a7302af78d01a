import Derived.Handy
import Derived.LoopTactic
import Derived.Outline
import Derived.BigQuiet
import Derived.Test.YtdalfkklkeblaaaGreatDoorN01
import Derived.Test.YtdalfkklkeblaaaGreatDoorN06
import Derived.Test.YtdalfkklkeblaaaGreatDoorN04
import Derived.Laws.Cover1
import Derived.Deep.RegionHeld3
import Derived.Deep.DeepCutAuto
import Derived.Deep.CutBlock
namespace Go.Proofs.YtdalfkklkeblaaaGreatDoor
set_option linter.unusedSimpArgs false
set_option linter.unusedVariables false
section
open Go.RowKit
def SlS (W : World) (v : Value) (L : List Stp) : Prop :=
 ((∃ p cap, v = .slice p 0 cap) ∧ L = []) ∨ ∃ B o cap, v = .slice (some ⟨B, o, none⟩) L.length cap ∧ L.length ≤ cap ∧ B < W.heap.size ∧
   ∀ j x, L[j]? = some x → W.cell? ⟨B, o + j * 2, none⟩ = some (.string (S x.lab)) ∧ W.cell? ⟨B, o + j * 2 + 1, none⟩ = some (.int .i64 x.idx)
theorem SlS.below {W W' : World} {v : Value} {L : List Stp} (h : SlS W v L) (hb : Below W.heap.size W W') : SlS W' v L := by
 rcases h with h | ⟨B, o, cap, hv, hc, hB, hx⟩
 · exact .inl h
 · exact .inr ⟨B, o, cap, hv, hc, Nat.lt_of_lt_of_le hB hb.size, fun j x hj => ⟨(hb.cell (p := ⟨B, o + j * 2, none⟩) hB).trans (hx j x hj).1, (hb.cell (p := ⟨B, o + j * 2 + 1, none⟩) hB).trans (hx j x hj).2⟩⟩
theorem bool_two (b : Bool) : b = false ∨ b = true := by cases b <;> simp
end
section
open Go.RowKit
def cmpB (a b : List UInt8) : Int := if Op.bytesLess a b then -1 else if a = b then 0 else 1
theorem isNaNs_any (s : ByteArray) (w : World) : Calls Tryz.prog 131 #[.string s] w fun e w' => e = .returned (.bool false) ∧ w' = w := by
 go_enter Tryz.func131, Tryz.ntmps131
 go_wp2_with fail
 go_ret
 exact ⟨by simp, rfl⟩
theorem cmpStr_any (a b : List UInt8) (w : World) : Calls Tryz.prog 95 #[.string (S a), .string (S b)] w fun e w' => e = .returned (.int .i64 (cmpB a b)) ∧ w' = w := by
 have HC : Hid (cmpB a b = if Op.bytesLess a b then -1 else if a = b then 0 else 1) := Lib.hid rfl
 generalize cmpB a b = r at HC ⊢
 rcases bool_two (Op.bytesLess a b) with h1 | h1
 · have H1 := Lib.hid h1
   by_cases h2 : a = b
   · have H2 := Lib.hid h2
     have h3 : (a == b) = true := by simpa using h2
     clear h2
     go_enter Tryz.func95, Tryz.ntmps95
     go_wp2_with (go_at_call 131; refine (isNaNs_any _ _).mono ?_; rintro e w' ⟨rfl, rfl⟩)
     go_ret
     exact ⟨ret_i64 (by rw [HC.out, H1.out, if_neg (by decide), if_pos H2.out]), rfl⟩
   · have H2 := Lib.hid h2
     have h3 : (a == b) = false := by simpa using h2
     clear h2
     go_enter Tryz.func95, Tryz.ntmps95
     go_wp2_with (go_at_call 131; refine (isNaNs_any _ _).mono ?_; rintro e w' ⟨rfl, rfl⟩)
     go_ret
     exact ⟨ret_i64 (by rw [HC.out, H1.out, if_neg (by decide), if_neg H2.out]), rfl⟩
 · have H1 := Lib.hid h1
   go_enter Tryz.func95, Tryz.ntmps95
   go_wp2_with (go_at_call 131; refine (isNaNs_any _ _).mono ?_; rintro e w' ⟨rfl, rfl⟩)
   go_ret
   exact ⟨ret_i64 (by rw [HC.out, H1.out, if_pos rfl]), rfl⟩
theorem SlS.open {W : World} {v : Value} {L : List Stp} (h : SlS W v L) : ∃ p cap, v = .slice p L.length cap ∧ ∀ j (hj : j < L.length), ∃ B o, p = some ⟨B, o, none⟩ ∧ L.length ≤ cap ∧ B < W.heap.size ∧ W.cell? ⟨B, o + j * 2, none⟩ = some (.string (S L[j].lab)) ∧ W.cell? ⟨B, o + j * 2 + 1, none⟩ = some (.int .i64 L[j].idx) := by
 rcases h with ⟨⟨p0, cap0, rfl⟩, rfl⟩ | ⟨B, o, cap, rfl, hc, hB, hx⟩
 · exact ⟨p0, cap0, rfl, fun j hj => by simp at hj⟩
 · exact ⟨_, cap, rfl, fun j hj => ⟨B, o, rfl, hc, hB, (hx j _ (List.getElem?_eq_getElem hj)).1, (hx j _ (List.getElem?_eq_getElem hj)).2⟩⟩
end
end Go.Proofs.YtdalfkklkeblaaaGreatDoor
