import Derived.Test.YtdalfkklkeblaaaGreatDoorN01
import Derived.Test.YtdalfkklkeblaaaGreatDoorN07
import Derived.Test.YtdalfkklkeblaaaGreatDoorN09
namespace Go.Proofs.YtdalfkklkeblaaaGreatDoor
set_option linter.unusedSimpArgs false
set_option linter.unusedVariables false
open Go.RowKit
theorem own5 {W : World} {base : Nat} {e : TypeId} {v : Value} {T : List (Dat × Value × Value)} (h : W.ownsRow base e 5 v T.length (flat5 T)) :
   ∃ p cap B, v = .slice p T.length cap ∧ ∀ (j : Nat) (_ : j < T.length), p = some ⟨B, 0, none⟩ ∧ T.length ≤ cap ∧ base ≤ B ∧ B < W.heap.size ∧ DCell W B (j * 5) T[j].1 T[j].2.1 T[j].2.2 := by
 rcases own_head h with ⟨rfl, h0⟩ | ⟨g, cap, rfl, hb, hc, hg, -⟩
 · exact ⟨none, 0, 0, by rw [h0], fun j h => by omega⟩
 · refine ⟨_, cap, g, rfl, fun j h' => ⟨rfl, hc, hb, hg, ?_⟩⟩
   have c0 := h.cells (g := g) rfl (j * 5 + 0) _ (flat5_get T j h' 0 (by omega))
   have c1 := h.cells (g := g) rfl (j * 5 + 1) _ (flat5_get T j h' 1 (by omega))
   have c2 := h.cells (g := g) rfl (j * 5 + 2) _ (flat5_get T j h' 2 (by omega))
   have c3 := h.cells (g := g) rfl (j * 5 + 3) _ (flat5_get T j h' 3 (by omega))
   have c4 := h.cells (g := g) rfl (j * 5 + 4) _ (flat5_get T j h' 4 (by omega))
   rw [Lib.add_plain, Nat.zero_add] at c0 c1 c2 c3 c4
   exact ⟨c0, c1, c2, c3, c4⟩
def SlK (W : World) (ok : Nat → Prop) (v : Value) (L : List Stp) : Prop :=
 ∃ p cap B o, v = .slice p L.length cap ∧ (0 < L.length → p = some ⟨B, o, none⟩ ∧ L.length ≤ cap ∧ B < W.heap.size ∧ ok B) ∧
   ∀ (j : Nat) (h : j < L.length), W.cell? ⟨B, o + j * 2, none⟩ = some (.string (S L[j].lab)) ∧ W.cell? ⟨B, o + j * 2 + 1, none⟩ = some (.int .i64 L[j].idx)
theorem SlK.kept {W W' : World} {ok ok' : Nat → Prop} {v : Value} {L : List Stp} (h : SlK W ok v L) (hs : W.heap.size ≤ W'.heap.size) (hk : ∀ B, B < W.heap.size → ok B → ok' B ∧ ∀ o, W'.cell? ⟨B, o, none⟩ = W.cell? ⟨B, o, none⟩) : SlK W' ok' v L := by
 obtain ⟨p, cap, B, o, rfl, hp, hc⟩ := h
 refine ⟨p, cap, B, o, rfl, fun h0 => ?_, fun j h => ?_⟩
 · obtain ⟨h1, h2, h3, h4⟩ := hp h0
   exact ⟨h1, h2, Nat.lt_of_lt_of_le h3 hs, (hk B h3 h4).1⟩
 · obtain ⟨h1, h2, h3, h4⟩ := hp (by omega)
   have k := (hk B h3 h4).2
   exact ⟨(k _).trans (hc j h).1, (k _).trans (hc j h).2⟩
theorem SlK.under {W W' : World} {ok : Nat → Prop} {v : Value} {L : List Stp} (h : SlK W ok v L) (hb : Below W.heap.size W W') : SlK W' ok v L :=
 h.kept hb.size fun B hB hk => ⟨hk, fun o => hb.cell (p := ⟨B, o, none⟩) hB⟩
theorem SlK.mono {W : World} {ok ok' : Nat → Prop} {v : Value} {L : List Stp} (h : SlK W ok v L) (hk : ∀ B, B < W.heap.size → ok B → ok' B) : SlK W ok' v L :=
 h.kept (Nat.le_refl _) fun B hB h => ⟨hk B hB h, fun _ => rfl⟩
theorem SlK.grown {W W' : World} {row : Option Nat} {ok : Nat → Prop} {v : Value} {L : List Stp} (h : SlK W ok v L) (hg : W.grownBy W' row) (hk : ∀ B, ok B → some B ≠ row) : SlK W' ok v L :=
 h.kept hg.size fun B hB h => ⟨h, fun o => grown_cell hg hB (hk B h) o⟩
theorem SlK.tail {W : World} {ok : Nat → Prop} {p : Option Addr} {cap : Nat} {x : Stp} {L : List Stp} (h : SlK W ok (.slice p (L.length + 1) cap) (x :: L)) :
   ∃ B o, p = some ⟨B, o, none⟩ ∧ L.length + 1 ≤ cap ∧ B < W.heap.size ∧ ok B ∧ W.cell? ⟨B, o, none⟩ = some (.string (S x.lab)) ∧ W.cell? ⟨B, o + 1, none⟩ = some (.int .i64 x.idx) ∧
     (∀ cap', L.length ≤ cap' → SlK W ok (.slice (some ⟨B, o + 2, none⟩) L.length cap') L) := by
 obtain ⟨p', cap', B, o, e, hp, hc⟩ := h
 injection e with e1 e2 e3
 subst e1; subst e3
 obtain ⟨h1, h2, h3, h4⟩ := hp (by simp)
 have h0 := hc 0 (by simp)
 rw [Nat.zero_mul, Nat.add_zero] at h0
 refine ⟨B, o, h1, h2, h3, h4, h0.1, h0.2, fun cap' hcap => ⟨_, _, B, o + 2, rfl, fun _ => ⟨rfl, hcap, h3, h4⟩, fun j h => ?_⟩⟩
 have := hc (j + 1) (by simp; omega)
 rw [show o + (j + 1) * 2 = o + 2 + j * 2 by omega] at this
 exact this
def EntR (W : World) (ok : Nat → Prop) (v : Value) (L : List Ent) : Prop :=
 ∃ p cap B o, v = .slice p L.length cap ∧ (0 < L.length → p = some ⟨B, o, none⟩ ∧ L.length ≤ cap ∧ B < W.heap.size ∧ ok B) ∧
   ∀ (j : Nat) (h : j < L.length), ∃ pv vi vm, W.cell? ⟨B, o + j * 6, none⟩ = some pv ∧ DCell W B (o + j * 6 + 1) L[j].2 vi vm ∧ SlK W ok pv L[j].1 ∧ Rep W ok L[j].2 vi vm
theorem DCell.kept {W W' : World} {B o : Nat} {d : Dat} {vi vm : Value} (h : DCell W B o d vi vm) (k : ∀ o, W'.cell? ⟨B, o, none⟩ = W.cell? ⟨B, o, none⟩) : DCell W' B o d vi vm :=
 ⟨(k _).trans h.c0, (k _).trans h.c1, (k _).trans h.c2, (k _).trans h.c3, (k _).trans h.c4⟩
theorem Rep.kept {W W' : World} {ok ok' : Nat → Prop} (hs : W.heap.size ≤ W'.heap.size) (hk : ∀ B, B < W.heap.size → ok B → ok' B ∧ ∀ o, W'.cell? ⟨B, o, none⟩ = W.cell? ⟨B, o, none⟩) {d : Dat} {vi vm : Value} (h : Rep W ok d vi vm) : Rep W' ok' d vi vm := by
 induction h with
 | mk p q cap caq B o B' o' vi vm ui um hl hp hc hr hq hd hs' ihr ihs =>
   refine .mk p q cap caq B o B' o' vi vm ui um hl (fun h => ?_) (fun j h => ?_) ihr (fun h => ?_) (fun j h => ?_) ihs
   · obtain ⟨h1, h2, h3, h4⟩ := hp h; exact ⟨h1, h2, Nat.lt_of_lt_of_le h3 hs, (hk B h3 h4).1⟩
   · obtain ⟨-, -, h3, h4⟩ := hp (by omega)
     exact (hc j h).kept (hk B h3 h4).2
   · obtain ⟨h1, h2, h3, h4⟩ := hq h; exact ⟨h1, h2, Nat.lt_of_lt_of_le h3 hs, (hk B' h3 h4).1⟩
   · obtain ⟨-, -, h3, h4⟩ := hq (by omega)
     have k := (hk B' h3 h4).2
     exact ⟨(k _).trans (hd j h).1, (hd j h).2.kept k⟩
theorem EntR.kept {W W' : World} {ok ok' : Nat → Prop} {v : Value} {L : List Ent} (h : EntR W ok v L) (hs : W.heap.size ≤ W'.heap.size) (hk : ∀ B, B < W.heap.size → ok B → ok' B ∧ ∀ o, W'.cell? ⟨B, o, none⟩ = W.cell? ⟨B, o, none⟩) : EntR W' ok' v L := by
 obtain ⟨p, cap, B, o, rfl, hp, hc⟩ := h
 refine ⟨p, cap, B, o, rfl, fun h0 => ?_, fun j h => ?_⟩
 · obtain ⟨h1, h2, h3, h4⟩ := hp h0
   exact ⟨h1, h2, Nat.lt_of_lt_of_le h3 hs, (hk B h3 h4).1⟩
 · obtain ⟨h1, h2, h3, h4⟩ := hp (by omega)
   have k := (hk B h3 h4).2
   obtain ⟨pv, vi, vm, c0, c1, c2, c3⟩ := hc j h
   exact ⟨pv, vi, vm, (k _).trans c0, c1.kept k, c2.kept hs hk, c3.kept hs hk⟩
theorem EntR.under {W W' : World} {ok : Nat → Prop} {v : Value} {L : List Ent} (h : EntR W ok v L) (hb : Below W.heap.size W W') : EntR W' ok v L :=
 h.kept hb.size fun B hB hk => ⟨hk, fun o => hb.cell (p := ⟨B, o, none⟩) hB⟩
theorem EntR.mono {W : World} {ok ok' : Nat → Prop} {v : Value} {L : List Ent} (h : EntR W ok v L) (hk : ∀ B, B < W.heap.size → ok B → ok' B) : EntR W ok' v L :=
 h.kept (Nat.le_refl _) fun B hB h => ⟨hk B hB h, fun _ => rfl⟩
theorem EntR.grown {W W' : World} {row : Option Nat} {ok : Nat → Prop} {v : Value} {L : List Ent} (h : EntR W ok v L) (hg : W.grownBy W' row) (hk : ∀ B, ok B → some B ≠ row) : EntR W' ok v L :=
 h.kept hg.size fun B hB h => ⟨h, fun o => grown_cell hg hB (hk B h) o⟩
structure Env where
 path : List Stp
 data : Dat
 pv : Value
 vi : Value
 vm : Value
def Env.e (t : Env) : Ent := (t.path, t.data)
theorem EntR.open {W : World} {ok : Nat → Prop} {v : Value} {L : List Ent} (h : EntR W ok v L) : ∃ p cap B o, v = .slice p L.length cap ∧
   ∀ (j : Nat) (_ : j < L.length), ∃ pv vi vm, p = some ⟨B, o, none⟩ ∧ L.length ≤ cap ∧ B < W.heap.size ∧ ok B ∧ W.cell? ⟨B, o + j * 6, none⟩ = some pv ∧ DCell W B (o + j * 6 + 1) L[j].2 vi vm ∧ SlK W ok pv L[j].1 ∧ Rep W ok L[j].2 vi vm := by
 obtain ⟨p, cap, B, o, rfl, hp, hc⟩ := h
 refine ⟨p, cap, B, o, rfl, fun j h => ?_⟩
 obtain ⟨h1, h2, h3, h4⟩ := hp (by omega)
 obtain ⟨pv, vi, vm, c⟩ := hc j h
 exact ⟨pv, vi, vm, h1, h2, h3, h4, c⟩
end Go.Proofs.YtdalfkklkeblaaaGreatDoor
