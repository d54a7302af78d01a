/- The tokens other than the end and the ends of lines: what solid returns. -/
import Derived.Laws.AppendOwn
import Derived.Test.YtadbilonialjnaaDoorTkM
import Derived.Test.YtadbilonialjnaaDoorTkS
namespace Go.Proofs.YtadbilonialjnaaDoor
open Go.RowKit

theorem four_cells {W : World} {B : Nat} {k p e : Int} {x : List UInt8} {t : TypeId} (h : Blk W B #[.int .i64 k, .string (S x), .int .i64 p, .int .i64 e] t) :
    W.cell? ⟨B, 0, none⟩ = some (.int .i64 k) ∧ W.cell? ⟨B, 1, none⟩ = some (.string (S x)) ∧ W.cell? ⟨B, 2, none⟩ = some (.int .i64 p) ∧ W.cell? ⟨B, 3, none⟩ = some (.int .i64 e) := ⟨h.cell 0, h.cell 1, h.cell 2, h.cell 3⟩
theorem gap_all (s : List UInt8) : ∀ (L : List Tok) (a : Nat), gapOK s a L → ∀ x ∈ L, x.p ≤ s.length ∧ x.e ≤ s.length ∧ x.p ≤ x.e
  | [], a, _, x, hx => by simp at hx
  | y :: r, a, h, x, hx => by
    obtain ⟨g, h2⟩ := h
    rcases List.mem_cons.1 hx with rfl | hx
    · have h1 := g.h2; have h3 := g.h3; omega
    · exact gap_all s r _ h2 x hx
theorem SlT.cellsAt {W : World} {p : Option Addr} {n cap : Nat} {L : List Tok} (h : SlT W (.slice p n cap) L) (j : Nat) (hj : j < L.length) : ∃ B, p = some ⟨B, 0, none⟩ ∧ (L.length : Int) ≤ (cap : Int) ∧ B < W.heap.size ∧ W.cell? ⟨B, j * 4, none⟩ = some (.int .i64 (L[j].k : Int)) ∧ W.cell? ⟨B, j * 4 + 1, none⟩ = some (.string (S L[j].t)) ∧ W.cell? ⟨B, j * 4 + 2, none⟩ = some (.int .i64 (L[j].p : Int)) ∧ W.cell? ⟨B, j * 4 + 3, none⟩ = some (.int .i64 (L[j].e : Int)) := by
  rcases h with ⟨h1, rfl⟩ | ⟨B, cap', h1, h2, h3, h4⟩
  · simp at hj
  · injection h1 with e1 e2 e3
    subst e1; subst e3
    exact ⟨B, rfl, by omega, h3, h4 j _ (List.getElem?_eq_getElem hj)⟩
theorem solid_snoc (L : List Tok) (j : Nat) (h : j < L.length) : solidL (L.take (j + 1)) = solidL (L.take j) ++ (if solidB L[j] = true then [L[j]] else []) := by
  unfold solidL
  rw [List.take_add_one, List.getElem?_eq_getElem h, Option.toList_some, List.filter_append]
  congr 1
  simp [List.filter_cons]
theorem solid_le (L : List Tok) : (solidL L).length ≤ L.length := List.length_filter_le ..
set_option maxRecDepth 100000 in
set_option maxHeartbeats 4000000 in
theorem solid_any (v : Value) (L : List Tok) (w : World) (hv : SlT w v L) (hL : L.length ≤ 100000) : Calls Tryd.prog 15 #[v] w fun e w' =>
    ∃ p cap, e = .returned (.slice p (solidL L).length cap) ∧ SlT w' (.slice p (solidL L).length cap) (solidL L) ∧ Below w.heap.size w w' := by
  obtain ⟨i0, hi, hz0, hz1, hz2⟩ := info_parts infoTok
  obtain ⟨vp, vc, rfl⟩ := hv.form
  have HV := Lib.hid hv
  clear hv
  go_enter Tryd.func15, Tryd.ntmps15
  go_wp2_with fail
  go_loopw [3, 4] (fun x y wr => ∃ j : Nat, y = .int .i64 (j : Int) ∧ j ≤ L.length ∧ Hid (wr.ownsRow w.heap.size 40 4 x (solidL (L.take j)).length (flatT (solidL (L.take j)))) ∧ Hid (Below w.heap.size w wr)) (fun _ y _ => L.length - (intOf y).toNat)
  case atStart => exact ⟨0, rfl, Nat.zero_le _, Lib.hid ⟨rfl, .inl ⟨rfl, rfl⟩⟩, Lib.hid (Below.refl _ _)⟩
  case round =>
    obtain ⟨j, rfl, hj, HO, HBr⟩ := hrel
    have hM : (solidL (L.take j)).length ≤ 100000 := by have := solid_le (L.take j); rw [List.length_take] at this; omega
    by_cases hlt : j < L.length
    · obtain ⟨B1, rfl, hcp, hB1, c0, c1, c2, c3⟩ := HV.out.cellsAt j hlt
      have k1 : ∀ o, wr.cell? ⟨B1, o, none⟩ = w.cell? ⟨B1, o, none⟩ := fun o => HBr.out.cell (p := ⟨B1, o, none⟩) hB1
      rw [← k1] at c0 c1 c2 c3
      clear k1
      have hsn := solid_snoc L j hlt
      obtain ⟨⟨xk, xt, xp, xe⟩, hx⟩ : ∃ x, L[j] = x := ⟨_, rfl⟩
      rw [hx] at c0 c1 c2 c3 hsn
      clear hx
      simp only at c0 c1 c2 c3
      have hsz := HBr.out.size
      have j0 : (0 : Int) ≤ (j : Int) := by omega
      have j1 : (j : Int) < (L.length : Int) := by omega
      by_cases h0 : xk = 0
      · subst h0
        rw [show solidB ⟨0, xt, xp, xe⟩ = false from rfl, if_neg (by decide), List.append_nil] at hsn
        have HN := Lib.hid hsn
        clear hsn
        go_wp2_with fail
        go_roundw
        case rel => exact ⟨j + 1, rfl, hlt, by rw [HN.out]; exact HO, HBr⟩
        case measure => simp [intOf]; omega
      · by_cases h7 : xk = 7
        · subst h7
          rw [show solidB ⟨7, xt, xp, xe⟩ = false from rfl, if_neg (by decide), List.append_nil] at hsn
          have HN := Lib.hid hsn
          clear hsn h0
          go_wp2_with fail
          go_roundw
          case rel => exact ⟨j + 1, rfl, hlt, by rw [HN.out]; exact HO, HBr⟩
          case measure => simp [intOf]; omega
        · have t0 : ((xk : Int) != 0) = true := by simp; omega
          have t7 : ((xk : Int) != 7) = true := by simp; omega
          have hb : solidB ⟨xk, xt, xp, xe⟩ = true := by simp [solidB, h0, h7]
          rw [hb, if_pos rfl] at hsn
          have HN := Lib.hid hsn
          clear hsn hb h0 h7
          obtain ⟨M, hMM⟩ : ∃ M, solidL (L.take j) = M := ⟨_, rfl⟩
          rw [hMM] at HO HN hM
          clear hMM
          have own1 := HO.out
          go_wp2_with (at_builtin; refine wpList_append_own _ rfl _ _ 36 rfl w.heap.size 40 i0 (.agg #[.int .i64 0, .string ⟨#[]⟩, .int .i64 0, .int .i64 0]) 4 40 Tryd.underlying36 hi hz0 hz1 hz2 rfl (by decide) _ _ _ rfl (own1.alloc _) ⟨wr.heap.size, 0, none⟩ 1 1 [.int .i64 (xk : Int), .string (S xt), .int .i64 (xp : Int), .int .i64 (xe : Int)] rfl rfl (cells_new wr _ _) (by simp [Value.oneCell']) (by unfold maxLen; omega) (by omega) (by simp; omega) ?_; intro v' w2 hown2 hgrow _; have HB2 := Lib.hid ((HBr.out.alloc hsz (.cells #[.int .i64 (xk : Int), .string (S xt), .int .i64 (xp : Int), .int .i64 (xe : Int)] 40)).grown hgrow (by simp; omega) (fun j' hj' => (own_base (own1.alloc (.cells #[.int .i64 (xk : Int), .string (S xt), .int .i64 (xp : Int), .int .i64 (xe : Int)] 40)) j' hj').1)))
          go_roundw
          case rel => exact ⟨j + 1, rfl, hlt, Lib.hid (by rw [HN.out, flatT_snoc, List.length_append]; exact hown2), HB2⟩
          case measure => simp [intOf]; omega
    · have he : j = L.length := by omega
      subst he
      rw [List.take_length] at HO
      have hs := own_SlT HO.out
      obtain ⟨p, cap, rfl⟩ := hs.form
      go_wp2_with fail
      go_ret
      exact ⟨p, cap, rfl, hs, HBr.out⟩
end Go.Proofs.YtadbilonialjnaaDoor
