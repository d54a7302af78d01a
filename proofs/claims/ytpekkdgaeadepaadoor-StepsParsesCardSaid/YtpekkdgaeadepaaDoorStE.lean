/- The chapter's examples of steps: example returns true. -/
import Derived.Test.YtpekkdgaeadepaaDoorStR
import Derived.Test.YtpekkdgaeadepaaDoorStP
namespace Go.Proofs.YtpekkdgaeadepaaDoor
open Go.RowKit

def exL : List Stp := [⟨[97], 0⟩, ⟨[], 0⟩, ⟨[98, 32, 99], 0⟩]
def exT : List UInt8 := [97, 91, 48, 93, 46, 34, 98, 32, 99, 34]
theorem ex_p1 : parseP exT = (exL, 0, 0) := by decide +kernel
theorem ex_p2 : parseP [34, 97, 34] = ([], 8, 2) := by decide +kernel
theorem ex_p3 : parseP [91, 49, 48, 48, 48, 48, 48, 49, 93] = ([], 8, 7) := by decide +kernel
theorem ex_lab : labelL [97] = [97] ∧ labelL [98, 32, 99] = [34, 98, 32, 99, 34] := by decide +kernel
theorem ex_text : textS exL = [97, 91, 48, 93, 46, 34, 98, 32, 99, 34] := by
  have h0 : Lib.decDigits 0 = [48] := Lib.decDigits_one (by decide)
  unfold textS bodyS restS bitS exL
  simp [okL, okS, ex_lab.1, ex_lab.2, h0]
theorem ex_cmp : cmpS [⟨[97], 0⟩, ⟨[], 0⟩] [⟨[], 0⟩, ⟨[98, 32, 99], 0⟩] = -1 := by decide +kernel
theorem lim_ex : LimS exL := ⟨by decide, by decide⟩
theorem lim_nil : LimS [] := ⟨by decide, by decide⟩
def exC : Array Value := #[.string ⟨#[97]⟩, .int .i64 0, .string ⟨#[]⟩, .int .i64 0, .string ⟨#[98, 32, 99]⟩, .int .i64 0]
theorem sls_ex {W : World} {B : Nat} (h : Blk W B exC 37) : SlS W (.slice (some ⟨B, 0, none⟩) 3 3) exL ∧ SlS W (.slice (some ⟨B, 0, none⟩) 2 3) [⟨[97], 0⟩, ⟨[], 0⟩] ∧ SlS W (.slice (some ⟨B, 2, none⟩) 2 2) [⟨[], 0⟩, ⟨[98, 32, 99], 0⟩] := by
  refine ⟨.inr ⟨B, 0, 3, rfl, by decide, h.lt, ?_⟩, .inr ⟨B, 0, 3, rfl, by decide, h.lt, ?_⟩, .inr ⟨B, 2, 2, rfl, by decide, h.lt, ?_⟩⟩
  · intro j x hj
    match j, hj with
    | 0, hj => cases hj; exact ⟨h.cell 0, h.cell 1⟩
    | 1, hj => cases hj; exact ⟨h.cell 2, h.cell 3⟩
    | 2, hj => cases hj; exact ⟨h.cell 4, h.cell 5⟩
  · intro j x hj
    match j, hj with
    | 0, hj => cases hj; exact ⟨h.cell 0, h.cell 1⟩
    | 1, hj => cases hj; exact ⟨h.cell 2, h.cell 3⟩
  · intro j x hj
    match j, hj with
    | 0, hj => cases hj; exact ⟨h.cell 2, h.cell 3⟩
    | 1, hj => cases hj; exact ⟨h.cell 4, h.cell 5⟩
theorem keepW {a W w9 : World} (h : Below a.heap.size a W) (hb : Below W.heap.size W w9) : Below a.heap.size a w9 := h.trans (hb.mono h.size)
theorem keepV {w a W : World} (h : Below w.heap.size w a) (hb : Below a.heap.size a W) : Below w.heap.size w W := h.trans (hb.mono h.size)
theorem sls_nil (W : World) : SlS W (.slice none 0 0) [] := .inl ⟨⟨_, _, rfl⟩, rfl⟩
theorem SlS.under {w W W' : World} {v : Value} {L : List Stp} (h : SlS W v L) (hb : Below W.heap.size W W') : SlS W' v L := h.below hb
set_option maxRecDepth 100000 in
set_option maxHeartbeats 4000000 in
theorem example_any (w : World) (hE : StOk w) : Calls Tryd.prog 12 #[] w fun e w' => e = .returned (.bool true) ∧ Below w.heap.size w w' := by
  have HE := Lib.hid hE; clear hE
  have P1 := Lib.hid ex_p1
  have P2 := Lib.hid ex_p2
  have P3 := Lib.hid ex_p3
  go_enter Tryd.func12, Tryd.ntmps12
  go_wp2_with fail
  have hF : ∀ W, W = w.alloc (.cells exC 37) → Blk W w.heap.size exC 37 ∧ Below w.heap.size w W := by
    intro W hW; rw [hW]; exact ⟨Blk.new _ _ _, by go_grown⟩
  have hF := hF _ rfl
  unfold exC at hF
  generalize w.alloc (.cells #[.string ⟨#[97]⟩, .int .i64 0, .string ⟨#[]⟩, .int .i64 0, .string ⟨#[98, 32, 99]⟩, .int .i64 0] 37) = W0 at hF ⊢
  have SL := Lib.hid (sls_ex hF.1)
  have HB := Lib.hid hF.2
  clear hF
  refine (Parse_any exT (by decide) _ (HE.out.below HB.out)).mono ?_
  rintro e w1 ⟨v1, rfl, hv1, hb1⟩
  rw [P1.out] at hv1 ⊢
  simp only at hv1 ⊢
  obtain ⟨vp, vc, rfl⟩ := hv1.form
  have V1 := Lib.hid hv1
  have HB1 := Lib.hid (HB.out.trans (hb1.mono HB.out.size))
  have G1 := Lib.hid hb1
  clear hb1 hv1
  go_wp2_with fail
  refine (Parse_any [34, 97, 34] (by decide) _ (HE.out.below (HB1.out.alloc HB1.out.size _))).mono ?_
  rintro e w2 ⟨v2, rfl, -, hb2⟩
  rw [P2.out]
  simp only
  obtain ⟨q3, hb2⟩ := below_new hb2
  have HB2 := Lib.hid (HB1.out.trans (hb2.mono HB1.out.size))
  have G2 := Lib.hid hb2
  clear hb2
  go_wp2_with fail
  refine (Parse_any [91, 49, 48, 48, 48, 48, 48, 49, 93] (by decide) _ (HE.out.below (HB2.out.alloc HB2.out.size _))).mono ?_
  rintro e w3 ⟨v3, rfl, -, hb3⟩
  rw [P3.out]
  simp only
  obtain ⟨q5, hb3⟩ := below_new hb3
  have q3 := q3.below hb3
  have HB3 := Lib.hid (HB2.out.trans (hb3.mono HB2.out.size))
  have G3 := Lib.hid (G1.out.trans ((G2.out.trans (hb3.mono G2.out.size)).mono G1.out.size))
  have G4 := Lib.hid (G2.out.trans (hb3.mono G2.out.size))
  clear hb3
  have hl3 := q3.lt
  have hl5 := q5.lt
  have x0 := q3.cell 0
  have x1 := q3.cell 1
  have y0 := q5.cell 0
  have y1 := q5.cell 1
  simp at x0 x1 y0 y1
  go_wp2_with fail
  have T1 := Lib.hid (SL.out.1.below G3.out)
  have T2 := Lib.hid (SL.out.2.1.below G3.out)
  have T3 := Lib.hid (SL.out.2.2.below G3.out)
  have M1 := Lib.hid (V1.out.below G4.out)
  have hc := Lib.hid ex_cmp
  clear q3 q5
  go_region_held3 (fun w' => Below w3.heap.size w3 w')
    (first
      | with_reducible exact below_drew ((Below.refl _ _).alloc (Nat.le_refl _) _)
      | with_reducible exact keepW (by assumption) hb9
      | go_keep)
    (first
      | (go_at_call 15; with_reducible refine (Text_any (.slice (some ⟨w.heap.size, 0, none⟩) 3 3) exL _ (T1.out.below (by assumption)) lim_ex (HE.out.below (keepV HB3.out (by assumption))).num).mono ?_; rintro e w9 ⟨rfl, hb9⟩; rw [ex_text])
      | (go_at_call 15; with_reducible refine (Text_any (.slice none 0 0) [] _ (sls_nil _) lim_nil (HE.out.below (keepV HB3.out (by assumption))).num).mono ?_; rintro e w9 ⟨rfl, hb9⟩; rw [textS_nil])
      | (go_at_call 19; with_reducible refine (Same_any (.slice vp exL.length vc) (.slice (some ⟨w.heap.size, 0, none⟩) 3 3) exL exL _ (M1.out.below (by assumption)) (T1.out.below (by assumption)) (by decide) (by decide)).mono ?_; rintro e w9 ⟨rfl, hb9⟩; rw [decide_eq_true rfl])
      | (go_at_call 20; with_reducible refine (Compare_any (.slice (some ⟨w.heap.size, 0, none⟩) 2 3) (.slice (some ⟨w.heap.size, 2, none⟩) 2 2) [⟨[97], 0⟩, ⟨[], 0⟩] [⟨[], 0⟩, ⟨[98, 32, 99], 0⟩] _ (T2.out.below (by assumption)) (T3.out.below (by assumption)) (by decide) (by decide)).mono ?_; rintro e w9 ⟨rfl, hb9⟩; rw [hc.out])
      | (go_at_call 13; with_reducible refine (Valid_any (.slice none 0 0) [] _ (sls_nil _) (by decide)).mono ?_; rintro e w9 ⟨rfl, hb9⟩; rw [show okL [] = true from rfl]))
  all_goals
    have hBx := keepV HB3.out (by assumption)
    go_wp2_with fail
    go_ret
    exact ⟨rfl, hBx⟩
end Go.Proofs.YtpekkdgaeadepaaDoor
