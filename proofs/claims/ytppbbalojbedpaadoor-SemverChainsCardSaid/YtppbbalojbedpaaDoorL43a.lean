/- The laws of versions (texts, reading, changes): what each returns. -/
import Derived.Test.YtppbbalojbedpaaDoorEx43
namespace Go.Proofs.YtppbbalojbedpaaDoor
open Go.RowKit

theorem textV_eq (u v : Ver) (hu : vldV u = true) : (textV u == textV v) = decide (u = v) := by
  by_cases h : u = v
  · subst h; simp
  · have : textV u ≠ textV v := by
      intro e
      cases hv : vldV v
      · rw [textV_bad v hv, textV_val u hu] at e; cases e
      · exact h (textV_inj hu hv e)
    rw [beq_eq_false_iff_ne.2 this, decide_eq_false h]
theorem keepR {w W w1 : World} {B1 B2 B3 C : Nat} {v0 v1 v2 v3 v4 v5 v6 v7 v8 : Value} (e2 : B2 ≤ B1) (e3 : B3 ≤ B1) (h0 : W.cell? ⟨B1, 0, none⟩ = some v0) (h1 : W.cell? ⟨B1, 1, none⟩ = some v1) (h2 : W.cell? ⟨B1, 2, none⟩ = some v2)
    (h3 : W.cell? ⟨B2, 0, none⟩ = some v3) (h4 : W.cell? ⟨B2, 1, none⟩ = some v4) (h5 : W.cell? ⟨B2, 2, none⟩ = some v5) (h6 : W.cell? ⟨B3, 0, none⟩ = some v6) (h7 : W.cell? ⟨B3, 1, none⟩ = some v7) (h8 : W.cell? ⟨B3, 2, none⟩ = some v8)
    (hs : B1 < W.heap.size) (hB : Below C w W) (hb : Below W.heap.size W w1) (hC : C ≤ W.heap.size := by omega) :
    w1.cell? ⟨B1, 0, none⟩ = some v0 ∧ w1.cell? ⟨B1, 1, none⟩ = some v1 ∧ w1.cell? ⟨B1, 2, none⟩ = some v2 ∧ w1.cell? ⟨B2, 0, none⟩ = some v3 ∧ w1.cell? ⟨B2, 1, none⟩ = some v4 ∧ w1.cell? ⟨B2, 2, none⟩ = some v5 ∧ w1.cell? ⟨B3, 0, none⟩ = some v6 ∧ w1.cell? ⟨B3, 1, none⟩ = some v7 ∧ w1.cell? ⟨B3, 2, none⟩ = some v8 ∧ B1 < w1.heap.size ∧ Below C w w1 := by
  obtain ⟨hc, -⟩ := bcell hb
  exact ⟨(hc _ _ hs).trans h0, (hc _ _ hs).trans h1, (hc _ _ hs).trans h2, (hc _ _ (by omega)).trans h3, (hc _ _ (by omega)).trans h4, (hc _ _ (by omega)).trans h5, (hc _ _ (by omega)).trans h6, (hc _ _ (by omega)).trans h7, (hc _ _ (by omega)).trans h8, Nat.lt_of_lt_of_le hs hb.size, hB.trans (hb.mono hC)⟩
theorem parse_63 : parseV [63] = (zeroV, 8) := parseV_head _ (by decide)
set_option maxHeartbeats 2000000 in
set_option maxRecDepth 100000 in
theorem lawSemverTexts (a b c : Int) (w : World) (hE : SemOk w) : Calls Tryd.prog 3 #[.agg #[.int .i64 a, .int .i64 b, .int .i64 c]] w fun e w' => e = .returned (.bool true) ∧ Below w.heap.size w w' := by
  have HE := Lib.hid hE; clear hE
  go_enter Tryd.func3, Tryd.ntmps3
  go_wp2_with fail
  have bB := Blk.new w #[.int .i64 a, .int .i64 b, .int .i64 c] 23
  have f7 : Below w.heap.size w (w.alloc (.cells #[.int .i64 a, .int .i64 b, .int .i64 c] 23)) := by go_grown
  generalize (w.alloc (.cells #[.int .i64 a, .int .i64 b, .int .i64 c] 23)) = W0 at bB f7 ⊢
  have f0 := bB.cell 0
  have f1 := bB.cell 1
  have f2 := bB.cell 2
  have f6 := bB.lt
  have f8 : Below w.heap.size w W0.drew := below_drew f7
  simp at f0 f1 f2
  clear bB
  go_region_held3 (fun w' => w'.cell? ⟨w.heap.size, 0, none⟩ = some (.int .i64 a) ∧ w'.cell? ⟨w.heap.size, 1, none⟩ = some (.int .i64 b) ∧ w'.cell? ⟨w.heap.size, 2, none⟩ = some (.int .i64 c) ∧ w.heap.size < w'.heap.size ∧ Below w.heap.size w w')
    (first
      | with_reducible exact keepB (by first | assumption | (simp; done) | (simp [*]; done)) (by first | assumption | (simp; done) | (simp [*]; done)) (by first | assumption | (simp; done) | (simp [*]; done)) (by first | assumption | (simp; done) | (simp [*]; done) | omega) (by first | assumption | (simp [*]; done)) hb2
      | go_keep)
    (first
      | (go_at_call 11; refine (Valid_any _ _ _ _).mono ?_; rintro e w2 ⟨rfl, hb2⟩)
      | (go_at_call 12; refine (refValid_any _ _ _ _).mono ?_; rintro e w2 ⟨rfl, hb2⟩)
      | (go_at_call 13; refine (Text_any _ _ _ _ (HE.out.below (by first | assumption | (simp [*]; done))).num).mono ?_; rintro e w2 ⟨rfl, hb2⟩)
      | (go_at_call 14; refine (refText_any _ _ _ _).mono ?_; rintro e w2 ⟨rfl, hb2⟩)
      | (go_at_call 15; refine (example_any _ (HE.out.below (by first | assumption | (simp [*]; done)))).mono ?_; rintro e w2 ⟨rfl, hb2⟩))
  all_goals
    go_wp2_with fail
    go_ret
    exact ⟨rfl, by first | assumption | (simp_all; done)⟩
set_option maxHeartbeats 2000000 in
set_option maxRecDepth 100000 in
theorem lawSemverParses (l : List UInt8) (w : World) (hE : SemOk w) : Calls Tryd.prog 4 #[.string (S l)] w fun e w' => e = .returned (.bool true) ∧ Below w.heap.size w w' := by
  have HE := Lib.hid hE; clear hE
  by_cases hbig : 400 < l.length
  · go_enter Tryd.func4, Tryd.ntmps4
    go_wp2_with fail
    refine (example_any _ HE.out).mono ?_
    rintro e w1 ⟨rfl, hb1⟩
    go_wp2_with fail
    go_ret
    exact ⟨rfl, hb1⟩
  · go_enter Tryd.func4, Tryd.ntmps4
    go_wp2_with fail
    refine (Parse_any l _ (by omega) HE.out.num HE.out.max).mono ?_
    rintro e w1 ⟨rfl, hb1⟩
    have HB1 := Lib.hid hb1; clear hb1
    simp only [vp]
    go_wp2_with fail
    refine (refParse_any l _ (by omega)).mono ?_
    rintro e w2 ⟨rfl, hb2⟩
    simp only [vp]
    obtain ⟨bV, hb2⟩ := below_new hb2
    have HB2 := Lib.hid (HB1.out.trans (hb2.mono HB1.out.size)); clear hb2
    have hlV := bV.lt
    have x0 := bV.cell 0
    have x1 := bV.cell 1
    have x2 := bV.cell 2
    simp at x0 x1 x2
    go_wp2_with fail
    refine (example_any _ (HE.out.below (HB2.out.alloc HB2.out.size _))).mono ?_
    rintro e w3 ⟨rfl, hb3⟩
    obtain ⟨-, hb3⟩ := below_new hb3
    go_wp2_with fail
    go_ret
    exact ⟨rfl, HB2.out.trans (hb3.mono HB2.out.size)⟩
set_option maxHeartbeats 2000000 in
set_option maxRecDepth 100000 in
theorem lawSemverChanges (a b c ch : Int) (w : World) (hE : SemOk w) : Calls Tryd.prog 5 #[.agg #[.int .i64 a, .int .i64 b, .int .i64 c], .int .i64 ch] w fun e w' => e = .returned (.bool true) ∧ Below w.heap.size w w' := by
  have HE := Lib.hid hE; clear hE
  obtain ⟨⟨⟨x, y, z⟩, er⟩, hx⟩ : ∃ p, nextV ⟨a, b, c⟩ ch = p := ⟨_, rfl⟩
  have HX := Lib.hid hx
  clear hx
  go_enter Tryd.func5, Tryd.ntmps5
  go_wp2_with fail
  refine (Next_any a b c ch _).mono ?_
  rintro e w1 ⟨rfl, hb1⟩
  rw [HX.out]
  simp only [vp]
  obtain ⟨bB, hb1⟩ := below_new hb1
  have HB1 := Lib.hid hb1; clear hb1
  have hlB := bB.lt
  have x0 := bB.cell 0
  have x1 := bB.cell 1
  have x2 := bB.cell 2
  simp at x0 x1 x2
  go_wp2_with fail
  refine (refNext_any a b c ch _).mono ?_
  rintro e w2 ⟨rfl, hb2⟩
  rw [HX.out]
  simp only [vp]
  obtain ⟨bV, hb2⟩ := below_new hb2
  have HB2 := Lib.hid (HB1.out.trans (hb2.mono HB1.out.size)); clear hb2 x0 x1 x2
  have hlV := bV.lt
  have x0 := bV.cell 0
  have x1 := bV.cell 1
  have x2 := bV.cell 2
  simp at x0 x1 x2
  go_wp2_with fail
  refine (example_any _ (HE.out.below (HB2.out.alloc HB2.out.size _))).mono ?_
  rintro e w3 ⟨rfl, hb3⟩
  obtain ⟨-, hb3⟩ := below_new hb3
  go_wp2_with fail
  go_ret
  exact ⟨rfl, HB2.out.trans (hb3.mono HB2.out.size)⟩
set_option maxHeartbeats 4000000 in
set_option maxRecDepth 100000 in
theorem lawSemverRoundTrip (a b c x y z : Int) (w : World) (hE : SemOk w) : Calls Tryd.prog 6 #[.agg #[.int .i64 a, .int .i64 b, .int .i64 c], .agg #[.int .i64 x, .int .i64 y, .int .i64 z]] w fun e w' => e = .returned (.bool true) ∧ Below w.heap.size w w' := by
  have HE := Lib.hid hE; clear hE
  have hlen := textV_len ⟨a, b, c⟩
  have HT := Lib.hid (textV_eq ⟨a, b, c⟩ ⟨x, y, z⟩)
  have hE2 : decide ((⟨a, b, c⟩ : Ver) = ⟨x, y, z⟩) = (decide (a = x) && decide (b = y) && decide (c = z)) := by
    rw [Bool.eq_iff_iff]; simp [and_assoc]
  rw [hE2] at HT
  clear hE2
  rcases bool_two (vldV ⟨a, b, c⟩) with hv | hv
  · have H63 := Lib.hid (textV_bad _ hv)
    have HV := Lib.hid hv
    clear hv hlen
    go_enter Tryd.func6, Tryd.ntmps6
    go_wp2_with fail
    refine (Text_any a b c _ (HE.out.below (((Below.refl _ _).alloc (Nat.le_refl _) _).alloc (by simp) _)).num).mono ?_
    rintro e w1 ⟨rfl, hb1⟩
    rw [H63.out]
    obtain ⟨bV, bW, hb1, hs1⟩ := blk_two _ _ _ _ _ hb1
    have HB1 := Lib.hid hb1; clear hb1
    go_wp2_with fail
    refine (Parse_any [63] _ (by decide) (HE.out.below HB1.out).num (HE.out.below HB1.out).max).mono ?_
    rintro e w2 ⟨rfl, hb2⟩
    rw [parse_63]
    simp only [vp, zeroV]
    have bV2 := bV.below hb2
    have hlV := bV2.lt
    have HB2 := Lib.hid (HB1.out.trans (hb2.mono HB1.out.size)); clear hb2
    have x0 := bV2.cell 0
    have x1 := bV2.cell 1
    have x2 := bV2.cell 2
    simp at x0 x1 x2
    go_wp2_with fail
    refine (Valid_any _ _ _ _).mono ?_
    rintro e w3 ⟨rfl, hb3⟩
    rw [HV.out]
    obtain ⟨bA, hb3⟩ := below_new hb3
    have HB3 := Lib.hid (HB2.out.trans (hb3.mono HB2.out.size)); clear hb3 x0 x1 x2
    have x0 := bA.cell 0
    have x1 := bA.cell 1
    have x2 := bA.cell 2
    simp at x0 x1 x2
    go_wp2_with fail
    refine (example_any _ (HE.out.below HB3.out)).mono ?_
    rintro e w4 ⟨rfl, hb4⟩
    go_wp2_with fail
    go_ret
    exact ⟨rfl, HB3.out.trans (hb4.mono HB3.out.size)⟩
  · have HP := Lib.hid (parseV_text _ hv)
    have HT := Lib.hid (HT.out hv)
    have HV := Lib.hid hv
    clear hv
    go_enter Tryd.func6, Tryd.ntmps6
    go_wp2_with fail
    refine (Text_any a b c _ (HE.out.below (((Below.refl _ _).alloc (Nat.le_refl _) _).alloc (by simp) _)).num).mono ?_
    rintro e w1 ⟨rfl, hb1⟩
    obtain ⟨bV, bW, hb1, hs1⟩ := blk_two _ _ _ _ _ hb1
    have HB1 := Lib.hid hb1; clear hb1
    obtain ⟨s, hs⟩ : ∃ s, textV ⟨a, b, c⟩ = s := ⟨_, rfl⟩
    rw [hs] at hlen HP HT ⊢
    clear hs
    go_wp2_with fail
    refine (Parse_any s _ (by omega) (HE.out.below HB1.out).num (HE.out.below HB1.out).max).mono ?_
    rintro e w2 ⟨rfl, hb2⟩
    rw [HP.out]
    simp only [vp]
    have bV2 := bV.below hb2
    have bW2 := bW.below hb2
    have hlV := bV2.lt
    have hlW := bW2.lt
    have hlW0 := hlW
    have HB2 := Lib.hid (HB1.out.trans (hb2.mono HB1.out.size)); clear hb2
    have x0 := bV2.cell 0
    have x1 := bV2.cell 1
    have x2 := bV2.cell 2
    simp at x0 x1 x2
    go_wp2_with fail
    refine (Valid_any _ _ _ _).mono ?_
    rintro e w3 ⟨rfl, hb3⟩
    rw [HV.out]
    obtain ⟨bA, hb3⟩ := below_new hb3
    have bV3 := bV2.below hb3
    have bW3 := bW2.below hb3
    have HB3 := Lib.hid (HB2.out.trans (hb3.mono HB2.out.size)); clear hb3 x0 x1 x2 hlV hlW
    have x0 := bA.cell 0
    have x1 := bA.cell 1
    have x2 := bA.cell 2
    have y0 := bV3.cell 0
    have y1 := bV3.cell 1
    have y2 := bV3.cell 2
    have z0 := bW3.cell 0
    have z1 := bW3.cell 1
    have z2 := bW3.cell 2
    simp at x0 x1 x2 y0 y1 y2 z0 z1 z2
    go_wp2_with fail
    have T := HT.out
    obtain ⟨q, hq⟩ : ∃ q, textV ⟨x, y, z⟩ = q := ⟨_, rfl⟩
    have HQ := Lib.hid hq
    rw [hq] at T
    clear hq
    have f6 := bA.lt
    have f5 : w.heap.size + 1 < w2.heap.size := hlW0
    have f7 := HB3.out
    have f8 : Below w.heap.size w w3.drew := below_drew f7
    clear bA bV3 bW3 bV bW bV2 bW2
    have hways : (((a == x) = true ∧ (b == y) = true ∧ (c == z) = true) ∧ (s == q) = true) ∨ ((a == x) = false ∧ (s == q) = false) ∨ ((a == x) = true ∧ (b == y) = false ∧ (s == q) = false) ∨ ((a == x) = true ∧ (b == y) = true ∧ (c == z) = false ∧ (s == q) = false) := by
      rw [T]
      by_cases h1 : a = x <;> by_cases h2 : b = y <;> by_cases h3 : c = z <;> simp [h1, h2, h3]
    clear T
    rcases hways with ⟨⟨e1, e2, e3⟩, e4⟩ | ⟨e1, e4⟩ | ⟨e1, e2, e4⟩ | ⟨e1, e2, e3, e4⟩
    all_goals
      go_region_held3 (fun w' => w'.cell? ⟨w2.heap.size, 0, none⟩ = some (.int .i64 a) ∧ w'.cell? ⟨w2.heap.size, 1, none⟩ = some (.int .i64 b) ∧ w'.cell? ⟨w2.heap.size, 2, none⟩ = some (.int .i64 c) ∧ w'.cell? ⟨w.heap.size, 0, none⟩ = some (.int .i64 a) ∧ w'.cell? ⟨w.heap.size, 1, none⟩ = some (.int .i64 b) ∧ w'.cell? ⟨w.heap.size, 2, none⟩ = some (.int .i64 c) ∧ w'.cell? ⟨w.heap.size + 1, 0, none⟩ = some (.int .i64 x) ∧ w'.cell? ⟨w.heap.size + 1, 1, none⟩ = some (.int .i64 y) ∧ w'.cell? ⟨w.heap.size + 1, 2, none⟩ = some (.int .i64 z) ∧ w2.heap.size < w'.heap.size ∧ Below w.heap.size w w')
        (first
          | with_reducible exact keepR (by omega) (by omega) (by first | assumption | (simp; done) | (simp [*]; done)) (by first | assumption | (simp; done) | (simp [*]; done)) (by first | assumption | (simp; done) | (simp [*]; done)) (by first | assumption | (simp; done) | (simp [*]; done)) (by first | assumption | (simp; done) | (simp [*]; done)) (by first | assumption | (simp; done) | (simp [*]; done)) (by first | assumption | (simp; done) | (simp [*]; done)) (by first | assumption | (simp; done) | (simp [*]; done)) (by first | assumption | (simp; done) | (simp [*]; done)) (by first | assumption | (simp; done) | (simp [*]; done) | omega) (by first | assumption | (simp [*]; done)) hb9
          | go_keep)
        (first
          | (go_at_call 13; refine (Text_any _ _ _ _ (HE.out.below (by first | assumption | (simp [*]; done))).num).mono ?_; rintro e w9 ⟨rfl, hb9⟩; rw [HQ.out])
          | (go_at_call 15; refine (example_any _ (HE.out.below (by first | assumption | (simp [*]; done)))).mono ?_; rintro e w9 ⟨rfl, hb9⟩))
      go_wp2_with fail
      go_ret
      exact ⟨rfl, by first | assumption | (simp_all; done)⟩
end Go.Proofs.YtppbbalojbedpaaDoor
