/- The law of steps on prefixes: what it returns. -/
import Derived.Laws.AppendOwnNone
import Derived.Deep.DeepCutAuto
import Derived.Deep.CutBlock
import Derived.Test.YtpekkdgaeadepaaDoorLa10
namespace Go.Proofs.YtpekkdgaeadepaaDoor
open Go.RowKit

theorem preS_app (L M : List Stp) : preS L (L ++ M) = true := by unfold preS; simp
theorem cmpS_app : ∀ L M : List Stp, cmpS L (L ++ M) ≤ 0
  | [], [] => by simp [cmpS]
  | [], _ :: _ => by simp [cmpS]
  | x :: r, M => by rw [List.cons_append, cmpS, if_pos rfl]; exact cmpS_app r M
theorem preS_back (L M : List Stp) : preS (L ++ M) L = decide (M.length = 0) := by
  unfold preS
  cases M with
  | nil => simp
  | cons x r =>
    have h : decide ((L ++ x :: r).length ≤ L.length) = false := decide_eq_false (by simp)
    rw [h, Bool.false_and]
    exact (decide_eq_false (by simp)).symm
theorem okL_app (L M : List Stp) : okL (L ++ M) = (okL L && okL M) := by unfold okL; exact List.all_append
theorem body_app (L M : List Stp) (h : L ≠ []) : bodyS (L ++ M) = bodyS L ++ restS M := by
  cases L with
  | nil => exact absurd rfl h
  | cons x r =>
    rw [List.cons_append]
    show bitS x true ++ restS (r ++ M) = bitS x true ++ restS r ++ restS M
    unfold restS
    rw [List.flatMap_append, List.append_assoc]
theorem text_app (L M : List Stp) (h : L ≠ []) (hL : okL L = true) (hM : okL M = true) : textS (L ++ M) = textS L ++ restS M := by
  rw [textS_body _ (by rw [okL_app, hL, hM]; rfl) (by intro e; exact h (List.append_eq_nil_iff.1 e).1), textS_body _ hL h, body_app L M h]
theorem SlS.src {W : World} {ad : Addr} {n cap : Nat} {L : List Stp} (h : SlS W (.slice (some ad) n cap) L) : n = L.length ∧ ∀ j u, (flatC L)[j]? = some u → W.cell? (ad.add j) = some u := by
  rcases h with ⟨⟨p, c, hv⟩, rfl⟩ | ⟨B, o, c, hv, hc, hB, hx⟩
  · injection hv with h1 h2 h3
    exact ⟨h2, fun j u hj => by simp [flatC] at hj⟩
  · injection hv with h1 h2 h3
    injection h1 with h1
    subst h1
    refine ⟨h2, fun j u hj => ?_⟩
    rw [Lib.add_plain]
    have hjl : j < L.length * 2 := by have := (List.getElem?_eq_some_iff.1 hj).1; rwa [flatC_len] at this
    have hq : j / 2 < L.length := by omega
    obtain ⟨e0, e1⟩ := flat_get L (j / 2) L[j / 2] (List.getElem?_eq_getElem hq)
    obtain ⟨c0, c1⟩ := hx (j / 2) L[j / 2] (List.getElem?_eq_getElem hq)
    rcases Nat.mod_two_eq_zero_or_one j with h | h
    · have hj2 : j = j / 2 * 2 := by omega
      rw [← hj2] at e0 c0
      rw [hj] at e0
      injection e0 with e0
      rw [e0]; exact c0
    · have hj2 : j = j / 2 * 2 + 1 := by omega
      rw [← hj2] at e1
      rw [show o + j / 2 * 2 + 1 = o + j by omega] at c1
      rw [hj] at e1
      injection e1 with e1
      rw [e1]; exact c1
theorem flat_app (L M : List Stp) : flatC (L ++ M) = flatC L ++ flatC M := by unfold flatC; exact List.flatMap_append
theorem flat_one (L : List Stp) : ∀ u ∈ flatC L, u.oneCell' = true := by
  intro u hu
  unfold flatC at hu
  obtain ⟨x, -, hx⟩ := List.mem_flatMap.1 hu
  simp at hx
  rcases hx with rfl | rfl <;> rfl
theorem SlS.none_len {W : World} {n cap : Nat} {L : List Stp} (h : SlS W (.slice none n cap) L) : L.length = n := by
  obtain ⟨p, c, hv⟩ := h.form
  injection hv with _ h2 _
  exact h2.symm
theorem own_below0 {B : Nat} {w0 W w1 : World} {e : TypeId} {size : Nat} {v : Value} {k : Nat} {xs : List Value} (hB : Below B w0 W) (h : W.ownsRow B e size v k xs) (hgrow : W.grownBy w1 v.ownBlock) (hs : B ≤ W.heap.size) : Below B w0 w1 :=
  hB.grown hgrow hs (fun j ej => (own_base h j ej).1)
set_option maxRecDepth 100000 in
set_option maxHeartbeats 8000000 in
theorem lawStepsPrefixes (w : World) (v : Value) (L : List Stp) (hv : SlS w v L) (hn : L.length ≤ maxLen) (hsv : v = .slice none 0 0 ∨ ∃ ad n cap, v = .slice (some ad) n cap) (u : Value) (M : List Stp) (hu : SlS w u M) (hm : M.length ≤ maxLen) (hsu : u = .slice none 0 0 ∨ ∃ ad n cap, u = .slice (some ad) n cap) (hE : StOk w) : Calls Tryd.prog 10 #[v, u] w fun e w' => e = .returned (.bool true) ∧ Below w.heap.size w w' := by
  have HE := Lib.hid hE
  have HV := Lib.hid hv
  have HU := Lib.hid hu
  clear hE
  unfold maxLen at hn hm
  have SV := fun W (hb : Below w.heap.size w W) => Small_big v L W (hv.below hb) (by omega)
  have SU := fun W (hb : Below w.heap.size w W) => Small_big u M W (hu.below hb) (by omega)
  have SV := Lib.hid SV
  have SU := Lib.hid SU
  rcases bool_two (smallL L) with h1 | h1
  · go_enter Tryd.func10, Tryd.ntmps10
    go_wp2_with fail
    refine (SV.out _ (Below.refl _ _)).mono ?_
    rintro e w1 ⟨rfl, hb1⟩
    rw [h1]
    go_wp2_with fail
    refine (example_any _ (HE.out.below hb1)).mono ?_
    rintro e w2 ⟨rfl, hb2⟩
    go_wp2_with fail
    go_ret
    exact ⟨rfl, keepV hb1 hb2⟩
  rcases bool_two (smallL M) with h2 | h2
  · go_enter Tryd.func10, Tryd.ntmps10
    go_wp2_with fail
    refine (SV.out _ (Below.refl _ _)).mono ?_
    rintro e w1 ⟨rfl, hb1⟩
    rw [h1]
    go_wp2_with fail
    refine (SU.out _ hb1).mono ?_
    rintro e w2 ⟨rfl, hb2⟩
    rw [h2]
    have HB2 := keepV hb1 hb2
    clear hb1 hb2
    go_wp2_with fail
    refine (example_any _ (HE.out.below HB2)).mono ?_
    rintro e w3 ⟨rfl, hb3⟩
    go_wp2_with fail
    go_ret
    exact ⟨rfl, keepV HB2 hb3⟩
  obtain ⟨limL, hl20⟩ := small_lim h1
  obtain ⟨limM, hm20⟩ := small_lim h2
  have VV := fun W (hb : Below w.heap.size w W) => Valid_any v L W (hv.below hb) (by omega)
  have VU := fun W (hb : Below w.heap.size w W) => Valid_any u M W (hu.below hb) (by omega)
  have VV := Lib.hid VV
  have VU := Lib.hid VU
  have LL := Lib.hid limL
  have LM := Lib.hid limM
  rcases bool_two (okL L) with h3 | h3
  · go_enter Tryd.func10, Tryd.ntmps10
    go_wp2_with fail
    refine (SV.out _ (Below.refl _ _)).mono ?_
    rintro e w1 ⟨rfl, hb1⟩
    rw [h1]
    go_wp2_with fail
    refine (SU.out _ hb1).mono ?_
    rintro e w2 ⟨rfl, hb2⟩
    rw [h2]
    have HB2 := keepV hb1 hb2
    clear hb1 hb2
    go_wp2_with fail
    refine (VV.out _ HB2).mono ?_
    rintro e w3 ⟨rfl, hb3⟩
    rw [h3]
    have HB3 := keepV HB2 hb3
    clear HB2 hb3
    go_wp2_with fail
    refine (example_any _ (HE.out.below HB3)).mono ?_
    rintro e w4 ⟨rfl, hb4⟩
    go_wp2_with fail
    go_ret
    exact ⟨rfl, keepV HB3 hb4⟩
  rcases bool_two (okL M) with h4 | h4
  · go_enter Tryd.func10, Tryd.ntmps10
    go_wp2_with fail
    refine (SV.out _ (Below.refl _ _)).mono ?_
    rintro e w1 ⟨rfl, hb1⟩
    rw [h1]
    go_wp2_with fail
    refine (SU.out _ hb1).mono ?_
    rintro e w2 ⟨rfl, hb2⟩
    rw [h2]
    have HB2 := keepV hb1 hb2
    clear hb1 hb2
    go_wp2_with fail
    refine (VV.out _ HB2).mono ?_
    rintro e w3 ⟨rfl, hb3⟩
    rw [h3]
    have HB3 := keepV HB2 hb3
    clear HB2 hb3
    go_wp2_with fail
    refine (VU.out _ HB3).mono ?_
    rintro e w4 ⟨rfl, hb4⟩
    rw [h4]
    have HB4 := keepV HB3 hb4
    clear HB3 hb4
    go_wp2_with fail
    refine (example_any _ (HE.out.below HB4)).mono ?_
    rintro e w5 ⟨rfl, hb5⟩
    go_wp2_with fail
    go_ret
    exact ⟨rfl, keepV HB4 hb5⟩
  obtain ⟨i0, hi, hz0, hz1, hz2⟩ := info_parts infoStp
  go_enter Tryd.func10, Tryd.ntmps10
  go_wp2_with fail
  refine (SV.out _ (Below.refl _ _)).mono ?_
  rintro e w1 ⟨rfl, hb1⟩
  rw [h1]
  go_wp2_with fail
  refine (SU.out _ hb1).mono ?_
  rintro e w2 ⟨rfl, hb2⟩
  rw [h2]
  have HB2 := keepV hb1 hb2
  clear hb1 hb2
  go_wp2_with fail
  refine (VV.out _ HB2).mono ?_
  rintro e w3 ⟨rfl, hb3⟩
  rw [h3]
  have HB3 := keepV HB2 hb3
  clear HB2 hb3
  go_wp2_with fail
  refine (VU.out _ HB3).mono ?_
  rintro e w4 ⟨rfl, hb4⟩
  rw [h4]
  have HB4 := Lib.hid (keepV HB3 hb4)
  clear HB3 hb4
  go_upto_region 3 with fail
  have own0 : (w4.alloc (.cells #[] 37)).ownsRow w.heap.size 37 2 (.slice (some ⟨w4.heap.size, 0, none⟩) 0 0) 0 [] := ⟨rfl, .inr ⟨_, 0, #[], rfl, HB4.out.size, heap_alloc_new _ _, Nat.le_refl _, Nat.zero_le _, rfl, rfl⟩⟩
  have B0 : Below w.heap.size w (w4.alloc (.cells #[] 37)) := HB4.out.alloc HB4.out.size _
  have HLk : Hid (okL L = true ∧ okL M = true) := Lib.hid ⟨h3, h4⟩
  clear h1 h2 h3 h4 SV SU VV VU
  go_cut [5] (fun l wx => wx.ownsRow w.heap.size 37 2 l (L ++ M).length (flatC (L ++ M)) ∧ Below w.heap.size w wx)
  case first =>
    have HF0 : w.heap.size ≤ w4.heap.size := HB4.out.size
    rcases hsv with hs1 | ⟨ad1, n1, c1, hs1⟩ <;> rcases hsu with hs2 | ⟨ad2, n2, c2, hs2⟩
    · subst hs1 hs2
      obtain rfl : L = [] := List.eq_nil_of_length_eq_zero (SlS.none_len HV.out)
      obtain rfl : M = [] := List.eq_nil_of_length_eq_zero (SlS.none_len HU.out)
      go_wp2_with ((at_builtin; refine wpList_append_own_none rfl _ _ 22 rfl w.heap.size 37 i0 2 Tryd.underlying22 hi _ _ _ rfl own0 rfl ?_))
      go_meet
      exact ⟨by simpa [flat_app, flatC] using own0, B0⟩
    · subst hs1 hs2
      obtain rfl : L = [] := List.eq_nil_of_length_eq_zero (SlS.none_len HV.out)
      obtain rfl := HU.out.src.1
      go_wp2_with (first | (at_builtin; refine wpList_append_own_none rfl _ _ 22 rfl w.heap.size 37 i0 2 Tryd.underlying22 hi _ _ _ rfl own0 rfl ?_) | (at_builtin; refine wpList_append_own _ rfl _ _ 22 rfl w.heap.size 37 i0 (.agg #[.string ⟨#[]⟩, .int .i64 0]) 2 24 Tryd.underlying22 hi hz0 hz1 hz2 rfl (by decide) _ _ _ rfl own0 ad2 M.length c2 (flatC M) rfl (flatC_len M) ((HU.out.below B0).src.2) (flat_one M) (by unfold maxLen; omega) (by omega) B0.size ?_; intro v6 w6 own6 grow6 _; have B6 := own_below0 B0 own0 grow6 B0.size; clear grow6))
      go_meet
      exact ⟨by simpa [flat_app, flatC] using own6, B6⟩
    · subst hs1 hs2
      obtain rfl := HV.out.src.1
      obtain rfl : M = [] := List.eq_nil_of_length_eq_zero (SlS.none_len HU.out)
      go_wp2_with (first | (at_builtin; refine wpList_append_own _ rfl _ _ 22 rfl w.heap.size 37 i0 (.agg #[.string ⟨#[]⟩, .int .i64 0]) 2 24 Tryd.underlying22 hi hz0 hz1 hz2 rfl (by decide) _ _ _ rfl own0 ad1 L.length c1 (flatC L) rfl (flatC_len L) ((HV.out.below B0).src.2) (flat_one L) (by unfold maxLen; omega) (by omega) B0.size ?_; intro v5 w5 own5 grow5 _; have B5 := own_below0 B0 own0 grow5 B0.size; clear grow5) | (at_builtin; refine wpList_append_own_none rfl _ _ 22 rfl w.heap.size 37 i0 2 Tryd.underlying22 hi _ _ _ rfl own5 rfl ?_))
      go_meet
      exact ⟨by simpa [flat_app, flatC] using own5, B5⟩
    · subst hs1 hs2
      obtain rfl := HV.out.src.1
      obtain rfl := HU.out.src.1
      go_wp2_with (first | (at_builtin; refine wpList_append_own _ rfl _ _ 22 rfl w.heap.size 37 i0 (.agg #[.string ⟨#[]⟩, .int .i64 0]) 2 24 Tryd.underlying22 hi hz0 hz1 hz2 rfl (by decide) _ _ _ rfl own0 ad1 L.length c1 (flatC L) rfl (flatC_len L) ((HV.out.below B0).src.2) (flat_one L) (by unfold maxLen; omega) (by omega) B0.size ?_; intro v5 w5 own5 grow5 _; have B5 := own_below0 B0 own0 grow5 B0.size; clear grow5) | (at_builtin; refine wpList_append_own _ rfl _ _ 22 rfl w.heap.size 37 i0 (.agg #[.string ⟨#[]⟩, .int .i64 0]) 2 24 Tryd.underlying22 hi hz0 hz1 hz2 rfl (by decide) _ _ _ rfl own5 ad2 M.length c2 (flatC M) rfl (flatC_len M) ((HU.out.below B5).src.2) (flat_one M) (by unfold maxLen; omega) (by omega) B5.size ?_; intro v6 w6 own6 grow6 _; have B6 := own_below0 B5 own5 grow6 B5.size; clear grow6))
      go_meet
      exact ⟨by simpa [flat_app, flatC] using own6, B6⟩
  case rest =>
    obtain ⟨own, hb⟩ := hcut
    have HL := Lib.hid (own_SlS own wc (Nat.le_refl _) (fun _ _ _ _ h => h))
    have HBc := Lib.hid hb
    clear own hb own0 B0 hv hu hsv hsu
    obtain ⟨vp, vc, rfl⟩ := HV.out.form
    obtain ⟨up, uc, rfl⟩ := HU.out.form
    have LLM : Hid (LimS (L ++ M)) := Lib.hid ⟨by rw [List.length_append]; omega, fun x hx => by rcases List.mem_append.1 hx with h | h; exact LL.out.2 x h; exact LM.out.2 x h⟩
    obtain ⟨m0, hm0⟩ : ∃ b : Bool, ((M.length : Int) == 0) = b := ⟨_, rfl⟩
    have HM0 : Hid (decide (M.length = 0) = m0) := Lib.hid (by rw [← hm0, Bool.eq_iff_iff]; simp)
    obtain ⟨s, hs⟩ : ∃ s, textS L = s := ⟨_, rfl⟩
    have HT1 := Lib.hid hs
    by_cases hL0 : L = []
    · have hz : ((L.length : Int) == 0) = true := by rw [hL0]; rfl
      obtain ⟨t, ht⟩ : ∃ t, textS (L ++ M) = t := ⟨_, rfl⟩
      have HT2 := Lib.hid ht
      clear hs ht hL0
      go_wp2_with fail
      refine (Prefix_any _ _ L (L ++ M) _ (HV.out.below HBc.out) HL.out (by omega) (by rw [List.length_append]; omega)).mono ?_
      rintro e w5 ⟨rfl, hb5⟩
      rw [preS_app]
      have HB5 := Lib.hid (keepV HBc.out hb5)
      have HL5 := Lib.hid (SlS.below HL.out hb5)
      clear hb5
      go_wp2_with fail
      refine (Compare_any _ _ L (L ++ M) _ (HV.out.below HB5.out) HL5.out (by omega) (by rw [List.length_append]; omega)).mono ?_
      rintro e w6 ⟨rfl, hb6⟩
      have hcm := cmpS_app L M
      generalize cmpS L (L ++ M) = cm at hcm ⊢
      have hcf : decide ((0 : Int) < cm) = false := decide_eq_false (by omega)
      clear hcm
      have HB6 := Lib.hid (keepV HB5.out hb6)
      have HL6 := Lib.hid (SlS.below HL5.out hb6)
      clear hb6
      go_wp2_with fail
      refine (Prefix_any _ _ (L ++ M) L _ HL6.out (HV.out.below HB6.out) (by rw [List.length_append]; omega) (by omega)).mono ?_
      rintro e w7 ⟨rfl, hb7⟩
      rw [preS_back, HM0.out]
      have HB7 := Lib.hid (keepV HB6.out hb7)
      have HL7 := Lib.hid (SlS.below HL6.out hb7)
      clear hb7
      go_wp2_with fail
      refine (Text_any _ L _ (HV.out.below HB7.out) LL.out (HE.out.below HB7.out).num).mono ?_
      rintro e w8 ⟨rfl, hb8⟩
      rw [HT1.out]
      have HB8 := Lib.hid (keepV HB7.out hb8)
      have HL8 := Lib.hid (SlS.below HL7.out hb8)
      clear hb8
      go_wp2_with fail
      refine (Text_any _ (L ++ M) _ HL8.out LLM.out (HE.out.below HB8.out).num).mono ?_
      rintro e w9 ⟨rfl, hb9⟩
      rw [HT2.out]
      have HB9 := Lib.hid (keepV HB8.out hb9)
      clear hb9
      go_wp2_with fail
      refine (example_any _ (HE.out.below HB9.out)).mono ?_
      rintro e w10 ⟨rfl, hb10⟩
      go_wp2_with fail
      go_ret
      exact ⟨rfl, keepV HB9.out hb10⟩
    · have hz : ((L.length : Int) == 0) = false := by rw [beq_eq_false_iff_ne]; have := List.length_pos_iff.2 hL0; omega
      obtain ⟨r, hr⟩ : ∃ r, restS M = r := ⟨_, rfl⟩
      have HT2 : Hid (textS (L ++ M) = s ++ r) := Lib.hid (by rw [text_app L M hL0 HLk.out.1 HLk.out.2, hs, hr])
      clear hs hr hL0
      have hsl : sl (s ++ r) 0 s.length = s := by unfold sl; simp
      go_wp2_with fail
      refine (Prefix_any _ _ L (L ++ M) _ (HV.out.below HBc.out) HL.out (by omega) (by rw [List.length_append]; omega)).mono ?_
      rintro e w5 ⟨rfl, hb5⟩
      rw [preS_app]
      have HB5 := Lib.hid (keepV HBc.out hb5)
      have HL5 := Lib.hid (SlS.below HL.out hb5)
      clear hb5
      go_wp2_with fail
      refine (Compare_any _ _ L (L ++ M) _ (HV.out.below HB5.out) HL5.out (by omega) (by rw [List.length_append]; omega)).mono ?_
      rintro e w6 ⟨rfl, hb6⟩
      have hcm := cmpS_app L M
      generalize cmpS L (L ++ M) = cm at hcm ⊢
      have hcf : decide ((0 : Int) < cm) = false := decide_eq_false (by omega)
      clear hcm
      have HB6 := Lib.hid (keepV HB5.out hb6)
      have HL6 := Lib.hid (SlS.below HL5.out hb6)
      clear hb6
      go_wp2_with fail
      refine (Prefix_any _ _ (L ++ M) L _ HL6.out (HV.out.below HB6.out) (by rw [List.length_append]; omega) (by omega)).mono ?_
      rintro e w7 ⟨rfl, hb7⟩
      rw [preS_back, HM0.out]
      have HB7 := Lib.hid (keepV HB6.out hb7)
      have HL7 := Lib.hid (SlS.below HL6.out hb7)
      clear hb7
      go_wp2_with fail
      refine (Text_any _ L _ (HV.out.below HB7.out) LL.out (HE.out.below HB7.out).num).mono ?_
      rintro e w8 ⟨rfl, hb8⟩
      rw [HT1.out]
      have HB8 := Lib.hid (keepV HB7.out hb8)
      have HL8 := Lib.hid (SlS.below HL7.out hb8)
      clear hb8
      go_wp2_with fail
      refine (Text_any _ (L ++ M) _ HL8.out LLM.out (HE.out.below HB8.out).num).mono ?_
      rintro e w9 ⟨rfl, hb9⟩
      rw [HT2.out]
      have HB9 := Lib.hid (keepV HB8.out hb9)
      clear hb9
      go_wp2_with fail
      refine (example_any _ (HE.out.below HB9.out)).mono ?_
      rintro e w10 ⟨rfl, hb10⟩
      go_wp2_with fail
      go_ret
      exact ⟨rfl, keepV HB9.out hb10⟩
end Go.Proofs.YtpekkdgaeadepaaDoor
