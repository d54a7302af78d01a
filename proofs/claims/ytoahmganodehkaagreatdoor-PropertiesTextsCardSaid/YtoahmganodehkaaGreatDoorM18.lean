/- Walks of the reference's data: the text of a leaf. -/
import Derived.Test.YtoahmganodehkaaGreatDoorM16
import Derived.Test.YtoahmganodehkaaGreatDoorM03
import Derived.Test.YtoahmganodehkaaGreatDoorM13
import Derived.Test.YtoahmganodehkaaGreatDoorM17
import Derived.Test.YtoahmganodehkaaGreatDoorM11
namespace Go.Proofs.YtoahmganodehkaaGreatDoor
set_option linter.unusedSimpArgs false
set_option linter.unusedVariables false
section
open Go.RowKit

set_option maxRecDepth 100000 in
theorem rtext_1 (p q : Option Addr) (cap caq : Nat) (w : World) :
    Calls Tryz.prog 86 #[.agg #[.int .i64 1, .int .i64 0, .string (S []), .slice p 0 cap, .slice q 0 caq]] w fun e w' => e = .returned (.string (S [110, 117, 108, 108])) ∧ Below w.heap.size w w' := by
  go_enter Tryz.func86, Tryz.ntmps86
  go_wp2_with fail
  go_ret
  exact ⟨rfl, by go_grown⟩
set_option maxRecDepth 100000 in
theorem rtext_2t (p q : Option Addr) (cap caq : Nat) (w : World) :
    Calls Tryz.prog 86 #[.agg #[.int .i64 2, .int .i64 1, .string (S []), .slice p 0 cap, .slice q 0 caq]] w fun e w' => e = .returned (.string (S [116, 114, 117, 101])) ∧ Below w.heap.size w w' := by
  go_enter Tryz.func86, Tryz.ntmps86
  go_wp2_with fail
  go_ret
  exact ⟨rfl, by go_grown⟩
set_option maxRecDepth 100000 in
theorem rtext_2f (n : Int) (p q : Option Addr) (cap caq : Nat) (w : World) (hn : (n == 1) = false) :
    Calls Tryz.prog 86 #[.agg #[.int .i64 2, .int .i64 n, .string (S []), .slice p 0 cap, .slice q 0 caq]] w fun e w' => e = .returned (.string (S [102, 97, 108, 115, 101])) ∧ Below w.heap.size w w' := by
  go_enter Tryz.func86, Tryz.ntmps86
  go_wp2_with fail
  go_ret
  exact ⟨rfl, by go_grown⟩
set_option maxRecDepth 100000 in
theorem rtext_3 (n : Int) (p q : Option Addr) (cap caq : Nat) (w : World) :
    Calls Tryz.prog 86 #[.agg #[.int .i64 3, .int .i64 n, .string (S []), .slice p 0 cap, .slice q 0 caq]] w fun e w' => e = .returned (.string (S (textI n))) ∧ Below w.heap.size w w' := by
  go_enter Tryz.func86, Tryz.ntmps86
  go_wp2_with (go_at_call 121; refine (fxRefText_any n _).mono ?_; rintro e w' ⟨rfl, hb⟩; have HB := Lib.hid (((Below.refl _ w).alloc (Nat.le_refl _) _).trans (hb.mono (by simp))); clear hb)
  go_ret
  exact ⟨rfl, by exact HB.out⟩
set_option maxRecDepth 100000 in
theorem rtext_4 (s : List UInt8) (p q : Option Addr) (cap caq : Nat) (w : World) (hs : s.length ≤ 1000000) :
    Calls Tryz.prog 86 #[.agg #[.int .i64 4, .int .i64 0, .string (S s), .slice p 0 cap, .slice q 0 caq]] w fun e w' => e = .returned (.string (S (quoteL s))) ∧ Below w.heap.size w w' := by
  go_enter Tryz.func86, Tryz.ntmps86
  go_wp2_with (go_at_call 122; refine (refQuote_any s hs _).mono ?_; rintro e w' ⟨rfl, hb⟩; have HB := Lib.hid (((Below.refl _ w).alloc (Nat.le_refl _) _).trans (hb.mono (by simp))); clear hb)
  go_ret
  exact ⟨rfl, by exact HB.out⟩
set_option maxRecDepth 100000 in
theorem rtext_5 (p q : Option Addr) (cap caq : Nat) (w : World) :
    Calls Tryz.prog 86 #[.agg #[.int .i64 5, .int .i64 0, .string (S []), .slice p 0 cap, .slice q 0 caq]] w fun e w' => e = .returned (.string (S [91, 93])) ∧ Below w.heap.size w w' := by
  go_enter Tryz.func86, Tryz.ntmps86
  go_wp2_with fail
  refine wp_loop_rounds 1 ?_
  rw [rounds_succ]
  go_wp2_with fail
  refine wp_loop_rounds 1 ?_
  rw [rounds_succ]
  go_wp2_with fail
  go_ret
  exact ⟨rfl, by go_grown⟩
set_option maxRecDepth 100000 in
theorem rtext_6 (p q : Option Addr) (cap caq : Nat) (w : World) :
    Calls Tryz.prog 86 #[.agg #[.int .i64 6, .int .i64 0, .string (S []), .slice p 0 cap, .slice q 0 caq]] w fun e w' => e = .returned (.string (S [123, 125])) ∧ Below w.heap.size w w' := by
  go_enter Tryz.func86, Tryz.ntmps86
  go_wp2_with fail
  refine wp_loop_rounds 1 ?_
  rw [rounds_succ]
  go_wp2_with fail
  refine wp_loop_rounds 1 ?_
  rw [rounds_succ]
  go_wp2_with fail
  go_ret
  exact ⟨rfl, by go_grown⟩
theorem rtextLeaf_any {d : Dat} {vi vm : Value} {ok : Nat → Prop} {w : World} (hr : Rep w ok d vi vm) (hp : plainB d = true) (hi : d.its = []) (hm : d.mem = []) (hs : d.s.length ≤ 1000000) :
    Calls Tryz.prog 86 #[.agg #[.int .i64 d.k, .int .i64 d.n, .string (S d.s), vi, vm]] w fun e w' => e = .returned (.string (S (leafT d))) ∧ Below w.heap.size w w' := by
  obtain ⟨p, cap, rfl, -, -⟩ := hr.items
  obtain ⟨q, caq, rfl, -, -⟩ := hr.members
  obtain ⟨⟨h1, h6⟩, h2, h4, -, -⟩ := plain_iff.1 hp
  rw [hi, hm]
  clear hr hp
  have hd := dat_leaf hi hm
  generalize d.k = k at *
  generalize d.n = n at *
  generalize d.s = s at *
  subst hd
  have hk : k = 1 ∨ k = 2 ∨ k = 3 ∨ k = 4 ∨ k = 5 ∨ k = 6 := by omega
  rcases hk with rfl | rfl | rfl | rfl | rfl | rfl
  · obtain rfl : n = 0 := by simpa using h2
    obtain rfl : s = [] := by simpa using h4
    exact rtext_1 _ _ _ _ _
  · obtain rfl : s = [] := by simpa using h4
    by_cases hn : n = 1
    · subst hn; exact rtext_2t _ _ _ _ _
    · have : leafT (.mk 2 n [] [] []) = [102, 97, 108, 115, 101] := by simp [leafT, Dat.k, Dat.n, hn]
      rw [this]
      exact rtext_2f n _ _ _ _ _ (by simpa using hn)
  · obtain rfl : s = [] := by simpa using h4
    exact rtext_3 _ _ _ _ _ _
  · obtain rfl : n = 0 := by simpa using h2
    exact rtext_4 _ _ _ _ _ _ hs
  · obtain rfl : n = 0 := by simpa using h2
    obtain rfl : s = [] := by simpa using h4
    exact rtext_5 _ _ _ _ _
  · obtain rfl : n = 0 := by simpa using h2
    obtain rfl : s = [] := by simpa using h4
    exact rtext_6 _ _ _ _ _
set_option maxRecDepth 100000 in
theorem rTextLeaf_any {d : Dat} {vi vm : Value} {ok : Nat → Prop} {w : World} (hr : Rep w ok d vi vm) (hl : leafB d = true) (hlim : limD d = true) :
    Calls Tryz.prog 47 #[.agg #[.int .i64 d.k, .int .i64 d.n, .string (S d.s), vi, vm]] w fun e w' => e = .returned (.tuple #[.string (S (leafT d)), .int .i64 0]) ∧ Below w.heap.size w w' := by
  obtain ⟨hc, hi, hm⟩ := leaf_iff.1 hl
  obtain ⟨-, ho, -, -⟩ := chk_zero.1 hc
  have HP := Lib.hid (own_zero ho).1
  have HIM := Lib.hid (And.intro hi hm)
  have HREP := Lib.hid hr
  have HSL := Lib.hid (lim_len hlim).2.2
  have HCK := Lib.hid (fun w' (hb : Below w.heap.size w w') => (refChk_any (hr.under hb)))
  simp only [hc] at HCK
  clear hr hl hlim hc hi hm ho
  go_enter Tryz.func47, Tryz.ntmps47
  go_upto_region 1 with fail
  have hS : CkS w.heap.size w d vi vm (w.alloc (.cells #[.int .i64 d.k, .int .i64 d.n, .string (S d.s), vi, vm] 26)) := CkS.new w d _ _
  generalize w.alloc (.cells #[.int .i64 d.k, .int .i64 d.n, .string (S d.s), vi, vm] 26) = W at hS ⊢
  obtain ⟨c0, c1, c2, c3, c4, hlw⟩ := hS.cells
  have HS := Lib.hid hS
  clear hS
  go_wp2_with fail
  refine (HCK.out _ HS.out.2).mono ?_
  rintro e w1 ⟨rfl, hb⟩
  have HS1 := Lib.hid (HS.out.below hb)
  clear hb HS c0 c1 c2 c3 c4 hlw HCK
  obtain ⟨c0, c1, c2, c3, c4, hlw⟩ := HS1.out.cells
  go_wp2_with fail
  refine (rtextLeaf_any (HREP.out.under HS1.out.2) HP.out HIM.out.1 HIM.out.2 HSL.out).mono ?_
  rintro e w2 ⟨rfl, hb⟩
  have HB := Lib.hid (HS1.out.below hb).2
  clear hb
  go_wp2_with fail
  go_ret2
  exact ⟨rfl, HB.out⟩
end
section
open Go.RowKit

theorem leafT_len (d : Dat) : (leafT d).length ≤ 4 * d.s.length + 18 := by
  unfold leafT
  have h1 := textI_len d.n
  have h2 := (quote_len d.s).2
  repeat' split
  all_goals (first | omega | (simp; done) | (simp; omega))
theorem lv_labs80 : ∀ (n : Nat) (d : Dat), SizeOf.sizeOf d < n → shD d = true → ∀ p ∈ lvD d, ∀ x ∈ p, x.lab.length ≤ 80
  | 0, _, h, _ => absurd h (Nat.not_lt_zero _)
  | n + 1, d, hn, hl => by
    rw [shD_eq] at hl
    simp only [Bool.and_eq_true] at hl
    obtain ⟨⟨-, h1⟩, h2⟩ := hl
    have hI : ∀ (its : List Dat) (i : Nat), (∀ x ∈ its, SizeOf.sizeOf x < n) → shI its = true → ∀ p ∈ lvI its i, ∀ x ∈ p, x.lab.length ≤ 80 := by
      intro its
      induction its with
      | nil => intro i _ _ p hp; rw [lvI] at hp; simp at hp
      | cons y r ih =>
        intro i h hs p hp
        rw [shI] at hs
        simp only [Bool.and_eq_true] at hs
        rw [lvI] at hp
        rcases List.mem_append.1 hp with hp | hp
        · obtain ⟨q, hq, rfl⟩ := List.mem_map.1 hp
          intro x hx
          rcases List.mem_cons.1 hx with rfl | hx
          · exact Nat.zero_le _
          · exact lv_labs80 n y (h y (List.mem_cons_self ..)) hs.1 q hq x hx
        · exact ih (i + 1) (fun z hz => h z (List.mem_cons_of_mem _ hz)) hs.2 p hp
    have hM : ∀ (mem : List (List UInt8 × Dat)), (∀ q ∈ mem, SizeOf.sizeOf q.2 < n) → shM mem = true → ∀ p ∈ lvM mem, ∀ x ∈ p, x.lab.length ≤ 80 := by
      intro mem
      induction mem with
      | nil => intro _ _ p hp; rw [lvM] at hp; simp at hp
      | cons q r ih =>
        obtain ⟨l, y⟩ := q
        intro h hs p hp
        rw [shM] at hs
        simp only [Bool.and_eq_true, decide_eq_true_eq] at hs
        rw [lvM] at hp
        rcases List.mem_append.1 hp with hp | hp
        · obtain ⟨q, hq, rfl⟩ := List.mem_map.1 hp
          intro x hx
          rcases List.mem_cons.1 hx with rfl | hx
          · exact hs.1.1
          · exact lv_labs80 n y (h (l, y) (List.mem_cons_self ..)) hs.1.2 q hq x hx
        · exact ih (fun z hz => h z (List.mem_cons_of_mem _ hz)) hs.2 p hp
    rw [lvD_eq]
    split
    · intro p hp; simp at hp; rw [hp]; intro x hx; simp at hx
    · intro p hp
      rcases List.mem_append.1 hp with hp | hp
      · exact hI d.its 0 (fun x hx => by have := dat_it hx; omega) h1 p hp
      · exact hM d.mem (fun q hq => by have := dat_mg hq; omega) h2 p hp
theorem textS_len {L : List Stp} (hL : LimS L) (hk : okL L = true) (h16 : L.length ≤ 16) : (textS L).length ≤ 70000 := by
  by_cases h0 : L = []
  · subst h0; rw [textS_nil]; decide
  · rw [textS_body L hk h0]
    have h := body_len L hL hk L.length (Nat.le_refl _)
    rw [List.take_length] at h
    have : 4100 * L.length ≤ 4100 * 16 := Nat.mul_le_mul_left _ h16
    omega
/-- the lines of small data -/
theorem small_lines {d : Dat} (h : smallD d = true) : (flatD d).1.length ≤ 1000 ∧ ∀ e ∈ (flatD d).1, lineLim e := by
  obtain ⟨hlim, htr⟩ := small_iff h
  have hsh : shD d = true := by unfold smallD at h; rw [Bool.and_eq_true] at h; exact h.2
  have hlv := lv_len _ d (Nat.lt_succ_self _)
  rcases flat_two d with ⟨h1, h2, h3⟩ | ⟨h1, -⟩
  · rw [h1]
    refine ⟨by unfold entsD; rw [List.length_map]; omega, fun e he => ?_⟩
    obtain ⟨k1, k2, -⟩ := ents_lims h2 hlim e he
    obtain ⟨q1, q2⟩ := ents_kind (SizeOf.sizeOf d + 1) d 0 (Nat.lt_succ_self _) h2 h3 hlim e he
    have hl80 : ∀ x ∈ e.1, x.lab.length ≤ 80 := by
      obtain ⟨p, hp, rfl⟩ := List.mem_map.1 he
      exact lv_labs80 _ d (Nat.lt_succ_self _) hsh p hp
    have hLS : LimS e.1 := ⟨by omega, fun x hx => by have := hl80 x hx; omega⟩
    refine ⟨hLS, q2, k2, ?_⟩
    have e1 := textS_len hLS q1 k1
    have e2 := leafT_len e.2
    have e3 := (lim_iff.1 k2).1
    unfold lineT
    simp only [List.length_append, List.length_cons, List.length_nil]
    omega
  · rw [h1]; exact ⟨Nat.zero_le _, by simp⟩
set_option maxRecDepth 100000 in
set_option maxHeartbeats 8000000 in
theorem refPText_any {d : Dat} {vi vm : Value} {ok : Nat → Prop} {w : World} (hr : Rep w ok d vi vm) (hlim : limD d = true) (hn : (lvD d).length ≤ 1000000) (hL : (flatD d).1.length ≤ 1000 ∧ ∀ e ∈ (flatD d).1, lineLim e) :
    Calls Tryz.prog 22 #[.agg #[.int .i64 d.k, .int .i64 d.n, .string (S d.s), vi, vm]] w fun e w' => e = .returned (.tuple #[.string (S (textD d).1), .int .i64 ((textD d).2 : Int)]) ∧ Below w.heap.size w w' := by
  have HF := Lib.hid (fun w' (hb : Below w.heap.size w w') => refFlatten_any (hr.under hb) hlim hn)
  obtain ⟨p, cap, rfl, -, -⟩ := hr.items
  obtain ⟨q, caq, rfl, -, -⟩ := hr.members
  have HT := Lib.hid (show textD d = if (flatD d).2 = 0 then (linesT (flatD d).1, 0) else ([], (flatD d).2) from rfl)
  generalize textD d = tr at HT ⊢
  generalize hfd : flatD d = fr at HF HT hL
  obtain ⟨L, en⟩ := fr
  simp only at HT hL
  have hl1 := hL.1
  have HL := Lib.hid hL.2
  clear hr hlim hn hL hfd
  have hN : Blk (w.alloc (.cells #[.int .i64 d.k, .int .i64 d.n, .string (S d.s), .slice p d.its.length cap, .slice q d.mem.length caq] 26)) w.heap.size #[.int .i64 d.k, .int .i64 d.n, .string (S d.s), .slice p d.its.length cap, .slice q d.mem.length caq] 26 := Blk.new w _ _
  have hb : Below w.heap.size w (w.alloc (.cells #[.int .i64 d.k, .int .i64 d.n, .string (S d.s), .slice p d.its.length cap, .slice q d.mem.length caq] 26)) := (Below.refl _ _).alloc (Nat.le_refl _) _
  go_enter Tryz.func22, Tryz.ntmps22
  go_upto_region 1 with fail
  generalize w.alloc (.cells #[.int .i64 d.k, .int .i64 d.n, .string (S d.s), .slice p d.its.length cap, .slice q d.mem.length caq] 26) = W at hN hb ⊢
  have b0 := hN.cell 0
  have b1 := hN.cell 1
  have b2 := hN.cell 2
  have b3 := hN.cell 3
  have b4 := hN.cell 4
  simp at b0 b1 b2 b3 b4
  have hlt0 := hN.lt
  have HB := Lib.hid hb
  clear hN hb
  go_wp2_with fail
  refine (HF.out _ HB.out).mono ?_
  rintro e w1 ⟨v, T, rfl, hown, hTe, hg, hb⟩
  have HB1 := Lib.hid (HB.out.trans (hb.mono HB.out.size))
  have HEN := Lib.hid (own_ents hown (ok := fun B => W.heap.size ≤ B) (fun _ h => h) hg)
  obtain ⟨vp, vc, rfl⟩ := own_form5 hown
  have hTl : T.length = L.length := by simpa using congrArg List.length hTe
  rw [hTe] at HEN
  simp only at HEN
  clear hb hown hg hTe b0 b1 b2 b3 b4 hlt0 HB HF
  rw [hTl] at HEN ⊢
  clear hTl
  by_cases he : en = 0
  · subst he
    have HTR := Lib.hid (show tr = (linesT L, 0) from HT.out)
    obtain ⟨p', cap', B, o, hv, hj⟩ := HEN.out.open
    injection hv with e1 _ e3
    subst e1; subst e3
    have HJ := Lib.hid hj
    clear hj HEN HT
    go_wp2_with fail
    go_loopw [6, 7] (fun a x wr => ∃ i : Nat, x = .int .i64 (i : Int) ∧ i ≤ L.length ∧ a = .string (S (linesT (L.take i))) ∧ Hid (Below w1.heap.size w1 wr)) (fun _ x _ => L.length - (intOf x).toNat)
    case atStart => exact ⟨0, rfl, Nat.zero_le _, rfl, Lib.hid (Below.refl _ _)⟩
    case round =>
      obtain ⟨i, rfl, hi, rfl, HW⟩ := hrel
      by_cases hlt : i < L.length
      · obtain ⟨pv, xi, xm, rfl, hcap, hB, -, c0, hcc, hs, hx⟩ := HJ.out i hlt
        obtain ⟨pp, pc, rfl⟩ := slk_form hs
        obtain ⟨p1, cap1, rfl, -, -⟩ := hx.items
        obtain ⟨q1, caq1, rfl, -, -⟩ := hx.members
        obtain ⟨c1, c2, c3, c4, c5⟩ := hcc
        have HN := Lib.hid (linesT_take hlt)
        have hle := HL.out _ (List.getElem_mem hlt)
        have hacc : (linesT (L.take i)).length ≤ 1000 * 10000001 := by
          have h1 := linesT_len (L := L.take i) fun e he => HL.out e (List.mem_of_mem_take he)
          have h2 : (L.take i).length ≤ 1000 := by rw [List.length_take]; omega
          exact Nat.le_trans h1 (Nat.mul_le_mul_right _ h2)
        replace c0 := (HW.out.cell (p := ⟨B, o + i * 6, none⟩) hB).trans c0
        replace c1 := (HW.out.cell (p := ⟨B, o + i * 6 + 1, none⟩) hB).trans c1
        replace c2 := (HW.out.cell (p := ⟨B, o + i * 6 + 2, none⟩) hB).trans c2
        replace c3 := (HW.out.cell (p := ⟨B, o + i * 6 + 3, none⟩) hB).trans c3
        replace c4 := (HW.out.cell (p := ⟨B, o + i * 6 + 4, none⟩) hB).trans c4
        replace c5 := (HW.out.cell (p := ⟨B, o + i * 6 + 5, none⟩) hB).trans c5
        have HS := Lib.hid (hs.under HW.out)
        have HX := Lib.hid (hx.under HW.out)
        have hBw : B < wr.heap.size := Nat.lt_of_lt_of_le hB HW.out.size
        clear hs hx hB
        generalize L[i] = t at c0 c1 c2 c3 c4 c5 HN hle HS HX
        obtain ⟨P, D⟩ := t
        simp only at c0 c1 c2 c3 c4 c5 HN hle HS HX
        generalize linesT (L.take i) = acc at hacc HN ⊢
        obtain ⟨hle1, hle2, hle3, hle4⟩ := hle
        simp only [lineT, List.length_append, List.length_cons, List.length_nil] at hle4
        have HLE := Lib.hid (And.intro hle1 (And.intro hle2 hle3))
        clear hle1 hle2 hle3
        go_wp2_with fail
        refine (rTextLeaf_any HX.out HLE.out.2.1 HLE.out.2.2).mono ?_
        rintro e w4 ⟨rfl, hb⟩
        replace c0 := (hb.cell (p := ⟨B, o + i * 6, none⟩) hBw).trans c0
        have HB4 := Lib.hid hb
        clear hb c1 c2 c3 c4 c5
        generalize hlf : leafT D = lf at HN hle4 ⊢
        go_wp2_with fail
        refine (refText_any _ P _ (HS.out.under HB4.out).sls HLE.out.1).mono ?_
        rintro e w5 ⟨rfl, hb⟩
        have HB5 := Lib.hid (HW.out.trans ((HB4.out.trans (hb.mono HB4.out.size)).mono HW.out.size))
        clear hb c0 hlf
        generalize textS P = ts at HN hle4 ⊢
        go_wp2_with fail
        go_roundw
        case rel => exact ⟨i + 1, by go_num, hlt, by rw [HN.out]; simp [ct], HB5⟩
        case measure => simp [intOf]; omega
      · have hTk : L.take i = L := List.take_of_length_le (by omega)
        rw [hTk]
        have HB6 := Lib.hid (HB1.out.trans (HW.out.mono HB1.out.size))
        clear hTk
        go_wp2_with fail
        go_ret2
        exact ⟨by rw [HTR.out]; rfl, HB6.out⟩
  · have c1 : ((en : Int) != 0) = true := by simp; omega
    have c2 : ¬ ((en : Int) = 0) := by omega
    have HTR := Lib.hid (show tr = ([], en) by rw [HT.out, if_neg he])
    clear he
    go_wp2_with fail
    go_ret2
    exact ⟨by rw [HTR.out]; rfl, HB1.out⟩
end
section
open Go.RowKit

set_option maxRecDepth 100000 in
set_option maxHeartbeats 4000000 in
theorem lawPropertiesTexts (d : Dat) (vi vm : Value) (ok : Nat → Prop) (w : World) (hr : Rep w ok d vi vm) (hO : StOk w ∧ MaxOk w) :
    Calls Tryz.prog 7 #[.agg #[.int .i64 d.k, .int .i64 d.n, .string (S d.s), vi, vm]] w fun e w' => e = .returned (.bool true) ∧ Below w.heap.size w w' := by
  have HE := Lib.hid hO.1
  have HM := Lib.hid hO.2
  have HREP := Lib.hid hr
  obtain ⟨p, cap, rfl, -, -⟩ := hr.items
  obtain ⟨q, caq, rfl, -, -⟩ := hr.members
  clear hO hr
  obtain ⟨sm, hsm⟩ : ∃ sm, smallD d = sm := ⟨_, rfl⟩
  have HSM := Lib.hid hsm
  have HSW := Lib.hid (fun w' (hb : Below w.heap.size w w') => refSmall_any (HREP.out.under hb))
  rw [hsm] at HSW
  clear hsm
  have hS : CkS w.heap.size w d (.slice p d.its.length cap) (.slice q d.mem.length caq) (w.alloc (.cells #[.int .i64 d.k, .int .i64 d.n, .string (S d.s), .slice p d.its.length cap, .slice q d.mem.length caq] 26)) := CkS.new w d _ _
  rcases Bool.eq_false_or_eq_true sm with rfl | rfl
  case inr =>
    go_enter Tryz.func7, Tryz.ntmps7
    go_upto_region 1 with fail
    generalize w.alloc (.cells #[.int .i64 d.k, .int .i64 d.n, .string (S d.s), .slice p d.its.length cap, .slice q d.mem.length caq] 26) = W at hS ⊢
    obtain ⟨c0, c1, c2, c3, c4, hlw⟩ := hS.cells
    have HS := Lib.hid hS
    clear hS
    go_wp2_with fail
    refine (HSW.out _ HS.out.2).mono ?_
    rintro e w1 ⟨rfl, hb⟩
    have HB1 := Lib.hid (HS.out.2.trans (hb.mono HS.out.2.size))
    clear hb c0 c1 c2 c3 c4 hlw HS
    go_wp2_with fail
    refine (awake_from HE.out HM.out _ HB1.out).mono ?_
    rintro e w2 ⟨rfl, hb⟩
    have HB2 := Lib.hid hb
    clear hb
    go_wp2_with fail
    go_ret
    exact ⟨rfl, HB2.out⟩
  obtain ⟨hlim, htr⟩ := small_iff HSM.out
  have hlv : (lvD d).length ≤ 40 := by have := lv_len _ d (Nat.lt_succ_self _); omega
  have HLN := small_lines HSM.out
  have HFL := Lib.hid (fun w' (hb : Below w.heap.size w w') => PText_any (HREP.out.under hb) hlim (by omega) (HE.out.below hb).num HLN)
  have HFR := Lib.hid (fun w' (hb : Below w.heap.size w w') => refPText_any (HREP.out.under hb) hlim (by omega) HLN)
  generalize textD d = r at HFL HFR
  obtain ⟨tl, en⟩ := r
  clear HLN
  clear htr hlim hlv
  go_enter Tryz.func7, Tryz.ntmps7
  go_upto_region 1 with fail
  generalize w.alloc (.cells #[.int .i64 d.k, .int .i64 d.n, .string (S d.s), .slice p d.its.length cap, .slice q d.mem.length caq] 26) = W at hS ⊢
  obtain ⟨c0, c1, c2, c3, c4, hlw⟩ := hS.cells
  have HS := Lib.hid hS
  clear hS
  go_wp2_with fail
  refine (HSW.out _ HS.out.2).mono ?_
  rintro e w1 ⟨rfl, hb⟩
  have HS1 := Lib.hid (HS.out.below hb)
  clear hb c0 c1 c2 c3 c4 hlw HS
  obtain ⟨c0, c1, c2, c3, c4, hlw⟩ := HS1.out.cells
  go_wp2_with fail
  refine (HFL.out _ HS1.out.2).mono ?_
  rintro e w2 ⟨rfl, hb⟩
  have HS2 := Lib.hid (HS1.out.below hb)
  clear hb c0 c1 c2 c3 c4 hlw HS1
  obtain ⟨c0, c1, c2, c3, c4, hlw⟩ := HS2.out.cells
  go_wp2_with fail
  refine (HFR.out _ HS2.out.2).mono ?_
  rintro e w3 ⟨rfl, hb⟩
  have HB3 := Lib.hid (HS2.out.2.trans (hb.mono HS2.out.2.size))
  have t1 : (tl == tl) = true := by simp
  have t2 : ((en : Int) == (en : Int)) = true := by simp
  clear hb c0 c1 c2 c3 c4 hlw HS2
  go_wp2_with fail
  refine (awake_from HE.out HM.out _ HB3.out).mono ?_
  rintro e w6 ⟨rfl, hb⟩
  have HB6 := Lib.hid hb
  clear hb
  go_wp2_with fail
  go_ret
  exact ⟨rfl, HB6.out⟩
end
end Go.Proofs.YtoahmganodehkaaGreatDoor
