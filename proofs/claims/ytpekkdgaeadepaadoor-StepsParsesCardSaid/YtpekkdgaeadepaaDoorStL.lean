/- Walks of the steps: label. -/
import Derived.Deep.LoopGhost
import Derived.Test.YtpekkdgaeadepaaDoorStH
import Derived.Test.YtpekkdgaeadepaaDoorNumOk
namespace Go.Proofs.YtpekkdgaeadepaaDoor
open Go.RowKit

def okB (c : UInt8) : Bool := decide (32 ≤ c.toNat) && decide (c.toNat ≤ 126)
/-- the scan of a label in quotes: it stops (true), or the offset of the fault -/
def qscan (t : List UInt8) : Nat → Nat → Nat × Bool
  | 0, i => (i, true)
  | f + 1, i =>
    if t.length ≤ i then (i, true) else if isB (byt t i) 34 then (i, true)
    else if isB (byt t i) 92 then (if (escP (sl t i t.length)).2 then qscan t f (i + (escP (sl t i t.length)).1) else (i + (escP (sl t i t.length)).1, false))
    else if okB (byt t i) then qscan t f (i + 1) else (i, false)
def labQ (t : List UInt8) (q : Nat × Bool) : Stp × Nat × Bool :=
  if q.2 = false then (noS, q.1, false) else if t.length ≤ q.1 then (noS, t.length, false)
  else if (unqL (sl t 0 (q.1 + 1))).1.isEmpty || identB (unqL (sl t 0 (q.1 + 1))).1 then (noS, q.1, false) else (⟨(unqL (sl t 0 (q.1 + 1))).1, 0⟩, q.1 + 1, true)
def labP (t : List UInt8) : Stp × Nat × Bool := if t.isEmpty || !isB (byt t 0) 34 then nameP t else labQ t (qscan t t.length 1)
theorem escP_le (t : List UInt8) : (escP t).1 ≤ t.length + 1 ∧ ((escP t).2 = true → 1 ≤ (escP t).1 ∧ (escP t).1 ≤ t.length) := by
  unfold escP
  repeat' split
  all_goals simp
  all_goals omega
theorem qscan_len (t : List UInt8) (f i : Nat) (h : t.length ≤ i) : qscan t f i = (i, true) := by
  cases f with
  | zero => rfl
  | succ f => rw [qscan, if_pos h]
theorem Blk.drewN {W : World} {B : Nat} {cs : Array Value} {t : TypeId} (h : Blk W B cs t) (n : Nat) : Blk (W.drewN n) B cs t := h
theorem scan_le : ∀ (l : List UInt8) (k i : Nat) (acc : List UInt8), (scan l k i acc).1.length ≤ acc.length + l.length
  | [], k, _, _ => by cases k <;> simp [scan]
  | _ :: t, k + 1, i, acc => by
    simp only [scan]; have := scan_le t k i acc; rw [List.length_cons]; omega
  | c :: t, 0, i, acc => by
    simp only [scan]
    split
    · split <;> simp
    · split
      · split
        · simp
        · have := scan_le t ((unesc (c :: t)).2 - 1) (i + (unesc (c :: t)).2) (acc ++ [(unesc (c :: t)).1])
          simp at this ⊢; omega
      · split
        · simp
        · have := scan_le t 0 (i + 1) (acc ++ [c])
          simp at this ⊢; omega
theorem unq_len (l : List UInt8) : (unqL l).1.length ≤ l.length := by
  unfold unqL
  by_cases h : 65536 < l.length
  · rw [if_pos h]; simp
  · rw [if_neg h]
    cases l with
    | nil => simp
    | cons c t =>
      by_cases hc : c = 34
      · simp only [hc, if_true]; have := scan_le t 0 1 []; simp at this ⊢; omega
      · simp only [hc, if_false]; simp
structure StOk (w : World) : Prop where
  num : NumOk w
  err : ErrOk w
theorem StOk.below {w w' : World} (h : StOk w) (hb : Below w.heap.size w w') : StOk w' := ⟨h.num.below hb, h.err.below hb⟩
set_option maxRecDepth 100000 in
set_option maxHeartbeats 4000000 in
theorem label_any (t : List UInt8) (ht : t.length ≤ 100000) (w : World) (hE : StOk w) : Calls Tryd.prog 30 #[.string (S t)] w fun e w' => e = .returned (rdv (labP t)) ∧ Below w.heap.size w w' := by
  obtain ⟨r, hr⟩ : ∃ r, labP t = r := ⟨_, rfl⟩
  rw [hr]
  have HE := Lib.hid hE
  clear hE
  by_cases h0 : (t.isEmpty || !isB (byt t 0) 34) = true
  · have hr' : r = nameP t := by rw [← hr]; unfold labP; rw [if_pos h0]
    subst hr'
    clear hr
    have hw : t.isEmpty = true ∨ (t.isEmpty = false ∧ 0 < t.length ∧ (((byt t 0).toNat : Int) == 34) = false) := by
      cases t with
      | nil => exact .inl rfl
      | cons c l => right; refine ⟨rfl, by simp, ?_⟩; simpa [isB] using h0
    obtain ⟨x, hx⟩ : ∃ x, nameP t = x := ⟨_, rfl⟩
    obtain ⟨⟨xl, xi⟩, xn, xo⟩ := x
    have HX := Lib.hid hx
    rw [hx]
    clear hx h0
    rcases hw with hw | ⟨hw, h1, h2⟩
    all_goals
      go_enter Tryd.func30, Tryd.ntmps30
      go_wp2_with fail
      refine (name_any t ht _).mono ?_
      rintro e w1 ⟨rfl, hb1⟩
      rw [HX.out]
      unfold rdv
      obtain ⟨bR, hb1⟩ := below_new hb1
      have HB1 := Lib.hid hb1
      have f0 := bR.frozen 0
      have f1 := bR.frozen 1
      have x0 := bR.cell 0
      have x1 := bR.cell 1
      simp at x0 x1
      clear hb1
      go_wp2_with fail
      exact bodyPost_ret (v := rdv _) (by simp [results, Tryd.results30, go_sem, rdv, x0, x1]) rfl ⟨rfl, (HB1.out.setCell (Nat.le_refl _) _).setCell (Nat.le_refl _) _⟩
  · have hne : 0 < t.length ∧ t.isEmpty = false ∧ (((byt t 0).toNat : Int) == 34) = true := by
      cases t with
      | nil => exact absurd rfl h0
      | cons c l => refine ⟨by simp, rfl, ?_⟩; simpa [isB] using h0
    obtain ⟨hl0, he0, h34⟩ := hne
    have h34' : (((byt t 0).toNat : Int) != 34) = false := by rw [bne, h34]; rfl
    obtain ⟨q, hq⟩ : ∃ q, qscan t t.length 1 = q := ⟨_, rfl⟩
    have hr' : labQ t q = r := by rw [← hr]; unfold labP; rw [if_neg h0, hq]
    have HR := Lib.hid hr'
    have HQ0 := Lib.hid hq
    clear hr hr' hq h0
    go_enter Tryd.func30, Tryd.ntmps30
    go_wp2_with fail
    have hB0 := Blk.new w #[.string ⟨#[]⟩, .int .i64 0] 37
    have hb0 : Below w.heap.size w (w.alloc (.cells #[.string ⟨#[]⟩, .int .i64 0] 37)) := by go_grown
    generalize w.alloc (.cells #[.string ⟨#[]⟩, .int .i64 0] 37) = W0 at hB0 hb0 ⊢
    go_loopg [5] t.length (fun f v wr => ∃ i : Nat, v = .int .i64 (i : Int) ∧ 1 ≤ i ∧ i ≤ t.length ∧ t.length ≤ i + f ∧ Hid (qscan t f i = q ∧ Blk wr w.heap.size #[.string ⟨#[]⟩, .int .i64 0] 37 ∧ Below w.heap.size w wr))
    case atStart => exact ⟨1, rfl, Nat.le_refl _, hl0, by omega, Lib.hid ⟨HQ0.out, hB0, hb0⟩⟩
    case round =>
      clear hB0 hb0 HQ0
      obtain ⟨i, rfl, hi1, hi2, hif, HQ⟩ := hrel
      have BN := HQ.out.2.1
      have f0 := BN.frozen 0
      have f1 := BN.frozen 1
      have x0 := BN.cell 0
      have x1 := BN.cell 1
      simp at x0 x1
      have HW := Lib.hid HQ.out.2.2
      have BNH := Lib.hid BN
      clear BN
      by_cases hlt : i < t.length
      · obtain ⟨f, hf⟩ : ∃ f, gk = f + 1 := ⟨gk - 1, by omega⟩
        have hqq := HQ.out.1
        rw [hf, qscan, if_neg (by omega)] at hqq
        have HQQ := Lib.hid hqq
        clear hqq HQ
        have i0 : (0 : Int) ≤ (i : Int) := by omega
        have i1 : (i : Int) < (t.length : Int) := by omega
        obtain ⟨c, hc⟩ : ∃ c, byt t i = c := ⟨_, rfl⟩
        rw [hc] at HQQ
        rcases (bool_two (isB c 34)).symm with h1 | h1
        · have hq := HQQ.out
          rw [if_pos h1] at hq
          have e1 : ((c.toNat : Int) == 34) = true := h1
          subst hq
          clear HQQ h1
          have hr := HR.out
          unfold labQ at hr
          simp only [Bool.true_eq_false, if_false] at hr
          rw [if_neg (by omega)] at hr
          obtain ⟨⟨ua, ue, up⟩, hu⟩ : ∃ u, unqL (sl t 0 (i + 1)) = u := ⟨_, rfl⟩
          rw [hu] at hr
          have HU := Lib.hid hu
          have HR2 := Lib.hid hr
          clear hr hu
          have hsl : (sl t 0 (i + 1)).length ≤ 1000000 := by have := sl_le t 0 (i + 1); omega
          have i2 : (i : Int) + 1 ≤ (t.length : Int) := by omega
          have i3 : ((i : Int) + 1).toNat = i + 1 := by omega
          go_wp2_with fail
          refine (Unquote_any _ hsl _ (HE.out.below HW.out).err).mono ?_
          rintro e w1 ⟨rfl, hb1⟩
          rw [HU.out]
          unfold uqVal
          have B1 := BNH.out.below hb1
          have HW1 := Lib.hid (HW.out.trans (hb1.mono HW.out.size))
          have hul : ua.length ≤ 1000000 := by have := unq_len (sl t 0 (i + 1)); rw [HU.out] at this; simp only at this; omega
          clear hb1 x0 x1 f0 f1
          have hl1 := B1.lt
          have f0 := B1.frozen 0
          have f1 := B1.frozen 1
          have x0 := B1.cell 0
          have x1 := B1.cell 1
          simp at x0 x1
          rcases (bool_two ua.isEmpty).symm with hu0 | hu0
          · have hr := HR2.out
            rw [if_pos (by first | (rw [hu0]; rfl) | (simp only; rw [hu0]; rfl))] at hr
            subst hr
            clear HR2
            have hn1 : ¬ w.heap.size = w1.heap.size := by omega
            have hn2 : ¬ w1.heap.size = w.heap.size := by omega
            go_wp2_with fail
            exact bodyPost_ret (v := rdv _) (by simp [results, Tryd.results30, go_sem, rdv, noS, S_nil, x0, x1, hl1]) rfl ⟨rfl, by first | exact ((HW1.out.alloc HW1.out.size _).setCell (Nat.le_refl _) _).setCell (Nat.le_refl _) _ | exact ((below_drewN (HW1.out.alloc HW1.out.size _) _).setCell (Nat.le_refl _) _).setCell (Nat.le_refl _) _ | exact below_drewN (((HW1.out.alloc HW1.out.size _).setCell (Nat.le_refl _) _).setCell (Nat.le_refl _) _) _ | exact ((HW1.out.setCell (Nat.le_refl _) _).setCell (Nat.le_refl _) _).alloc (by simp; exact HW1.out.size) _ | go_grown⟩
          · go_wp2_with fail
            refine (Ident_any ua hul _).mono ?_
            rintro e w2 ⟨rfl, hb2⟩
            obtain ⟨-, hb2⟩ := below_new hb2
            have B2 := B1.below hb2
            have HW2 := Lib.hid (HW1.out.trans (hb2.mono HW1.out.size))
            clear hb2 x0 x1 f0 f1 hl1
            have f0 := B2.frozen 0
            have f1 := B2.frozen 1
            have x0 := B2.cell 0
            have x1 := B2.cell 1
            simp at x0 x1
            rcases (bool_two (identB ua)).symm with hp | hp
            · have hr := HR2.out
              rw [if_pos (by first | rw [hp, Bool.or_true] | (simp only; rw [hp, Bool.or_true]))] at hr
              rw [hp]
              subst hr
              clear HR2
              go_wp2_with fail
              exact bodyPost_ret (v := rdv _) (by simp [results, Tryd.results30, go_sem, rdv, noS, S_nil, x0, x1]) rfl ⟨rfl, by first | exact (HW2.out.setCell (Nat.le_refl _) _).setCell (Nat.le_refl _) _ | exact ((below_drewN HW2.out _).setCell (Nat.le_refl _) _).setCell (Nat.le_refl _) _ | exact below_drewN ((HW2.out.setCell (Nat.le_refl _) _).setCell (Nat.le_refl _) _) _ | exact ((HW1.out.setCell (Nat.le_refl _) _).setCell (Nat.le_refl _) _).alloc (by simp; exact HW1.out.size) _ | go_grown⟩
            · have hr := HR2.out
              rw [if_neg (by first | (rw [hp, hu0]; decide) | (simp only; rw [hp, hu0]; decide))] at hr
              rw [hp]
              subst hr
              clear HR2
              go_wp2_with fail
              exact bodyPost_ret (v := rdv _) (by simp [results, Tryd.results30, go_sem, rdv, x0, x1]) rfl ⟨rfl, by first | exact (HW2.out.setCell (Nat.le_refl _) _).setCell (Nat.le_refl _) _ | exact ((below_drewN HW2.out _).setCell (Nat.le_refl _) _).setCell (Nat.le_refl _) _ | exact below_drewN ((HW2.out.setCell (Nat.le_refl _) _).setCell (Nat.le_refl _) _) _ | exact ((HW1.out.setCell (Nat.le_refl _) _).setCell (Nat.le_refl _) _).alloc (by simp; exact HW1.out.size) _ | go_grown⟩
        · rw [if_neg (by rw [h1]; decide)] at HQQ
          have e1 : ((c.toNat : Int) == 34) = false := h1
          rcases (bool_two (isB c 92)).symm with h2 | h2
          · have hq := HQQ.out
            rw [if_pos h2] at hq
            have e2 : ((c.toNat : Int) == 92) = true := h2
            have c1 : 32 ≤ c.toNat := by have : (c.toNat : Int) = 92 := by simpa using e2
                                         omega
            have c2 : c.toNat ≤ 126 := by have : (c.toNat : Int) = 92 := by simpa using e2
                                          omega
            have d1 : decide ((32 : Int) ≤ (c.toNat : Int)) = true := by first | (simp; done) | (simp; omega)
            have d2 : decide ((c.toNat : Int) ≤ (126 : Int)) = true := by first | (simp; done) | (simp; omega)
            have hel := escP_le (sl t i t.length)
            have hsl2 : (sl t i t.length).length = t.length - i := sl_len t i t.length (by omega) (Nat.le_refl _)
            obtain ⟨⟨en, eo⟩, he⟩ : ∃ x, escP (sl t i t.length) = x := ⟨_, rfl⟩
            rw [he] at hq hel
            have HES := Lib.hid he
            have HQ3 := Lib.hid hq
            simp only at hel
            rw [hsl2] at hel
            have hsl3 : (sl t i t.length).length ≤ 100000 := by omega
            clear hq HQQ h1 h2 he hsl2
            go_wp2_with fail
            go_quiet (fail)
            go_wp2_with fail
            refine (escapeP_any (sl t i t.length) hsl3 _).mono ?_
            rintro e w1 ⟨rfl, hb1⟩
            rw [HES.out]
            unfold edv
            have B1 := (BNH.out.drewN _).below hb1
            have HW1 := Lib.hid ((below_drewN HW.out _).trans (hb1.mono HW.out.size))
            clear hb1 x0 x1 f0 f1
            have f0 := B1.frozen 0
            have f1 := B1.frozen 1
            have x0 := B1.cell 0
            have x1 := B1.cell 1
            simp at x0 x1
            rcases bool_two eo with rfl | rfl
            · have hq := HQ3.out
              simp only [Bool.false_eq_true, if_false] at hq
              subst hq
              have hr := HR.out
              unfold labQ at hr
              simp only [if_true] at hr
              subst hr
              have hen : en ≤ t.length + 1 := by omega
              go_wp2_with fail
              exact bodyPost_ret (v := rdv _) (by simp [results, Tryd.results30, go_sem, rdv, noS, S_nil, x0, x1]) rfl ⟨rfl, by first | exact (HW1.out.setCell (Nat.le_refl _) _).setCell (Nat.le_refl _) _ | exact ((below_drewN HW1.out _).setCell (Nat.le_refl _) _).setCell (Nat.le_refl _) _ | exact below_drewN ((HW1.out.setCell (Nat.le_refl _) _).setCell (Nat.le_refl _) _) _ | exact ((HW1.out.setCell (Nat.le_refl _) _).setCell (Nat.le_refl _) _).alloc (by simp; exact HW1.out.size) _ | go_grown⟩
            · have hq := HQ3.out
              simp only [if_true] at hq
              have hen := hel.2 rfl
              go_wp2_with fail
              go_roundg f
              case measure => omega
              case rel => exact ⟨i + en, rfl, by omega, by omega, by omega, Lib.hid ⟨hq, B1, HW1.out⟩⟩
          · rw [if_neg (by rw [h2]; decide)] at HQQ
            have e2 : ((c.toNat : Int) == 92) = false := h2
            have hok : (okB c = true ∧ 32 ≤ c.toNat ∧ c.toNat ≤ 126) ∨ (okB c = false ∧ c.toNat < 32) ∨ (okB c = false ∧ 32 ≤ c.toNat ∧ 126 < c.toNat) := by
              unfold okB
              by_cases g1 : 32 ≤ c.toNat <;> by_cases g2 : c.toNat ≤ 126 <;> simp [g1, g2] <;> omega
            clear h1 h2
            rcases hok with ⟨ho, c1, c2⟩ | ⟨ho, c1⟩ | ⟨ho, c1, c2⟩
            · have d1 : decide ((32 : Int) ≤ (c.toNat : Int)) = true := by first | (simp; done) | (simp; omega)
              have d2 : decide ((c.toNat : Int) ≤ (126 : Int)) = true := by first | (simp; done) | (simp; omega)
              have hq := HQQ.out
              rw [if_pos ho] at hq
              have HQ3 := Lib.hid hq
              clear hq HQQ ho
              go_wp2_with fail
              go_quiet (fail)
              go_wp2_with fail
              go_roundg f
              case measure => omega
              case rel => exact ⟨i + 1, rfl, by omega, by omega, by omega, Lib.hid ⟨HQ3.out, BNH.out.drewN _, below_drewN HW.out _⟩⟩
            · have d1 : decide ((32 : Int) ≤ (c.toNat : Int)) = false := by first | (simp; done) | (simp; omega)
              have hq := HQQ.out
              rw [if_neg (by rw [ho]; decide)] at hq
              subst hq
              have hr := HR.out
              unfold labQ at hr
              simp only [if_true] at hr
              subst hr
              clear HQQ ho
              go_wp2_with fail
              go_quiet (fail)
              go_wp2_with fail
              exact bodyPost_ret (v := rdv _) (by simp [results, Tryd.results30, go_sem, rdv, noS, S_nil, x0, x1]) rfl ⟨rfl, by first | exact (HW.out.setCell (Nat.le_refl _) _).setCell (Nat.le_refl _) _ | exact ((below_drewN HW.out _).setCell (Nat.le_refl _) _).setCell (Nat.le_refl _) _ | exact below_drewN ((HW.out.setCell (Nat.le_refl _) _).setCell (Nat.le_refl _) _) _ | exact ((HW1.out.setCell (Nat.le_refl _) _).setCell (Nat.le_refl _) _).alloc (by simp; exact HW1.out.size) _ | go_grown⟩
            · have d1 : decide ((32 : Int) ≤ (c.toNat : Int)) = true := by first | (simp; done) | (simp; omega)
              have d2 : decide ((c.toNat : Int) ≤ (126 : Int)) = false := by first | (simp; done) | (simp; omega)
              have hq := HQQ.out
              rw [if_neg (by rw [ho]; decide)] at hq
              subst hq
              have hr := HR.out
              unfold labQ at hr
              simp only [if_true] at hr
              subst hr
              clear HQQ ho
              go_wp2_with fail
              go_quiet (fail)
              go_wp2_with fail
              exact bodyPost_ret (v := rdv _) (by simp [results, Tryd.results30, go_sem, rdv, noS, S_nil, x0, x1]) rfl ⟨rfl, by first | exact (HW.out.setCell (Nat.le_refl _) _).setCell (Nat.le_refl _) _ | exact ((below_drewN HW.out _).setCell (Nat.le_refl _) _).setCell (Nat.le_refl _) _ | exact below_drewN ((HW.out.setCell (Nat.le_refl _) _).setCell (Nat.le_refl _) _) _ | exact ((HW1.out.setCell (Nat.le_refl _) _).setCell (Nat.le_refl _) _).alloc (by simp; exact HW1.out.size) _ | go_grown⟩
      · have hil : i = t.length := by omega
        subst hil
        have hq := HQ.out.1
        rw [qscan_len t gk _ (Nat.le_refl _)] at hq
        subst hq
        have hr' := HR.out
        unfold labQ at hr'
        simp only [Bool.true_eq_false, if_false, Nat.le_refl, if_true] at hr'
        subst hr'
        go_wp2_with fail
        exact bodyPost_ret (v := rdv _) (by simp [results, Tryd.results30, go_sem, rdv, noS, S_nil, x0, x1]) rfl ⟨rfl, by first | exact (HW.out.setCell (Nat.le_refl _) _).setCell (Nat.le_refl _) _ | exact ((below_drewN HW.out _).setCell (Nat.le_refl _) _).setCell (Nat.le_refl _) _ | exact below_drewN ((HW.out.setCell (Nat.le_refl _) _).setCell (Nat.le_refl _) _) _⟩
end Go.Proofs.YtpekkdgaeadepaaDoor
