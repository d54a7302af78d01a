import Derived.Test.YtdalfkklkeblaaaGreatDoorN01
import Derived.Deep.DeepCutAuto
import Derived.Test.YtdalfkklkeblaaaGreatDoorN16
namespace Go.Proofs.YtdalfkklkeblaaaGreatDoor
set_option linter.unusedSimpArgs false
set_option linter.unusedVariables false
open Go.Shelf Go.RowKit Go.Lib Go.Sort
variable {P : Program} {k : Nat} {α : Type} [Inhabited α]
set_option linter.unusedSectionVars false
def SymIH (P : Program) (enc : α → List Value) (k : Nat) (cf : α → α → Int) (g : Nat) (cb : Array Value) (blk off cap N : Nat) (w0 : World) (n : Nat) : Prop :=
 ∀ (A X Y Q : List α) (w : World) (a m b : Nat), b - a < n → A.length + X.length + Y.length + Q.length = N → 0 < X.length → 0 < Y.length → srtL (ltOf cf) X → srtL (ltOf cf) Y → SWK enc k w0 blk off (A ++ X ++ Y ++ Q).toArray w →
   a = A.length → m = A.length + X.length → b = A.length + X.length + Y.length →
   Calls P 154 #[.slice (some ⟨blk, off, none⟩) N cap, .int .i64 a, .int .i64 m, .int .i64 b, .func (.func g) #[] cb] w (MrgP enc k w0 blk off (ltOf cf) A (X ++ Y) Q)
def CutN (A X1 X2 Y1 Y2 Q : List α) (a m b mid s en N : Nat) : Prop :=
 (s ≤ m ∧ m ≤ en ∧ en ≤ b ∧ a ≤ s ∧ s ≤ mid ∧ en + s = mid + m ∧ a = A.length) ∧ (X1.length + a = s ∧ Y1.length + m = en ∧ X2.length + s = m ∧ Y2.length + en = b) ∧ A.length + (X1.length + X2.length) + (Y1.length + Y2.length) + Q.length = N
theorem CutN.mk {A X1 X2 Y1 Y2 Q : List α} {a m b mid s en N : Nat} (l1 : s ≤ m) (l2 : m ≤ en) (l3 : en ≤ b) (l4 : a ≤ s) (l5 : s ≤ mid) (he : en = mid + m - s) (ha : a = A.length) (h1 : X1.length = s - a) (h2 : Y1.length = en - m) (h3 : X2.length = m - s) (h4 : Y2.length = b - en) (hl : A.length + (X1.length + X2.length) + (Y1.length + Y2.length) + Q.length = N) :
   CutN A X1 X2 Y1 Y2 Q a m b mid s en N := ⟨⟨l1, l2, l3, l4, l5, by omega, ha⟩, ⟨by omega, by omega, by omega, by omega⟩, hl⟩
theorem CutN.rot {A X1 X2 Y1 Y2 Q : List α} {a m b mid s en N : Nat} (h : CutN A X1 X2 Y1 Y2 Q a m b mid s en N) (h1 : s < m) (h2 : m < en) :
   (A ++ X1).length + X2.length + Y1.length + (Y2 ++ Q).length = N ∧ 0 < X2.length ∧ 0 < Y1.length ∧ s = (A ++ X1).length ∧ m = (A ++ X1).length + X2.length ∧ en = (A ++ X1).length + X2.length + Y1.length := by
 obtain ⟨⟨l1, l2, l3, l4, l5, hen, hha⟩, ⟨hX1, hY1, hX2, hY2⟩, hln⟩ := h
 rw [List.length_append, List.length_append]
 refine ⟨by omega, by omega, by omega, by omega, by omega, by omega⟩
theorem CutN.noRot {A X1 X2 Y1 Y2 Q : List α} {a m b mid s en N : Nat} (h : CutN A X1 X2 Y1 Y2 Q a m b mid s en N) (hn : ¬ (s < m ∧ m < en)) : Y1 = [] ∨ X2 = [] := by
 obtain ⟨⟨l1, l2, l3, l4, l5, hen, hha⟩, ⟨hX1, hY1, hX2, hY2⟩, hln⟩ := h
 rcases Nat.lt_or_ge s m with h1 | h1
 · exact .inl (List.length_eq_zero_iff.1 (by omega))
 · exact .inr (List.length_eq_zero_iff.1 (by omega))
theorem CutN.left {A X1 X2 Y1 Y2 Q : List α} {a m b mid s en N : Nat} (h : CutN A X1 X2 Y1 Y2 Q a m b mid s en N) (hm : mid < b) (h1 : a < s) (h2 : s < mid) :
   mid - a < b - a ∧ A.length + X1.length + Y1.length + (X2 ++ Y2 ++ Q).length = N ∧ 0 < X1.length ∧ 0 < Y1.length ∧ a = A.length ∧ s = A.length + X1.length ∧ mid = A.length + X1.length + Y1.length := by
 obtain ⟨⟨l1, l2, l3, l4, l5, hen, hha⟩, ⟨hX1, hY1, hX2, hY2⟩, hln⟩ := h
 rw [List.length_append, List.length_append]
 refine ⟨by omega, by omega, by omega, by omega, by omega, by omega, by omega⟩
theorem CutN.noLeft {A X1 X2 Y1 Y2 Q : List α} {a m b mid s en N : Nat} (h : CutN A X1 X2 Y1 Y2 Q a m b mid s en N) (hn : ¬ (a < s ∧ s < mid)) : Y1 = [] ∨ X1 = [] := by
 obtain ⟨⟨l1, l2, l3, l4, l5, hen, hha⟩, ⟨hX1, hY1, hX2, hY2⟩, hln⟩ := h
 rcases Nat.lt_or_ge a s with h1 | h1
 · exact .inl (List.length_eq_zero_iff.1 (by omega))
 · exact .inr (List.length_eq_zero_iff.1 (by omega))
theorem CutN.right {A X1 X2 Y1 Y2 Q Z1 : List α} {a m b mid s en N : Nat} (h : CutN A X1 X2 Y1 Y2 Q a m b mid s en N) (hm : a < mid) (hz : Z1.length = X1.length + Y1.length) (h1 : mid < en) (h2 : en < b) :
   b - mid < b - a ∧ (A ++ Z1).length + X2.length + Y2.length + Q.length = N ∧ 0 < X2.length ∧ 0 < Y2.length ∧ mid = (A ++ Z1).length ∧ en = (A ++ Z1).length + X2.length ∧ b = (A ++ Z1).length + X2.length + Y2.length := by
 obtain ⟨⟨l1, l2, l3, l4, l5, hen, hha⟩, ⟨hX1, hY1, hX2, hY2⟩, hln⟩ := h
 rw [List.length_append]
 refine ⟨by omega, by omega, by omega, by omega, by omega, by omega, by omega⟩
theorem CutN.noRight {A X1 X2 Y1 Y2 Q : List α} {a m b mid s en N : Nat} (h : CutN A X1 X2 Y1 Y2 Q a m b mid s en N) (hn : ¬ (mid < en ∧ en < b)) : Y2 = [] ∨ X2 = [] := by
 obtain ⟨⟨l1, l2, l3, l4, l5, hen, hha⟩, ⟨hX1, hY1, hX2, hY2⟩, hln⟩ := h
 rcases Nat.lt_or_ge mid en with h1 | h1
 · exact .inl (List.length_eq_zero_iff.1 (by omega))
 · exact .inr (List.length_eq_zero_iff.1 (by omega))
theorem aside {p : Prop} (h : p) : Aside p := h
theorem srt_split {lt : α → α → Bool} {a b : List α} (h : srtL lt (a ++ b)) : srtL lt a ∧ srtL lt b := ⟨(List.pairwise_append.1 h).1, (List.pairwise_append.1 h).2.1⟩
set_option maxHeartbeats 8000000 in
set_option maxRecDepth 1000000 in
theorem sym_both (H : MsP P k) (enc : α → List Value) (cf : α → α → Int) (hO : SWO (ltOf cf)) (g : Nat) (cb : Array Value) (blk off cap N : Nat) (d0 : Array α) (A X Y Q : List α) (w0 w : World)
   (eg : ∀ args w, (callFunc g args).run P w = .ok (.enter g args) w) (hcmp : CmpLays P g cb enc k cf blk off d0.size w0) (R : RowK enc k w0 blk off d0) (hs : d0.size = N) (hl : A.length + X.length + Y.length + Q.length = N) (hX : 1 < X.length) (hY : 1 < Y.length) (sX : srtL (ltOf cf) X) (sY : srtL (ltOf cf) Y)
   (S : SWK enc k w0 blk off (A ++ X ++ Y ++ Q).toArray w) (a m b : Nat) (ha : a = A.length) (hm : m = A.length + X.length) (hb : b = A.length + X.length + Y.length) (hsz : N < 2305843009213693952) (ih : SymIH P enc k cf g cb blk off cap N w0 (b - a)) :
   Calls P 154 #[.slice (some ⟨blk, off, none⟩) N cap, .int .i64 a, .int .i64 m, .int .i64 b, .func (.func g) #[] cb] w (MrgP enc k w0 blk off (ltOf cf) A (X ++ Y) Q) := by
 have mixed := H.mixed; have t3 := H.t3; have a3 := H.a3; have z3 := H.z3; have v3 := H.v3; have t4 := H.t4; have a4 := H.a4; have z4 := H.z4; have v4 := H.v4; have t23 := H.t23; have a23 := H.a23; have z23 := H.z23; have v23 := H.v23; have t134 := H.t134; have a134 := H.a134; have z134 := H.z134; have v134 := H.v134; have aE := H.a43; have zE := H.z43; have t100 := H.t100; have a100 := H.a100; have z100 := H.z100
 have FG := H.fSym
 have eRot : ∀ args w, (callFunc 170 args).run P w = .ok (.enter 170 args) w := enters_of H.fRot (by kernel_rfl) rfl
 have eSym : ∀ args w, (callFunc 154 args).run P w = .ok (.enter 154 args) w := enters_of H.fSym (by kernel_rfl) rfl
 have HC : Aside _ := hcmp
 have HR : Hid (∀ (A X Y Q : List α) (w : World) (a m b : Nat), A.length + X.length + Y.length + Q.length = N → 0 < X.length → 0 < Y.length → SWK enc k w0 blk off (A ++ X ++ Y ++ Q).toArray w → a = A.length → m = A.length + X.length → b = A.length + X.length + Y.length →
     Calls P 170 #[.slice (some ⟨blk, off, none⟩) N cap, .int .i64 a, .int .i64 m, .int .i64 b, .func (.func g) #[] cb] w fun e w' => e = .returned (.tuple #[]) ∧ SWK enc k w0 blk off (A ++ Y ++ X ++ Q).toArray w') :=
   Lib.hid fun A X Y Q w a m b h1 h2 h3 h4 h5 h6 h7 => rot_any H enc _ blk off cap N d0 A X Y Q w0 w R hs h1 h2 h3 h4 a m b h5 h6 h7 (by omega)
 have HIH := Lib.hid ih
 have hsz' : (A ++ X ++ Y ++ Q).toArray.size = N := by simp; omega
 have S0 : Aside (SWK enc k w0 blk off (A ++ X ++ Y ++ Q).toArray w) := S
 clear hcmp S ih
 obtain ⟨mid, hmid⟩ : ∃ mid, mid = (a + b) / 2 := ⟨_, rfl⟩
 obtain ⟨s0, r0, hsym⟩ : ∃ s0 r0, SymC a m b mid s0 r0 := by
   rcases Nat.lt_or_ge mid m with h | h
   · exact ⟨mid + m - b, mid, by omega, by omega, hmid, .inl ⟨h, rfl, rfl⟩⟩
   · exact ⟨a, m, by omega, by omega, hmid, .inr ⟨h, rfl, rfl⟩⟩
 have hpre : ((m : Int) - (a : Int) == 1) = false := by simp; omega
 have hpre' : IntKind.i64.wrap ((m : Int) - (a : Int)) = (m : Int) - (a : Int) := by rw [IntKind.wrap_i64]; omega
 have hpr2 : ((b : Int) - (m : Int) == 1) = false := by simp; omega
 have hpr2' : IntKind.i64.wrap ((b : Int) - (m : Int)) = (b : Int) - (m : Int) := by rw [IntKind.wrap_i64]; omega
 have hmz : ((a : Int) + (b : Int)) / 2 = (mid : Int) := by omega
 have hbN : b ≤ N := by omega
 have hab : a + 1 < m := by omega
 have hmb : m + 1 < b := by omega
 have hle := hsym.le (s := s0) (Nat.le_refl _) (by rcases hsym.cut with ⟨_, h1, h2⟩ | ⟨_, h1, h2⟩ <;> omega)
 have h0r : s0 ≤ r0 := by rcases hsym.cut with ⟨_, h1, h2⟩ | ⟨_, h1, h2⟩ <;> omega
 have hamid : a < mid := hle.2.2.2.2.2.1
 have hmidb : mid < b := hle.2.2.2.2.2.2
 have HSY := Lib.hid hsym
 -- what the search finds
 have HFIN : Hid (∀ s, s0 ≤ s → s ≤ r0 → (s = s0 ∨ ltOf cf (A ++ X ++ Y ++ Q).toArray[mid + m - s]! (A ++ X ++ Y ++ Q).toArray[s - 1]! = false) → (s = r0 ∨ ltOf cf (A ++ X ++ Y ++ Q).toArray[mid + m - 1 - s]! (A ++ X ++ Y ++ Q).toArray[s]! = true) →
     ∃ X1 X2 Y1 Y2 : List α, X = X1 ++ X2 ∧ Y = Y1 ++ Y2 ∧ X1.length = s - a ∧ Y1.length = mid + m - s - m ∧ X2.length = m - s ∧ Y2.length = b - (mid + m - s) ∧ (∀ Z1 Z2 : List α, Z1.Perm (X1 ++ Y1) → srtL (ltOf cf) Z1 → Z2.Perm (X2 ++ Y2) → srtL (ltOf cf) Z2 → (Z1 ++ Z2).Perm (X ++ Y) ∧ srtL (ltOf cf) (Z1 ++ Z2))) := Lib.hid (by
   intro s h1 h2 F1 F2
   obtain ⟨g1, g2⟩ := sym_low hO hsym ha (by omega) (by omega) h1 h2 F1 F2
   obtain ⟨l1, l2, l3, l4, l5, -, -⟩ := hsym.le h1 h2
   refine ⟨X.take (s - a), X.drop (s - a), Y.take (mid + m - s - m), Y.drop (mid + m - s - m), (List.take_append_drop _ _).symm, (List.take_append_drop _ _).symm, by rw [List.length_take]; omega, by rw [List.length_take]; omega, by rw [List.length_drop]; omega, by rw [List.length_drop]; omega, fun Z1 Z2 p1 q1 p2 q2 => ?_⟩
   have := merge_join hO (X1 := X.take (s - a)) (X2 := X.drop (s - a)) (Y1 := Y.take (mid + m - s - m)) (Y2 := Y.drop (mid + m - s - m)) (by rw [List.take_append_drop]; exact sX) (by rw [List.take_append_drop]; exact sY) g1 g2 p1 q1 p2 q2
   rwa [List.take_append_drop, List.take_append_drop] at this)
 have HLE : Hid (∀ s, s0 ≤ s → s ≤ r0 → a ≤ s ∧ s ≤ m ∧ s ≤ mid ∧ m ≤ mid + m - s ∧ mid + m - s ≤ b) := Lib.hid fun s h1 h2 => by
   obtain ⟨l1, l2, l3, l4, l5, -, -⟩ := hsym.le h1 h2
   exact ⟨l1, l2, l3, l4, l5⟩
 generalize hd : (A ++ X ++ Y ++ Q).toArray = d at S0 hsz' HFIN
 have HD := Lib.hid hd
 have HSX := Lib.hid sX
 have HSYY := Lib.hid sY
 have HLN := Lib.hid hl
 have HA := Lib.hid ha
 clear hd hm hb hX hY sX sY hmid hsym hle hl ha
 go_enter FG, Tryz.ntmps154
 go_upto_if 140 with fail
 go_cut [20, 21] (fun s r wx => s = .int .i64 (s0 : Nat) ∧ r = .int .i64 (r0 : Nat) ∧ wx = w)
 case first =>
   as_aux_lemma =>
     rcases HSY.out.cut with ⟨h1, h2, h3⟩ | ⟨h1, h2, h3⟩
     · have hgt : (mid : Int) < (m : Int) := by omega
       have e1 : IntKind.i64.wrap ((mid : Int) + (m : Int) - (b : Int)) = (s0 : Int) := by rw [IntKind.wrap_i64]; omega
       have e2 : (mid : Int) = (r0 : Int) := by omega
       have E2 := Lib.hid e2
       clear h1 h2 h3 e2
       go_wp2_with fail
       go_meet
       exact ⟨rfl, by rw [E2.out], rfl⟩
     · have hgt : ¬ (mid : Int) < (m : Int) := by omega
       have e1 : (a : Int) = (s0 : Int) := by omega
       have e2 : (m : Int) = (r0 : Int) := by omega
       have E1 := Lib.hid e1
       have E2 := Lib.hid e2
       clear h1 h2 h3 e1 e2
       go_wp2_with fail
       go_meet
       exact ⟨by rw [E1.out], by rw [E2.out], rfl⟩
 case rest =>
   obtain ⟨rfl, rfl, hwc⟩ := hcut
   subst hwc
   go_wp2_with fail
   go_loopg [20, 21] (r0 - s0) (fun kx s20 s21 wr => ∃ s r : Nat, s20 = .int .i64 s ∧ s21 = .int .i64 r ∧ s0 ≤ s ∧ s ≤ r ∧ r ≤ r0 ∧ r - s ≤ kx ∧ Aside (SWK enc k w0 blk off d wr) ∧
       Hid ((s = s0 ∨ ltOf cf d[mid + m - s]! d[s - 1]! = false) ∧ (r = r0 ∨ ltOf cf d[mid + m - 1 - r]! d[r]! = true)))
   case atStart => exact ⟨s0, r0, rfl, rfl, Nat.le_refl _, h0r, Nat.le_refl _, Nat.le_refl _, S0, Lib.hid ⟨.inl rfl, .inl rfl⟩⟩
   case round =>
     clear S0
     obtain ⟨s, r, rfl, rfl, hs1, hsr, hr1, hkx, S1, HF⟩ := hrel
     obtain ⟨l1, l2, l3, l4, l5⟩ := HLE.out s hs1 (by omega)
     by_cases hlt : s < r
     · have hltz : (s : Int) < (r : Int) := by omega
       obtain ⟨m1, m2, m3, m4, m5⟩ := HLE.out (r) (by omega) hr1
       obtain ⟨c, hc⟩ : ∃ c, c = (s + r) / 2 := ⟨_, rfl⟩
       have hcz : ((s : Int) + (r : Int)) / 2 = (c : Int) := by omega
       have hsc : s ≤ c := by omega
       have hcr : c < r := by omega
       clear hc
       have ea1 : (c : Int).toNat = c := by omega
       have pa1 : (0 : Int) ≤ (c : Int) := by omega
       have ba1 : (c : Int) < (N : Int) := by omega
       have ec0 : IntKind.i64.wrap ((mid : Int) + (m : Int) - 1 - (c : Int)) = ((mid + m - 1 - c : Nat) : Int) := by rw [IntKind.wrap_i64]; omega
       have ec1 : (((mid + m - 1 - c : Nat) : Int)).toNat = mid + m - 1 - c := by omega
       have bc1 : ((mid + m - 1 - c : Nat) : Int) < (N : Int) := by omega
       have hin : mid + m - 1 - c < N := by omega
       obtain ⟨x1, hx1⟩ : ∃ x, x = d[mid + m - 1 - c]! := ⟨_, rfl⟩
       obtain ⟨y1, hy1⟩ : ∃ x, x = d[c]! := ⟨_, rfl⟩
       have l1' := S1.out.ld R (by omega) P (mid + m - 1 - c) (by omega)
       have l2' := S1.out.ld R (by omega) P c (by omega)
       rw [← hx1] at l1'
       rw [← hy1] at l2'
       have hc1 := S1.out.cmp HC.out (by omega) x1 y1
       by_cases hv : cf x1 y1 < 0
       · have HV := Lib.hid (show ltOf cf d[mid + m - 1 - c]! d[c]! = true by rw [← hx1, ← hy1]; exact decide_eq_true hv)
         have hdv : decide (cf x1 y1 < 0) = true := decide_eq_true hv
         clear hx1 hy1
         go_wp2_with fail
         go_quiet_grown (first | (go_at_fn g; refine Calls.grown_of (hc1 _ _)))
         have SU2 : Aside (SWK enc k w0 blk off d (grow (wr.drewN nq) osq)) := S1.out.grown nq osq
         clear l1' l2' hc1 S1
         generalize grow (wr.drewN nq) osq = wu2 at SU2 ⊢
         clear nq osq
         go_wp2
         go_roundg (c - s)
         case measure => omega
         case rel => exact ⟨s, c, rfl, rfl, hs1, hsc, by omega, Nat.le_refl _, SU2, Lib.hid ⟨HF.out.1, .inr HV.out⟩⟩
       · have HV := Lib.hid (show ltOf cf d[mid + m - 1 - c]! d[c]! = false by rw [← hx1, ← hy1]; exact decide_eq_false hv)
         have hdv : decide (cf x1 y1 < 0) = false := decide_eq_false hv
         clear hx1 hy1
         go_wp2_with fail
         go_quiet_grown (first | (go_at_fn g; refine Calls.grown_of (hc1 _ _)))
         have SU2 : Aside (SWK enc k w0 blk off d (grow (wr.drewN nq) osq)) := S1.out.grown nq osq
         clear l1' l2' hc1 S1
         generalize grow (wr.drewN nq) osq = wu2 at SU2 ⊢
         clear nq osq
         go_wp2
         go_roundg (r - (c + 1))
         case measure => omega
         case rel => exact ⟨c + 1, r, by go_num, rfl, by omega, by omega, hr1, Nat.le_refl _, SU2, Lib.hid ⟨.inr (by rw [show mid + m - (c + 1) = mid + m - 1 - c by omega, Nat.add_sub_cancel]; exact HV.out), HF.out.2⟩⟩
     · obtain rfl : s = r := by omega
       have hltz : ¬ (s : Int) < (s : Int) := by omega
       obtain ⟨X1, X2, Y1, Y2, hXX, hYY, hX1, hY1, hX2, hY2, hjoin⟩ := HFIN.out s hs1 hr1 HF.out.1 HF.out.2
       obtain ⟨en, hen⟩ : ∃ en, en = mid + m - s := ⟨_, rfl⟩
       have hez : IntKind.i64.wrap ((mid : Int) + (m : Int) - (s : Int)) = (en : Int) := by rw [IntKind.wrap_i64]; omega
       rw [← hen] at l4 l5 hY1 hY2
       have hln := HLN.out
       have hha := HA.out
       subst hXX
       subst hYY
       simp only [List.length_append] at hln
       have HJ := Lib.hid hjoin
       obtain ⟨sX1, sX2⟩ := srt_split HSX.out
       obtain ⟨sY1, sY2⟩ := srt_split HSYY.out
       have S2 : Aside (SWK enc k w0 blk off (A ++ X1 ++ X2 ++ Y1 ++ (Y2 ++ Q)).toArray wr) := by
         have := S1.out
         rw [← HD.out] at this
         refine aside ?_
         simpa only [List.append_assoc] using this
       have HNUM := Lib.hid (CutN.mk (A := A) (X1 := X1) (X2 := X2) (Y1 := Y1) (Y2 := Y2) (Q := Q) (N := N) (b := b) l2 l4 l5 l1 l3 hen hha hX1 hY1 hX2 hY2 hln)
       clear S1 HF hjoin HSX HSYY HD HFIN hkx hsr hX1 hX2 hY1 hY2 hln hha hen l1 l2 l3 l4 l5 HLE HA HLN
       -- the rotation
       go_upto_region 39 with fail
       obtain ⟨t, ht⟩ : ∃ t, t = (decide ((s : Int) < (m : Int)) && decide ((m : Int) < (en : Int))) := ⟨_, rfl⟩
       go_cut [185] (fun b wx => b = .bool t ∧ wx = wr)
       case first =>
         as_aux_lemma =>
           by_cases g1 : (s : Int) < (m : Int)
           · have g1' := decide_eq_true g1
             by_cases g2 : (m : Int) < (en : Int)
             · have g2' := decide_eq_true g2
               have HT := Lib.hid (show t = true by rw [ht, g1', g2']; rfl)
               clear ht
               go_wp2_with fail
               go_meet
               exact ⟨by rw [HT.out], rfl⟩
             · have g2' := decide_eq_false g2
               have HT := Lib.hid (show t = false by rw [ht, g1', g2']; rfl)
               clear ht
               go_wp2_with fail
               go_meet
               exact ⟨by rw [HT.out], rfl⟩
           · have g1' := decide_eq_false g1
             have HT := Lib.hid (show t = false by rw [ht, g1']; rfl)
             clear ht
             go_wp2_with fail
             go_meet
             exact ⟨by rw [HT.out], rfl⟩
       case rest =>
       have htt : t = true ↔ (s < m ∧ m < en) := by rw [ht, Bool.and_eq_true, decide_eq_true_eq, decide_eq_true_eq]; omega
       have HTT := Lib.hid htt
       clear ht htt
       obtain ⟨rfl, hwc⟩ := hcut
       rw [hwc]
       clear hwc
       go_upto_if 185 with fail
       go_cut [] (fun wx => Aside (SWK enc k w0 blk off (A ++ X1 ++ Y1 ++ (X2 ++ Y2 ++ Q)).toArray wx))
       case first =>
         as_aux_lemma =>
           cases t with
           | true =>
             as_aux_lemma =>
               obtain ⟨h1, h2⟩ := HTT.out.1 rfl
               obtain ⟨e1, e2, e3, e4, e5, e6⟩ := HNUM.out.rot h1 h2
               have HCR := Lib.hid (HR.out (A ++ X1) X2 Y1 (Y2 ++ Q) wr s m en e1 e2 e3 S2.out e4 e5 e6)
               clear e1 e2 e3 e4 e5 e6
               clear S2 h1 h2
               go_wp2_with (go_at_fn 170; refine HCR.out.mono ?_; rintro e w1 ⟨rfl, hS⟩; have HSS := aside hS; clear hS)
               go_meet
               refine aside ?_
               have := HSS.out
               simpa only [List.append_assoc] using this
           | false =>
             as_aux_lemma =>
               have hn : Y1 = [] ∨ X2 = [] := HNUM.out.noRot fun h => by have := HTT.out.2 h; cases this
               have HS2 : Aside (SWK enc k w0 blk off (A ++ X1 ++ Y1 ++ (X2 ++ Y2 ++ Q)).toArray wr) := by
                 have := S2.out
                 rcases hn with hn | hn <;> (rw [hn] at this ⊢; refine aside ?_; simpa only [List.append_assoc, List.nil_append, List.append_nil] using this)
               clear S2 hn
               go_wp2_with fail
               go_meet
               exact HS2
       case rest =>
         clear S2 HR HTT
         -- the left half
         have S2 := hcut
         clear hcut
         go_upto_region 41 with fail
         obtain ⟨t2, ht⟩ : ∃ t, t = (decide ((a : Int) < (s : Int)) && decide ((s : Int) < (mid : Int))) := ⟨_, rfl⟩
         go_cut [199] (fun b wx => b = .bool t2 ∧ wx = wc)
         case first =>
           as_aux_lemma =>
             by_cases g1 : (a : Int) < (s : Int)
             · have g1' := decide_eq_true g1
               by_cases g2 : (s : Int) < (mid : Int)
               · have g2' := decide_eq_true g2
                 have HT := Lib.hid (show t2 = true by rw [ht, g1', g2']; rfl)
                 clear ht
                 go_wp2_with fail
                 go_meet
                 exact ⟨by rw [HT.out], rfl⟩
               · have g2' := decide_eq_false g2
                 have HT := Lib.hid (show t2 = false by rw [ht, g1', g2']; rfl)
                 clear ht
                 go_wp2_with fail
                 go_meet
                 exact ⟨by rw [HT.out], rfl⟩
             · have g1' := decide_eq_false g1
               have HT := Lib.hid (show t2 = false by rw [ht, g1']; rfl)
               clear ht
               go_wp2_with fail
               go_meet
               exact ⟨by rw [HT.out], rfl⟩
         case rest =>
         have htt : t2 = true ↔ (a < s ∧ s < mid) := by rw [ht, Bool.and_eq_true, decide_eq_true_eq, decide_eq_true_eq]; omega
         have HTT := Lib.hid htt
         clear ht htt
         obtain ⟨rfl, hwc⟩ := hcut
         rw [hwc]
         clear hwc
         go_upto_if 199 with fail
         go_cut [] (fun wx => ∃ Z1 : List α, Hid (Z1.Perm (X1 ++ Y1) ∧ srtL (ltOf cf) Z1) ∧ Aside (SWK enc k w0 blk off (A ++ Z1 ++ X2 ++ Y2 ++ Q).toArray wx))
         case first =>
           as_aux_lemma =>
             cases t2 with
             | true =>
               as_aux_lemma =>
                 obtain ⟨h1, h2⟩ := HTT.out.1 rfl
                 obtain ⟨e1, e2, e3, e4, e5, e6, e7⟩ := HNUM.out.left hmidb h1 h2
                 have HCR := Lib.hid (HIH.out A X1 Y1 (X2 ++ Y2 ++ Q) _ a s mid e1 e2 e3 e4 sX1 sY1 S2.out e5 e6 e7)
                 clear e1 e2 e3 e4 e5 e6 e7
                 clear S2 h1 h2
                 go_wp2_with (go_at_fn 154; refine HCR.out.mono ?_; rintro e w1 ⟨rfl, Z, hz1, hz2, hS⟩; have HSS := aside hS; have HZ := Lib.hid (And.intro hz1 hz2); clear hS hz1 hz2)
                 go_meet
                 refine ⟨Z, HZ, aside ?_⟩
                 have := HSS.out
                 simpa only [List.append_assoc] using this
             | false =>
               as_aux_lemma =>
                 have hn : Y1 = [] ∨ X1 = [] := HNUM.out.noLeft fun h => by have := HTT.out.2 h; cases this
                 have HZ : Hid ((X1 ++ Y1).Perm (X1 ++ Y1) ∧ srtL (ltOf cf) (X1 ++ Y1)) := Lib.hid ⟨List.Perm.refl _, by
                   rcases hn with hn | hn <;> rw [hn]
                   · rw [List.append_nil]; exact sX1
                   · rw [List.nil_append]; exact sY1⟩
                 clear hn
                 go_wp2_with fail
                 go_meet
                 refine ⟨_, HZ, aside ?_⟩
                 have := S2.out
                 simpa only [List.append_assoc] using this
         case rest =>
           clear S2 HTT
           obtain ⟨Z1, HZ, S2⟩ := hcut
           go_upto_region 43 with fail
           obtain ⟨t3, ht⟩ : ∃ t, t = (decide ((mid : Int) < (en : Int)) && decide ((en : Int) < (b : Int))) := ⟨_, rfl⟩
           go_cut [213] (fun b wx => b = .bool t3 ∧ wx = wc)
           case first =>
             as_aux_lemma =>
               by_cases g1 : (mid : Int) < (en : Int)
               · have g1' := decide_eq_true g1
                 by_cases g2 : (en : Int) < (b : Int)
                 · have g2' := decide_eq_true g2
                   have HT := Lib.hid (show t3 = true by rw [ht, g1', g2']; rfl)
                   clear ht
                   go_wp2_with fail
                   go_meet
                   exact ⟨by rw [HT.out], rfl⟩
                 · have g2' := decide_eq_false g2
                   have HT := Lib.hid (show t3 = false by rw [ht, g1', g2']; rfl)
                   clear ht
                   go_wp2_with fail
                   go_meet
                   exact ⟨by rw [HT.out], rfl⟩
               · have g1' := decide_eq_false g1
                 have HT := Lib.hid (show t3 = false by rw [ht, g1']; rfl)
                 clear ht
                 go_wp2_with fail
                 go_meet
                 exact ⟨by rw [HT.out], rfl⟩
           case rest =>
           have htt : t3 = true ↔ (mid < en ∧ en < b) := by rw [ht, Bool.and_eq_true, decide_eq_true_eq, decide_eq_true_eq]; omega
           have HTT := Lib.hid htt
           clear ht htt
           obtain ⟨rfl, hwc⟩ := hcut
           rw [hwc]
           clear hwc
           cases t3 with
           | true =>
             as_aux_lemma =>
               obtain ⟨h1, h2⟩ := HTT.out.1 rfl
               have hz := HZ.out.1.length_eq
               rw [List.length_append] at hz
               obtain ⟨e1, e2, e3, e4, e5, e6, e7⟩ := HNUM.out.right hamid hz h1 h2
               have HCR := Lib.hid (HIH.out (A ++ Z1) X2 Y2 Q _ mid en b e1 e2 e3 e4 sX2 sY2 S2.out e5 e6 e7)
               clear hz e1 e2 e3 e4 e5 e6 e7
               clear S2 h1 h2
               go_wp2_with (go_at_fn 154; refine HCR.out.mono ?_; rintro e w1 ⟨rfl, Z, hz1, hz2, hS⟩; have HSS := aside hS; have HZ2 := Lib.hid (And.intro hz1 hz2); clear hS hz1 hz2)
               go_end0
               obtain ⟨q1, q2⟩ := HJ.out Z1 Z HZ.out.1 HZ.out.2 HZ2.out.1 HZ2.out.2
               refine ⟨rfl, Z1 ++ Z, by simpa only [List.append_assoc] using q1, q2, ?_⟩
               have := HSS.out
               simpa only [List.append_assoc] using this
           | false =>
             as_aux_lemma =>
               have hn : Y2 = [] ∨ X2 = [] := HNUM.out.noRight fun h => by have := HTT.out.2 h; cases this
               have HZ2 : Hid ((X2 ++ Y2).Perm (X2 ++ Y2) ∧ srtL (ltOf cf) (X2 ++ Y2)) := Lib.hid ⟨List.Perm.refl _, by
                 rcases hn with hn | hn <;> rw [hn]
                 · rw [List.append_nil]; exact sX2
                 · rw [List.nil_append]; exact sY2⟩
               clear hn
               go_wp2_with fail
               go_end0
               obtain ⟨q1, q2⟩ := HJ.out Z1 (X2 ++ Y2) HZ.out.1 HZ.out.2 HZ2.out.1 HZ2.out.2
               refine ⟨rfl, Z1 ++ (X2 ++ Y2), by simpa only [List.append_assoc] using q1, q2, ?_⟩
               have := S2.out
               simpa only [List.append_assoc] using this
end Go.Proofs.YtdalfkklkeblaaaGreatDoor
