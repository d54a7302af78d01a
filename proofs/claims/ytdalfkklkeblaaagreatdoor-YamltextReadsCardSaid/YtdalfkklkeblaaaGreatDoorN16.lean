import Derived.Test.YtdalfkklkeblaaaGreatDoorN01
import Derived.Test.YtdalfkklkeblaaaGreatDoorN15
import Derived.Deep.AppendLies
import Derived.Test.YtdalfkklkeblaaaGreatDoorN13
import Derived.Maps.AppendAt
import Derived.Test.YtdalfkklkeblaaaGreatDoorN08
import Derived.Test.YtdalfkklkeblaaaGreatDoorN12
import Derived.Test.YtdalfkklkeblaaaGreatDoorN07
namespace Go.Proofs.YtdalfkklkeblaaaGreatDoor
set_option linter.unusedSimpArgs false
set_option linter.unusedVariables false
section
open Go.Shelf Go.RowKit Go.Lib Go.Sort
variable {P : Program} {k : Nat} {α : Type} [Inhabited α]
set_option linter.unusedSectionVars false
theorem bub_right (A Y Q : List α) (x : α) (s : Nat) (hs : s < Y.length) :
   swp (A ++ (Y.take s ++ x :: Y.drop s) ++ Q).toArray (A.length + s) (A.length + s + 1) = (A ++ (Y.take (s + 1) ++ x :: Y.drop (s + 1)) ++ Q).toArray := by
 have h := swp_mid (A ++ Y.take s) [] (Y.drop (s + 1) ++ Q) x Y[s]
 have e1 : (A ++ Y.take s).length = A.length + s := by simp; omega
 rw [e1, List.length_nil, Nat.add_zero] at h
 have e2 : A ++ (Y.take s ++ x :: Y.drop s) ++ Q = A ++ Y.take s ++ x :: ([] ++ Y[s] :: (Y.drop (s + 1) ++ Q)) := by
   rw [List.drop_eq_getElem_cons hs]; simp only [List.append_assoc, List.cons_append, List.nil_append]
 have e3 : A ++ (Y.take (s + 1) ++ x :: Y.drop (s + 1)) ++ Q = A ++ Y.take s ++ Y[s] :: ([] ++ x :: (Y.drop (s + 1) ++ Q)) := by
   rw [List.take_add_one, List.getElem?_eq_getElem hs]; simp only [List.append_assoc, List.cons_append, List.nil_append, Option.toList_some]
 rw [e2, e3]; exact h
def MrgP (enc : α → List Value) (k : Nat) (w0 : World) (blk off : Nat) (lt : α → α → Bool) (A XY Q : List α) (e : Ending) (w' : World) : Prop :=
 e = .returned (.tuple #[]) ∧ ∃ Z : List α, Z.Perm XY ∧ srtL lt Z ∧ SWK enc k w0 blk off (A ++ Z ++ Q).toArray w'
theorem nthL (A Q : List α) {Y : List α} {t : Nat} (h1 : A.length ≤ t) (h2 : t - A.length < Y.length) : (A ++ Y ++ Q).toArray[t]! = Y[t - A.length] := nth_in A Y Q h1 (by omega)
set_option maxHeartbeats 8000000 in
set_option maxRecDepth 1000000 in
theorem sym_left (H : MsP P k) (enc : α → List Value) (cf : α → α → Int) (hO : SWO (ltOf cf)) (g : Nat) (cb : Array Value) (blk off cap N : Nat) (d0 : Array α) (A Y Q : List α) (x : α) (w0 w : World)
   (eg : ∀ args w, (callFunc g args).run P w = .ok (.enter g args) w) (hcmp : CmpLays P g cb enc k cf blk off d0.size w0) (R : RowK enc k w0 blk off d0) (hs : d0.size = N) (hl : A.length + 1 + Y.length + Q.length = N) (hY : 0 < Y.length) (sY : srtL (ltOf cf) Y)
   (S : SWK enc k w0 blk off (A ++ [x] ++ Y ++ Q).toArray w) (a m b : Nat) (ha : a = A.length) (hm : m = A.length + 1) (hb : b = A.length + 1 + Y.length) (hsz : N < 4611686018427387904) :
   Calls P 154 #[.slice (some ⟨blk, off, none⟩) N cap, .int .i64 a, .int .i64 m, .int .i64 b, .func (.func g) #[] cb] w (MrgP enc k w0 blk off (ltOf cf) A ([x] ++ Y) Q) := by
 have mixed := H.mixed; have t3 := H.t3; have a3 := H.a3; have z3 := H.z3; have v3 := H.v3; have t4 := H.t4; have a4 := H.a4; have z4 := H.z4; have v4 := H.v4; have t23 := H.t23; have a23 := H.a23; have z23 := H.z23; have v23 := H.v23; have t134 := H.t134; have a134 := H.a134; have z134 := H.z134; have v134 := H.v134; have aE := H.a43; have zE := H.z43; have t100 := H.t100; have a100 := H.a100; have z100 := H.z100
 have FG := H.fSym
 have HC : Aside _ := hcmp
 have hsz' : (A ++ [x] ++ Y ++ Q).toArray.size = N := by simp; omega
 have S0 : Aside (SWK enc k w0 blk off (A ++ [x] ++ Y ++ Q).toArray w) := S
 clear hcmp S
 have hpre : ((m : Int) - (a : Int) == 1) = true := by simp; omega
 have hpre' : IntKind.i64.wrap ((m : Int) - (a : Int)) = 1 := by rw [IntKind.wrap_i64]; omega
 -- what the search finds
 have HFIN : Hid (∀ i, m ≤ i → i ≤ b → (i = m ∨ ltOf cf (A ++ [x] ++ Y ++ Q).toArray[i - 1]! (A ++ [x] ++ Y ++ Q).toArray[a]! = true) → (i = b ∨ ltOf cf (A ++ [x] ++ Y ++ Q).toArray[i]! (A ++ [x] ++ Y ++ Q).toArray[a]! = false) →
     (Y.take (i - m) ++ x :: Y.drop (i - m)).Perm ([x] ++ Y) ∧ srtL (ltOf cf) (Y.take (i - m) ++ x :: Y.drop (i - m))) := Lib.hid (by
   intro i h1 h2 F1 F2
   have hxa : (A ++ [x] ++ Y ++ Q).toArray[a]! = x := by
     rw [show A ++ [x] ++ Y ++ Q = A ++ x :: (Y ++ Q) by simp, ha]
     exact nth_mid A (Y ++ Q) x
   have hy : ∀ t, m ≤ t → (ht : t - m < Y.length) → (A ++ [x] ++ Y ++ Q).toArray[t]! = Y[t - m] := by
     intro t t1 t2
     have := nthL (A ++ [x]) Q (Y := Y) (t := t) (by simp; omega) (by simp; omega)
     rw [this]; congr 1; simp; omega
   rw [hxa] at F1 F2
   have := ins_left hO (x := x) (A := Y.take (i - m)) (B := Y.drop (i - m)) (by rw [List.take_append_drop]; exact sY) (fun z hz => ?_) (fun z hz => ?_)
   · rw [List.take_append_drop] at this; exact this
   · obtain ⟨g1, g2, rfl⟩ := last_of (by omega) hz
     rcases F1 with e | e
     · omega
     · rw [hy (i - 1) (by omega) (by omega)] at e
       have := lt_asymm hO e
       rw [← this]; congr 2; omega
   · obtain ⟨g3, rfl⟩ := head_of hz
     rcases F2 with e | e
     · omega
     · rw [hy i (by omega) g3] at e
       exact e)
 have HBUB : Hid (∀ i, m ≤ i → i ≤ b → ∀ s, s < i - m → swp (A ++ (((Y.take (i - m)).take s ++ x :: (Y.take (i - m)).drop s) ++ Y.drop (i - m)) ++ Q).toArray (a + s) (a + s + 1) = (A ++ (((Y.take (i - m)).take (s + 1) ++ x :: (Y.take (i - m)).drop (s + 1)) ++ Y.drop (i - m)) ++ Q).toArray) := Lib.hid (by
   intro i h1 h2 s hs
   have := bub_right A (Y.take (i - m)) (Y.drop (i - m) ++ Q) x s (by rw [List.length_take]; omega)
   rw [← ha] at this
   simpa only [List.append_assoc] using this)
 have HZ : Hid (∀ i, m ≤ i → i ≤ b → A ++ (((Y.take (i - m)).take 0 ++ x :: (Y.take (i - m)).drop 0) ++ Y.drop (i - m)) ++ Q = A ++ [x] ++ Y ++ Q) := Lib.hid (by
   intro i _ _
   rw [List.take_zero, List.drop_zero, List.nil_append, List.cons_append, List.take_append_drop]; simp)
 have HE : Hid (∀ i, m ≤ i → i ≤ b → (Y.take (i - m)).take (i - m) ++ x :: (Y.take (i - m)).drop (i - m) ++ Y.drop (i - m) = Y.take (i - m) ++ x :: Y.drop (i - m)) := Lib.hid (by
   intro i _ _
   rw [List.take_take, Nat.min_self, List.drop_of_length_le (by rw [List.length_take]; omega)]; simp)
 have HLEN : Hid (∀ i s, m ≤ i → i ≤ b → (A ++ (((Y.take (i - m)).take s ++ x :: (Y.take (i - m)).drop s) ++ Y.drop (i - m)) ++ Q).toArray.size = N) := Lib.hid (by
   intro i s h1 h2
   simp; omega)
 have hbN : b ≤ N := by omega
 have hab : a < m := by omega
 have hmb : m < b := by omega
 have hma : m ≤ a + 1 := by omega
 generalize hd : (A ++ [x] ++ Y ++ Q).toArray = d at S0 hsz' HFIN
 have HD := Lib.hid hd
 clear hd ha hm hb hl hY sY
 go_enter FG, Tryz.ntmps154
 go_wp2_with fail
 go_loopg [10, 11] (b - m) (fun kx s10 s11 wr => ∃ i j : Nat, s10 = .int .i64 i ∧ s11 = .int .i64 j ∧ m ≤ i ∧ i ≤ j ∧ j ≤ b ∧ j - i ≤ kx ∧ Aside (SWK enc k w0 blk off d wr) ∧
     Hid ((i = m ∨ ltOf cf d[i - 1]! d[a]! = true) ∧ (j = b ∨ ltOf cf d[j]! d[a]! = false)))
 case atStart => exact ⟨m, b, rfl, rfl, Nat.le_refl _, by omega, Nat.le_refl _, Nat.le_refl _, S0, Lib.hid ⟨.inl rfl, .inl rfl⟩⟩
 case round =>
   clear S0
   obtain ⟨i, j, rfl, rfl, hmi, hij, hjb, hkx, S1, HF⟩ := hrel
   by_cases hlt : i < j
   · have hltz : (i : Int) < (j : Int) := by omega
     have ea1 : (((i : Int) + (j : Int)) / 2).toNat = (i + j) / 2 := by omega
     have pa1 : (0 : Int) ≤ ((i : Int) + (j : Int)) / 2 := by omega
     have ba1 : ((i : Int) + (j : Int)) / 2 < (N : Int) := by omega
     have ec1 : (a : Int).toNat = a := by omega
     have bc1 : (a : Int) < (N : Int) := by omega
     obtain ⟨x1, hx1⟩ : ∃ x, x = d[(i + j) / 2]! := ⟨_, rfl⟩
     obtain ⟨y1, hy1⟩ : ∃ x, x = d[a]! := ⟨_, rfl⟩
     have l1 := S1.out.ld R (by omega) P ((i + j) / 2) (by omega)
     have l2 := S1.out.ld R (by omega) P a (by omega)
     rw [← hx1] at l1
     rw [← hy1] at l2
     have hc1 := S1.out.cmp HC.out (by omega) x1 y1
     by_cases hv : cf x1 y1 < 0
     · have HV := Lib.hid (show ltOf cf d[(i + j) / 2]! d[a]! = true by rw [← hx1, ← hy1]; exact decide_eq_true hv)
       clear hx1 hy1
       go_wp2_with fail
       go_quiet_grown (first | (go_at_fn g; refine Calls.grown_of (hc1 _ _)))
       have SU2 : Aside (SWK enc k w0 blk off d (grow (wr.drewN nq) osq)) := S1.out.grown nq osq
       clear l1 l2 hc1 S1
       generalize grow (wr.drewN nq) osq = wu2 at SU2 ⊢
       clear nq osq
       go_wp2
       go_roundg (j - ((i + j) / 2 + 1))
       case measure => omega
       case rel => exact ⟨(i + j) / 2 + 1, j, by rw [show ((i : Int) + (j : Int)) / 2 + 1 = (((i + j) / 2 + 1 : Nat) : Int) by omega], rfl, by omega, by omega, hjb, Nat.le_refl _, SU2, Lib.hid ⟨.inr (by rw [Nat.add_sub_cancel]; exact HV.out), HF.out.2⟩⟩
     · have HV := Lib.hid (show ltOf cf d[(i + j) / 2]! d[a]! = false by rw [← hx1, ← hy1]; exact decide_eq_false hv)
       clear hx1 hy1
       go_wp2_with fail
       go_quiet_grown (first | (go_at_fn g; refine Calls.grown_of (hc1 _ _)))
       have SU2 : Aside (SWK enc k w0 blk off d (grow (wr.drewN nq) osq)) := S1.out.grown nq osq
       clear l1 l2 hc1 S1
       generalize grow (wr.drewN nq) osq = wu2 at SU2 ⊢
       clear nq osq
       go_wp2
       go_roundg ((i + j) / 2 - i)
       case measure => omega
       case rel => exact ⟨i, (i + j) / 2, rfl, by rw [show ((i : Int) + (j : Int)) / 2 = (((i + j) / 2 : Nat) : Int) by omega], hmi, by omega, by omega, Nat.le_refl _, SU2, Lib.hid ⟨HF.out.1, .inr HV.out⟩⟩
   · obtain rfl : i = j := by omega
     have hltz : ¬ (i : Int) < (i : Int) := by omega
     have HZZ := Lib.hid (HFIN.out i hmi hjb HF.out.1 HF.out.2)
     have S2 : Aside (SWK enc k w0 blk off (A ++ (((Y.take (i - m)).take 0 ++ x :: (Y.take (i - m)).drop 0) ++ Y.drop (i - m)) ++ Q).toArray wr) := by rw [HZ.out i hmi hjb, HD.out]; exact S1.out
     have HB := Lib.hid (HBUB.out i hmi hjb)
     have HE1 := Lib.hid (HE.out i hmi hjb)
     have HL := Lib.hid (fun s => HLEN.out i s hmi hjb)
     clear HBUB HE HLEN HF HFIN HZ S1 hkx hij
     have hw1 : IntKind.i64.wrap ((i : Int) - 1) = ((i - 1 : Nat) : Int) := by rw [IntKind.wrap_i64]; omega
     go_wp2_with fail
     go_loopg [13] (i - m) (fun kx s13 wr => ∃ s : Nat, s13 = .int .i64 (a + s : Nat) ∧ s ≤ i - m ∧ i - m - s ≤ kx ∧ Aside (SWK enc k w0 blk off (A ++ (((Y.take (i - m)).take s ++ x :: (Y.take (i - m)).drop s) ++ Y.drop (i - m)) ++ Q).toArray wr))
     case atStart => exact ⟨0, rfl, Nat.zero_le _, Nat.le_refl _, S2⟩
     case round =>
       clear S2
       obtain ⟨s, rfl, hsi, hkx, S1⟩ := hrel
       by_cases hlt : s < i - m
       · have hltz : ((a + s : Nat) : Int) < ((i - 1 : Nat) : Int) := by omega
         have hdl := HL.out s
         have HST := Lib.hid (HB.out s hlt)
         generalize (A ++ (((Y.take (i - m)).take s ++ x :: (Y.take (i - m)).drop s) ++ Y.drop (i - m)) ++ Q).toArray = dk at S1 hdl HST
         have hcN : a + s + 1 < N := by omega
         generalize hc : a + s = c at HST hltz hcN ⊢
         have HCS := Lib.hid hc
         clear hc
         have ea1 : ((c : Int)).toNat = c := by omega
         have ba1 : (c : Int) < (N : Int) := by omega
         have ec1 : ((c : Int) + 1).toNat = c + 1 := by omega
         have pc1 : (0 : Int) ≤ (c : Int) + 1 := by omega
         have bc1 : (c : Int) + 1 < (N : Int) := by omega
         have rc1 : IntKind.i64.wrap ((c : Int) + 1) = (c : Int) + 1 := by rw [IntKind.wrap_i64]; omega
         have hltz2 : (c : Int) < ((i - 1 : Nat) : Int) := by omega
         have S2 : Aside (SWK enc k w0 blk off (swp dk c (c + 1)) ((wr.drew.setCells blk (off + c * k) (enc dk[c + 1]!)).setCells blk (off + (c + 1) * k) (enc dk[c]!))) := S1.out.swapped R c (c + 1) (by omega) (by omega)
         have l1 := S1.out.ld1 R (by omega) P c (by omega)
         have l2 := S1.out.ld1 R (by omega) P (c + 1) (by omega)
         have s1 := S1.out.st1 R (by omega) P c (by omega) dk[c + 1]!
         have s2 := S1.out.st2 R (by omega) P c (c + 1) (by omega) (by omega) dk[c + 1]! dk[c]!
         have n1 : (enc dk[c]!).length = k := R.hk _
         have n2 : (enc dk[c + 1]!).length = k := R.hk _
         rw [HST.out] at S2
         generalize enc dk[c]! = cI at S2 l1 s2 n1
         generalize enc dk[c + 1]! = cJ at S2 l2 s1 s2 n2
         clear S1 HST hltz hma
         go_wp2_with fail
         go_big_region_o
         clear l1 l2 s1 s2
         generalize (wr.drew.setCells blk (off + c * k) cJ).setCells blk (off + (c + 1) * k) cI = w2 at S2 ⊢
         go_wp2
         go_roundg (i - m - (s + 1))
         case measure => omega
         case rel => exact ⟨s + 1, by rw [show (c : Int) + 1 = ((a + (s + 1) : Nat) : Int) by have := HCS.out; omega], by omega, Nat.le_refl _, S2⟩
       · obtain rfl : s = i - m := by omega
         have hltz : ¬ ((a + (i - m) : Nat) : Int) < ((i - 1 : Nat) : Int) := by omega
         have hS := S1.out
         rw [HE1.out] at hS
         have HS := Lib.hid hS
         clear S1 hS
         go_wp2_with fail
         go_end0
         exact ⟨rfl, _, HZZ.out.1, HZZ.out.2, HS.out⟩
end
section
open Go.Shelf Go.RowKit Go.Lib Go.Sort
variable {P : Program} {k : Nat} {α : Type} [Inhabited α]
set_option linter.unusedSectionVars false
theorem swp_back (A B C : List α) (x y : α) : swp (A ++ x :: (B ++ y :: C)).toArray (A.length + 1 + B.length) A.length = (A ++ y :: (B ++ x :: C)).toArray := by
 have h1 : (A ++ x :: (B ++ y :: C)).toArray[A.length + 1 + B.length]! = y := by
   have := nth_mid (A ++ x :: B) C y
   rw [List.length_append, List.length_cons] at this
   rw [show A.length + 1 + B.length = A.length + (B.length + 1) by omega]
   rw [← this]
   simp
 have h3 : (A ++ x :: (B ++ y :: C)).toArray.setIfInBounds (A.length + 1 + B.length) x = (A ++ x :: (B ++ x :: C)).toArray := by
   rw [List.setIfInBounds_toArray]
   congr 1
   have := set_mid (A ++ x :: B) C y x
   rw [List.length_append, List.length_cons] at this
   rw [show A.length + 1 + B.length = A.length + (B.length + 1) by omega]
   have e : A ++ x :: (B ++ y :: C) = (A ++ x :: B) ++ y :: C := by simp
   rw [e, this]; simp
 unfold swp
 rw [h1, nth_mid, h3, List.setIfInBounds_toArray]
 exact congrArg List.toArray (set_mid _ _ _ _)
theorem bub_left (A X Q : List α) (y : α) (t : Nat) (ht : t < X.length) :
   swp (A ++ (X.take (t + 1) ++ y :: X.drop (t + 1)) ++ Q).toArray (A.length + t + 1) (A.length + t) = (A ++ (X.take t ++ y :: X.drop t) ++ Q).toArray := by
 have h := swp_back (A ++ X.take t) [] (X.drop (t + 1) ++ Q) X[t] y
 have e1 : (A ++ X.take t).length = A.length + t := by simp; omega
 rw [e1, List.length_nil, Nat.add_zero] at h
 have e2 : A ++ (X.take t ++ y :: X.drop t) ++ Q = A ++ X.take t ++ y :: ([] ++ X[t] :: (X.drop (t + 1) ++ Q)) := by
   rw [List.drop_eq_getElem_cons ht]; simp only [List.append_assoc, List.cons_append, List.nil_append]
 have e3 : A ++ (X.take (t + 1) ++ y :: X.drop (t + 1)) ++ Q = A ++ X.take t ++ X[t] :: ([] ++ y :: (X.drop (t + 1) ++ Q)) := by
   rw [List.take_add_one, List.getElem?_eq_getElem ht]; simp only [List.append_assoc, List.cons_append, List.nil_append, Option.toList_some]
 rw [e2, e3]; exact h
set_option maxHeartbeats 8000000 in
set_option maxRecDepth 1000000 in
theorem sym_right (H : MsP P k) (enc : α → List Value) (cf : α → α → Int) (hO : SWO (ltOf cf)) (g : Nat) (cb : Array Value) (blk off cap N : Nat) (d0 : Array α) (A X Q : List α) (y : α) (w0 w : World)
   (eg : ∀ args w, (callFunc g args).run P w = .ok (.enter g args) w) (hcmp : CmpLays P g cb enc k cf blk off d0.size w0) (R : RowK enc k w0 blk off d0) (hs : d0.size = N) (hl : A.length + X.length + 1 + Q.length = N) (hX : 1 < X.length) (sX : srtL (ltOf cf) X)
   (S : SWK enc k w0 blk off (A ++ X ++ [y] ++ Q).toArray w) (a m b : Nat) (ha : a = A.length) (hm : m = A.length + X.length) (hb : b = A.length + X.length + 1) (hsz : N < 4611686018427387904) :
   Calls P 154 #[.slice (some ⟨blk, off, none⟩) N cap, .int .i64 a, .int .i64 m, .int .i64 b, .func (.func g) #[] cb] w (MrgP enc k w0 blk off (ltOf cf) A (X ++ [y]) Q) := by
 have mixed := H.mixed; have t3 := H.t3; have a3 := H.a3; have z3 := H.z3; have v3 := H.v3; have t4 := H.t4; have a4 := H.a4; have z4 := H.z4; have v4 := H.v4; have t23 := H.t23; have a23 := H.a23; have z23 := H.z23; have v23 := H.v23; have t134 := H.t134; have a134 := H.a134; have z134 := H.z134; have v134 := H.v134; have aE := H.a43; have zE := H.z43; have t100 := H.t100; have a100 := H.a100; have z100 := H.z100
 have FG := H.fSym
 have HC : Aside _ := hcmp
 have hsz' : (A ++ X ++ [y] ++ Q).toArray.size = N := by simp; omega
 have S0 : Aside (SWK enc k w0 blk off (A ++ X ++ [y] ++ Q).toArray w) := S
 clear hcmp S
 have hpre : ((m : Int) - (a : Int) == 1) = false := by simp; omega
 have hpre' : IntKind.i64.wrap ((m : Int) - (a : Int)) = (m : Int) - (a : Int) := by rw [IntKind.wrap_i64]; omega
 have hpr2 : ((b : Int) - (m : Int) == 1) = true := by simp; omega
 have hpr2' : IntKind.i64.wrap ((b : Int) - (m : Int)) = 1 := by rw [IntKind.wrap_i64]; omega
 have HFIN : Hid (∀ i, a ≤ i → i ≤ m → (i = a ∨ ltOf cf (A ++ X ++ [y] ++ Q).toArray[m]! (A ++ X ++ [y] ++ Q).toArray[i - 1]! = false) → (i = m ∨ ltOf cf (A ++ X ++ [y] ++ Q).toArray[m]! (A ++ X ++ [y] ++ Q).toArray[i]! = true) →
     (X.take (i - a) ++ y :: X.drop (i - a)).Perm (X ++ [y]) ∧ srtL (ltOf cf) (X.take (i - a) ++ y :: X.drop (i - a))) := Lib.hid (by
   intro i h1 h2 F1 F2
   have hym : (A ++ X ++ [y] ++ Q).toArray[m]! = y := by
     rw [show A ++ X ++ [y] ++ Q = (A ++ X) ++ y :: Q by simp, show m = (A ++ X).length by simp; omega]
     exact nth_mid (A ++ X) Q y
   have hx : ∀ t, a ≤ t → (ht : t - a < X.length) → (A ++ X ++ [y] ++ Q).toArray[t]! = X[t - a] := by
     intro t t1 t2
     have := nthL A ([y] ++ Q) (Y := X) (t := t) (by omega) (by omega)
     rw [← List.append_assoc] at this
     rw [this]; congr 1; omega
   rw [hym] at F1 F2
   have := ins_right hO (y := y) (A := X.take (i - a)) (B := X.drop (i - a)) (by rw [List.take_append_drop]; exact sX) (fun z hz => ?_) (fun z hz => ?_)
   · rw [List.take_append_drop] at this; exact this
   · obtain ⟨g1, g2, rfl⟩ := last_of (by omega) hz
     rcases F1 with e | e
     · omega
     · rw [hx (i - 1) (by omega) (by omega)] at e
       rw [← e]; congr 2; omega
   · obtain ⟨g3, rfl⟩ := head_of hz
     rcases F2 with e | e
     · omega
     · rw [hx i (by omega) g3] at e
       exact lt_asymm hO e)
 have HBUB : Hid (∀ i, a ≤ i → i ≤ m → ∀ t, t < m - i → swp (A ++ (X.take (i - a) ++ ((X.drop (i - a)).take (t + 1) ++ y :: (X.drop (i - a)).drop (t + 1))) ++ Q).toArray (i + t + 1) (i + t) = (A ++ (X.take (i - a) ++ ((X.drop (i - a)).take t ++ y :: (X.drop (i - a)).drop t)) ++ Q).toArray) := Lib.hid (by
   intro i h1 h2 t ht
   have := bub_left (A ++ X.take (i - a)) (X.drop (i - a)) Q y t (by rw [List.length_drop]; omega)
   have e : (A ++ X.take (i - a)).length = i := by simp; omega
   rw [e] at this
   simpa only [List.append_assoc] using this)
 have HZ : Hid (∀ i, a ≤ i → i ≤ m → A ++ (X.take (i - a) ++ ((X.drop (i - a)).take (m - i) ++ y :: (X.drop (i - a)).drop (m - i))) ++ Q = A ++ X ++ [y] ++ Q) := Lib.hid (by
   intro i _ _
   have hXL : (X.drop (i - a)).length ≤ m - i := by rw [List.length_drop]; omega
   have : X.take (i - a) ++ X.drop (i - a) = X := List.take_append_drop _ _
   generalize X.drop (i - a) = X2 at hXL this ⊢
   rw [List.take_of_length_le hXL, List.drop_of_length_le hXL]
   conv => rhs; rw [← this]
   simp only [List.append_assoc])
 have HE : Hid (∀ i, a ≤ i → i ≤ m → X.take (i - a) ++ ((X.drop (i - a)).take 0 ++ y :: (X.drop (i - a)).drop 0) = X.take (i - a) ++ y :: X.drop (i - a)) := Lib.hid (by
   intro i _ _
   rw [List.take_zero, List.drop_zero, List.nil_append])
 have HLEN : Hid (∀ i t, a ≤ i → i ≤ m → (A ++ (X.take (i - a) ++ ((X.drop (i - a)).take t ++ y :: (X.drop (i - a)).drop t)) ++ Q).toArray.size = N) := Lib.hid (by
   intro i s h1 h2
   simp; omega)
 have hbN : b ≤ N := by omega
 have hab : a + 1 < m := by omega
 have hmb : m < b := by omega
 have hma : b ≤ m + 1 := by omega
 generalize hd : (A ++ X ++ [y] ++ Q).toArray = d at S0 hsz' HFIN
 have HD := Lib.hid hd
 clear hd ha hm hb hl hX sX
 go_enter FG, Tryz.ntmps154
 go_wp2_with fail
 go_loopg [14, 15] (m - a) (fun kx s10 s11 wr => ∃ i j : Nat, s10 = .int .i64 i ∧ s11 = .int .i64 j ∧ a ≤ i ∧ i ≤ j ∧ j ≤ m ∧ j - i ≤ kx ∧ Aside (SWK enc k w0 blk off d wr) ∧
     Hid ((i = a ∨ ltOf cf d[m]! d[i - 1]! = false) ∧ (j = m ∨ ltOf cf d[m]! d[j]! = true)))
 case atStart => exact ⟨a, m, rfl, rfl, Nat.le_refl _, by omega, Nat.le_refl _, Nat.le_refl _, S0, Lib.hid ⟨.inl rfl, .inl rfl⟩⟩
 case round =>
   clear S0
   obtain ⟨i, j, rfl, rfl, hmi, hij, hjb, hkx, S1, HF⟩ := hrel
   by_cases hlt : i < j
   · have hltz : (i : Int) < (j : Int) := by omega
     have ea1 : (((i : Int) + (j : Int)) / 2).toNat = (i + j) / 2 := by omega
     have pa1 : (0 : Int) ≤ ((i : Int) + (j : Int)) / 2 := by omega
     have ba1 : ((i : Int) + (j : Int)) / 2 < (N : Int) := by omega
     have ec1 : (m : Int).toNat = m := by omega
     have bc1 : (m : Int) < (N : Int) := by omega
     obtain ⟨x1, hx1⟩ : ∃ x, x = d[(i + j) / 2]! := ⟨_, rfl⟩
     obtain ⟨y1, hy1⟩ : ∃ x, x = d[m]! := ⟨_, rfl⟩
     have l1 := S1.out.ld R (by omega) P ((i + j) / 2) (by omega)
     have l2 := S1.out.ld R (by omega) P m (by omega)
     rw [← hx1] at l1
     rw [← hy1] at l2
     have hc1 := S1.out.cmp HC.out (by omega) y1 x1
     by_cases hv : cf y1 x1 < 0
     · have HV := Lib.hid (show ltOf cf d[m]! d[(i + j) / 2]! = true by rw [← hx1, ← hy1]; exact decide_eq_true hv)
       have hdv : decide (cf y1 x1 < 0) = true := decide_eq_true hv
       clear hx1 hy1
       go_wp2_with fail
       go_quiet_grown (first | (go_at_fn g; refine Calls.grown_of (hc1 _ _)))
       have SU2 : Aside (SWK enc k w0 blk off d (grow (wr.drewN nq) osq)) := S1.out.grown nq osq
       clear l1 l2 hc1 S1
       generalize grow (wr.drewN nq) osq = wu2 at SU2 ⊢
       clear nq osq
       go_wp2
       go_roundg ((i + j) / 2 - i)
       case measure => omega
       case rel => exact ⟨i, (i + j) / 2, rfl, by rw [show ((i : Int) + (j : Int)) / 2 = (((i + j) / 2 : Nat) : Int) by omega], hmi, by omega, by omega, Nat.le_refl _, SU2, Lib.hid ⟨HF.out.1, .inr HV.out⟩⟩
     · have HV := Lib.hid (show ltOf cf d[m]! d[(i + j) / 2]! = false by rw [← hx1, ← hy1]; exact decide_eq_false hv)
       have hdv : decide (cf y1 x1 < 0) = false := decide_eq_false hv
       clear hx1 hy1
       go_wp2_with fail
       go_quiet_grown (first | (go_at_fn g; refine Calls.grown_of (hc1 _ _)))
       have SU2 : Aside (SWK enc k w0 blk off d (grow (wr.drewN nq) osq)) := S1.out.grown nq osq
       clear l1 l2 hc1 S1
       generalize grow (wr.drewN nq) osq = wu2 at SU2 ⊢
       clear nq osq
       go_wp2
       go_roundg (j - ((i + j) / 2 + 1))
       case measure => omega
       case rel => exact ⟨(i + j) / 2 + 1, j, by rw [show ((i : Int) + (j : Int)) / 2 + 1 = (((i + j) / 2 + 1 : Nat) : Int) by omega], rfl, by omega, by omega, hjb, Nat.le_refl _, SU2, Lib.hid ⟨.inr (by rw [Nat.add_sub_cancel]; exact HV.out), HF.out.2⟩⟩
   · obtain rfl : i = j := by omega
     have hltz : ¬ (i : Int) < (i : Int) := by omega
     have HZZ := Lib.hid (HFIN.out i hmi hjb HF.out.1 HF.out.2)
     have S2 : Aside (SWK enc k w0 blk off (A ++ (X.take (i - a) ++ ((X.drop (i - a)).take (m - i) ++ y :: (X.drop (i - a)).drop (m - i))) ++ Q).toArray wr) := by rw [HZ.out i hmi hjb, HD.out]; exact S1.out
     have HB := Lib.hid (HBUB.out i hmi hjb)
     have HE1 := Lib.hid (HE.out i hmi hjb)
     have HL := Lib.hid (fun s => HLEN.out i s hmi hjb)
     clear HBUB HE HLEN HF HFIN HZ S1 hkx hij
     go_wp2_with fail
     go_loopg [17] (m - i) (fun kx s13 wr => ∃ t : Nat, s13 = .int .i64 (i + t : Nat) ∧ t ≤ kx ∧ i + t ≤ m ∧ Aside (SWK enc k w0 blk off (A ++ (X.take (i - a) ++ ((X.drop (i - a)).take t ++ y :: (X.drop (i - a)).drop t)) ++ Q).toArray wr))
     case atStart => exact ⟨m - i, by go_num, Nat.le_refl _, by omega, S2⟩
     case round =>
       clear S2
       obtain ⟨t, rfl, hkx, htm, S1⟩ := hrel
       cases t with
       | succ t =>
         have hdl := HL.out (t + 1)
         have HST := Lib.hid (HB.out t (by omega))
         generalize (A ++ (X.take (i - a) ++ ((X.drop (i - a)).take (t + 1) ++ y :: (X.drop (i - a)).drop (t + 1))) ++ Q).toArray = dk at S1 hdl HST
         have hcN : i + t + 1 < N := by omega
         have hcm : i < i + t + 1 := by omega
         have hs17 : ((i + (t + 1) : Nat) : Int) = ((i + t : Nat) : Int) + 1 := by omega
         rw [hs17]
         clear hs17
         generalize hc : i + t = c at HST hcN hcm ⊢
         have HCS := Lib.hid hc
         clear hc
         have hgt : (i : Int) < (c : Int) + 1 := by omega
         have ea1 : ((c : Int)).toNat = c := by omega
         have ba1 : (c : Int) < (N : Int) := by omega
         have ec1 : ((c : Int) + 1).toNat = c + 1 := by omega
         have pc1 : (0 : Int) ≤ (c : Int) + 1 := by omega
         have bc1 : (c : Int) + 1 < (N : Int) := by omega
         have rc1 : IntKind.i64.wrap ((c : Int) + 1 - 1) = (c : Int) := by rw [IntKind.wrap_i64]; omega
         have rc2 : IntKind.i64.wrap (c : Int) = (c : Int) := by rw [IntKind.wrap_i64]; omega
         have S2 : Aside (SWK enc k w0 blk off (swp dk (c + 1) c) ((wr.drew.setCells blk (off + (c + 1) * k) (enc dk[c]!)).setCells blk (off + c * k) (enc dk[c + 1]!))) := S1.out.swapped R (c + 1) c (by omega) (by omega)
         have l1 := S1.out.ld1 R (by omega) P c (by omega)
         have l2 := S1.out.ld1 R (by omega) P (c + 1) (by omega)
         have s1 := S1.out.st1 R (by omega) P (c + 1) (by omega) dk[c]!
         have s2 := S1.out.st2 R (by omega) P (c + 1) c (by omega) (by omega) dk[c]! dk[c + 1]!
         have n1 : (enc dk[c]!).length = k := R.hk _
         have n2 : (enc dk[c + 1]!).length = k := R.hk _
         rw [HST.out] at S2
         generalize enc dk[c]! = cI at S2 l1 s1 s2 n1
         generalize enc dk[c + 1]! = cJ at S2 l2 s2 n2
         clear S1 HST hma
         go_wp2_with fail
         go_big_region_o
         clear l1 l2 s1 s2
         generalize (wr.drew.setCells blk (off + (c + 1) * k) cI).setCells blk (off + c * k) cJ = w2 at S2 ⊢
         go_wp2
         go_roundg t
         case measure => omega
         case rel => exact ⟨t, by first | rfl | go_num | (rw [HCS.out]), Nat.le_refl _, by omega, S2⟩
       | zero =>
         have hgt : ¬ ((i : Int) < ((i + 0 : Nat) : Int)) := by omega
         rw [Nat.add_zero] at hgt
         have hS := S1.out
         rw [HE1.out] at hS
         have HS := Lib.hid hS
         clear S1 hS
         go_wp2_with fail
         go_end0
         exact ⟨rfl, _, HZZ.out.1, HZZ.out.2, HS.out⟩
end
section
open Go.RowKit
theorem own_ge {W : World} {b : Nat} {e : TypeId} {s : Nat} {v : Value} {k : Nat} {xs : List Value} (h : W.ownsRow b e s v k xs) {B : Nat} (hB : v.ownBlock = some B) : b ≤ B ∧ B < W.heap.size := by
 rcases own_head h with ⟨rfl, -⟩ | ⟨g, cap, rfl, hb, -, hg, ek⟩
 · simp [Value.ownBlock] at hB
 · rw [ek] at hB; injection hB with hB; subst hB; exact ⟨hb, hg⟩
theorem own_two {W : World} {b : Nat} {e : TypeId} {s n : Nat} {v : Value} {xs : List Value} (h : W.ownsRow b e s v n xs) : v.ownBlock = none ∨ ∃ g, v.ownBlock = some g ∧ b ≤ g ∧ g < W.heap.size := by
 cases hv : v.ownBlock with
 | none => exact .inl rfl
 | some g => exact .inr ⟨g, rfl, own_ge h hv⟩
theorem own_set_other {W : World} {base : Nat} {e : TypeId} {s n B : Nat} {u : Value} {xs : List Value} (h : W.ownsRow base e s u n xs) (hB : u.ownBlock ≠ some B) (i : Nat) (v : Value) : (W.setCell ⟨B, i, none⟩ v).ownsRow base e s u n xs := by
 refine ⟨h.1, ?_⟩
 rcases h.2 with h | ⟨g, cap, cur, rfl, hb, hg, hr⟩
 · exact .inl h
 · refine .inr ⟨g, cap, cur, rfl, hb, ?_, hr⟩
   have : B ≠ g := fun e => hB (by rw [e]; rfl)
   simp only [World.setCell, Array.getElem?_modify, if_neg this, hg]
theorem own_grown {W W' : World} {base : Nat} {e : TypeId} {s n : Nat} {u : Value} {xs : List Value} {row : Option Nat} (h : W.ownsRow base e s u n xs) (hg : W.grownBy W' row) (hne : u.ownBlock = none ∨ u.ownBlock ≠ row) : W'.ownsRow base e s u n xs := by
 refine ⟨h.1, ?_⟩
 rcases h.2 with h | ⟨g, cap, cur, rfl, hb, hg0, hr⟩
 · exact .inl h
 · refine .inr ⟨g, cap, cur, rfl, hb, ?_, hr⟩
   rw [hg.block g (Array.getElem?_eq_some_iff.1 hg0).1 ?_]
   · exact hg0
   · rcases hne with hne | hne
     · simp [Value.ownBlock] at hne
     · intro e; exact hne (by rw [← e]; rfl)
theorem own_types {W : World} {b1 b2 : Nat} {e1 e2 : TypeId} {s1 s2 n1 n2 : Nat} {v1 v2 : Value} {x1 x2 : List Value} (h1 : W.ownsRow b1 e1 s1 v1 n1 x1) (h2 : W.ownsRow b2 e2 s2 v2 n2 x2) (hne : e1 ≠ e2) : v1.ownBlock = none ∨ v1.ownBlock ≠ v2.ownBlock := by
 rcases h1.2 with ⟨rfl, -⟩ | ⟨g, cap, cur, rfl, hb, hg, -⟩
 · exact .inl rfl
 · right
   intro e
   rcases h2.2 with ⟨rfl, -⟩ | ⟨g', cap', cur', rfl, hb', hg', -⟩
   · simp [Value.ownBlock] at e
   · simp [Value.ownBlock] at e
     subst e
     rw [hg] at hg'
     injection hg' with hg'
     injection hg' with _ e _
     exact hne e
theorem infoMem : (Tryz.prog.info? 43).map (fun i => (i.zero, i.size, i.bytes)) = some (some (.agg #[.string ⟨#[]⟩, .int .i64 0, .int .i64 0, .string ⟨#[]⟩, .slice none 0 0, .slice none 0 0]), 6, 96) := by kernel_rfl
theorem set_block {W : World} {B : Nat} {a : Addr} {v : Value} (h : a.block ≠ B) : (W.setCell a v).heap[B]? = W.heap[B]? := by
 simp only [World.setCell, Array.getElem?_modify, if_neg h]
theorem Rep.set {W : World} {ok : Nat → Prop} {d : Dat} {vi vm : Value} (h : Rep W ok d vi vm) (a : Addr) (v : Value) (hne : ∀ B, ok B → a.block ≠ B) : Rep (W.setCell a v) ok d vi vm :=
 h.kept (by show W.heap.size ≤ (W.heap.modify _ _).size; simp) fun B _ hk => ⟨hk, fun o => World.cell?_of_block (a := ⟨B, o, none⟩) (set_block (hne B hk))⟩
theorem out_kept2 {wc w5 : World} {o : Obj} {gu i : Nat} {row : Option Nat} {u : Value} (hgu : gu < wc.heap.size) (hne : some gu ≠ row) (hc : wc.cell? ⟨gu, i, none⟩ = some u) (hf : wc.frozen? ⟨gu, i, none⟩ = false) (hg : (wc.alloc o).grownBy w5 row) :
   w5.cell? ⟨gu, i, none⟩ = some u ∧ w5.frozen? ⟨gu, i, none⟩ = false ∧ gu < w5.heap.size := by
 have hb : Below wc.heap.size wc (wc.alloc o) := (Below.refl _ _).alloc (Nat.le_refl _) _
 have hq : w5.heap[gu]? = wc.heap[gu]? := (hg.block gu (Nat.lt_of_lt_of_le hgu hb.size) hne).trans (hb.block gu hgu)
 exact ⟨(World.cell?_of_block (a := ⟨gu, i, none⟩) hq).trans hc, (World.frozen?_of_block (a := ⟨gu, i, none⟩) hq).trans hf, Nat.lt_of_lt_of_le hgu (Nat.le_trans hb.size hg.size)⟩
theorem grown_below {w W : World} (h : w.grownBy W none) : Below w.heap.size w W := ⟨h.os, h.tape, h.output, h.size, fun k hk => h.block k hk (by simp)⟩
theorem below_grown {w W : World} {N : Nat} (h : Below N w W) (hN : w.heap.size ≤ N) (br : Option Nat) : w.grownBy W br := ⟨h.os, h.tape, h.output, h.size, fun k hk _ => h.block k (Nat.lt_of_lt_of_le hk hN)⟩
theorem grown_then {w a b : World} {br : Option Nat} (h : w.grownBy a br) (hb : Below a.heap.size a b) : w.grownBy b br := h.andThen (below_grown hb (Nat.le_refl _) none) fun j e => by cases e
theorem grown_set {w a : World} {br : Option Nat} (h : w.grownBy a br) (p : Addr) (v : Value) (hp : w.heap.size ≤ p.block ∨ br = some p.block) : w.grownBy (a.setCell p v) br :=
 h.andThen (row' := some p.block) ⟨rfl, rfl, rfl, by show a.heap.size ≤ (a.heap.modify _ _).size; simp, fun k hk hne => set_block (fun e => hne (by rw [← e]))⟩ fun j e => by injection e with e; rw [← e]; exact hp
theorem grown_alloc {w a : World} {br : Option Nat} (h : w.grownBy a br) (o : Obj) : w.grownBy (a.alloc o) br := grown_then h ((Below.refl _ _).alloc (Nat.le_refl _) o)
def apY (lo Bd : Nat) (vi vm : Value) (B : Nat) : Prop := lo ≤ B ∧ B ≠ Bd ∧ some B ≠ vi.ownBlock ∧ some B ≠ vm.ownBlock
structure DtS (lo Bd N : Nat) (kd : Int) (A : List (Dat × Value × Value)) (M : List (List UInt8 × Dat × Value × Value)) (vi vm : Value) (W : World) : Prop where
 blk : Blk W Bd #[.int .i64 kd, .int .i64 0, .string ⟨#[]⟩, vi, vm] 25
 its : W.ownsRow N 25 5 vi A.length (flat5 A)
 mem : W.ownsRow N 43 6 vm M.length (flat6 M)
 ga : ∀ t ∈ A, Rep W (apY lo Bd vi vm) t.1 t.2.1 t.2.2
 gm : ∀ t ∈ M, Rep W (apY lo Bd vi vm) t.2.1 t.2.2.1 t.2.2.2
 nr : lo ≤ Bd ∧ Bd < N ∧ N ≤ W.heap.size
variable {lo Bd N : Nat} {kd : Int} {A : List (Dat × Value × Value)} {M : List (List UInt8 × Dat × Value × Value)} {vi vm : Value} {W : World}
theorem DtS.under {W' : World} (h : DtS lo Bd N kd A M vi vm W) (hb : Below W.heap.size W W') : DtS lo Bd N kd A M vi vm W' :=
 ⟨h.blk.below hb, own_under h.its hb, own_under h.mem hb, fun t ht => (h.ga t ht).under hb, fun t ht => (h.gm t ht).under hb, ⟨h.nr.1, h.nr.2.1, Nat.le_trans h.nr.2.2 hb.size⟩⟩
theorem DtS.grown {W' : World} {Br : Nat} (h : DtS lo Bd N kd A M vi vm W) (hg : W.grownBy W' (some Br)) (hr : Br < lo) : DtS lo Bd N kd A M vi vm W' := by
 obtain ⟨n1, n2, n3⟩ := h.nr
 have hne : ∀ B, lo ≤ B → some B ≠ some Br := fun B hB e => by injection e with e; omega
 have ho : ∀ {b s n : Nat} {e : TypeId} {v : Value} {xs : List Value}, W.ownsRow b e s v n xs → N ≤ b → v.ownBlock = none ∨ v.ownBlock ≠ some Br := fun hw hb => by
   rcases own_two hw with e | ⟨g, e, h1, -⟩
   · exact .inl e
   · exact .inr (by rw [e]; exact hne g (by omega))
 exact ⟨h.blk.kept hg (hne Bd n1), own_grown h.its hg (ho h.its (Nat.le_refl _)), own_grown h.mem hg (ho h.mem (Nat.le_refl _)), fun t ht => (h.ga t ht).grown hg fun B hB => hne B hB.1, fun t ht => (h.gm t ht).grown hg fun B hB => hne B hB.1, ⟨n1, n2, Nat.le_trans n3 hg.size⟩⟩
theorem DtS.item {W1 : World} (h : DtS lo Bd N kd A M vi vm W) {x : Dat} {xi xm v' : Value} (hx : Rep W (apY lo Bd vi vm) x xi xm)
   (ho : W1.ownsRow N 25 5 v' (A.length + 1) (flat5 A ++ cells5 (x, xi, xm))) (hg : W.grownBy W1 vi.ownBlock) (ha : v'.ownBlock = vi.ownBlock ∨ ∃ b, v'.ownBlock = some b ∧ W.heap.size ≤ b) :
   DtS lo Bd N kd (A ++ [(x, xi, xm)]) M v' vm (W1.setCell ⟨Bd, 3, none⟩ v') := by
 obtain ⟨n1, n2, n3⟩ := h.nr
 have hr : ∀ B, B < N → some B ≠ vi.ownBlock := fun B hB e => by have := (own_ge h.its e.symm).1; omega
 have hv' : v'.ownBlock ≠ some Bd := by
   rcases own_two ho with e | ⟨g, e, h1, -⟩
   · rw [e]; simp
   · rw [e]; intro e2; injection e2; omega
 have hmono : ∀ {d : Dat} {yi ym : Value}, Rep W (apY lo Bd vi vm) d yi ym → Rep (W1.setCell ⟨Bd, 3, none⟩ v') (apY lo Bd v' vm) d yi ym := fun hd => by
   have h1 := hd.mono (ok' := fun B => apY lo Bd v' vm B ∧ some B ≠ vi.ownBlock) (fun B hB ⟨a, b, d, e⟩ => ⟨⟨a, b, by
     rcases ha with e1 | ⟨b1, e1, h2⟩
     · rw [e1]; exact d
     · rw [e1]; intro e2; injection e2; omega, e⟩, d⟩)
   have h2 := h1.grown hg fun B hB => hB.2
   have h3 := h2.mono (ok' := apY lo Bd v' vm) fun B _ hB => hB.1
   exact h3.set _ _ fun B hB => fun e => hB.2.1 e.symm
 have hmem := own_grown h.mem hg (own_types h.mem h.its (by decide))
 refine ⟨(h.blk.kept hg (hr Bd (by omega))).set 3 v', ?_, ?_, ?_, ?_, ⟨n1, n2, ?_⟩⟩
 · rw [List.length_append, flat5_snoc]
   exact own_set_other ho hv' _ _
 · refine own_set_other hmem ?_ _ _
   rcases own_two hmem with e | ⟨g, e, h1, -⟩
   · rw [e]; simp
   · rw [e]; intro e2; injection e2; omega
 · intro t ht
   rcases List.mem_append.1 ht with ht | ht
   · exact hmono (h.ga t ht)
   · rw [List.mem_singleton.1 ht]; exact hmono hx
 · intro t ht
   exact hmono (h.gm t ht)
 · have := hg.size
   simp; omega
theorem DtS.memb {W1 : World} (h : DtS lo Bd N kd A M vi vm W) {l : List UInt8} {x : Dat} {xi xm v' : Value} (hx : Rep W (apY lo Bd vi vm) x xi xm)
   (ho : W1.ownsRow N 43 6 v' (M.length + 1) (flat6 M ++ cells6 (l, x, xi, xm))) (hg : W.grownBy W1 vm.ownBlock) (ha : v'.ownBlock = vm.ownBlock ∨ ∃ b, v'.ownBlock = some b ∧ W.heap.size ≤ b) :
   DtS lo Bd N kd A (M ++ [(l, x, xi, xm)]) vi v' (W1.setCell ⟨Bd, 4, none⟩ v') := by
 obtain ⟨n1, n2, n3⟩ := h.nr
 have hr : ∀ B, B < N → some B ≠ vm.ownBlock := fun B hB e => by have := (own_ge h.mem e.symm).1; omega
 have hv' : v'.ownBlock ≠ some Bd := by
   rcases own_two ho with e | ⟨g, e, h1, -⟩
   · rw [e]; simp
   · rw [e]; intro e2; injection e2; omega
 have hmono : ∀ {d : Dat} {yi ym : Value}, Rep W (apY lo Bd vi vm) d yi ym → Rep (W1.setCell ⟨Bd, 4, none⟩ v') (apY lo Bd vi v') d yi ym := fun hd => by
   have h1 := hd.mono (ok' := fun B => apY lo Bd vi v' B ∧ some B ≠ vm.ownBlock) (fun B hB ⟨a, b, d, e⟩ => ⟨⟨a, b, d, by
     rcases ha with e1 | ⟨b1, e1, h2⟩
     · rw [e1]; exact e
     · rw [e1]; intro e2; injection e2; omega⟩, e⟩)
   have h2 := h1.grown hg fun B hB => hB.2
   have h3 := h2.mono (ok' := apY lo Bd vi v') fun B _ hB => hB.1
   exact h3.set _ _ fun B hB => fun e => hB.2.1 e.symm
 have hits := own_grown h.its hg (own_types h.its h.mem (by decide))
 refine ⟨(h.blk.kept hg (hr Bd (by omega))).set 4 v', ?_, ?_, ?_, ?_, ⟨n1, n2, ?_⟩⟩
 · refine own_set_other hits ?_ _ _
   rcases own_two hits with e | ⟨g, e, h1, -⟩
   · rw [e]; simp
   · rw [e]; intro e2; injection e2; omega
 · rw [List.length_append, flat6_snoc]
   exact own_set_other ho hv' _ _
 · intro t ht
   exact hmono (h.ga t ht)
 · intro t ht
   rcases List.mem_append.1 ht with ht | ht
   · exact hmono (h.gm t ht)
   · rw [List.mem_singleton.1 ht]; exact hmono hx
 · have := hg.size
   simp; omega
theorem DtS.item_end {w5 : World} {v' : Value} {o : Obj} {x : Dat} {xi xm : Value} (h : DtS lo Bd N kd A M vi vm W) (hx : Rep W (apY lo Bd vi vm) x xi xm)
   (ho : w5.ownsRow N 25 5 v' (A.length + 1) (flat5 A ++ [.int .i64 x.k, .int .i64 x.n, .string (S x.s), xi, xm]))
   (hg : (W.alloc o).grownBy w5 vi.ownBlock) (ha : v'.ownBlock = vi.ownBlock ∨ v'.ownBlock = some (W.alloc o).heap.size) :
   DtS lo Bd N kd (A ++ [(x, xi, xm)]) M v' vm (w5.setCell ⟨Bd, 3, none⟩ v') := by
 have hb : Below W.heap.size W (W.alloc o) := (Below.refl _ _).alloc (Nat.le_refl _) _
 refine (h.under hb).item (hx.under hb) ho hg ?_
 rcases ha with e | e
 · exact .inl e
 · exact .inr ⟨_, e, Nat.le_refl _⟩
theorem DtS.memb_end {w5 : World} {v' : Value} {o : Obj} {l : List UInt8} {x : Dat} {xi xm : Value} (h : DtS lo Bd N kd A M vi vm W) (hx : Rep W (apY lo Bd vi vm) x xi xm)
   (ho : w5.ownsRow N 43 6 v' (M.length + 1) (flat6 M ++ [.string (S l), .int .i64 x.k, .int .i64 x.n, .string (S x.s), xi, xm]))
   (hg : (W.alloc o).grownBy w5 vm.ownBlock) (ha : v'.ownBlock = vm.ownBlock ∨ v'.ownBlock = some (W.alloc o).heap.size) :
   DtS lo Bd N kd A (M ++ [(l, x, xi, xm)]) vi v' (w5.setCell ⟨Bd, 4, none⟩ v') := by
 have hb : Below W.heap.size W (W.alloc o) := (Below.refl _ _).alloc (Nat.le_refl _) _
 refine (h.under hb).memb (hx.under hb) ho hg ?_
 rcases ha with e | e
 · exact .inl e
 · exact .inr ⟨_, e, Nat.le_refl _⟩
theorem grown_push {w w5 : World} {br : Option Nat} {b : Nat} {e : TypeId} {s n : Nat} {v v' : Value} {xs : List Value} {o : Obj} (h : w.grownBy W br) (hown : W.ownsRow b e s v n xs) (hb : w.heap.size ≤ b) (hg : (W.alloc o).grownBy w5 v.ownBlock) (i : Nat) (hB : w.heap.size ≤ Bd) :
   w.grownBy (w5.setCell ⟨Bd, i, none⟩ v') br := by
 refine grown_set ((grown_alloc h o).andThen hg fun j hj => .inl ?_) _ _ (.inl hB)
 have := (own_ge hown hj).1
 omega
theorem DtS.apart (h : DtS lo Bd N kd A M vi vm W) {K B : Nat} (hK : W.heap.size ≤ K) (hB : K ≤ B) : apY lo Bd vi vm B := by
 obtain ⟨n1, n2, n3⟩ := h.nr
 exact ⟨by omega, by omega, fun e => by have := (own_ge h.its e.symm).2; omega, fun e => by have := (own_ge h.mem e.symm).2; omega⟩
theorem DtS.rep (h : DtS lo Bd N kd A M vi vm W) (hl : A.length ≤ 1000000 ∧ M.length ≤ 1000000) :
   Rep W (fun B => lo ≤ B) (.mk kd 0 [] (A.map fun t => t.1) (M.map fun t => (t.1, t.2.1))) vi vm := by
 obtain ⟨n1, n2, n3⟩ := h.nr
 exact rep_own h.its h.mem ⟨by unfold maxLen; omega, by unfold maxLen; omega⟩ (fun B hB => by omega) (fun t ht => (h.ga t ht).mono fun B _ hB => hB.1) (fun t ht => (h.gm t ht).mono fun B _ hB => hB.1)
theorem DtS.kind (h : DtS lo Bd N kd A M vi vm W) (k : Int) : DtS lo Bd N k A M vi vm (W.setCell ⟨Bd, 0, none⟩ (.int .i64 k)) := by
 obtain ⟨n1, n2, n3⟩ := h.nr
 have hr : ∀ {b s n : Nat} {e : TypeId} {v : Value} {xs : List Value}, W.ownsRow b e s v n xs → N ≤ b → v.ownBlock ≠ some Bd := fun hw hb => by
   rcases own_two hw with e | ⟨g, e, h1, -⟩
   · rw [e]; simp
   · rw [e]; intro e2; injection e2; omega
 exact ⟨h.blk.set 0 _, own_set_other h.its (hr h.its (Nat.le_refl _)) _ _, own_set_other h.mem (hr h.mem (Nat.le_refl _)) _ _, fun t ht => (h.ga t ht).set _ _ fun B hB e => hB.2.1 e.symm, fun t ht => (h.gm t ht).set _ _ fun B hB e => hB.2.1 e.symm, ⟨n1, n2, by simpa using n3⟩⟩
theorem DtS.start (W : World) (kd : Int) (lo : Nat) (h : lo ≤ W.heap.size) : DtS lo W.heap.size (W.heap.size + 1) kd [] [] (.slice none 0 0) (.slice none 0 0) (W.alloc (.cells #[.int .i64 kd, .int .i64 0, .string ⟨#[]⟩, .slice none 0 0, .slice none 0 0] 25)) :=
 ⟨Blk.new _ _ _, World.ownsRow_nil _ _ _ _, World.ownsRow_nil _ _ _ _, by simp, by simp, ⟨h, Nat.lt_succ_self _, by simp⟩⟩
end
section
open Go.RowKit
def set5 (W : World) (B : Nat) (v0 v1 v2 v3 v4 : Value) : World := ((((W.setCell ⟨B, 0, none⟩ v0).setCell ⟨B, 1, none⟩ v1).setCell ⟨B, 2, none⟩ v2).setCell ⟨B, 3, none⟩ v3).setCell ⟨B, 4, none⟩ v4
theorem set5_grown {w W : World} {br : Option Nat} (h : w.grownBy W br) (B : Nat) (hB : w.heap.size ≤ B) (v0 v1 v2 v3 v4 : Value) : w.grownBy (set5 W B v0 v1 v2 v3 v4) br :=
 grown_set (grown_set (grown_set (grown_set (grown_set h _ _ (.inl hB)) _ _ (.inl hB)) _ _ (.inl hB)) _ _ (.inl hB)) _ _ (.inl hB)
theorem set5_blk {W : World} {C : Nat} {c : Array Value} {t : TypeId} (h : Blk W C c t) (B : Nat) (hB : B ≠ C) (v0 v1 v2 v3 v4 : Value) : Blk (set5 W B v0 v1 v2 v3 v4) C c t :=
 ((((h.set_other 0 v0 hB).set_other 1 v1 hB).set_other 2 v2 hB).set_other 3 v3 hB).set_other 4 v4 hB
theorem set5_rep {W : World} {ok : Nat → Prop} {d : Dat} {vi vm : Value} (h : Rep W ok d vi vm) (B : Nat) (hB : ∀ C, ok C → B ≠ C) (v0 v1 v2 v3 v4 : Value) : Rep (set5 W B v0 v1 v2 v3 v4) ok d vi vm :=
 ((((h.set _ _ hB).set _ _ hB).set _ _ hB).set _ _ hB).set _ _ hB
theorem dt_cells {lo Bd N : Nat} {kd : Int} {A : List (Dat × Value × Value)} {M : List (List UInt8 × Dat × Value × Value)} {vi vm : Value} {W : World} (h : DtS lo Bd N kd A M vi vm W) :
   W.cell? ⟨Bd, 0, none⟩ = some (.int .i64 kd) ∧ W.cell? ⟨Bd, 1, none⟩ = some (.int .i64 0) ∧ W.cell? ⟨Bd, 2, none⟩ = some (.string ⟨#[]⟩) ∧ W.cell? ⟨Bd, 3, none⟩ = some vi ∧ W.cell? ⟨Bd, 4, none⟩ = some vm ∧ Bd < W.heap.size :=
 ⟨h.blk.cell 0, h.blk.cell 1, h.blk.cell 2, h.blk.cell 3, h.blk.cell 4, h.blk.lt⟩
theorem zero_cells {W : World} {B : Nat} (h : Blk W B #[.int .i64 0, .int .i64 0, .string ⟨#[]⟩, .slice none 0 0, .slice none 0 0] 25) :
   (W.cell? ⟨B, 0, none⟩ = some (.int .i64 0) ∧ W.cell? ⟨B, 1, none⟩ = some (.int .i64 0) ∧ W.cell? ⟨B, 2, none⟩ = some (.string ⟨#[]⟩) ∧ W.cell? ⟨B, 3, none⟩ = some (.slice none 0 0) ∧ W.cell? ⟨B, 4, none⟩ = some (.slice none 0 0)) ∧
   (W.frozen? ⟨B, 0, none⟩ = false ∧ W.frozen? ⟨B, 1, none⟩ = false ∧ W.frozen? ⟨B, 2, none⟩ = false ∧ W.frozen? ⟨B, 3, none⟩ = false ∧ W.frozen? ⟨B, 4, none⟩ = false) ∧ B < W.heap.size :=
 ⟨⟨h.cell 0, h.cell 1, h.cell 2, h.cell 3, h.cell 4⟩, ⟨h.frozen 0, h.frozen 1, h.frozen 2, h.frozen 3, h.frozen 4⟩, h.lt⟩
end
section
open Go.RowKit
def PrsP (w : World) (r : Dat × Nat × Nat) (e : Ending) (w' : World) : Prop :=
 ∃ vi vm, e = .returned (.tuple #[dv r.1 vi vm, .agg #[.int .i64 (r.2.1 : Int), .int .i64 (r.2.2 : Int)]]) ∧ Rep w' (fun B => w.heap.size ≤ B) r.1 vi vm ∧ Below w.heap.size w w'
theorem PrsP.no (w : World) {w' : World} {n m : Nat} (hb : Below w.heap.size w w') : PrsP w (dat0, n, m) (.returned (.tuple #[.agg #[.int .i64 0, .int .i64 0, .string ⟨#[]⟩, .slice none 0 0, .slice none 0 0], .agg #[.int .i64 (n : Int), .int .i64 (m : Int)]])) w' :=
 ⟨.slice none 0 0, .slice none 0 0, rfl, rep_leaf w' _ rfl rfl none none 0 0, hb⟩
theorem PrsP.open {w w' : World} {r : Dat × Nat × Nat} {e : Ending} (h : PrsP w r e w') : ∃ p cap q caq, e = .returned (.tuple #[.agg #[.int .i64 r.1.k, .int .i64 r.1.n, .string (S r.1.s), .slice p r.1.its.length cap, .slice q r.1.mem.length caq], .agg #[.int .i64 (r.2.1 : Int), .int .i64 (r.2.2 : Int)]]) ∧ Rep w' (fun B => w.heap.size ≤ B) r.1 (.slice p r.1.its.length cap) (.slice q r.1.mem.length caq) ∧ Below w.heap.size w w' := by
 obtain ⟨vi, vm, rfl, hr, hb⟩ := h
 obtain ⟨p, cap, rfl, -, -⟩ := hr.items
 obtain ⟨q, caq, rfl, -, -⟩ := hr.members
 exact ⟨p, cap, q, caq, rfl, hr, hb⟩
theorem linesN_mem : ∀ (a : List (List UInt8)) (i : Nat) (x : Ln), x ∈ linesN a i → ∃ p ∈ a, ∃ j, lineOf p j = some x ∧ j ≤ i + a.length
 | [], i, x, h => by rw [linesN] at h; cases h
 | y :: r, i, x, h => by
   rw [linesN, List.mem_append] at h
   rcases h with h | h
   · cases hl : lineOf y (i + 1) with
     | none => rw [hl] at h; cases h
     | some z =>
       rw [hl] at h
       have : x = z := by simpa using h
       subst this
       exact ⟨y, List.mem_cons_self .., i + 1, hl, by rw [List.length_cons]; omega⟩
   · obtain ⟨p, hp, j, h1, h2⟩ := linesN_mem r (i + 1) x h
     exact ⟨p, List.mem_cons_of_mem _ hp, j, h1, by rw [List.length_cons]; omega⟩
theorem lines_facts {s : List UInt8} (hs : s.length ≤ 65536) : (linesY s).length ≤ 65537 ∧ (pieces s).length ≤ 65537 ∧ ∀ x ∈ linesY s, x.txt ≠ [] ∧ x.txt.length ≤ 65536 ∧ x.ind ≤ 65536 ∧ x.no ≤ 65537 := by
 have h1 := linesN_len (pieces s) 0
 have h2 := pieces_count s
 refine ⟨by show (linesN (pieces s) 0).length ≤ _; omega, by omega, fun x hx => ?_⟩
 obtain ⟨p, hp, j, h3, h4⟩ := linesN_mem _ _ _ hx
 have h5 := pieces_mem s p hp
 have h6 := dropS_len p
 rw [lineOf_drop] at h3
 split at h3
 · cases h3
 · rename_i hn
   injection h3 with h3
   subst h3
   exact ⟨fun h => hn (.inl h), by show (dropS p).length ≤ _; omega, by show (p.takeWhile fun c => c == 32).length ≤ _; omega, by show j ≤ _; omega⟩
theorem all_cons (x : Ln) (r : List Ln) (many : Nat) : allY (x :: r) many = if x.ind = 0 then (match valueY x.txt with
     | some d => (match r with | y :: _ => .error (19, y.no) | [] => .ok d)
     | none => (blkR many 0 0 [] [] (x :: r)).map fun p => p.1) else (blkR many 0 0 [] [] (x :: r)).map fun p => p.1 := rfl
end
section
open Go.RowKit
theorem dat_ext {a b : Dat} : a = b ↔ a.k = b.k ∧ a.n = b.n ∧ a.s = b.s ∧ a.its = b.its ∧ a.mem = b.mem := by
 cases a; cases b
 simp [Dat.k, Dat.n, Dat.s, Dat.its, Dat.mem]
def SamP (w : World) (a b : Dat) (e : Ending) (w' : World) : Prop := ∃ r : Bool, e = .returned (.bool r) ∧ (r = true ↔ a = b) ∧ Below w.heap.size w w'
theorem SamP.no {w w' : World} {a b : Dat} (hb : Below w.heap.size w w') (h : a ≠ b) : SamP w a b (.returned (.bool false)) w' := ⟨false, rfl, by simp [h], hb⟩
set_option maxRecDepth 100000 in
set_option maxHeartbeats 4000000 in
theorem same_top {a b : Dat} (p q p' q' : Option Addr) (c1 c2 c3 c4 : Nat) (w : World) (h : a.k ≠ b.k ∨ (a.k = b.k ∧ a.n ≠ b.n) ∨ (a.k = b.k ∧ a.n = b.n ∧ a.s ≠ b.s) ∨ (a.k = b.k ∧ a.n = b.n ∧ a.s = b.s ∧ a.its.length ≠ b.its.length) ∨ (a.k = b.k ∧ a.n = b.n ∧ a.s = b.s ∧ a.its.length = b.its.length ∧ a.mem.length ≠ b.mem.length)) :
   Calls Tryz.prog 20 #[.agg #[.int .i64 a.k, .int .i64 a.n, .string (S a.s), .slice p a.its.length c1, .slice q a.mem.length c2], .agg #[.int .i64 b.k, .int .i64 b.n, .string (S b.s), .slice p' b.its.length c3, .slice q' b.mem.length c4]] w (SamP w a b) := by
 have hne : a ≠ b := by
   intro e
   subst e
   rcases h with h | ⟨-, h⟩ | ⟨-, -, h⟩ | ⟨-, -, -, h⟩ | ⟨-, -, -, -, h⟩ <;> exact h rfl
 have HNE := Lib.hid hne
 have h2 := two_new w #[.int .i64 a.k, .int .i64 a.n, .string (S a.s), .slice p a.its.length c1, .slice q a.mem.length c2] #[.int .i64 b.k, .int .i64 b.n, .string (S b.s), .slice p' b.its.length c3, .slice q' b.mem.length c4] 25 25
 have HH := Lib.hid h
 clear h hne
 go_enter Tryz.func20, Tryz.ntmps20
 go_upto_region 1 with fail
 generalize (w.alloc (.cells #[.int .i64 a.k, .int .i64 a.n, .string (S a.s), .slice p a.its.length c1, .slice q a.mem.length c2] 25)).alloc (.cells #[.int .i64 b.k, .int .i64 b.n, .string (S b.s), .slice p' b.its.length c3, .slice q' b.mem.length c4] 25) = W at h2 ⊢
 have a0 := h2.1.cell 0
 have a1 := h2.1.cell 1
 have a2 := h2.1.cell 2
 have a3 := h2.1.cell 3
 have a4 := h2.1.cell 4
 have b0 := h2.2.1.cell 0
 have b1 := h2.2.1.cell 1
 have b2 := h2.2.1.cell 2
 have b3 := h2.2.1.cell 3
 have b4 := h2.2.1.cell 4
 simp at a0 a1 a2 a3 a4 b0 b1 b2 b3 b4
 have HB := Lib.hid h2.2.2
 clear h2
 rcases HH.out with h | ⟨e1, h⟩ | ⟨e1, e2, h⟩ | ⟨e1, e2, e3, h⟩ | ⟨e1, e2, e3, e4, h⟩
 · have t1 : (a.k != b.k) = true := by simpa using h
   clear h
   go_wp2_with fail
   go_ret
   exact SamP.no HB.out HNE.out
 · have t1 : (a.k != b.k) = false := by simpa using e1
   have t2 : (a.n != b.n) = true := by simpa using h
   clear h e1
   go_wp2_with fail
   go_ret
   exact SamP.no HB.out HNE.out
 · have t1 : (a.k != b.k) = false := by simpa using e1
   have t2 : (a.n != b.n) = false := by simpa using e2
   have t3 : (a.s != b.s) = true := by simpa using h
   have t4 : (a.s == b.s) = false := by simpa using h
   clear h e1 e2
   go_wp2_with fail
   go_ret
   exact SamP.no HB.out HNE.out
 · have t1 : (a.k != b.k) = false := by simpa using e1
   have t2 : (a.n != b.n) = false := by simpa using e2
   have t3 : (a.s != b.s) = false := by simpa using e3
   have t4 : (a.s == b.s) = true := by simpa using e3
   have t5 : ((a.its.length : Int) != (b.its.length : Int)) = true := by simp; omega
   have t6 : (a.its.length != b.its.length) = true := by simpa using h
   clear h e1 e2 e3
   go_wp2_with fail
   go_ret
   exact SamP.no HB.out HNE.out
 · have t1 : (a.k != b.k) = false := by simpa using e1
   have t2 : (a.n != b.n) = false := by simpa using e2
   have t3 : (a.s != b.s) = false := by simpa using e3
   have t4 : (a.s == b.s) = true := by simpa using e3
   have t5 : ((a.its.length : Int) != (b.its.length : Int)) = false := by simp; omega
   have t6 : (a.its.length != b.its.length) = false := by simpa using e4
   have t7 : ((a.mem.length : Int) != (b.mem.length : Int)) = true := by simp; omega
   have t8 : (a.mem.length != b.mem.length) = true := by simpa using h
   clear h e1 e2 e3 e4
   go_wp2_with fail
   go_ret
   exact SamP.no HB.out HNE.out
end
section
open Go.RowKit
theorem take_step {α : Type} {x y : List α} {i : Nat} (h : x.take i = y.take i) (hx : i < x.length) (hy : i < y.length) (he : x[i] = y[i]) : x.take (i + 1) = y.take (i + 1) := by
 rw [List.take_succ_eq_append_getElem hx, List.take_succ_eq_append_getElem hy, h, he]
set_option maxRecDepth 100000 in
set_option maxHeartbeats 8000000 in
theorem dSame_any (m : Nat) : ∀ (a b : Dat), SizeOf.sizeOf a < m → ∀ (vi vm ui um : Value) (ok ok' : Nat → Prop) (w : World), Rep w ok a vi vm → Rep w ok' b ui um → limD a = true → limD b = true →
   Calls Tryz.prog 20 #[.agg #[.int .i64 a.k, .int .i64 a.n, .string (S a.s), vi, vm], .agg #[.int .i64 b.k, .int .i64 b.n, .string (S b.s), ui, um]] w (SamP w a b) := by
 induction m with
 | zero => intro a b h; exact absurd h (Nat.not_lt_zero _)
 | succ m ih =>
   intro a b hd vi vm ui um ok ok' w hr hr' hla hlb
   obtain ⟨p, c1, rfl, -, hit⟩ := hr.items
   obtain ⟨q, c2, rfl, -, hme⟩ := hr.members
   obtain ⟨p', c3, rfl, -, hit'⟩ := hr'.items
   obtain ⟨q', c4, rfl, -, hme'⟩ := hr'.members
   by_cases e1 : a.k = b.k
   case neg => exact same_top p q p' q' c1 c2 c3 c4 w (.inl e1)
   by_cases e2 : a.n = b.n
   case neg => exact same_top p q p' q' c1 c2 c3 c4 w (.inr (.inl ⟨e1, e2⟩))
   by_cases e3 : a.s = b.s
   case neg => exact same_top p q p' q' c1 c2 c3 c4 w (.inr (.inr (.inl ⟨e1, e2, e3⟩)))
   by_cases e4 : a.its.length = b.its.length
   case neg => exact same_top p q p' q' c1 c2 c3 c4 w (.inr (.inr (.inr (.inl ⟨e1, e2, e3, e4⟩))))
   by_cases e5 : a.mem.length = b.mem.length
   case neg => exact same_top p q p' q' c1 c2 c3 c4 w (.inr (.inr (.inr (.inr ⟨e1, e2, e3, e4, e5⟩))))
   have HEX := Lib.hid (show a = b ↔ a.its = b.its ∧ a.mem = b.mem by rw [dat_ext]; simp [e1, e2, e3])
   obtain ⟨hl1, hl2, -⟩ := lim_len hla
   have HIT := Lib.hid hit
   have HIT' := Lib.hid hit'
   have HME := Lib.hid hme
   have HME' := Lib.hid hme'
   have HLA := Lib.hid hla
   have HLB := Lib.hid hlb
   have IH := Lib.hid ih
   have HD := Lib.hid hd
   have HE4 := Lib.hid e4
   have HE5 := Lib.hid e5
   have t1 : (a.k != b.k) = false := by simpa using e1
   have t2 : (a.n != b.n) = false := by simpa using e2
   have t3 : (a.s != b.s) = false := by simpa using e3
   have t4 : (a.s == b.s) = true := by simpa using e3
   have h2 := two_new w #[.int .i64 a.k, .int .i64 a.n, .string (S a.s), .slice p a.its.length c1, .slice q a.mem.length c2] #[.int .i64 b.k, .int .i64 b.n, .string (S b.s), .slice p' a.its.length c3, .slice q' a.mem.length c4] 25 25
   rw [← e4, ← e5]
   clear e1 e2 e3 e4 e5 hit hit' hme hme' hla hlb ih hd hr hr'
   go_enter Tryz.func20, Tryz.ntmps20
   go_upto_region 1 with fail
   generalize (w.alloc (.cells #[.int .i64 a.k, .int .i64 a.n, .string (S a.s), .slice p a.its.length c1, .slice q a.mem.length c2] 25)).alloc (.cells #[.int .i64 b.k, .int .i64 b.n, .string (S b.s), .slice p' a.its.length c3, .slice q' a.mem.length c4] 25) = W at h2 ⊢
   have a0 := h2.1.cell 0
   have a1 := h2.1.cell 1
   have a2 := h2.1.cell 2
   have a3 := h2.1.cell 3
   have a4 := h2.1.cell 4
   have b0 := h2.2.1.cell 0
   have b1 := h2.2.1.cell 1
   have b2 := h2.2.1.cell 2
   have b3 := h2.2.1.cell 3
   have b4 := h2.2.1.cell 4
   simp at a0 a1 a2 a3 a4 b0 b1 b2 b3 b4
   have H2 := Lib.hid h2
   clear h2
   go_wp2_with fail
   clear a0 a1 a2 a3 a4 b0 b1 b2 b3 b4 t1 t2 t3 t4
   go_loopw [5] (fun x wr => ∃ i : Nat, x = .int .i64 (i : Int) ∧ i ≤ a.its.length ∧ Hid (a.its.take i = b.its.take i) ∧ Hid (Below W.heap.size W wr)) (fun x _ => a.its.length - (intOf x).toNat)
   case atStart => exact ⟨0, rfl, Nat.zero_le _, Lib.hid rfl, Lib.hid (Below.refl _ _)⟩
   case round =>
     obtain ⟨i, rfl, hi, HT, HW⟩ := hrel
     have k3 := (H2.out.1.below HW.out).cell 3
     have m3 := (H2.out.2.1.below HW.out).cell 3
     simp at k3 m3
     by_cases hlt : i < a.its.length
     · have hlt' : i < b.its.length := by have := HE4.out; omega
       have hB0 := H2.out.2.2.trans (HW.out.mono H2.out.2.2.size)
       obtain ⟨B, o, xi, xm, rfl, hcap, hB, hc, hx⟩ := HIT.out i hlt
       obtain ⟨B', o', yi, ym, rfl, hcap', hB', hc', hy⟩ := HIT'.out i hlt'
       obtain ⟨x0, x1, x2, x3, x4⟩ := hc.below hB0 hB
       obtain ⟨y0, y1, y2, y3, y4⟩ := hc'.below hB0 hB'
       have hsz := hB0.size
       have HX := Lib.hid (hx.under hB0)
       have HY := Lib.hid (hy.under hB0)
       have HSZ := Lib.hid (Nat.lt_of_lt_of_le (dat_it (List.getElem_mem hlt)) (Nat.le_of_lt_succ HD.out))
       have HLX := Lib.hid (kid_lim HLA.out (List.mem_append_left _ (List.getElem_mem hlt)))
       have HLY := Lib.hid (kid_lim HLB.out (List.mem_append_left _ (List.getElem_mem hlt')))
       have HNX := Lib.hid (take_step HT.out hlt hlt')
       have HDF := Lib.hid (fun (h : a = b) => (show a.its[i] = b.its[i] by subst h; rfl))
       clear hc hc' hx hy
       generalize a.its[i] = x at x0 x1 x2 x3 x4 HX HSZ HLX HNX HDF
       generalize b.its[i] = y at y0 y1 y2 y3 y4 HY HLY HNX HDF
       have HKE := Lib.hid (fun w' (hb : Below wr.heap.size wr w') => (And.intro ((hb.cell (p := ⟨w.heap.size, 3, none⟩) (H2.out.1.below HW.out).lt).trans k3) (And.intro ((hb.cell (p := ⟨w.heap.size + 1, 3, none⟩) (H2.out.2.1.below HW.out).lt).trans m3) (And.intro ((hb.cell (p := ⟨B, o + i * 5, none⟩) (Nat.lt_of_lt_of_le hB hsz)).trans x0) (And.intro ((hb.cell (p := ⟨B, o + i * 5 + 1, none⟩) (Nat.lt_of_lt_of_le hB hsz)).trans x1) (And.intro ((hb.cell (p := ⟨B, o + i * 5 + 2, none⟩) (Nat.lt_of_lt_of_le hB hsz)).trans x2) (And.intro ((hb.cell (p := ⟨B, o + i * 5 + 3, none⟩) (Nat.lt_of_lt_of_le hB hsz)).trans x3) (And.intro ((hb.cell (p := ⟨B, o + i * 5 + 4, none⟩) (Nat.lt_of_lt_of_le hB hsz)).trans x4) (And.intro ((hb.cell (p := ⟨B', o' + i * 5, none⟩) (Nat.lt_of_lt_of_le hB' hsz)).trans y0) (And.intro ((hb.cell (p := ⟨B', o' + i * 5 + 1, none⟩) (Nat.lt_of_lt_of_le hB' hsz)).trans y1) (And.intro ((hb.cell (p := ⟨B', o' + i * 5 + 2, none⟩) (Nat.lt_of_lt_of_le hB' hsz)).trans y2) (And.intro ((hb.cell (p := ⟨B', o' + i * 5 + 3, none⟩) (Nat.lt_of_lt_of_le hB' hsz)).trans y3) ((hb.cell (p := ⟨B', o' + i * 5 + 4, none⟩) (Nat.lt_of_lt_of_le hB' hsz)).trans y4)))))))))))))
       have HB0 := Lib.hid (below_drew (Below.refl wr.heap.size wr))
       go_upto_region 6 with fail
       clear k3 m3 x0 x1 x2 x3 x4 y0 y1 y2 y3 y4
       go_region_held3 (fun w' => w'.cell? ⟨w.heap.size, 3, none⟩ = some (.slice (some ⟨B, o, none⟩) a.its.length c1) ∧ w'.cell? ⟨w.heap.size + 1, 3, none⟩ = some (.slice (some ⟨B', o', none⟩) a.its.length c3) ∧ w'.cell? ⟨B, o + i * 5, none⟩ = some (.int .i64 x.k) ∧ w'.cell? ⟨B, o + i * 5 + 1, none⟩ = some (.int .i64 x.n) ∧ w'.cell? ⟨B, o + i * 5 + 2, none⟩ = some (.string (S x.s)) ∧ w'.cell? ⟨B, o + i * 5 + 3, none⟩ = some (xi) ∧ w'.cell? ⟨B, o + i * 5 + 4, none⟩ = some (xm) ∧ w'.cell? ⟨B', o' + i * 5, none⟩ = some (.int .i64 y.k) ∧ w'.cell? ⟨B', o' + i * 5 + 1, none⟩ = some (.int .i64 y.n) ∧ w'.cell? ⟨B', o' + i * 5 + 2, none⟩ = some (.string (S y.s)) ∧ w'.cell? ⟨B', o' + i * 5 + 3, none⟩ = some (yi) ∧ w'.cell? ⟨B', o' + i * 5 + 4, none⟩ = some (ym))
         (first
           | with_reducible exact HKE.out _ HB0.out
           | with_reducible exact HKE.out _ HB1.out
           | go_keep)
         (first
           | (go_at_call 20; refine (IH.out x y HSZ.out xi xm yi ym ok ok' _ (HX.out.under HB0.out) (HY.out.under HB0.out) HLX.out HLY.out).mono ?_; rintro e w9 ⟨r, rfl, hr9, hb9⟩; have HR9 := Lib.hid hr9; have HB1 := Lib.hid (HB0.out.trans (hb9.mono HB0.out.size)); clear hr9 hb9))
       all_goals
         have HW9 := Lib.hid (HW.out.trans (HB1.out.mono HW.out.size))
         rcases Bool.eq_false_or_eq_true r with rfl | rfl
         · have HT9 := Lib.hid (HNX.out (HR9.out.1 rfl))
           go_wp2_with fail
           go_roundw
           case rel => exact ⟨i + 1, by go_num, hlt, HT9, HW9⟩
           case measure => simp [intOf]; omega
         · have HN9 := Lib.hid (show a ≠ b from fun h => by have := HR9.out.2 (HDF.out h); cases this)
           go_wp2_with fail
           go_ret
           exact SamP.no (H2.out.2.2.trans (HW9.out.mono H2.out.2.2.size)) HN9.out
     · have hits : a.its = b.its := by
         have h := HT.out
         rw [List.take_of_length_le (by omega), List.take_of_length_le (by have := HE4.out; omega)] at h
         exact h
       have HITS := Lib.hid hits
       clear hits HT
       go_wp2_with fail
       clear k3 m3 hlt hi
       go_loopw [6] (fun x wz => ∃ j : Nat, x = .int .i64 (j : Int) ∧ j ≤ a.mem.length ∧ Hid (a.mem.take j = b.mem.take j) ∧ Hid (Below W.heap.size W wz)) (fun x _ => a.mem.length - (intOf x).toNat)
       case atStart => exact ⟨0, rfl, Nat.zero_le _, Lib.hid rfl, HW⟩
       case round =>
         clear HW
         obtain ⟨j, rfl, hj, HT, HZ⟩ := hrel
         by_cases hlt : j < a.mem.length
         · have hlt' : j < b.mem.length := by have := HE5.out; omega
           have k4 := (H2.out.1.below HZ.out).cell 4
           have m4 := (H2.out.2.1.below HZ.out).cell 4
           simp at k4 m4
           have hB0 := H2.out.2.2.trans (HZ.out.mono H2.out.2.2.size)
           obtain ⟨B, o, xi, xm, rfl, hcap, hB, x0, hc, hx⟩ := HME.out j hlt
           obtain ⟨B', o', yi, ym, rfl, hcap', hB', y0, hc', hy⟩ := HME'.out j hlt'
           obtain ⟨x1, x2, x3, x4, x5⟩ := hc.below hB0 hB
           obtain ⟨y1, y2, y3, y4, y5⟩ := hc'.below hB0 hB'
           replace x0 := (hB0.cell (p := ⟨B, o + j * 6, none⟩) hB).trans x0
           replace y0 := (hB0.cell (p := ⟨B', o' + j * 6, none⟩) hB').trans y0
           have hsz := hB0.size
           have HX := Lib.hid (hx.under hB0)
           have HY := Lib.hid (hy.under hB0)
           have HSZ := Lib.hid (Nat.lt_of_lt_of_le (dat_mg (List.getElem_mem hlt)) (Nat.le_of_lt_succ HD.out))
           have HLX := Lib.hid ((lim_iff.1 HLA.out).2.2.2.2 _ (List.getElem_mem hlt)).2
           have HLY := Lib.hid ((lim_iff.1 HLB.out).2.2.2.2 _ (List.getElem_mem hlt')).2
           have HNX := Lib.hid (take_step HT.out hlt hlt')
           have HDF := Lib.hid (fun (h : a = b) => (show a.mem[j] = b.mem[j] by subst h; rfl))
           clear hc hc' hx hy
           generalize a.mem[j] = tx at x0 x1 x2 x3 x4 x5 HX HSZ HLX HNX HDF
           generalize b.mem[j] = ty at y0 y1 y2 y3 y4 y5 HY HLY HNX HDF
           obtain ⟨la, x⟩ := tx
           obtain ⟨lb, y⟩ := ty
           simp only at x0 x1 x2 x3 x4 x5 y0 y1 y2 y3 y4 y5 HX HY HSZ HLX HLY HNX HDF
           have HKE := Lib.hid (fun w' (hb : Below wr.heap.size wr w') => (And.intro ((hb.cell (p := ⟨w.heap.size, 4, none⟩) (H2.out.1.below HZ.out).lt).trans k4) (And.intro ((hb.cell (p := ⟨w.heap.size + 1, 4, none⟩) (H2.out.2.1.below HZ.out).lt).trans m4) (And.intro ((hb.cell (p := ⟨B, o + j * 6, none⟩) (Nat.lt_of_lt_of_le hB hsz)).trans x0) (And.intro ((hb.cell (p := ⟨B, o + j * 6 + 1, none⟩) (Nat.lt_of_lt_of_le hB hsz)).trans x1) (And.intro ((hb.cell (p := ⟨B, o + j * 6 + 2, none⟩) (Nat.lt_of_lt_of_le hB hsz)).trans x2) (And.intro ((hb.cell (p := ⟨B, o + j * 6 + 3, none⟩) (Nat.lt_of_lt_of_le hB hsz)).trans x3) (And.intro ((hb.cell (p := ⟨B, o + j * 6 + 4, none⟩) (Nat.lt_of_lt_of_le hB hsz)).trans x4) (And.intro ((hb.cell (p := ⟨B, o + j * 6 + 5, none⟩) (Nat.lt_of_lt_of_le hB hsz)).trans x5) (And.intro ((hb.cell (p := ⟨B', o' + j * 6, none⟩) (Nat.lt_of_lt_of_le hB' hsz)).trans y0) (And.intro ((hb.cell (p := ⟨B', o' + j * 6 + 1, none⟩) (Nat.lt_of_lt_of_le hB' hsz)).trans y1) (And.intro ((hb.cell (p := ⟨B', o' + j * 6 + 2, none⟩) (Nat.lt_of_lt_of_le hB' hsz)).trans y2) (And.intro ((hb.cell (p := ⟨B', o' + j * 6 + 3, none⟩) (Nat.lt_of_lt_of_le hB' hsz)).trans y3) (And.intro ((hb.cell (p := ⟨B', o' + j * 6 + 4, none⟩) (Nat.lt_of_lt_of_le hB' hsz)).trans y4) ((hb.cell (p := ⟨B', o' + j * 6 + 5, none⟩) (Nat.lt_of_lt_of_le hB' hsz)).trans y5)))))))))))))))
           have HB0 := Lib.hid (below_drew (Below.refl wr.heap.size wr))
           have hun : undef = Value.tuple #[] := rfl
           go_upto_region 11 with fail
           by_cases hl : la = lb
           · have t1 : (la != lb) = false := by simpa using hl
             have t2 : (la == lb) = true := by simpa using hl
             have HL := Lib.hid hl
             clear hl k4 m4 x0 x1 x2 x3 x4 x5 y0 y1 y2 y3 y4 y5
             go_region_held3 (fun w' => w'.cell? ⟨w.heap.size, 4, none⟩ = some (.slice (some ⟨B, o, none⟩) a.mem.length c2) ∧ w'.cell? ⟨w.heap.size + 1, 4, none⟩ = some (.slice (some ⟨B', o', none⟩) a.mem.length c4) ∧ w'.cell? ⟨B, o + j * 6, none⟩ = some (.string (S la)) ∧ w'.cell? ⟨B, o + j * 6 + 1, none⟩ = some (.int .i64 x.k) ∧ w'.cell? ⟨B, o + j * 6 + 2, none⟩ = some (.int .i64 x.n) ∧ w'.cell? ⟨B, o + j * 6 + 3, none⟩ = some (.string (S x.s)) ∧ w'.cell? ⟨B, o + j * 6 + 4, none⟩ = some (xi) ∧ w'.cell? ⟨B, o + j * 6 + 5, none⟩ = some (xm) ∧ w'.cell? ⟨B', o' + j * 6, none⟩ = some (.string (S lb)) ∧ w'.cell? ⟨B', o' + j * 6 + 1, none⟩ = some (.int .i64 y.k) ∧ w'.cell? ⟨B', o' + j * 6 + 2, none⟩ = some (.int .i64 y.n) ∧ w'.cell? ⟨B', o' + j * 6 + 3, none⟩ = some (.string (S y.s)) ∧ w'.cell? ⟨B', o' + j * 6 + 4, none⟩ = some (yi) ∧ w'.cell? ⟨B', o' + j * 6 + 5, none⟩ = some (ym))
               (first
                 | with_reducible exact HKE.out _ HB0.out
                 | with_reducible exact HKE.out _ HB1.out
                 | go_keep)
               (first
                 | (go_at_call 20; refine (IH.out x y HSZ.out xi xm yi ym ok ok' _ (HX.out.under HB0.out) (HY.out.under HB0.out) HLX.out HLY.out).mono ?_; rintro e w9 ⟨r, rfl, hr9, hb9⟩; have HR9 := Lib.hid hr9; have HB1 := Lib.hid (HB0.out.trans (hb9.mono HB0.out.size)); clear hr9 hb9))
             all_goals
               have HW9 := Lib.hid (HZ.out.trans (HB1.out.mono HZ.out.size))
               rcases Bool.eq_false_or_eq_true r with rfl | rfl
               · have HT9 := Lib.hid (HNX.out (by rw [HL.out, HR9.out.1 rfl]))
                 go_wp2_with fail
                 go_roundw
                 case rel => exact ⟨j + 1, by go_num, hlt, HT9, HW9⟩
                 case measure => simp [intOf]; omega
               · have HN9 := Lib.hid (show a ≠ b from fun h => by have h1 := HDF.out h; injection h1 with _ h1; have := HR9.out.2 h1; cases this)
                 go_wp2_with fail
                 go_ret
                 exact SamP.no (H2.out.2.2.trans (HW9.out.mono H2.out.2.2.size)) HN9.out
           · have t1 : (la != lb) = true := by simpa using hl
             have t2 : (la == lb) = false := by simpa using hl
             have HN9 := Lib.hid (show a ≠ b from fun h => hl (by have h1 := HDF.out h; injection h1))
             clear hl
             clear HKE HB0
             have HB0 := Lib.hid hB0
             clear hB0
             go_quiet (fail)
             go_wp2_with fail
             go_ret
             exact SamP.no (below_drewN HB0.out nq) HN9.out
         · have hmem : a.mem = b.mem := by
             have h := HT.out
             rw [List.take_of_length_le (by omega), List.take_of_length_le (by have := HE5.out; omega)] at h
             exact h
           have HEQ := Lib.hid (HEX.out.2 ⟨HITS.out, hmem⟩)
           have k4 := (H2.out.1.below HZ.out).cell 4
           simp at k4
           clear hmem
           go_wp2_with fail
           go_ret
           exact ⟨true, rfl, ⟨fun _ => HEQ.out, fun _ => rfl⟩, H2.out.2.2.trans (HZ.out.mono H2.out.2.2.size)⟩
end
section
open Go.RowKit
section
variable {P : Program} (w : World)
theorem run_app_nil (base : Nat) (t ty e : TypeId) (i : TypeInfo) (size : Nat) (ht : P.underlying t = some (.slice e)) (hi : P.info? e = some i) (v : Value) (n : Nat) (xs : List Value) (hown : w.ownsRow base e size v n xs) (c : Nat) :
   (Builtin.append_ #[t, t] ty #[v, .slice none 0 c]).run P w = .ok v w := by
 rcases hown.2 with ⟨rfl, rfl⟩ | ⟨g, cap, cur, rfl, _, _, hnc, _⟩
 · simp [Builtin.append_, run_underlying ht, sizeOf, typeInfo, hi, Builtin.lenOf, Builtin.firstCells]
 · simp [Builtin.append_, run_underlying ht, sizeOf, typeInfo, hi, Builtin.lenOf, Builtin.firstCells, hnc, storeCells]
def Src (w : World) (size : Nat) (p : Option Addr) (m : Nat) (news : List Value) : Prop :=
 news.length = m * size ∧ (p = none → m = 0) ∧ (∀ a, p = some a → ∀ j u, news[j]? = some u → w.cell? (a.add j) = some u) ∧ ∀ u ∈ news, u.oneCell' = true
theorem run_appd (base : Nat) (t ty e : TypeId) (i : TypeInfo) (z : Value) (size bytes : Nat) (ht : P.underlying t = some (.slice e)) (hi : P.info? e = some i) (hz : i.zero = some z)
   (hsize : i.size = size) (hby : i.bytes = bytes) (hzs : z.cells.size = size) (hsz : 0 < size) (v : Value) (n : Nat) (xs : List Value) (hown : w.ownsRow base e size v n xs)
   (p : Option Addr) (m c : Nat) (news : List Value) (hr : Src w size p m news) (h63 : n + m ≤ maxLen) (hbytes : (n + m) * bytes ≤ 140737488355328) (hbase : base ≤ w.heap.size) :
   ∃ v' w', (Builtin.append_ #[t, t] ty #[v, .slice p m c]).run P w = .ok v' w' ∧ w'.ownsRow base e size v' (n + m) (xs ++ news) ∧ w.grownBy w' v.ownBlock ∧ (v'.ownBlock = v.ownBlock ∨ v'.ownBlock = some w.heap.size) := by
 obtain ⟨hl, h0, hp, h1⟩ := hr
 cases p with
 | none =>
   obtain rfl := h0 rfl
   obtain rfl : news = [] := List.length_eq_zero_iff.1 (by omega)
   exact ⟨v, w, run_app_nil w base t ty e i size ht hi v n xs hown c, by simpa using hown, World.grownBy.refl w _, .inl rfl⟩
 | some a =>
   obtain ⟨v', w', hrun, h2, h3, -, h5⟩ := run_append_own_at (P := P) w base t ty e i z size bytes ht hi hz hsize hby hzs hsz v n xs hown a m c news hl (hp a rfl) h1 h63 hbytes hbase
   exact ⟨v', w', hrun, h2, h3, h5⟩
theorem wp_app {o : Oper} {a : Act} {K : Act → World → Prop} {Q : Exit → Act → World → Prop} (s x : Operand) (t : TypeId)
   (ho : o.op = .call { callee := .builtin .append, args := #[s, x], argTypes := #[t, t] })
   (base : Nat) (e : TypeId) (i : TypeInfo) (z : Value) (size bytes : Nat) (ht : P.underlying t = some (.slice e)) (hi : P.info? e = some i) (hz : i.zero = some z)
   (hsize : i.size = size) (hby : i.bytes = bytes) (hzs : z.cells.size = size) (hsz : 0 < size) (v : Value) (n : Nat) (xs : List Value) (hs : a.eval s = v) (hown : w.ownsRow base e size v n xs)
   (p : Option Addr) (m c : Nat) (news : List Value) (hx : a.eval x = .slice p m c) (hr : Src w size p m news) (h63 : n + m ≤ maxLen) (hbytes : (n + m) * bytes ≤ 140737488355328) (hbase : base ≤ w.heap.size)
   (h : ∀ v' w', w'.ownsRow base e size v' (n + m) (xs ++ news) → w.grownBy w' v.ownBlock → (v'.ownBlock = v.ownBlock ∨ v'.ownBlock = some w.heap.size) → K (a.put o.dst v') w') : o.wp P a w K Q := by
 obtain ⟨v', w', hrun, h2, h3, h4⟩ := run_appd (P := P) w base t o.type e i z size bytes ht hi hz hsize hby hzs hsz v n xs hown p m c news hr h63 hbytes hbase
 unfold Oper.wp execOp
 simp only [ho, resolve, invoke, builtin, Sem.run_bind, Sem.run_pure, Result.andThen_ok, List.map_toArray, List.map_cons, List.map_nil, hs, hx, hrun]
 exact h v' w' h2 h3 h4
theorem wpList_app {ops : Array Oper} {rest : List Oper} {o : Oper} {a : Act} {Q : Exit → Act → World → Prop} (hgd : o.guard = none) (s x : Operand) (t : TypeId)
   (ho : o.op = .call { callee := .builtin .append, args := #[s, x], argTypes := #[t, t] })
   (base : Nat) (e : TypeId) (i : TypeInfo) (z : Value) (size bytes : Nat) (ht : P.underlying t = some (.slice e)) (hi : P.info? e = some i) (hz : i.zero = some z)
   (hsize : i.size = size) (hby : i.bytes = bytes) (hzs : z.cells.size = size) (hsz : 0 < size) (v : Value) (n : Nat) (xs : List Value) (hs : a.eval s = v) (hown : w.ownsRow base e size v n xs)
   (p : Option Addr) (m c : Nat) (news : List Value) (hx : a.eval x = .slice p m c) (hr : Src w size p m news) (h63 : n + m ≤ maxLen) (hbytes : (n + m) * bytes ≤ 140737488355328) (hbase : base ≤ w.heap.size)
   (h : ∀ v' w', w'.ownsRow base e size v' (n + m) (xs ++ news) → w.grownBy w' v.ownBlock → (v'.ownBlock = v.ownBlock ∨ v'.ownBlock = some w.heap.size) → wpList P ops Q rest (a.put o.dst v') w') : wpList P ops Q (o :: rest) a w :=
 wpList_plain hgd fun _ hK => wp_app w s x t ho base e i z size bytes ht hi hz hsize hby hzs hsz v n xs hs hown p m c news hx hr h63 hbytes hbase fun v' w' h2 h3 h4 => hK _ _ (h v' w' h2 h3 h4)
end
theorem own_empty (w : World) {t : TypeId} {size : Nat} : (w.alloc (.cells #[] t)).ownsRow w.heap.size t size (.slice (some ⟨w.heap.size, 0, none⟩) 0 0) 0 [] :=
 World.ownsRow_made w #[] 0 (Nat.le_refl _) (Nat.zero_le _) (by simp)
theorem Src.below {w w' : World} {size : Nat} {p : Option Addr} {m : Nat} {news : List Value} (h : Src w size p m news) (hb : Below w.heap.size w w') (hlt : ∀ a, p = some a → 0 < news.length → a.block < w.heap.size) : Src w' size p m news := by
 refine ⟨h.1, h.2.1, fun a ha j u hu => ?_, h.2.2.2⟩
 have hl : a.block < w.heap.size := hlt a ha (Nat.lt_of_le_of_lt (Nat.zero_le _) (List.getElem?_eq_some_iff.1 hu).1)
 have h1 := h.2.2.1 a ha j u hu
 exact (hb.cell (p := a.add j) (by rw [show (a.add j).block = a.block by unfold Addr.add; split <;> rfl]; exact hl)).trans h1
theorem new_srcN {size : Nat} (x : World) (cs : Array Value) (t : TypeId) {vs : List Value} {m : Nat} (hv : cs.toList = vs := by rfl) (hl : vs.length = m * size := by rfl) (ho : ∀ u ∈ vs, u.oneCell' = true := by simp [Value.oneCell']) : Src (x.alloc (.cells cs t)) size (some ⟨x.heap.size, 0, none⟩) m vs :=
 ⟨hl, by simp, fun a ha j u hu => by injection ha with ha; subst ha; exact cells_new_at rfl hv j u hu, ho⟩
end
section
open Go.ChangeShapes Go.WideShapes Go.RowKit
section
variable {P : Program} {H : Type} {enc : TypeId × Value → H} {W : World} {D SD M SM I L Str : TypeId} {f0 f1 f2 f3 f4 g0 g1 : Field} {base : Nat} {spare : Nat → Bool} {held : Bool}
variable {St SSt E SE : TypeId} {s0 s1 h0 h1 : Field}
end
end
section
open Go.ChangeShapes Go.WideShapes Go.ChangeAt Go.RowKit
theorem datTy : ∃ f0 f1 f2 f3 f4 g0 g1, DatTy Tryz.prog 25 22 43 23 3 2 9 f0 f1 f2 f3 f4 g0 g1 :=
 ⟨_, _, _, _, _, _, _, ⟨Tryz.underlying25, Tryz.underlying43, Tryz.underlying22, Tryz.underlying23, Tryz.underlying3, Tryz.underlying2, Tryz.underlying9,
   by kernel_rfl, by kernel_rfl, by kernel_rfl, by kernel_rfl, by kernel_rfl, by kernel_rfl, by kernel_rfl, ⟨rfl, rfl, rfl, rfl, rfl, rfl, rfl⟩, ⟨rfl, rfl, rfl, rfl, rfl, rfl, rfl⟩⟩⟩
def slicesB (P : Program) : Bool := (List.range P.types.size).all fun t => match P.underlying t with | some (.slice e) => decide (0 < P.cellsOf e) | _ => true
theorem seat_slices : slicesB Tryz.prog = true := by kernel_rfl
theorem reads_one {P : Program} {H : Type} {enc : TypeId × Value → H} {W : World} (hl : laidOutB P = true) (hm : mapsRowed P = true) (hz : slicesB P = true)
   {t : TypeId} (ht : t < P.types.size) {v : Value} {d : DataW H} {p : List MemPlace} (h : DataW.Trod enc P W 0 (fun _ => true) true t v d p) {W' : World} (hb : Below W.heap.size W W') :
   DataW.Trod enc P W' 0 (fun b => decide (b < W.heap.size)) true t v d p := reads_on hl hm (by unfold slicesB at hz; exact hz) ht h hb
theorem seat_laid : laidOutB Tryz.prog = true := by kernel_rfl
theorem seat_maps : mapsRowed Tryz.prog = true := by kernel_rfl
theorem seat_dat : 25 < Tryz.prog.types.size := of_decide_eq_true (by kernel_rfl)
set_option maxRecDepth 100000 in
theorem data_open {H : Type} {enc : TypeId × Value → H} {W : World} {base : Nat} {v : Value} {d : DataW H} {p : List MemPlace} (hok : Value.okWide Tryz.prog W .any base 25 v)
   (h : DataW.Trod enc Tryz.prog W 0 (fun _ => true) true 25 v d p) : ∃ x vi vm, v = .agg #[.int .i64 x.k, .int .i64 x.n, .string (S x.s), vi, vm] ∧ Rep W (fun _ => True) x vi vm ∧ ∀ W', Below W.heap.size W W' → DataW.Trod enc Tryz.prog W' 0 (fun b => decide (b < W.heap.size)) true 25 v d p := by
 have hr := fun W' hb => reads_one seat_laid seat_maps seat_slices seat_dat h (W' := W') hb
 obtain ⟨cs, rfl, -⟩ := okWide_struct Tryz.underlying25 hok
 obtain ⟨n, hn⟩ := h
 obtain ⟨f0, f1, f2, f3, f4, g0, g1, T⟩ := datTy
 obtain ⟨x, vi, vm, hc, hx⟩ := dat_cells T n _ _ hn
 refine ⟨x, vi, vm, ?_, hx, hr⟩
 have e : cs.toList = [.int .i64 x.k, .int .i64 x.n, .string (S x.s), vi, vm] := by simpa [Value.cells] using hc
 obtain ⟨cs⟩ := cs
 simp only at e
 rw [e]
end
end Go.Proofs.YtdalfkklkeblaaaGreatDoor
