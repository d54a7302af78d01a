import Derived.Test.YtdalfkklkeblaaaGreatDoorN01
import Derived.Test.YtdalfkklkeblaaaGreatDoorN22
namespace Go.Proofs.YtdalfkklkeblaaaGreatDoor
set_option linter.unusedSimpArgs false
set_option linter.unusedVariables false
section
open Go.Shelf Go.RowKit Go.Lib Go.Sort
variable {P : Program} {k : Nat} {α : Type} [Inhabited α]
set_option linter.unusedSectionVars false
theorem list_one {l : List α} (h : l.length = 1) : ∃ x, l = [x] := by
 cases l with
 | nil => cases h
 | cons x r => cases r with
   | nil => exact ⟨x, rfl⟩
   | cons y r => simp at h
theorem sym_ih (H : MsP P k) (enc : α → List Value) (cf : α → α → Int) (hO : SWO (ltOf cf)) (g : Nat) (cb : Array Value) (blk off cap N : Nat) (d0 : Array α) (w0 : World)
   (eg : ∀ args w, (callFunc g args).run P w = .ok (.enter g args) w) (hcmp : CmpLays P g cb enc k cf blk off d0.size w0) (R : RowK enc k w0 blk off d0) (hs : d0.size = N) (hsz : N < 2305843009213693952) : ∀ n, SymIH P enc k cf g cb blk off cap N w0 n
 | 0 => fun _ _ _ _ _ _ _ _ h => absurd h (Nat.not_lt_zero _)
 | n + 1 => by
   intro A X Y Q w a m b hn hl hX hY sX sY S ha hm hb
   by_cases h1 : X.length = 1
   · obtain ⟨x, rfl⟩ := list_one h1
     exact sym_left H enc cf hO g cb blk off cap N d0 A Y Q x w0 w eg hcmp R hs (by simpa using hl) hY sY S a m b ha (by simpa using hm) (by simpa using hb) (by omega)
   · by_cases h2 : Y.length = 1
     · obtain ⟨y, rfl⟩ := list_one h2
       exact sym_right H enc cf hO g cb blk off cap N d0 A X Q y w0 w eg hcmp R hs (by simpa using hl) (by omega) sX S a m b ha hm (by simpa using hb) (by omega)
     · refine sym_both H enc cf hO g cb blk off cap N d0 A X Y Q w0 w eg hcmp R hs hl (by omega) (by omega) sX sY S a m b ha hm hb hsz ?_
       intro A' X' Y' Q' w' a' m' b' hn'
       exact sym_ih H enc cf hO g cb blk off cap N d0 w0 eg hcmp R hs hsz n A' X' Y' Q' w' a' m' b' (by omega)
theorem srt_of {lt : α → α → Bool} {d : Array α} {a b : Nat} (h : SortedIn lt a b d) (hb : b ≤ d.size) : srtL lt ((d.toList.take b).drop a) := by
 unfold srtL
 rw [List.pairwise_iff_getElem]
 intro i j hi hj hij
 rw [List.length_drop, List.length_take] at hi hj
 have hl : d.toList.length = d.size := Array.length_toList
 have := h (a + i) (a + j) (by omega) (by omega) (by omega)
 rw [getElem!_pos d (a + j) (by omega), getElem!_pos d (a + i) (by omega)] at this
 simpa using this
theorem row_cut {d : Array α} {a m b : Nat} (h1 : a ≤ m) (h2 : m ≤ b) (h3 : b ≤ d.size) :
   ∃ A X Y Q : List α, d = (A ++ X ++ Y ++ Q).toArray ∧ A.length = a ∧ X.length = m - a ∧ Y.length = b - m ∧ Q.length = d.size - b ∧ X = (d.toList.take m).drop a ∧ Y = (d.toList.take b).drop m := by
 have hl : d.toList.length = d.size := Array.length_toList
 refine ⟨d.toList.take a, (d.toList.take m).drop a, (d.toList.take b).drop m, d.toList.drop b, ?_, by simp; omega, by simp; omega, by simp; omega, by simp, rfl, rfl⟩
 have e1 : d.toList.take a ++ (d.toList.take m).drop a = d.toList.take m := by
   rw [← List.take_append_drop a (d.toList.take m), List.take_take, Nat.min_eq_left h1]
   congr 1
   rw [List.drop_append]
   simp
   omega
 have e2 : d.toList.take m ++ (d.toList.take b).drop m = d.toList.take b := by
   rw [← List.take_append_drop m (d.toList.take b), List.take_take, Nat.min_eq_left h2]
   congr 1
   rw [List.drop_append]
   simp
   omega
 rw [e1, e2, List.take_append_drop]
theorem row_mid {lt : α → α → Bool} {A Z XY Q : List α} (hp : Z.Perm XY) (hz : srtL lt Z) : SortedIn lt A.length (A.length + XY.length) (A ++ Z ++ Q).toArray ∧ (∀ t, t < A.length ∨ A.length + XY.length ≤ t → (A ++ Z ++ Q).toArray[t]! = (A ++ XY ++ Q).toArray[t]!) ∧ (A ++ Z ++ Q).Perm (A ++ XY ++ Q) := by
 have hl := hp.length_eq
 refine ⟨fun i j h1 h2 h3 => ?_, fun t ht => ?_, (hp.append_left A).append_right Q⟩
 · rw [nth_in A Z Q (t := i) h1 (by omega), nth_in A Z Q (t := j) (by omega) (by omega)]
   exact List.pairwise_iff_getElem.1 hz _ _ _ _ (by omega)
 · rcases ht with ht | ht
   · have e1 := nth_left A (Z ++ Q) ht
     have e2 := nth_left A (XY ++ Q) ht
     rw [← List.append_assoc] at e1 e2
     rw [e1, e2]
   · rcases Nat.lt_or_ge t (A.length + XY.length + Q.length) with h | h
     · rw [nth_right (A ++ Z) Q (by simp; omega) (by simp; omega), nth_right (A ++ XY) Q (by simp; omega) (by simp; omega)]
       congr 1
       simp; omega
     · rw [getElem!_neg _ _ (by simp; omega), getElem!_neg _ _ (by simp; omega)]
theorem sorted_same {lt : α → α → Bool} {d d' : Array α} {a b : Nat} (h : SortedIn lt a b d) (he : ∀ t, a ≤ t → t < b → d'[t]! = d[t]!) : SortedIn lt a b d' := fun i j h1 h2 h3 => by
 rw [he i h1 (by omega), he j (by omega) h3]; exact h i j h1 h2 h3
theorem sorted_short {lt : α → α → Bool} {d : Array α} {a b : Nat} (h : b ≤ a + 1) : SortedIn lt a b d := fun i j h1 h2 h3 => by omega
theorem sym_row (H : MsP P k) (enc : α → List Value) (cf : α → α → Int) (hO : SWO (ltOf cf)) (g : Nat) (cb : Array Value) (blk off cap N : Nat) (d0 : Array α) (w0 : World)
   (eg : ∀ args w, (callFunc g args).run P w = .ok (.enter g args) w) (hcmp : CmpLays P g cb enc k cf blk off d0.size w0) (R : RowK enc k w0 blk off d0) (hs : d0.size = N) (hsz : N < 2305843009213693952)
   (d : Array α) (w : World) (a m b : Nat) (h1 : a < m) (h2 : m < b) (h3 : b ≤ N) (hd : d.size = N) (s1 : SortedIn (ltOf cf) a m d) (s2 : SortedIn (ltOf cf) m b d) (S : SWK enc k w0 blk off d w) :
   Calls P 154 #[.slice (some ⟨blk, off, none⟩) N cap, .int .i64 a, .int .i64 m, .int .i64 b, .func (.func g) #[] cb] w fun e w' =>
     e = .returned (.tuple #[]) ∧ ∃ d' : Array α, d'.size = N ∧ d'.toList.Perm d.toList ∧ SortedIn (ltOf cf) a b d' ∧ (∀ t, t < a ∨ b ≤ t → d'[t]! = d[t]!) ∧ SWK enc k w0 blk off d' w' := by
 obtain ⟨A, X, Y, Q, hdd, hA, hX, hY, hQ, eX, eY⟩ := row_cut (d := d) (a := a) (m := m) (b := b) (by omega) (by omega) (by omega)
 refine (sym_ih H enc cf hO g cb blk off cap N d0 w0 eg hcmp R hs hsz (b - a + 1) A X Y Q w a m b (by omega) (by omega) (by omega) (by omega) ?_ ?_ (by rw [← hdd]; exact S) (by omega) (by omega) (by omega)).mono ?_
 · rw [eX]; exact srt_of s1 (by omega)
 · rw [eY]; exact srt_of s2 (by omega)
 · rintro e w' ⟨rfl, Z, hp, hz, hS⟩
   have hl := hp.length_eq
   rw [List.length_append] at hl
   obtain ⟨g1, g2, g3⟩ := row_mid (A := A) (Q := Q) hp hz
   rw [List.length_append, show A.length + (X.length + Y.length) = b by omega, hA] at g1 g2
   refine ⟨rfl, _, by simp; omega, ?_, g1, fun t ht => ?_, hS⟩
   · rw [hdd]; simpa only [List.append_assoc] using g3
   · rw [g2 t ht, hdd]; simp only [List.append_assoc]
end
section
open Go.Shelf Go.RowKit Go.Lib Go.Sort
variable {P : Program} {k : Nat} {α : Type} [Inhabited α]
set_option linter.unusedSectionVars false
def RngP (enc : α → List Value) (k : Nat) (w0 : World) (blk off N : Nat) (lt : α → α → Bool) (d : Array α) (a b : Nat) (e : Ending) (w' : World) : Prop :=
 e = .returned (.tuple #[]) ∧ ∃ d' : Array α, d'.size = N ∧ d'.toList.Perm d.toList ∧ SortedIn lt a b d' ∧ (∀ t, t < a ∨ b ≤ t → d'[t]! = d[t]!) ∧ SWK enc k w0 blk off d' w'
def InsC (P : Program) (enc : α → List Value) (k : Nat) (cf : α → α → Int) (g : Nat) (cb : Array Value) (blk off cap N : Nat) (w0 : World) : Prop :=
 ∀ (d : Array α) (w : World) (a b : Nat), a ≤ b → b ≤ N → d.size = N → SWK enc k w0 blk off d w →
   Calls P 153 #[.slice (some ⟨blk, off, none⟩) N cap, .int .i64 a, .int .i64 b, .func (.func g) #[] cb] w (RngP enc k w0 blk off N (ltOf cf) d a b)
def RunsF (lt : α → α → Bool) (N s p : Nat) (d : Array α) : Prop := ∀ u, SortedIn lt (p + s * u) (min (p + s * u + s) N) d
def RunsD (lt : α → α → Bool) (N z t : Nat) (d : Array α) : Prop := ∀ u, u < t → SortedIn lt (z * u) (min (z * u + z) N) d
variable {lt : α → α → Bool} {N : Nat}
theorem mul_lt_step {z u t : Nat} (h : u < t) : z * u + z ≤ z * t := by
 have := Nat.mul_le_mul_left z (show u + 1 ≤ t from h)
 rwa [Nat.mul_add, Nat.mul_one] at this
theorem runsD_step {z t : Nat} {d d' : Array α} (hD : RunsD lt N z t d) (hs : SortedIn lt (z * t) (min (z * t + z) N) d') (he : ∀ x, x < z * t → d'[x]! = d[x]!) : RunsD lt N z (t + 1) d' := by
 intro u hu
 rcases Nat.lt_or_ge u t with h | h
 · have := mul_lt_step (z := z) h
   exact sorted_same (hD u h) fun x _ hx => he x (by omega)
 · obtain rfl : u = t := by omega
   exact hs
theorem runsF_next {s z p : Nat} {d d' : Array α} (hz : z = s + s) (hF : RunsF lt N s p d) (he : ∀ x, p + z ≤ x → d'[x]! = d[x]!) : RunsF lt N s (p + z) d' := by
 intro u
 have h := hF (u + 2)
 have e : p + s * (u + 2) = p + z + s * u := by rw [Nat.mul_add]; omega
 rw [e] at h
 exact sorted_same h fun x hx _ => he x (by omega)
theorem runs_all {z t : Nat} {d : Array α} (hz : 0 < z) (hD : RunsD lt N z (t + 1) d) (hN : N ≤ z * t + z) : RunsF lt N z 0 d := by
 intro u
 rw [Nat.zero_add]
 rcases Nat.lt_or_ge u (t + 1) with h | h
 · exact hD u h
 · have := mul_lt_step (z := z) (show t < u from h)
   exact sorted_short (by omega)
theorem runs_one {s : Nat} {d : Array α} (h : RunsF lt N s 0 d) (hs : N ≤ s) : SortedIn lt 0 N d := by
 have := h 0
 rw [Nat.mul_zero, Nat.zero_add, Nat.zero_add, Nat.min_eq_right hs] at this
 exact this
set_option maxHeartbeats 8000000 in
set_option maxRecDepth 1000000 in
theorem stable_any (H : MsP P k) (enc : α → List Value) (cf : α → α → Int) (hO : SWO (ltOf cf)) (g : Nat) (cb : Array Value) (blk off cap N : Nat) (d0 : Array α) (w0 : World)
   (eg : ∀ args w, (callFunc g args).run P w = .ok (.enter g args) w) (hcmp : CmpLays P g cb enc k cf blk off d0.size w0) (R : RowK enc k w0 blk off d0) (hs : d0.size = N) (hsz : N < 2305843009213693952)
   (hins : InsC P enc k cf g cb blk off cap N w0) (eIns : ∀ args w, (callFunc 153 args).run P w = .ok (.enter 153 args) w) :
   Calls P 130 #[.slice (some ⟨blk, off, none⟩) N cap, .int .i64 N, .func (.func g) #[] cb] w0 fun e w' =>
     e = .returned (.tuple #[]) ∧ ∃ d' : Array α, d'.size = N ∧ d'.toList.Perm d0.toList ∧ SortedIn (ltOf cf) 0 N d' ∧ SWK enc k w0 blk off d' w' := by
 have mixed := H.mixed; have t3 := H.t3; have a3 := H.a3; have z3 := H.z3; have v3 := H.v3; have t4 := H.t4; have a4 := H.a4; have z4 := H.z4; have v4 := H.v4; have t23 := H.t23; have a23 := H.a23; have z23 := H.z23; have v23 := H.v23; have t134 := H.t134; have a134 := H.a134; have z134 := H.z134; have v134 := H.v134; have aE := H.a43; have zE := H.z43; have t100 := H.t100; have a100 := H.a100; have z100 := H.z100
 have FG := H.fStb
 have eSym : ∀ args w, (callFunc 154 args).run P w = .ok (.enter 154 args) w := enters_of H.fSym (by kernel_rfl) rfl
 have HINS := Lib.hid hins
 have HSYM : Hid (∀ (d : Array α) (w : World) (a m b : Nat), a < m → m < b → b ≤ N → d.size = N → SortedIn (ltOf cf) a m d → SortedIn (ltOf cf) m b d → SWK enc k w0 blk off d w →
     Calls P 154 #[.slice (some ⟨blk, off, none⟩) N cap, .int .i64 a, .int .i64 m, .int .i64 b, .func (.func g) #[] cb] w (RngP enc k w0 blk off N (ltOf cf) d a b)) :=
   Lib.hid fun d w a m b h1 h2 h3 h4 h5 h6 h7 => sym_row H enc cf hO g cb blk off cap N d0 w0 eg hcmp R hs hsz d w a m b h1 h2 h3 h4 h5 h6 h7
 have S0 : Aside (SWK enc k w0 blk off d0 w0) := SWK.start R.hH
 have HSZ := Lib.hid hs
 clear hins hcmp R hs hO
 go_enter FG, Tryz.ntmps130
 go_wp2_with fail
 go_loopg [7, 8] (N / 20 + 1) (fun kx s7 s8 wr => ∃ (t : Nat) (d : Array α), s7 = .int .i64 (20 * t : Nat) ∧ s8 = .int .i64 (20 * t + 20 : Nat) ∧ 20 * t ≤ N ∧ N / 20 + 1 - t ≤ kx ∧ Hid (d.size = N ∧ d.toList.Perm d0.toList ∧ RunsD (ltOf cf) N 20 t d) ∧ Aside (SWK enc k w0 blk off d wr))
 case atStart => exact ⟨0, d0, rfl, rfl, Nat.zero_le _, Nat.le_refl _, Lib.hid ⟨HSZ.out, List.Perm.refl _, fun u hu => absurd hu (Nat.not_lt_zero _)⟩, S0⟩
 case round =>
   clear S0
   obtain ⟨t, d, rfl, rfl, htN, hkx, HD, S1⟩ := hrel
   by_cases hle : 20 * t + 20 ≤ N
   · have hlez : ((20 * t + 20 : Nat) : Int) ≤ (N : Int) := by omega
     have HC := Lib.hid (HINS.out d wr (20 * t) (20 * t + 20) (by omega) hle HD.out.1 S1.out)
     clear S1
     generalize hpa : 20 * t = pa at htN hle hlez HC ⊢
     have HPA := Lib.hid hpa
     clear hpa
     have hpw : IntKind.i64.wrap (((pa + 20 : Nat) : Int) + 20) = ((pa + 20 + 20 : Nat) : Int) := by rw [IntKind.wrap_i64]; omega
     go_wp2_with (go_at_fn 153; refine HC.out.mono ?_; rintro e w1 ⟨rfl, d', hd1, hd2, hd3, hd4, hS⟩; have HSS := aside hS; have HD' := Lib.hid (And.intro hd1 (And.intro hd2 (And.intro hd3 hd4))); clear hS hd1 hd2 hd3 hd4)
     go_roundg (N / 20 + 1 - (t + 1))
     case measure => have := HPA.out; omega
     case rel =>
       obtain ⟨h1, h2, h3, h4⟩ := HD'.out
       refine ⟨t + 1, d', by rw [show 20 * (t + 1) = pa + 20 by have := HPA.out; omega]; first | rfl | go_num, by rw [show 20 * (t + 1) + 20 = pa + 20 + 20 by have := HPA.out; omega]; first | rfl | go_num, by have := HPA.out; omega, Nat.le_refl _, Lib.hid ⟨h1, h2.trans HD.out.2.1, ?_⟩, HSS⟩
       refine runsD_step HD.out.2.2 ?_ fun x hx => h4 x (.inl (by have := HPA.out; omega))
       rw [Nat.min_eq_left (by have := HPA.out; omega), HPA.out]
       exact h3
   · have hlez : ¬ ((20 * t + 20 : Nat) : Int) ≤ (N : Int) := by omega
     have HC := Lib.hid (HINS.out d wr (20 * t) N htN (Nat.le_refl _) HD.out.1 S1.out)
     clear S1
     generalize hpa : 20 * t = pa at htN hle hlez HC ⊢
     have HPA := Lib.hid hpa
     clear hpa
     go_wp2_with (go_at_fn 153; refine HC.out.mono ?_; rintro e w1 ⟨rfl, d', hd1, hd2, hd3, hd4, hS⟩; have HSS := aside hS; have HD' := Lib.hid (And.intro hd1 (And.intro hd2 (And.intro hd3 hd4))); clear hS hd1 hd2 hd3 hd4)
     have HR : Hid (d'.size = N ∧ d'.toList.Perm d0.toList ∧ RunsF (ltOf cf) N 20 0 d') := Lib.hid (by
       obtain ⟨h1, h2, h3, h4⟩ := HD'.out
       have hpa := HPA.out
       refine ⟨h1, h2.trans HD.out.2.1, runs_all (t := t) (by omega) (runsD_step HD.out.2.2 ?_ fun x hx => h4 x (.inl (by omega))) (by omega)⟩
       rw [Nat.min_eq_right (by omega), hpa]
       exact h3)
     clear HD' HD HC HPA hkx hle hlez htN
     go_loopg [6, 7, 8, 9] N (fun kx s6 s7 s8 s9 wr => ∃ (s : Nat) (d : Array α), s6 = .int .i64 s ∧ 20 ≤ s ∧ s < 4611686018427387904 ∧ N - s ≤ kx ∧ Hid (d.size = N ∧ d.toList.Perm d0.toList ∧ RunsF (ltOf cf) N s 0 d) ∧ Aside (SWK enc k w0 blk off d wr))
     case atStart => exact ⟨20, d', rfl, Nat.le_refl _, by omega, by omega, HR, HSS⟩
     case round =>
       clear HSS HR
       obtain ⟨s, d1, rfl, hs20, hs62, hkx, HD, S1⟩ := hrel
       by_cases hsN : s < N
       · have hltz : (s : Int) < (N : Int) := by omega
         obtain ⟨z, hz⟩ : ∃ z, z = s + s := ⟨_, rfl⟩
         have hzz : IntKind.i64.wrap (2 * (s : Int)) = (z : Int) := by rw [IntKind.wrap_i64]; omega
         have hzz2 : IntKind.i64.wrap ((s : Int) * 2) = (z : Int) := by rw [IntKind.wrap_i64]; omega
         have hz1 : z < 4611686018427387904 := by omega
         have hz2 : 40 ≤ z := by omega
         have hzs : s < z := by omega
         have HZ := Lib.hid hz
         have HN0 := Lib.hid (show RunsD (ltOf cf) N z 0 d1 from fun u hu => absurd hu (Nat.not_lt_zero _))
         have HK := Lib.hid hkx
         clear hz hkx
         go_wp2_with fail
         go_loopg [7, 8] N (fun kx s7 s8 wr => ∃ (t p : Nat) (d : Array α), s7 = .int .i64 p ∧ s8 = .int .i64 (p + z : Nat) ∧ p ≤ N ∧ N - p ≤ kx ∧ Hid (p = z * t ∧ d.size = N ∧ d.toList.Perm d0.toList ∧ RunsD (ltOf cf) N z t d ∧ RunsF (ltOf cf) N s p d) ∧ Aside (SWK enc k w0 blk off d wr))
         case atStart => exact ⟨0, 0, d1, rfl, by rw [Nat.zero_add], Nat.zero_le _, by omega, Lib.hid ⟨by rw [Nat.mul_zero], HD.out.1, HD.out.2.1, HN0.out, HD.out.2.2⟩, S1⟩
         case round =>
           clear S1 HD HN0
           obtain ⟨t, p, d, rfl, rfl, hpN, hkx, HD, S1⟩ := hrel
           have hwa : IntKind.i64.wrap ((p : Int) + (s : Int)) = ((p + s : Nat) : Int) := by rw [IntKind.wrap_i64]; omega
           by_cases hle : p + z ≤ N
           · have hlez : ((p + z : Nat) : Int) ≤ (N : Int) := by omega
             have HC := Lib.hid (HSYM.out d wr p (p + s) (p + z) (by omega) (by omega) hle HD.out.2.1 (by
               have := HD.out.2.2.2.2 0
               rw [Nat.mul_zero, Nat.add_zero, Nat.min_eq_left (by omega)] at this
               exact this) (by
               have := HD.out.2.2.2.2 1
               have e := HZ.out
               rw [Nat.mul_one, Nat.min_eq_left (by omega), show p + s + s = p + z by omega] at this
               exact this) S1.out)
             clear S1
             have hwb : IntKind.i64.wrap (((p + z : Nat) : Int) + (z : Int)) = ((p + z + z : Nat) : Int) := by rw [IntKind.wrap_i64]; omega
             go_wp2_with (go_at_fn 154; refine HC.out.mono ?_; rintro e w1 ⟨rfl, d', hd1, hd2, hd3, hd4, hS⟩; have HSS := aside hS; have HD' := Lib.hid (And.intro hd1 (And.intro hd2 (And.intro hd3 hd4))); clear hS hd1 hd2 hd3 hd4)
             go_roundg (N - (p + z))
             case measure => omega
             case rel =>
               obtain ⟨h1, h2, h3, h4⟩ := HD'.out
               obtain ⟨q1, q2, q3, q4, q5⟩ := HD.out
               refine ⟨t + 1, p + z, d', rfl, rfl, hle, Nat.le_refl _, Lib.hid ⟨by rw [Nat.mul_add, Nat.mul_one, q1], h1, h2.trans q3, ?_, runsF_next HZ.out q5 fun x hx => h4 x (.inr hx)⟩, HSS⟩
               refine runsD_step q4 ?_ fun x hx => h4 x (.inl (by omega))
               rw [← q1, Nat.min_eq_left hle]
               exact h3
           · have hlez : ¬ ((p + z : Nat) : Int) ≤ (N : Int) := by omega
             go_upto_if 54 with fail
             go_cut [] (fun wx => ∃ d' : Array α, Hid (d'.size = N ∧ d'.toList.Perm d0.toList ∧ RunsF (ltOf cf) N z 0 d') ∧ Aside (SWK enc k w0 blk off d' wx))
             case first =>
               by_cases hm : p + s < N
               · have hmz : ((p + s : Nat) : Int) < (N : Int) := by omega
                 have HC := Lib.hid (HSYM.out d wr p (p + s) N (by omega) hm (Nat.le_refl _) HD.out.2.1 (by
                   have := HD.out.2.2.2.2 0
                   rw [Nat.mul_zero, Nat.add_zero, Nat.min_eq_left (by omega)] at this
                   exact this) (by
                   have := HD.out.2.2.2.2 1
                   have e := HZ.out
                   rw [Nat.mul_one, Nat.min_eq_right (by omega)] at this
                   exact this) S1.out)
                 clear S1
                 go_wp2_with (go_at_fn 154; refine HC.out.mono ?_; rintro e w1 ⟨rfl, d', hd1, hd2, hd3, hd4, hS⟩; have HSS := aside hS; have HD' := Lib.hid (And.intro hd1 (And.intro hd2 (And.intro hd3 hd4))); clear hS hd1 hd2 hd3 hd4)
                 go_meet
                 obtain ⟨h1, h2, h3, h4⟩ := HD'.out
                 obtain ⟨q1, q2, q3, q4, q5⟩ := HD.out
                 refine ⟨d', Lib.hid ⟨h1, h2.trans q3, runs_all (t := t) (by omega) (runsD_step q4 ?_ fun x hx => h4 x (.inl (by omega))) (by omega)⟩, HSS⟩
                 rw [← q1, Nat.min_eq_right (by omega)]
                 exact h3
               · have hmz : ¬ ((p + s : Nat) : Int) < (N : Int) := by omega
                 have HR : Hid (d.size = N ∧ d.toList.Perm d0.toList ∧ RunsF (ltOf cf) N z 0 d) := Lib.hid (by
                   obtain ⟨q1, q2, q3, q4, q5⟩ := HD.out
                   refine ⟨q2, q3, runs_all (t := t) (by omega) (runsD_step q4 ?_ fun x hx => rfl) (by omega)⟩
                   have := q5 0
                   rw [Nat.mul_zero, Nat.add_zero, Nat.min_eq_right (by omega)] at this
                   rw [← q1, Nat.min_eq_right (by omega)]
                   exact this)
                 clear HD
                 go_wp2_with fail
                 go_meet
                 exact ⟨d, HR, S1⟩
             case rest =>
               clear S1 HD
               obtain ⟨d', HR, HSS⟩ := hcut
               go_wp2_with fail
               go_roundg (N - z)
               case measure => have := HK.out; omega
               case rel => exact ⟨z, d', rfl, by omega, hz1, Nat.le_refl _, HR, HSS⟩
       · have hltz : ¬ (s : Int) < (N : Int) := by omega
         have HR := Lib.hid (runs_one HD.out.2.2 (by omega))
         go_wp2_with fail
         go_end0
         exact ⟨rfl, d1, HD.out.1, HD.out.2.1, HR.out, S1.out⟩
end
end Go.Proofs.YtdalfkklkeblaaaGreatDoor
