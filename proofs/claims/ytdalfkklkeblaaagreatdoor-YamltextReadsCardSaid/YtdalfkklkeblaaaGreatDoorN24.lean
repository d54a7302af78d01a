import Derived.Test.YtdalfkklkeblaaaGreatDoorShelg
import Derived.Test.YtdalfkklkeblaaaGreatDoorN21
import Derived.Test.YtdalfkklkeblaaaGreatDoorN23
import Derived.Test.YtdalfkklkeblaaaGreatDoorN16
import Derived.Test.YtdalfkklkeblaaaGreatDoorN17
import Derived.Test.YtdalfkklkeblaaaGreatDoorN11
namespace Go.Proofs.YtdalfkklkeblaaaGreatDoor
set_option linter.unusedSimpArgs false
set_option linter.unusedVariables false
section
open Go.Shelf Go.RowKit Go.Lib Go.Sort
theorem msp : MsP Tryz.prog 6 where
 mixed := by kernel_rfl
 fSwap := Tryz.func185
 fRot := Tryz.func170
 fSym := Tryz.func154
 fStb := Tryz.func130
 t3 := Tryz.underlying3
 a3 := Tryz.isAgg3
 z3 := Tryz.sizeOf3
 v3 := Tryz.zeroValue3
 t4 := Tryz.underlying4
 a4 := Tryz.isAgg4
 z4 := Tryz.sizeOf4
 v4 := Tryz.zeroValue4
 t23 := Tryz.underlying23
 a23 := Tryz.isAgg23
 z23 := Tryz.sizeOf23
 v23 := Tryz.zeroValue23
 a43 := Tryz.isAgg43
 z43 := Tryz.sizeOf43
 t134 := Tryz.underlying134
 a134 := Tryz.isAgg134
 z134 := Tryz.sizeOf134
 v134 := Tryz.zeroValue134
 t100 := Tryz.underlying100
 a100 := Tryz.isAgg100
 z100 := Tryz.sizeOf100
theorem cmpLays_at {P : Program} {α : Type} [Inhabited α] {g : Nat} {cb : Array Value} {enc : α → List Value} {k : Nat} {cf : α → α → Int} {blk off N : Nat} {w0 w : World} {d : Array α} (h : CmpLays P g cb enc k cf blk off N w0) (hblk : blk < w0.heap.size) (hd : d.size = N) (S : SWK enc k w0 blk off d w) :
   CmpLays P g cb enc k cf blk off N w := by
 obtain ⟨n, os, rfl⟩ := S
 intro m os' dk hs x y
 have := h (n + m) (os ++ os') dk hs x y
 rwa [← sortWorldK_on enc k w0 blk off n m d dk os os' hblk (by rw [hs, hd])] at this
theorem ins_any {α : Type} [Inhabited α] (enc : α → List Value) (cf : α → α → Int) (hO : SWO (ltOf cf)) (g : Nat) (cb : Array Value) (blk off cap N : Nat) (d0 : Array α) (w0 : World)
   (eg : ∀ args w, (callFunc g args).run Tryz.prog w = .ok (.enter g args) w) (hcmp : CmpLays Tryz.prog g cb enc 6 cf blk off d0.size w0) (R : RowK enc 6 w0 blk off d0) (hs : d0.size = N) (hsz : N < 2305843009213693952) : InsC Tryz.prog enc 6 cf g cb blk off cap N w0 := by
 intro d w a b hab hb hd S
 have h := AnyQ.insertionSortCmpFunc Tryz.insMem 6 Tryz.isAgg43 Tryz.sizeOf43 enc R.hk R.h1 cf g cb blk off cap a b d w eg (by rw [hd, ← hs]; exact cmpLays_at hcmp R.hblk (by omega) S) (S.holds R.hblk R.hH (by omega)) (S.lt R.hblk) hab (by omega) (by omega)
 rw [hd] at h
 refine Calls.mono h ?_
 rintro e w' ⟨rfl, n, os, rfl⟩
 obtain ⟨p1, p2⟩ := insertionSort_holds (lt := ltOf cf) hO d a b hab (by omega)
 have p3 := perm_whole (permIn_mono d _ a b 0 d.size (Nat.zero_le _) (by omega) (Nat.le_refl _) p1)
 obtain ⟨q1, q2, q3⟩ := p1
 exact ⟨rfl, _, by rw [q1, hd], p3, p2, fun t ht => q2 t ht, S.on R.hblk _ _ _ q1⟩
theorem less_ntrans {x y z : List UInt8} (h1 : Op.bytesLess x y = false) (h2 : Op.bytesLess y z = false) : Op.bytesLess x z = false := by
 rcases Bool.eq_false_or_eq_true (Op.bytesLess x z) with e | e
 · exfalso
   by_cases hyx : y = x
   · rw [hyx, e] at h2; cases h2
   · have h3 := less_total (fun e => hyx e.symm) h1
     have := less_trans h3 e
     rw [h2] at this; cases this
 · exact e
theorem cmpB_neg (a b : List UInt8) : decide (cmpB a b < 0) = Op.bytesLess a b := by
 unfold cmpB
 rcases Bool.eq_false_or_eq_true (Op.bytesLess a b) with h | h
 · rw [h]; rfl
 · rw [h]
   by_cases e : a = b
   · rw [if_neg (by decide), if_pos e]; rfl
   · rw [if_neg (by decide), if_neg e]; rfl
set_option maxRecDepth 100000 in
set_option maxHeartbeats 4000000 in
theorem cmpMbr_any (x y : List UInt8 × Dat × Value × Value) (W : World) :
   Calls Tryz.prog 94 #[.agg (cells6 x).toArray, .agg (cells6 y).toArray] W fun e w' => e = .returned (.int .i64 (cmpB x.1 y.1)) ∧ Bel W.heap.size W w' := by
 obtain ⟨l, x, xi, xm⟩ := x
 obtain ⟨m, y, yi, ym⟩ := y
 show Calls Tryz.prog 94 #[.agg #[.string (S l), .int .i64 x.k, .int .i64 x.n, .string (S x.s), xi, xm], .agg #[.string (S m), .int .i64 y.k, .int .i64 y.n, .string (S y.s), yi, ym]] W _
 have hb : Bel W.heap.size W ((W.alloc (.cells #[.string (S l), .int .i64 x.k, .int .i64 x.n, .string (S x.s), xi, xm] 43)).alloc (.cells #[.string (S m), .int .i64 y.k, .int .i64 y.n, .string (S y.s), yi, ym] 43)) :=
   ((Bel.refl _ _).alloc (Nat.le_refl _) _).alloc (by simp) _
 have h2 := val_two W #[.string (S l), .int .i64 x.k, .int .i64 x.n, .string (S x.s), xi, xm] #[.string (S m), .int .i64 y.k, .int .i64 y.n, .string (S y.s), yi, ym] 43 43
 have HC := Lib.hid (fun w => cmpStr_any l m w)
 simp only
 generalize cmpB l m = r at HC ⊢
 go_enter Tryz.func94, Tryz.ntmps94
 go_upto_region 1 with fail
 generalize (W.alloc (.cells #[.string (S l), .int .i64 x.k, .int .i64 x.n, .string (S x.s), xi, xm] 43)).alloc (.cells #[.string (S m), .int .i64 y.k, .int .i64 y.n, .string (S y.s), yi, ym] 43) = W1 at hb h2 ⊢
 have c0 := h2.1.cell 0
 have c1 := h2.2.1.cell 0
 simp at c0 c1
 have HB := Lib.hid hb
 clear hb h2
 go_wp2_with fail
 refine (HC.out _).mono ?_
 rintro e w1 ⟨rfl, rfl⟩
 go_wp2_with fail
 go_ret
 exact ⟨rfl, HB.out⟩
set_option maxRecDepth 100000 in
set_option maxHeartbeats 4000000 in
theorem sortMbr_any {T : List (List UInt8 × Dat × Value × Value)} {W : World} {base g cap : Nat} (hown : W.ownsRow base 43 6 (.slice (some ⟨g, 0, none⟩) T.length cap) T.length (flat6 T)) (hT : ∀ t ∈ T, t.2.2.1.oneCell' = true ∧ t.2.2.2.oneCell' = true) (hn : T.length ≤ 1000000) :
   Calls Tryz.prog 93 #[.slice (some ⟨g, 0, none⟩) T.length cap, .func (.func 94) #[] #[]] W fun e W' =>
     e = .returned (.tuple #[]) ∧ ∃ T' : List (List UInt8 × Dat × Value × Value), T'.Perm T ∧ (T'.Pairwise fun a b => Op.bytesLess b.1 a.1 = false) ∧ W.grownBy W' (some g) ∧ ∀ (j : Nat) (h : j < T'.length) (i : Nat), i < 6 → W'.cell? ⟨g, j * 6 + i, none⟩ = (cells6 T'[j])[i]? := by
 let α := {t : List UInt8 × Dat × Value × Value // t.2.2.1.oneCell' = true ∧ t.2.2.2.oneCell' = true}
 haveI : Inhabited α := ⟨⟨([], dat0, .slice none 0 0, .slice none 0 0), rfl, rfl⟩⟩
 let enc : α → List Value := fun t => cells6 t.1
 let cf : α → α → Int := fun x y => cmpB x.1.1 y.1.1
 let U : List α := T.attachWith _ hT
 have hU : U.map Subtype.val = T := List.attachWith_map_subtype_val ..
 have hUl : U.length = T.length := by rw [← hU]; simp
 have hF : U.flatMap enc = flat6 T := by
   rw [← hU]; unfold flat6
   rw [List.flatMap_map]
 have hk : ∀ x : α, (enc x).length = 6 := fun _ => rfl
 have hblk : g < W.heap.size := by
   rcases own_head hown with ⟨hv, -⟩ | ⟨g', cap', hv, -, -, hg, -⟩
   · cases hv
   · injection hv with hv; injection hv with hv; injection hv with hv; subst hv; exact hg
 have hH : HoldsK enc 6 W g 0 U.toArray := own_holds (base := base) (e := 43) (cap := cap) enc hk (by decide) (by rw [hF, hUl]; exact hown)
 have h1 : ∀ x : α, ∀ v ∈ enc x, v.oneCell' = true := by
   intro x v hv
   obtain ⟨h2, h3⟩ := x.2
   simp only [enc, cells6, cells5, List.mem_cons, List.not_mem_nil, or_false] at hv
   rcases hv with rfl | rfl | rfl | rfl | rfl | rfl
   · rfl
   · rfl
   · rfl
   · rfl
   · exact h2
   · exact h3
 have hl : ∀ x y : α, ltOf cf x y = Op.bytesLess x.1.1 y.1.1 := fun x y => cmpB_neg _ _
 have hO : SWO (ltOf cf) := ⟨fun x => by rw [hl]; exact less_irr _, fun x y z a b => by rw [hl] at *; exact less_trans a b, fun x y z a b => by rw [hl] at *; exact less_ntrans a b⟩
 have hcmp : CmpLays Tryz.prog 94 #[] enc 6 cf g 0 U.toArray.size W := by
   intro m os dk hdk x y
   exact (cmpMbr_any x.1 y.1 _).mono fun e w' ⟨he, hb⟩ => ⟨he, hb.grows⟩
 have hsz : U.toArray.size = T.length := by simpa using hUl
 have R : RowK enc 6 W g 0 U.toArray := ⟨hk, h1, hH, hblk⟩
 have eg := enters_of (P := Tryz.prog) Tryz.func94 (by kernel_rfl) rfl
 have hc := stable_any msp enc cf hO 94 #[] g 0 cap T.length U.toArray W eg hcmp R hsz (by omega) (ins_any enc cf hO _ _ g 0 cap T.length U.toArray W eg hcmp R hsz (by omega)) (enters_of (P := Tryz.prog) Tryz.func153 (by kernel_rfl) rfl)
 have HC := Lib.hid hc
 have HF : Hid (∀ (e : Ending) (w' : World), (e = .returned (.tuple #[]) ∧ ∃ d' : Array α, d'.size = T.length ∧ d'.toList.Perm U.toArray.toList ∧ SortedIn (ltOf cf) 0 T.length d' ∧ SWK enc 6 W g 0 d' w') →
     e = .returned (.tuple #[]) ∧ ∃ T' : List (List UInt8 × Dat × Value × Value), T'.Perm T ∧ (T'.Pairwise fun a b => Op.bytesLess b.1 a.1 = false) ∧ W.grownBy w' (some g) ∧ ∀ (j : Nat) (h : j < T'.length) (i : Nat), i < 6 → w'.cell? ⟨g, j * 6 + i, none⟩ = (cells6 T'[j])[i]?) := Lib.hid (by
   rintro e w' ⟨he, d', hds, hp, hs, n, os, rfl⟩
   obtain ⟨g1, g2⟩ := sorted_world enc 6 W g n U.toArray d' os hH hblk (by rw [hds, hsz])
   refine ⟨he, d'.toList.map Subtype.val, ?_, ?_, g1, ?_⟩
   · have := hp.map Subtype.val
     rw [← hU]; simpa using this
   · rw [List.pairwise_map]
     refine (sorted_pair (n := T.length) hds hs).imp ?_
     intro x y hxy
     rw [hl] at hxy
     exact hxy
   · intro j hj i hi
     have hj' : j < d'.size := by simpa using hj
     have := (g2.cell (i := j) (c := i) hj' hi).1
     rw [Nat.zero_add] at this
     rw [this, getElem!_pos d' j hj', getElem!_pos (enc d'[j]) i (by rw [hk]; exact hi)]
     rw [List.getElem?_eq_getElem (show i < (cells6 _).length from hi)]
     simp [enc])
 clear hc hcmp hO hl h1 hH R hF
 go_enter Tryz.func93, Tryz.ntmps93
 go_wp2_with fail
 refine HC.out.mono ?_
 intro e w' h
 obtain ⟨rfl, h2⟩ := HF.out e w' h
 have HR := Lib.hid h2
 clear h h2
 go_wp2_with fail
 go_end0
 exact ⟨rfl, HR.out⟩
end
section
open Go.RowKit
def ClY (w : World) (c : Dat) (e : Ending) (w' : World) : Prop := ∃ vi vm, e = .returned (dv c vi vm) ∧ Rep w' (fun B => w.heap.size ≤ B) c vi vm ∧ Below w.heap.size w w'
theorem ClY.leaf {w w' : World} {k n : Int} {s : List UInt8} (hb : Below w.heap.size w w') : ClY w (.mk k n s [] []) (.returned (dv (.mk k n s [] []) (.slice none 0 0) (.slice none 0 0))) w' :=
 ⟨_, _, rfl, rep_leaf _ _ rfl rfl none none 0 0, hb⟩
theorem cleanY_0 (k n : Int) (s : List UInt8) (p q : Option Addr) (a b cap caq lv : Nat) (hlv : 16 < lv) (w : World) :
   Calls Tryz.prog 65 #[.agg #[.int .i64 k, .int .i64 n, .string (S s), .slice p a cap, .slice q b caq], .int .i64 (lv : Int)] w (ClY w (.mk k 0 [] [] [])) := by
 have hl : (16 : Int) < (lv : Int) := by omega
 clear hlv
 go_enter Tryz.func65, Tryz.ntmps65
 go_wp2_with fail
 refine bodyPost_ret (v := dv (.mk k 0 [] [] []) (.slice none 0 0) (.slice none 0 0)) (by simp [results, Tryz.results65, go_sem, dv, Dat.k, Dat.n, Dat.s, show S [] = ⟨#[]⟩ from rfl]) rfl (ClY.leaf ?_)
 go_grown
theorem cleanY_1 (p q : Option Addr) (a b cap caq lv : Nat) (hlv : lv ≤ 16) (w : World) :
   Calls Tryz.prog 65 #[.agg #[.int .i64 1, .int .i64 0, .string (S []), .slice p a cap, .slice q b caq], .int .i64 (lv : Int)] w (ClY w (.mk 1 0 [] [] [])) := by
 have hl : ¬ (16 : Int) < (lv : Int) := by omega
 clear hlv
 go_enter Tryz.func65, Tryz.ntmps65
 go_wp2_with fail
 refine bodyPost_ret (v := dv (.mk 1 0 [] [] []) (.slice none 0 0) (.slice none 0 0)) (by simp [results, Tryz.results65, go_sem, dv, Dat.k, Dat.n, Dat.s, show S [] = ⟨#[]⟩ from rfl]) rfl (ClY.leaf ?_)
 go_grown
theorem cleanY_2 (n : Int) (p q : Option Addr) (a b cap caq lv : Nat) (hlv : lv ≤ 16) (w : World) :
   Calls Tryz.prog 65 #[.agg #[.int .i64 2, .int .i64 n, .string (S []), .slice p a cap, .slice q b caq], .int .i64 (lv : Int)] w (ClY w (.mk 2 n [] [] [])) := by
 have hl : ¬ (16 : Int) < (lv : Int) := by omega
 clear hlv
 go_enter Tryz.func65, Tryz.ntmps65
 go_wp2_with fail
 refine bodyPost_ret (v := dv (.mk 2 n [] [] []) (.slice none 0 0) (.slice none 0 0)) (by simp [results, Tryz.results65, go_sem, dv, Dat.k, Dat.n, Dat.s, show S [] = ⟨#[]⟩ from rfl]) rfl (ClY.leaf ?_)
 go_grown
theorem cleanY_3 (n : Int) (p q : Option Addr) (a b cap caq lv : Nat) (hlv : lv ≤ 16) (w : World) :
   Calls Tryz.prog 65 #[.agg #[.int .i64 3, .int .i64 n, .string (S []), .slice p a cap, .slice q b caq], .int .i64 (lv : Int)] w (ClY w (.mk 3 n [] [] [])) := by
 have hl : ¬ (16 : Int) < (lv : Int) := by omega
 clear hlv
 go_enter Tryz.func65, Tryz.ntmps65
 go_wp2_with fail
 refine bodyPost_ret (v := dv (.mk 3 n [] [] []) (.slice none 0 0) (.slice none 0 0)) (by simp [results, Tryz.results65, go_sem, dv, Dat.k, Dat.n, Dat.s, show S [] = ⟨#[]⟩ from rfl]) rfl (ClY.leaf ?_)
 go_grown
theorem cleanY_4 (s : List UInt8) (p q : Option Addr) (a b cap caq lv : Nat) (hlv : lv ≤ 16) (w : World) :
   Calls Tryz.prog 65 #[.agg #[.int .i64 4, .int .i64 0, .string (S s), .slice p a cap, .slice q b caq], .int .i64 (lv : Int)] w (ClY w (.mk 4 0 s [] [])) := by
 have hl : ¬ (16 : Int) < (lv : Int) := by omega
 clear hlv
 go_enter Tryz.func65, Tryz.ntmps65
 go_wp2_with fail
 refine bodyPost_ret (v := dv (.mk 4 0 s [] []) (.slice none 0 0) (.slice none 0 0)) (by simp [results, Tryz.results65, go_sem, dv, Dat.k, Dat.n, Dat.s, show S [] = ⟨#[]⟩ from rfl]) rfl (ClY.leaf ?_)
 go_grown
end
section
open Go.RowKit
def ClnIH (f : Nat) : Prop := ∀ (d : Dat) (vi vm : Value) (ok : Nat → Prop) (w : World), Rep w ok d vi vm → Neat d → limD d = true →
 Calls Tryz.prog 65 #[.agg #[.int .i64 d.k, .int .i64 d.n, .string (S d.s), vi, vm], .int .i64 ((17 - f : Nat) : Int)] w (ClY w (clnF f d))
set_option maxRecDepth 100000 in
set_option maxHeartbeats 8000000 in
theorem clean_list {f : Nat} (hf : f < 16) (ih : ClnIH f) (its : List Dat) (p q : Option Addr) (cap caq : Nat) {ok : Nat → Prop} {w : World} (hr : Rep w ok (.mk 5 0 [] its []) (.slice p its.length cap) (.slice q 0 caq)) (hn : ∀ x ∈ its, Neat x) (hlim : limD (.mk 5 0 [] its []) = true) :
   Calls Tryz.prog 65 #[.agg #[.int .i64 5, .int .i64 0, .string (S []), .slice p its.length cap, .slice q 0 caq], .int .i64 ((17 - (f + 1) : Nat) : Int)] w (ClY w (.mk 5 0 [] (its.map (clnF f)) [])) := by
 obtain ⟨i0, hi, hz0, hz1, hz2⟩ := info_parts infoDat
 obtain ⟨-, l1, -, l2, -⟩ := lim_iff.1 hlim
 obtain ⟨p', cap', e1, -, hit⟩ := hr.items
 cases e1
 have HIT := Lib.hid hit
 have HNE := Lib.hid hn
 have HLI := Lib.hid l2
 have HIH := Lib.hid ih
 have hl : ¬ (16 : Int) < ((17 - (f + 1) : Nat) : Int) := by omega
 have hlv : IntKind.i64.wrap (((17 - (f + 1) : Nat) : Int) + 1) = ((17 - f : Nat) : Int) := by rw [IntKind.wrap_i64]; omega
 have l1' : its.length ≤ 1000000 := l1
 clear hr hn hlim l2 l1 hit ih
 generalize 17 - (f + 1) = lv at hl hlv ⊢
 have h3 := three_new w #[.int .i64 5, .int .i64 0, .string (S []), .slice p its.length cap, .slice q 0 caq] #[.int .i64 0, .int .i64 0, .string ⟨#[]⟩, .slice none 0 0, .slice none 0 0] #[.int .i64 5, .int .i64 0, .string ⟨#[]⟩, .slice none 0 0, .slice none 0 0] 25 25 25
 have hS0 : DtS (w.heap.size + 1 + 1) (w.heap.size + 1 + 1) (w.heap.size + 1 + 1 + 1) 5 [] [] (.slice none 0 0) (.slice none 0 0) (((w.alloc (.cells #[.int .i64 5, .int .i64 0, .string (S []), .slice p its.length cap, .slice q 0 caq] 25)).alloc (.cells #[.int .i64 0, .int .i64 0, .string ⟨#[]⟩, .slice none 0 0, .slice none 0 0] 25)).alloc (.cells #[.int .i64 5, .int .i64 0, .string ⟨#[]⟩, .slice none 0 0, .slice none 0 0] 25)) :=
   ⟨h3.2.2.1, World.ownsRow_nil _ _ _ _, World.ownsRow_nil _ _ _ _, by simp, by simp, ⟨by omega, by omega, by simp⟩⟩
 go_enter Tryz.func65, Tryz.ntmps65
 go_upto_region 2 with fail
 generalize ((w.alloc (.cells #[.int .i64 5, .int .i64 0, .string (S []), .slice p its.length cap, .slice q 0 caq] 25)).alloc (.cells #[.int .i64 0, .int .i64 0, .string ⟨#[]⟩, .slice none 0 0, .slice none 0 0] 25)).alloc (.cells #[.int .i64 5, .int .i64 0, .string ⟨#[]⟩, .slice none 0 0, .slice none 0 0] 25) = W at h3 hS0 ⊢
 have b0 := h3.1.cell 0
 have b3 := h3.1.cell 3
 simp at b0 b3
 have HS0 := Lib.hid hS0
 have HR0 := Lib.hid h3.2.1
 have HB0 := Lib.hid h3.2.2.2
 clear h3 hS0
 go_wp2_with fail
 clear b0 b3
 go_loopw [34] (fun y wr => ∃ (i : Nat) (A : List (Dat × Value × Value)) (vi : Value), y = .int .i64 (i : Int) ∧ i ≤ its.length ∧ Hid (DtS (w.heap.size + 1 + 1) (w.heap.size + 1 + 1) (w.heap.size + 1 + 1 + 1) 5 A [] vi (.slice none 0 0) wr ∧ A.map (fun t => t.1) = (its.take i).map (clnF f)) ∧ Hid (Below w.heap.size w wr) ∧ Hid (Blk wr (w.heap.size + 1) #[.int .i64 0, .int .i64 0, .string ⟨#[]⟩, .slice none 0 0, .slice none 0 0] 25)) (fun y _ => its.length - (intOf y).toNat)
 case atStart => exact ⟨0, [], _, rfl, Nat.zero_le _, Lib.hid ⟨HS0.out, by simp⟩, HB0, HR0⟩
 case round =>
   clear HS0 HB0 HR0
   obtain ⟨i, A, vi, rfl, hile, HS, HB, HR⟩ := hrel
   have hA : A.length = i := by
     have := congrArg List.length HS.out.2
     rw [List.length_map, List.length_map, List.length_take] at this
     omega
   obtain ⟨vp, vc, hv⟩ := own_form5 HS.out.1.its
   by_cases hlt : i < its.length
   · obtain ⟨B, o, xi, xm, rfl, hcap, hBw, hc, hx⟩ := HIT.out i hlt
     obtain ⟨p1, cap1, rfl, -, -⟩ := hx.items
     obtain ⟨q1, caq1, rfl, -, -⟩ := hx.members
     obtain ⟨k0, k1, k2, k3, k4⟩ := hc.below HB.out hBw
     have HNX := Lib.hid (HNE.out _ (List.getElem_mem hlt))
     have HLX := Lib.hid (HLI.out _ (List.getElem_mem hlt))
     have HTK := Lib.hid (show (its.take (i + 1)).map (clnF f) = (its.take i).map (clnF f) ++ [clnF f its[i]] by rw [List.take_succ_eq_append_getElem hlt, List.map_append]; rfl)
     have e1 : (Dat.mk 5 0 [] its []).its[i] = its[i] := rfl
     have HX := Lib.hid (hx.under HB.out)
     rw [e1] at HX k0 k1 k2 k3 k4
     clear hx hc e1
     generalize its[i] = x at HX HNX HLX HTK k0 k1 k2 k3 k4
     have hN := Blk.new wr #[.int .i64 x.k, .int .i64 x.n, .string (S x.s), .slice p1 x.its.length cap1, .slice q1 x.mem.length caq1] 25
     have hbN := (Below.refl wr.heap.size wr).alloc (Nat.le_refl _) (.cells #[.int .i64 x.k, .int .i64 x.n, .string (S x.s), .slice p1 x.its.length cap1, .slice q1 x.mem.length caq1] 25)
     subst hv
     go_upto_region 14 with fail
     generalize wr.alloc (.cells #[.int .i64 x.k, .int .i64 x.n, .string (S x.s), .slice p1 x.its.length cap1, .slice q1 x.mem.length caq1] 25) = W3 at hN hbN ⊢
     have n0 := hN.cell 0
     have n1 := hN.cell 1
     have n2 := hN.cell 2
     have n3 := hN.cell 3
     have n4 := hN.cell 4
     simp at n0 n1 n2 n3 n4
     have hS3 := HS.out.1.under hbN
     have o3 := hS3.blk.cell 3
     have f3 := hS3.blk.frozen 3
     simp at o3
     have hlo := hS3.blk.lt
     have hln := hN.lt
     have HC := Lib.hid (fun w' (hb : Below W3.heap.size W3 w') => HIH.out x (.slice p1 x.its.length cap1) (.slice q1 x.mem.length caq1) ok w' ((HX.out.under hbN).under hb) HNX.out HLX.out)
     have HS3 := Lib.hid hS3
     have HB3 := Lib.hid (HB.out.trans (hbN.mono HB.out.size))
     have HR3 := Lib.hid (HR.out.below hbN)
     have HBD := Lib.hid (below_drew (Below.refl W3.heap.size W3))
     have HKE := Lib.hid (fun w' (hb : Below W3.heap.size W3 w') => (show _ ∧ _ ∧ _ from ⟨(hb.cell (p := ⟨w.heap.size + 1 + 1, 3, none⟩) hlo).trans o3, (hb.frozen (p := ⟨w.heap.size + 1 + 1, 3, none⟩) hlo).trans f3, Nat.lt_of_lt_of_le hlo hb.size⟩))
     have HNEQ := Lib.hid (show some (w.heap.size + 1 + 1) ≠ (Value.slice vp A.length vc).ownBlock from fun e => by have := (own_ge hS3.its e.symm).1; omega)
     clear hN hS3 k0 k1 k2 k3 k4 hbN HX
     have HAA := Lib.hid HS.out.2
     have hAm : A.length ≤ 1000000 := by omega
     have HAL := Lib.hid hA
     clear HS HB HR hA
     go_region_law (first
       | (refine step_append_lies _ (by rfl) _ _ _ (by rfl) (w.heap.size + 1 + 1 + 1) 25 i0 (.agg #[.int .i64 0, .int .i64 0, .string ⟨#[]⟩, .slice none 0 0, .slice none 0 0]) 5 80 Tryz.underlying22 hi hz0 hz1 hz2 rfl (by omega) (.slice vp A.length vc) A.length (flat5 A) (by rfl) (HS9.out.its.alloc _) ⟨w9.heap.size, 0, none⟩ 1 1 [.int .i64 c.k, .int .i64 c.n, .string (S c.s), .slice xp c.its.length xc, .slice yp c.mem.length yc] (by rfl) (by rfl) (cells_new_at rfl rfl) (by simp [Value.oneCell']) (by omega) (by unfold maxLen; omega) (by omega) (by have := HS9.out.nr.2.2; simp; omega) _ rfl ?_; intro g5 c5 w10 hown5 hgrow5 hat5 hlt5; obtain ⟨z2, zf, zl⟩ := out_kept2 l9 HNEQ.out o9 f9 hgrow5; have HO5 := Lib.hid hown5; have HG5 := Lib.hid hgrow5; have HA5 := Lib.hid hat5; clear hown5 hgrow5 hat5)
       | (go_simp; go_at_call 65; refine (HC.out _ HBD.out).mono ?_; rintro e w9 ⟨xi, xm, rfl, hrep, hb9⟩; generalize hcx : clnF f x = c at hrep HTK ⊢; obtain ⟨xp, xc, rfl, -, -⟩ := hrep.items; obtain ⟨yp, yc, rfl, -, -⟩ := hrep.members; have hb99 := HBD.out.trans (hb9.mono HBD.out.size); have HS9 := Lib.hid (HS3.out.under hb99); have HB9 := Lib.hid hb99; have HX9 := Lib.hid hrep; obtain ⟨o9, f9, l9⟩ := HKE.out _ hb99; clear hb9 hb99 hrep; unfold dv))
     all_goals
       go_wp2_with fail
       go_roundw
       case rel =>
         have hX9 := HX9.out.mono (ok' := apY (w.heap.size + 1 + 1) (w.heap.size + 1 + 1) (.slice vp A.length vc) (.slice none 0 0)) fun B _ hB => HS3.out.apart (Nat.le_refl _) (Nat.le_trans HBD.out.size hB)
         have hBB := grown_push (Bd := w.heap.size + 1 + 1) (v' := .slice (some ⟨g5, 0, none⟩) (A.length + 1) c5) (below_grown (HB3.out.trans (HB9.out.mono HB3.out.size)) (Nat.le_refl _) none) HS9.out.its (by omega) HG5.out 3 (by omega)
         refine ⟨i + 1, A ++ [(c, .slice xp c.its.length xc, .slice yp c.mem.length yc)], _, by go_num, hlt, Lib.hid ⟨HS9.out.item_end hX9 HO5.out HG5.out (HA5.out.imp (fun e => e.symm) fun e => congrArg some e), ?_⟩, Lib.hid (grown_below hBB), Lib.hid ?_⟩
         · rw [List.map_append, HAA.out, HTK.out]; rfl
         · have h1 := ((HR3.out.below HB9.out).alloc _).kept HG5.out (fun e => by have := (own_ge HS9.out.its e.symm).1; omega)
           exact h1.set_other 3 _ (by omega)
       case measure => simp [intOf]; omega
   · obtain rfl : i = its.length := by omega
     have hR := HS.out.1.rep ⟨by omega, by simp⟩
     have hm : A.map (fun t => t.1) = its.map (clnF f) := by rw [HS.out.2, List.take_length]
     subst hv
     have o0 := HS.out.1.blk.cell 0
     have o1 := HS.out.1.blk.cell 1
     have o2 := HS.out.1.blk.cell 2
     have o3 := HS.out.1.blk.cell 3
     have o4 := HS.out.1.blk.cell 4
     have z0 := HR.out.cell 0
     have z1 := HR.out.cell 1
     have z2 := HR.out.cell 2
     have z3 := HR.out.cell 3
     have z4 := HR.out.cell 4
     have y0 := HR.out.frozen 0
     have y1 := HR.out.frozen 1
     have y2 := HR.out.frozen 2
     have y3 := HR.out.frozen 3
     have y4 := HR.out.frozen 4
     simp at o0 o1 o2 o3 o4 z0 z1 z2 z3 z4
     have hlw := HR.out.lt
     rw [hm] at hR
     have HRR := Lib.hid hR
     clear hR hm hlt HS HR hA
     go_wp2_with fail
     refine bodyPost_ret (v := dv (.mk 5 0 [] (its.map (clnF f)) []) (.slice vp A.length vc) (.slice none 0 0)) (by simp [results, Tryz.results65, go_sem, dv, Dat.k, Dat.n, Dat.s, show S [] = ⟨#[]⟩ from rfl, z0, z1, z2, z3, z4, y0, y1, y2, y3, y4, hlw]) rfl ⟨_, _, rfl, ?_, ?_⟩
     · refine Rep.mono (fun B _ hB => ?_) (((((HRR.out.set _ _ fun B hB => ?_).set _ _ fun B hB => ?_).set _ _ fun B hB => ?_).set _ _ fun B hB => ?_).set _ _ fun B hB => ?_)
       · omega
       all_goals (show w.heap.size + 1 ≠ B; omega)
     · have hbw := HB.out
       go_grown
       all_goals exact hbw
end
end Go.Proofs.YtdalfkklkeblaaaGreatDoor
