import Derived.Test.YtoahmganodehkaaGreatDoorN08
import Derived.Shelf.SlSortCmp.InsertionK
import Derived.Test.YtoahmganodehkaaGreatDoorN02
import Derived.Shelf.SlSortCmp.NoneTotal
import Derived.Test.YtoahmganodehkaaGreatDoorShelg
import Derived.Test.YtoahmganodehkaaGreatDoorN01
import Derived.IntWalk
import Derived.Maps.OwnSet
import Derived.Maps.OwnOps
import Derived.DeepKeys4
import Derived.Maps.Views
namespace Go.Proofs.YtoahmganodehkaaGreatDoor
set_option linter.unusedSimpArgs false
set_option linter.unusedVariables false
section
open Go.RowKit
theorem Bel.size {N : Nat} {w w' : World} (h : Bel N w w') : w.heap.size ≤ w'.heap.size := h.1.size
theorem keepB {w W w1 : World} {B1 B2 o1 o2 o3 o4 : Nat} {v0 v1 v2 v3 : Value} (h1 : B1 < w.heap.size) (h2 : B2 < w.heap.size) (hb : Bel W.heap.size W w1)
   (h : W.cell? ⟨B1, o1, none⟩ = some v0 ∧ W.cell? ⟨B1, o2, none⟩ = some v1 ∧ W.cell? ⟨B2, o3, none⟩ = some v2 ∧ W.cell? ⟨B2, o4, none⟩ = some v3 ∧ Bel w.heap.size w W) :
   w1.cell? ⟨B1, o1, none⟩ = some v0 ∧ w1.cell? ⟨B1, o2, none⟩ = some v1 ∧ w1.cell? ⟨B2, o3, none⟩ = some v2 ∧ w1.cell? ⟨B2, o4, none⟩ = some v3 ∧ Bel w.heap.size w w1 := by
 obtain ⟨c0, c1, c2, c3, hB⟩ := h
 have hs := hB.1.size
 have hc : ∀ b o, b < W.heap.size → w1.cell? ⟨b, o, none⟩ = W.cell? ⟨b, o, none⟩ := fun b o h => hb.1.cell (p := ⟨b, o, none⟩) h
 exact ⟨(hc _ _ (by omega)).trans c0, (hc _ _ (by omega)).trans c1, (hc _ _ (by omega)).trans c2, (hc _ _ (by omega)).trans c3, hB.trans (hb.mono hs)⟩
theorem bel_al (W : World) {N : Nat} (o : Obj) (h : N ≤ W.heap.size) : Bel N W (W.alloc o) := (Bel.refl _ _).alloc h _
theorem bel_al2 (W : World) {N : Nat} (o1 o2 : Obj) (h : N ≤ W.heap.size) : Bel N W ((W.alloc o1).alloc o2) := ((Bel.refl _ _).alloc h _).alloc (by simp; omega) _
set_option maxHeartbeats 4000000 in
set_option maxRecDepth 100000 in
theorem Compare_bel (v u : Value) (L M : List Stp) (w : World) (hv : SlS w v L) (hu : SlS w u M) (hL : L.length ≤ 1000000) (hM : M.length ≤ 1000000) : Calls Tryz.prog 71 #[v, u] w fun e w' => e = .returned (.int .i64 (cmpS L M)) ∧ Bel w.heap.size w w' := by
 obtain ⟨r, hr⟩ : ∃ r, cmpS L M = r := ⟨_, rfl⟩
 rw [hr]
 have HR := Lib.hid (show cmpS (L.drop 0) (M.drop 0) = r from hr)
 clear hr
 obtain ⟨p, cap, rfl, hp⟩ := hv.open
 obtain ⟨q, caq, rfl, hq⟩ := hu.open
 have HP := Lib.hid hp
 have HQ := Lib.hid hq
 clear hp hq hv hu
 go_enter Tryz.func71, Tryz.ntmps71
 go_wp2_with fail
 obtain ⟨mn, hmn⟩ : ∃ mn : Nat, min (L.length : Int) (M.length : Int) = (mn : Int) := ⟨min L.length M.length, by omega⟩
 rw [hmn]
 have hml : mn ≤ L.length := by omega
 have hmm : mn ≤ M.length := by omega
 have hme : mn = L.length ∨ mn = M.length := by omega
 clear hmn
 go_loopg [13] L.length (fun g i wr => ∃ j : Nat, i = .int .i64 (j : Int) ∧ j ≤ mn ∧ g = L.length - j ∧ Hid (cmpS (L.drop j) (M.drop j) = r ∧ Bel w.heap.size w wr))
 case atStart => exact ⟨0, rfl, Nat.zero_le _, rfl, Lib.hid ⟨HR.out, Bel.refl _ _⟩⟩
 case round =>
   obtain ⟨j, rfl, hj, hg, HW⟩ := hrel
   by_cases hlt : j < mn
   · have hl : j < L.length := by omega
     have hm : j < M.length := by omega
     obtain ⟨B1, o1, rfl, hc1, hB1, c0, c1⟩ := HP.out j hl
     obtain ⟨B2, o2, rfl, hc2, hB2, d0, d1⟩ := HQ.out j hm
     have HN := Lib.hid (cmpS_drop L M j hl hm)
     obtain ⟨⟨lx, ix⟩, hx⟩ : ∃ x, L[j] = x := ⟨_, rfl⟩
     obtain ⟨⟨ly, iy⟩, hy⟩ : ∃ y, M[j] = y := ⟨_, rfl⟩
     rw [hx, hy] at HN
     rw [hx] at c0 c1
     rw [hy] at d0 d1
     clear hx hy
     simp only at c0 c1 d0 d1
     have hF := keepB hB1 hB2 HW.out.2 ⟨c0, c1, d0, d1, Bel.refl _ _⟩
     have HF := Lib.hid (keepB hB1 hB2 (Bel.drew (Bel.refl _ _)) hF)
     obtain ⟨c0, c1, d0, d1, -⟩ := hF
     have j0 : (0 : Int) ≤ (j : Int) := by omega
     have j1 : (j : Int) < (L.length : Int) := by omega
     have j2 : (j : Int) < (M.length : Int) := by omega
     go_wp2_with fail
     go_cut [6, 7] (fun a b wx => ∃ C1 C2, a = .pointer (some ⟨C1, 0, none⟩) ∧ b = .pointer (some ⟨C2, 0, none⟩) ∧ Blk wx C1 #[.string (S lx), .int .i64 ix] 44 ∧ Blk wx C2 #[.string (S ly), .int .i64 iy] 44 ∧ Bel w.heap.size w wx)
     case first =>
       go_region_held3 (fun w' => w'.cell? ⟨B1, o1 + j * 2, none⟩ = some (.string (S lx)) ∧ w'.cell? ⟨B1, o1 + j * 2 + 1, none⟩ = some (.int .i64 ix) ∧ w'.cell? ⟨B2, o2 + j * 2, none⟩ = some (.string (S ly)) ∧ w'.cell? ⟨B2, o2 + j * 2 + 1, none⟩ = some (.int .i64 iy) ∧ Bel w.heap.size w w')
         (first
           | with_reducible exact HF.out
           | with_reducible exact keepB hB1 hB2 (bel_al _ _ (Nat.le_refl _)) HF.out
           | with_reducible exact keepB hB1 hB2 (bel_al2 _ _ _ (Nat.le_refl _)) HF.out
           | go_keep)
         (fail)
       all_goals
         have hBx := (keepB hB1 hB2 (Bel.refl _ _) (by assumption)).2.2.2.2
         go_wp2_with fail
         go_meet
         refine ⟨_, _, rfl, rfl, ?_, ?_, hBx⟩
         · first
             | exact (Blk.new _ _ _).alloc _
             | (have h := Blk.new (wr.alloc (.cells #[.string (S ly), .int .i64 iy] 44)) #[.string (S lx), .int .i64 ix] 44; exact Blk.drew (by simpa using h))
         · first
             | exact (Blk.new _ _ _).alloc _
             | (have h := Blk.new (wr.alloc (.cells #[.string (S lx), .int .i64 ix] 44)) #[.string (S ly), .int .i64 iy] 44; exact Blk.drew (by simpa using h))
     case rest =>
       obtain ⟨C1, C2, rfl, rfl, b1, b2, hBw⟩ := hcut
       have hC1 := b1.lt
       have hC2 := b2.lt
       have x0 := b1.cell 0
       have x1 := b1.cell 1
       have y0 := b2.cell 0
       have y1 := b2.cell 1
       simp at x0 x1 y0 y1
       have HG := Lib.hid (keepB (w := wc) hC1 hC2 (Bel.drew (Bel.refl _ _)) ⟨x0, x1, y0, y1, Bel.refl _ _⟩)
       clear b1 b2 c0 c1 d0 d1 HF
       have HBw := Lib.hid hBw
       clear hBw
       by_cases hxy : (⟨lx, ix⟩ : Stp) = ⟨ly, iy⟩
       · have e1 : (lx == ly) = true := by injection hxy with h1 h2; simpa using h1
         have e2 : (ix == iy) = true := by injection hxy with h1 h2; simpa using h2
         have HN2 := HN.out
         rw [if_pos hxy, HW.out.1] at HN2
         have HN3 := Lib.hid HN2
         clear HN2 hxy HG hC1 hC2
         go_wp2_with fail
         go_roundg (L.length - (j + 1))
         case measure => omega
         case rel => exact ⟨j + 1, rfl, hlt, rfl, Lib.hid ⟨HN3.out.symm, HBw.out⟩⟩
       · have HN2 := HN.out
         rw [if_neg hxy, HW.out.1] at HN2
         have hor := one_or ⟨lx, ix⟩ ⟨ly, iy⟩ hxy
         rcases one_ways ⟨lx, ix⟩ ⟨ly, iy⟩ with ⟨h1, h2, h3⟩ | ⟨h1, h2, h3⟩ | ⟨h1, h2, _⟩ | ⟨h1, h2, h3, _⟩ | ⟨_, _, _, h1⟩
         · simp only at h1 h2
           have e1 : (lx == ly) = false := by rw [beq_eq_false_iff_ne]; rintro rfl; rw [h1] at h2; cases h2
           rw [h3] at HN2
           subst HN2
           clear hxy hor HG hC1 hC2 h3
           go_wp2_with fail
           go_ret
           exact ⟨rfl, HBw.out⟩
         · simp only at h1 h2
           have e1 : (lx == ly) = false := by rw [beq_eq_false_iff_ne]; rintro rfl; rw [h1] at h2; cases h2
           rw [h3] at HN2
           subst HN2
           clear hxy hor HG hC1 hC2 h3
           go_wp2_with fail
           go_ret
           exact ⟨rfl, HBw.out⟩
         · simp only at h1 h2
           rw [hor h1] at HN2
           have HN3 := Lib.hid HN2
           clear hxy hor HN2
           obtain ⟨bs, hbs⟩ : ∃ n, cmpB lx ly = n := ⟨_, rfl⟩
           obtain ⟨bi, hbi⟩ : ∃ n, cmpI ix iy = n := ⟨_, rfl⟩
           have HBS := Lib.hid hbs
           have HBI := Lib.hid hbi
           simp only [hbs, hbi] at HN3
           clear hbs hbi
           obtain ⟨pe, hpe⟩ : ∃ b, lx.isEmpty = b := ⟨_, rfl⟩
           have hqe : ly.isEmpty = pe := h1.symm.trans hpe
           clear h1
           rcases bool_two pe with rfl | rfl
           all_goals
             go_wp2_with fail
             go_region_held3 (fun w' => w'.cell? ⟨C1, 0, none⟩ = some (.string (S lx)) ∧ w'.cell? ⟨C1, 1, none⟩ = some (.int .i64 ix) ∧ w'.cell? ⟨C2, 0, none⟩ = some (.string (S ly)) ∧ w'.cell? ⟨C2, 1, none⟩ = some (.int .i64 iy) ∧ Bel wc.heap.size wc w')
               (first
                 | with_reducible exact HG.out
                 | with_reducible assumption
                 | with_reducible exact keepB (w := wc) hC1 hC2 (bel_al _ _ (Nat.le_refl _)) (by assumption)
                 | go_keep)
               (first
                 | (go_at_call 110; refine (cmpStr_any _ _ _).mono ?_; rintro e w9 ⟨rfl, rfl⟩; rw [HBS.out])
                 | (go_at_call 114; refine (cmpInt_any _ _ _).mono ?_; rintro e w9 ⟨rfl, rfl⟩; rw [HBI.out])
                 | (go_at_call 113; refine (Or_at _ bs bi r HN3 _ (by simp) (by simp)).mono ?_; rintro e w9 ⟨rfl, rfl⟩))
             all_goals
               have hBx := (keepB (w := wc) hC1 hC2 (Bel.refl _ _) (by assumption)).2.2.2.2
               go_wp2_with fail
               go_ret
               exact ⟨rfl, HBw.out.trans (hBx.mono HBw.out.size)⟩
         · simp only at h1 h2 h3
           rw [hor h1] at HN2
           have HN3 := Lib.hid HN2
           clear hxy hor HN2
           obtain ⟨bs, hbs⟩ : ∃ n, cmpB lx ly = n := ⟨_, rfl⟩
           obtain ⟨bi, hbi⟩ : ∃ n, cmpI ix iy = n := ⟨_, rfl⟩
           have HBS := Lib.hid hbs
           have HBI := Lib.hid hbi
           simp only [hbs, hbi] at HN3
           clear hbs hbi
           obtain ⟨pe, hpe⟩ : ∃ b, lx.isEmpty = b := ⟨_, rfl⟩
           have hqe : ly.isEmpty = pe := h1.symm.trans hpe
           clear h1
           rcases bool_two pe with rfl | rfl
           all_goals
             go_wp2_with fail
             go_region_held3 (fun w' => w'.cell? ⟨C1, 0, none⟩ = some (.string (S lx)) ∧ w'.cell? ⟨C1, 1, none⟩ = some (.int .i64 ix) ∧ w'.cell? ⟨C2, 0, none⟩ = some (.string (S ly)) ∧ w'.cell? ⟨C2, 1, none⟩ = some (.int .i64 iy) ∧ Bel wc.heap.size wc w')
               (first
                 | with_reducible exact HG.out
                 | with_reducible assumption
                 | with_reducible exact keepB (w := wc) hC1 hC2 (bel_al _ _ (Nat.le_refl _)) (by assumption)
                 | go_keep)
               (first
                 | (go_at_call 110; refine (cmpStr_any _ _ _).mono ?_; rintro e w9 ⟨rfl, rfl⟩; rw [HBS.out])
                 | (go_at_call 114; refine (cmpInt_any _ _ _).mono ?_; rintro e w9 ⟨rfl, rfl⟩; rw [HBI.out])
                 | (go_at_call 113; refine (Or_at _ bs bi r HN3 _ (by simp) (by simp)).mono ?_; rintro e w9 ⟨rfl, rfl⟩))
             all_goals
               have hBx := (keepB (w := wc) hC1 hC2 (Bel.refl _ _) (by assumption)).2.2.2.2
               go_wp2_with fail
               go_ret
               exact ⟨rfl, HBw.out.trans (hBx.mono HBw.out.size)⟩
         · exact absurd h1 hxy
   · have h' : j = mn := by omega
     subst h'
     have HE := Lib.hid ((cmpS_end L M j hml hmm (by omega)).symm.trans HW.out.1)
     clear HP HQ
     go_wp2_with fail
     refine (cmpInt_any _ _ _).mono ?_
     rintro e w9 ⟨rfl, rfl⟩
     go_wp2_with fail
     go_ret
     exact ⟨ret_i64 HE.out, HW.out.2⟩
end
section
open Go.RowKit Go.Sort Go.Proofs
variable {α : Type}
theorem flatMap_get (enc : α → List Value) (k : Nat) (hk : ∀ x, (enc x).length = k) : ∀ (T : List α) (j : Nat) (h : j < T.length) (i : Nat), i < k → (T.flatMap enc)[j * k + i]? = (enc T[j])[i]?
 | t :: r, 0, _, i, hi => by
   rw [List.flatMap_cons, Nat.zero_mul, Nat.zero_add, List.getElem?_append_left (by rw [hk]; omega)]; rfl
 | t :: r, j + 1, h, i, hi => by
   have := flatMap_get enc k hk r j (by simpa using h) i hi
   rw [List.flatMap_cons, List.getElem?_append_right (by rw [hk, Nat.add_mul]; omega), hk, show (j + 1) * k + i - k = j * k + i by rw [Nat.add_mul]; omega, this]; rfl
variable [Inhabited α]
theorem getI (T : List α) (j : Nat) (h : j < T.length) : T.toArray[j]! = T[j] := by
 rw [getElem!_pos T.toArray j (by simpa using h)]; simp
theorem own_holds {W : World} {base : Nat} {e : TypeId} {k g cap : Nat} (enc : α → List Value) (hk : ∀ x, (enc x).length = k) (hk0 : 0 < k) {T : List α} (h : W.ownsRow base e k (.slice (some ⟨g, 0, none⟩) T.length cap) T.length (T.flatMap enc)) : HoldsK enc k W g 0 T.toArray := by
 intro t ht
 rw [size_flatK] at ht
 have ht' : t < T.length * k := by simpa using ht
 have hj : t / k < T.length := Nat.div_lt_of_lt_mul (by rw [Nat.mul_comm]; exact ht')
 have hm : t % k < k := Nat.mod_lt _ hk0
 have e1 : t = t / k * k + t % k := by rw [Nat.mul_comm]; exact (Nat.div_add_mod t k).symm
 have hg := flatMap_get enc k hk T (t / k) hj (t % k) hm
 rw [← e1] at hg
 have hx : (T.flatMap enc)[t]? = some (enc T[t / k])[t % k]! := by
   rw [hg, getElem!_pos (enc T[t / k]) (t % k) (by rw [hk]; exact hm), List.getElem?_eq_getElem]
 have c := h.cells (g := g) rfl t _ hx
 rw [Lib.add_plain, Nat.zero_add] at c
 refine ⟨?_, ?_⟩
 · rw [Nat.zero_add, c, get_flatK enc k T.toArray t ht]
   rw [getI T (t / k) hj]; rfl
 · rcases h.2 with ⟨hv, -⟩ | ⟨g', cap', cur, hv, -, hg', -⟩
   · cases hv
   · injection hv with hv
     injection hv with hv
     injection hv with hv
     subst hv
     simp [World.frozen?, hg']
theorem sorted_world (enc : α → List Value) (k : Nat) (W0 : World) (blk m : Nat) (d d' : Array α) (os : Array Obj) (hH : HoldsK enc k W0 blk 0 d) (hblk : blk < W0.heap.size) (hs : d'.size = d.size) :
   W0.grownBy (sortWorldK enc k W0 blk 0 m d' os) (some blk) ∧ HoldsK enc k (sortWorldK enc k W0 blk 0 m d' os) blk 0 d' := by
 refine ⟨⟨rfl, rfl, rfl, ?_, fun j hj hne => ?_⟩, ?_⟩
 · show W0.heap.size ≤ ((W0.heap.modify blk _) ++ os).size
   simp
 · unfold sortWorldK
   rw [heap_grow_old _ _ (show j < (putRowK enc k (Sort.ahead W0 m) blk 0 d').heap.size by show j < (W0.heap.modify blk _).size; simpa using hj)]
   show (W0.heap.modify blk _)[j]? = _
   rw [Array.getElem?_modify, if_neg (fun e => hne (by rw [e]))]
 · exact holdsK_grow enc k _ _ _ _ _ (by show blk < (W0.heap.modify blk _).size; simpa using hblk) (holdsK_putRowK enc k _ _ _ d d' (holdsK_ahead enc k _ _ _ _ _ hH) hs)
theorem perm_whole {d d' : Array α} (h : PermIn 0 d.size d d') : d'.toList.Perm d.toList := by
 obtain ⟨h1, -, h2⟩ := h
 have e1 : d'.extract 0 d.size = d' := by rw [← h1]; simp
 have e2 : d.extract 0 d.size = d := by simp
 rwa [e1, e2] at h2
theorem sorted_pair {lt : α → α → Bool} {d' : Array α} {n : Nat} (hn : d'.size = n) (h : SortedIn lt 0 n d') : d'.toList.Pairwise fun x y => lt y x = false := by
 rw [List.pairwise_iff_getElem]
 intro i j hi hj hij
 have := h i j (Nat.zero_le _) hij (by rw [← hn]; simpa using hj)
 rw [getElem!_pos d' j (by simpa using hj), getElem!_pos d' i (by simpa using hi)] at this
 simpa using this
end
section
open Go.RowKit
theorem SlK.sls {W : World} {ok : Nat → Prop} {v : Value} {L : List Stp} (h : SlK W ok v L) : SlS W v L := by
 obtain ⟨p, cap, B, o, rfl, hp, hc⟩ := h
 rcases Nat.eq_zero_or_pos L.length with h0 | h0
 · refine .inl ⟨⟨p, cap, by rw [h0]⟩, List.length_eq_zero_iff.1 h0⟩
 · obtain ⟨h1, h2, h3, -⟩ := hp h0
   subst h1
   refine .inr ⟨B, o, cap, rfl, h2, h3, fun j x hj => ?_⟩
   obtain ⟨hlt, rfl⟩ := List.getElem?_eq_some_iff.1 hj
   exact hc j hlt
def checkE (L : List Ent) : Nat := if kindsB L = false then 11 else if twiceB L = true then 6 else 0
def entLim (L : List Ent) : Prop := L.length ≤ 1000000 ∧ ∀ e ∈ L, e.1.length ≤ 1000000 ∧ limD e.2 = true
theorem kinds_step {L : List Ent} {i : Nat} (h : i < L.length) : kindsB (L.drop i) = (okL L[i].1 && leafB L[i].2 && kindsB (L.drop (i + 1))) := by
 unfold kindsB
 rw [List.drop_eq_getElem_cons h, List.all_cons]
theorem kinds_over {L : List Ent} {i : Nat} (h : L.length ≤ i) : kindsB (L.drop i) = true := by
 rw [List.drop_of_length_le h]; rfl
set_option maxRecDepth 100000 in
set_option maxHeartbeats 4000000 in
theorem cmpEnt_any (x y : Env) {ok : Nat → Prop} {W : World} (hx : SlK W ok x.pv x.path) (hy : SlK W ok y.pv y.path) (hL : x.path.length ≤ 1000000) (hM : y.path.length ≤ 1000000) :
   Calls Tryz.prog 70 #[.agg #[x.pv, .int .i64 x.data.k, .int .i64 x.data.n, .string (S x.data.s), x.vi, x.vm], .agg #[y.pv, .int .i64 y.data.k, .int .i64 y.data.n, .string (S y.data.s), y.vi, y.vm]] W
     fun e w' => e = .returned (.int .i64 (cmpS x.path y.path)) ∧ Bel W.heap.size W w' := by
 have hb : Bel W.heap.size W ((W.alloc (.cells #[x.pv, .int .i64 x.data.k, .int .i64 x.data.n, .string (S x.data.s), x.vi, x.vm] 42)).alloc (.cells #[y.pv, .int .i64 y.data.k, .int .i64 y.data.n, .string (S y.data.s), y.vi, y.vm] 42)) := bel_al2 _ _ _ (Nat.le_refl _)
 have hn := two_new W #[x.pv, .int .i64 x.data.k, .int .i64 x.data.n, .string (S x.data.s), x.vi, x.vm] #[y.pv, .int .i64 y.data.k, .int .i64 y.data.n, .string (S y.data.s), y.vi, y.vm] 42 42
 have HC := Lib.hid (fun W' (hb : Bel W.heap.size W W') => Compare_bel x.pv y.pv x.path y.path W' (hx.under hb.1).sls (hy.under hb.1).sls hL hM)
 clear hx hy hL hM
 generalize cmpS x.path y.path = r at HC ⊢
 go_enter Tryz.func70, Tryz.ntmps70
 go_upto_region 1 with fail
 generalize (W.alloc (.cells #[x.pv, .int .i64 x.data.k, .int .i64 x.data.n, .string (S x.data.s), x.vi, x.vm] 42)).alloc (.cells #[y.pv, .int .i64 y.data.k, .int .i64 y.data.n, .string (S y.data.s), y.vi, y.vm] 42) = W1 at hb hn ⊢
 have c0 := hn.1.cell 0
 have c1 := hn.2.1.cell 0
 simp at c0 c1
 have HB := Lib.hid hb
 clear hb hn
 go_wp2_with fail
 refine (HC.out _ HB.out).mono ?_
 rintro e w1 ⟨rfl, hb⟩
 have HB1 := Lib.hid (HB.out.trans (hb.mono HB.out.size))
 clear hb
 go_wp2_with fail
 go_ret
 exact ⟨rfl, HB1.out⟩
end
section
open Go.RowKit Go.Sort
def SortE (W : World) (g : Nat) (T : List Env) (e : Ending) (W' : World) : Prop :=
 e = .returned (.tuple #[]) ∧ ∃ T' : List Env, T'.Perm T ∧ (T'.Pairwise fun a b => cmpS a.path b.path ≤ 0) ∧ W.grownBy W' (some g) ∧ ∀ (j : Nat) (h : j < T'.length) (i : Nat), i < 6 → W'.cell? ⟨g, j * 6 + i, none⟩ = (cellsE T'[j])[i]?
theorem sortNoneEnt_any (p : Option Addr) (cap : Nat) (fv : Value) (W : World) : Calls Tryz.prog 69 #[.slice p 0 cap, fv] W fun e w' => e = .returned (.tuple #[]) ∧ w' = W :=
 AnyF.slices_SortFunc_none Tryz.sortEnt p cap fv W
def EOk (W : World) (g : Nat) (t : Env) : Prop := SlK W (fun B => B ≠ g) t.pv t.path ∧ (t.vi.oneCell' = true ∧ t.vm.oneCell' = true) ∧ t.path.length ≤ 1000000
theorem cmpS_ge {a b c : List Stp} (h1 : 0 ≤ cmpS a b) (h2 : 0 ≤ cmpS b c) : 0 ≤ cmpS a c := by
 have n1 := cmpS_neg a b
 have n2 := cmpS_neg b c
 have n3 := cmpS_neg a c
 have := (cmpS_trans c b a (by omega) (by omega)).1
 omega
set_option maxHeartbeats 2000000 in
theorem sortEnt_any {T : List Env} {W : World} {base g cap : Nat} (hown : W.ownsRow base 42 6 (.slice (some ⟨g, 0, none⟩) T.length cap) T.length (flatE T)) (hT : ∀ t ∈ T, EOk W g t) (hn : T.length ≤ 1000000) :
   Calls Tryz.prog 69 #[.slice (some ⟨g, 0, none⟩) T.length cap, .func (.func 70) #[] #[]] W (SortE W g T) := by
 let α := {t : Env // EOk W g t}
 haveI : Inhabited α := ⟨⟨⟨[], dat0, .slice none 0 0, .slice none 0 0, .slice none 0 0⟩, ⟨none, 0, 0, 0, rfl, by simp, by simp⟩, ⟨rfl, rfl⟩, Nat.zero_le _⟩⟩
 let enc : α → List Value := fun t => cellsE t.1
 let cf : α → α → Int := fun x y => cmpS x.1.path y.1.path
 let U : List α := T.attachWith (EOk W g) hT
 have hU : U.map Subtype.val = T := List.attachWith_map_subtype_val ..
 have hUl : U.length = T.length := by rw [← hU]; simp
 have hF : U.flatMap enc = flatE T := by
   rw [← hU]; unfold flatE
   rw [List.flatMap_map]
 have hk : ∀ x : α, (enc x).length = 6 := fun _ => rfl
 have hblk : g < W.heap.size := by
   rcases own_head hown with ⟨hv, -⟩ | ⟨g', cap', hv, -, -, hg, -⟩
   · cases hv
   · injection hv with hv; injection hv with hv; injection hv with hv; subst hv; exact hg
 have hH : HoldsK enc 6 W g 0 U.toArray := own_holds (base := base) (e := 42) (cap := cap) enc hk (by decide) (by rw [hF, hUl]; exact hown)
 have h1 : ∀ x : α, ∀ v ∈ enc x, v.oneCell' = true := by
   intro x v hv
   obtain ⟨h1, ⟨h2, h3⟩, -⟩ := x.2
   obtain ⟨p, c, hpv⟩ := slk_form h1
   simp only [enc, cellsE, List.mem_cons, List.not_mem_nil, or_false] at hv
   rcases hv with rfl | rfl | rfl | rfl | rfl | rfl
   · rw [hpv]; rfl
   · rfl
   · rfl
   · rfl
   · exact h2
   · exact h3
 have hO : SWO (ltOf cf) := by
   have hl : ∀ x y : α, ltOf cf x y = decide (cmpS x.1.path y.1.path < 0) := fun _ _ => rfl
   refine ⟨fun x => ?_, fun x y z a b => ?_, fun x y z a b => ?_⟩
   · rw [hl, (cmpS_zero x.1.path x.1.path).2 rfl]; rfl
   · rw [hl] at *
     simp only [decide_eq_true_eq] at *
     have n1 := cmpS_neg x.1.path z.1.path
     have n2 := cmpS_neg y.1.path z.1.path
     have n3 := cmpS_neg x.1.path y.1.path
     rcases Int.lt_or_le (cmpS x.1.path z.1.path) 0 with h | h
     · exact h
     · have := cmpS_ge (a := y.1.path) (b := x.1.path) (c := z.1.path) (by omega) h
       omega
   · rw [hl] at *
     simp only [decide_eq_false_iff_not] at *
     have := cmpS_ge (a := x.1.path) (b := y.1.path) (c := z.1.path) (by omega) (by omega)
     omega
 have hcmp : CmpLays Tryz.prog 70 #[] enc 6 cf g 0 U.toArray.size W := by
   intro m os dk hdk x y
   have hsw := (sorted_world enc 6 W g m U.toArray dk os hH hblk hdk).1
   have hs1 : ∀ z : α, SlK (sortWorldK enc 6 W g 0 m dk os) (fun B => B ≠ g) z.1.pv z.1.path := fun z => z.2.1.grown hsw fun B hB e => hB (by injection e)
   exact (cmpEnt_any x.1 y.1 (hs1 x) (hs1 y) x.2.2.2 y.2.2.2).mono fun e w' ⟨he, hb⟩ => ⟨he, hb.grows⟩
 have hsz : U.toArray.size = T.length := by simpa using hUl
 have hc := AnyQ.slices_SortFunc Tryz.sortEnt 6 Tryz.isAgg42 Tryz.sizeOf42 enc hk h1 cf hO 70 #[] g 0 cap U.toArray W (enters_of Tryz.func70 (by kernel_rfl) rfl) hcmp hH hblk (by rw [hsz]; omega)
 rw [hsz] at hc
 refine Calls.mono hc ?_
 rintro e w' ⟨he, d', n, os, hp, hs, rfl⟩
 have hds : d'.size = U.toArray.size := by rw [hp.1]
 obtain ⟨g1, g2⟩ := sorted_world enc 6 W g n U.toArray d' os hH hblk hds
 refine ⟨he, d'.toList.map Subtype.val, ?_, ?_, g1, ?_⟩
 · have := (perm_whole (d := U.toArray) (d' := d') (by rw [hsz]; exact hp)).map Subtype.val
   rw [← hU]; simpa using this
 · rw [List.pairwise_map]
   refine (sorted_pair (n := T.length) (by rw [hds, hsz]) hs).imp ?_
   intro x y hxy
   have : ¬ cmpS y.1.path x.1.path < 0 := by simpa [ltOf, cf] using hxy
   have n1 := cmpS_neg x.1.path y.1.path
   omega
 · intro j hj i hi
   have hj' : j < d'.size := by simpa using hj
   have := (g2.cell (i := j) (c := i) hj' hi).1
   rw [Nat.zero_add] at this
   rw [this, getElem!_pos d' j hj', getElem!_pos (enc d'[j]) i (by rw [hk]; exact hi)]
   rw [List.getElem?_eq_getElem (show i < (cellsE _).length from hi)]
   simp [enc]
end
section
open Go.RowKit
theorem adj_drop {T : List Env} {i : Nat} (h : i + 1 < T.length) : adjB ((T.drop i).map Env.e) = (decide ((T[i]'(by omega)).path <+: T[i + 1].path) || adjB ((T.drop (i + 1)).map Env.e)) := by
 rw [List.drop_eq_getElem_cons (show i < T.length by omega), List.drop_eq_getElem_cons h, List.map_cons, List.map_cons, adjB]; rfl
theorem adj_end {T : List Env} {i : Nat} (h : T.length ≤ i + 1) : adjB ((T.drop i).map Env.e) = false := by
 rcases Nat.lt_or_ge i T.length with h1 | h1
 · rw [List.drop_eq_getElem_cons h1, List.drop_of_length_le h]; rfl
 · rw [List.drop_of_length_le h1]; rfl
theorem pre_dec (a b : List Stp) : preS a b = decide (a <+: b) := by
 unfold preS
 rw [Bool.eq_iff_iff]
 simp only [Bool.and_eq_true, decide_eq_true_eq]
 rw [List.prefix_iff_eq_take]
 refine ⟨fun h => h.2, fun h => ⟨?_, h⟩⟩
 rw [h, List.length_take]; omega
theorem flatE_one {W : World} {ok : Nat → Prop} {T : List Env} (h : ∀ t ∈ T, t.good W ok) : ∀ u ∈ flatE T, u.oneCell' = true := by
 intro u hu
 obtain ⟨t, ht, hu⟩ := List.mem_flatMap.1 hu
 obtain ⟨h1, h2⟩ := h t ht
 obtain ⟨p, c, h1⟩ := slk_form h1
 obtain ⟨h3, h4⟩ := h2.one
 simp only [cellsE, List.mem_cons, List.not_mem_nil, or_false] at hu
 rcases hu with rfl | rfl | rfl | rfl | rfl | rfl
 · rw [h1]; rfl
 · rfl
 · rfl
 · rfl
 · exact h3
 · exact h4
set_option maxRecDepth 100000 in
set_option maxHeartbeats 8000000 in
theorem checkP_any {L : List Ent} {v : Value} {ok : Nat → Prop} {w : World} (h : EntR w ok v L) (hl : entLim L) :
   Calls Tryz.prog 37 #[v] w fun e w' => e = .returned (.int .i64 (checkE L : Int)) ∧ Below w.heap.size w w' := by
 obtain ⟨r, hrr⟩ : ∃ r, checkE L = r := ⟨_, rfl⟩
 rw [hrr]
 have HR := Lib.hid (show (if kindsB (L.drop 0) = false then 11 else if twiceB L = true then 6 else 0) = r from hrr)
 clear hrr
 obtain ⟨T, p, cap, B, o, hT, rfl, hp, hg, hc⟩ := h.envs
 obtain ⟨hL, hE⟩ := hl
 have hTl : T.length = L.length := by rw [← hT]; simp
 have hTm : T.length ≤ 1000000 := by omega
 have HT := Lib.hid hT
 have HTL := Lib.hid hTl
 have HG := Lib.hid hg
 have HC := Lib.hid hc
 have HP := Lib.hid hp
 have HE := Lib.hid hE
 clear h hT hTl hg hc hp hE hL
 go_enter Tryz.func37, Tryz.ntmps37
 go_wp2_with fail
 go_loopw [9] (fun x wr => ∃ i : Nat, x = .int .i64 (i : Int) ∧ i ≤ T.length ∧ Hid (Below w.heap.size w wr) ∧ Hid ((if kindsB (L.drop i) = false then 11 else if twiceB L = true then 6 else 0) = r)) (fun x _ => T.length - (intOf x).toNat)
 case atStart => exact ⟨0, rfl, Nat.zero_le _, Lib.hid (Below.refl _ _), HR⟩
 case round =>
   obtain ⟨i, rfl, hi, HB, HV⟩ := hrel
   by_cases hlt : i < T.length
   · obtain ⟨rfl, hcap, hB, -⟩ := HP.out (by omega)
     have hLi : i < L.length := by have := HTL.out; omega
     have hTi : T[i].e = L[i] := by
       have h2 : (T.map Env.e)[i]'(by simpa using hlt) = L[i] := by congr 1
       simpa using h2
     have k : ∀ c (hc : c < 6), wr.cell? ⟨B, o + i * 6 + c, none⟩ = (cellsE T[i])[c]? := by
       intro c hc6
       rw [HB.out.cell (p := ⟨B, o + i * 6 + c, none⟩) hB]
       have h1 := flatE_get T i hlt c hc6
       have h2 : c < (cellsE T[i]).length := hc6
       rw [List.getElem?_eq_getElem h2] at h1 ⊢
       have := HC.out (i * 6 + c) _ h1
       rw [← Nat.add_assoc] at this
       exact this
     have hgi := HG.out _ (List.getElem_mem hlt)
     have hei := HE.out _ (List.getElem_mem hLi)
     have hks := kinds_step hLi
     rw [← hTi] at hei hks
     have HV0 := HV.out
     rw [hks] at HV0
     have HV1 := Lib.hid HV0
     clear HV0 hks HV hTi hLi
     generalize T[i] = t at k hgi hei HV1
     obtain ⟨P, D, pv, vi, vm⟩ := t
     obtain ⟨hg1, hg2⟩ := hgi
     change SlK w ok pv P at hg1
     change Rep w ok D vi vm at hg2
     obtain ⟨pp, pc, rfl⟩ := slk_form hg1
     obtain ⟨p1, cap1, rfl, -, -⟩ := hg2.items
     obtain ⟨q1, caq1, rfl, -, -⟩ := hg2.members
     have k0 : wr.cell? ⟨B, o + i * 6, none⟩ = some (.slice pp P.length pc) := k 0 (by decide)
     have k1 : wr.cell? ⟨B, o + i * 6 + 1, none⟩ = some (.int .i64 D.k) := k 1 (by decide)
     have k2 : wr.cell? ⟨B, o + i * 6 + 2, none⟩ = some (.int .i64 D.n) := k 2 (by decide)
     have k3 : wr.cell? ⟨B, o + i * 6 + 3, none⟩ = some (.string (S D.s)) := k 3 (by decide)
     have k4 : wr.cell? ⟨B, o + i * 6 + 4, none⟩ = some (.slice p1 D.its.length cap1) := k 4 (by decide)
     have k5 : wr.cell? ⟨B, o + i * 6 + 5, none⟩ = some (.slice q1 D.mem.length caq1) := k 5 (by decide)
     change P.length ≤ 1000000 ∧ limD D = true at hei
     have HV1 : Hid ((if (okL P && leafB D && kindsB (L.drop (i + 1))) = false then 11 else if twiceB L = true then 6 else 0) = r) := HV1
     have HG1 := Lib.hid hg1
     have HG2 := Lib.hid hg2
     have HEI := Lib.hid hei
     clear k hg1 hg2 hei
     have hN : Blk (wr.alloc (.cells #[.slice pp P.length pc, .int .i64 D.k, .int .i64 D.n, .string (S D.s), .slice p1 D.its.length cap1, .slice q1 D.mem.length caq1] 42)) wr.heap.size #[.slice pp P.length pc, .int .i64 D.k, .int .i64 D.n, .string (S D.s), .slice p1 D.its.length cap1, .slice q1 D.mem.length caq1] 42 := Blk.new wr _ _
     have hB1 := below_al1 HB.out (Nat.le_refl _) (.cells #[.slice pp P.length pc, .int .i64 D.k, .int .i64 D.n, .string (S D.s), .slice p1 D.its.length cap1, .slice q1 D.mem.length caq1] 42)
     go_upto_region 4 with fail
     generalize wr.alloc (.cells #[.slice pp P.length pc, .int .i64 D.k, .int .i64 D.n, .string (S D.s), .slice p1 D.its.length cap1, .slice q1 D.mem.length caq1] 42) = W1 at hN hB1 ⊢
     clear k0 k1 k2 k3 k4 k5 HB
     have n0 := hN.cell 0
     simp at n0
     have HN := Lib.hid hN
     have HB1 := Lib.hid hB1
     clear hN hB1
     go_wp2_with fail
     refine (Valid_any _ P _ (HG1.out.under HB1.out).sls HEI.out.1).mono ?_
     rintro e w2 ⟨rfl, hb⟩
     have hN := HN.out.below hb
     have HB2 := Lib.hid (HB1.out.trans (hb.mono HB1.out.size))
     clear hb n0 HN HB1
     rcases Bool.eq_false_or_eq_true (okL P) with hok | hok
     · rw [hok]
       have HV2 := Lib.hid (show (if (leafB D && kindsB (L.drop (i + 1))) = false then 11 else if twiceB L = true then 6 else 0) = r by rw [← HV1.out, hok]; simp only [Bool.true_and])
       clear hok
       have n1 := hN.cell 1
       have n2 := hN.cell 2
       have n3 := hN.cell 3
       have n4 := hN.cell 4
       have n5 := hN.cell 5
       simp at n1 n2 n3 n4 n5
       have hlw := hN.lt
       clear hN
       go_wp2_with fail
       refine (leafP_any (HG2.out.under HB2.out) HEI.out.2).mono ?_
       rintro e w3 ⟨rfl, hb⟩
       have HB3 := Lib.hid (HB2.out.trans (hb.mono HB2.out.size))
       clear hb n1 n2 n3 n4 n5 hlw HB2
       rcases Bool.eq_false_or_eq_true (leafB D) with hlf | hlf
       · rw [hlf]
         have HV3 := Lib.hid (show (if kindsB (L.drop (i + 1)) = false then 11 else if twiceB L = true then 6 else 0) = r by rw [← HV2.out, hlf]; simp only [Bool.true_and])
         clear hlf
         go_wp2_with fail
         go_roundw
         case rel => exact ⟨i + 1, by go_num, hlt, HB3, HV3⟩
         case measure => simp [intOf]; omega
       · rw [hlf]
         have HV3 := Lib.hid (show 11 = r by rw [← HV2.out, hlf]; rfl)
         clear hlf
         go_wp2_with fail
         go_ret
         exact ⟨by rw [← HV3.out]; rfl, HB3.out⟩
     · rw [hok]
       have HV2 := Lib.hid (show 11 = r by rw [← HV1.out, hok]; rfl)
       clear hok hN
       go_wp2_with fail
       go_ret
       exact ⟨by rw [← HV2.out]; rfl, HB2.out⟩
   · have HV1 := Lib.hid (show (if twiceB L = true then 6 else 0) = r by rw [← HV.out, kinds_over (by have := HTL.out; omega)]; rfl)
     clear HV
     have hsrc : ∀ a, p = some a → ∀ j u, (flatE T)[j]? = some u → wr.cell? (a.add j) = some u := by
       intro a ha j u hu
       have hj := (List.getElem?_eq_some_iff.1 hu).1
       rw [flatE_len] at hj
       obtain ⟨e1, -, e3, -⟩ := HP.out (by omega)
       rw [ha] at e1
       injection e1 with e1
       subst e1
       rw [Lib.add_plain, HB.out.cell (p := ⟨B, o + j, none⟩) e3]
       exact HC.out j u hu
     have hp0 : p = none → T.length = 0 := by
       intro h0
       rcases Nat.eq_zero_or_pos T.length with h | h
       · exact h
       · have := (HP.out h).1
         rw [h0] at this; cases this
     have HCLO := Lib.hid (cloneEnt_any p T.length cap (flatE T) wr (flatE_len T) (by omega) hsrc hp0 (flatE_one HG.out))
     clear hsrc hp0 HR
     go_wp2_with fail
     refine HCLO.out.mono ?_
     rintro e w2 ⟨q, rfl, hown, hb⟩
     have HB2 := Lib.hid (HB.out.trans (hb.mono HB.out.size))
     rcases Nat.eq_zero_or_pos T.length with h0 | h0
     · have hT0 : T = [] := List.length_eq_zero_iff.1 h0
       obtain ⟨qp, qc, rfl⟩ := own_form5 hown
       have HV2 := Lib.hid (show 0 = r by rw [← HV1.out, ← HT.out, hT0]; rfl)
       rw [h0]
       clear hown hb hT0 h0 HV1
       go_wp2_with fail
       refine (sortNoneEnt_any _ _ _ _).mono ?_
       rintro e w3 ⟨rfl, rfl⟩
       go_wp2_with fail
       refine wp_loop_rounds 1 ?_
       rw [rounds_succ]
       go_wp2_with fail
       go_ret
       exact ⟨by rw [← HV2.out]; rfl, HB2.out⟩
     · obtain ⟨g, qc, rfl, hg0, -, hg2, -⟩ : ∃ g cap, q = .slice (some ⟨g, 0, none⟩) T.length cap ∧ wr.heap.size ≤ g ∧ T.length ≤ cap ∧ g < w2.heap.size ∧ q.ownBlock = some g := by
         rcases own_head hown with ⟨-, h1⟩ | h1
         · omega
         · exact h1
       have hTok : ∀ t ∈ T, EOk w2 g t := by
         intro t ht
         obtain ⟨h1, h2⟩ := HG.out t ht
         have h3 := ((h1.under HB.out).mono (ok' := fun B => B ≠ g) fun B hB _ => by omega).under hb
         refine ⟨h3, h2.one, ?_⟩
         have hm : t.e ∈ L := by rw [← HT.out]; exact List.mem_map_of_mem ht
         exact (HE.out _ hm).1
       have HSO := Lib.hid (sortEnt_any hown hTok hTm)
       have HTOK := Lib.hid hTok
       have HGG := Lib.hid (And.intro hg0 hg2)
       clear hown hb hTok hg0 hg2
       go_wp2_with fail
       refine HSO.out.mono ?_
       rintro e w3 ⟨rfl, T', hper, hpw, hgr, hce⟩
       have hB3 : Below w.heap.size w w3 := HB2.out.grown hgr HB2.out.size (fun k hk => by injection hk with hk; have := HGG.out.1; have := HB.out.size; omega)
       have hsl : ∀ t ∈ T', SlS w3 t.pv t.path ∧ t.path.length ≤ 1000000 := fun t ht => by
         have h1 := HTOK.out t (hper.mem_iff.1 ht)
         exact ⟨(h1.1.grown hgr fun B hB e => hB (by injection e)).sls, h1.2.2⟩
       have hadj : adjB (T'.map Env.e) = twiceB L := by
         rw [← HT.out]
         refine adj_twice (hper.map Env.e) ?_
         rw [List.pairwise_map]
         exact hpw
       have hTl' : T'.length = T.length := hper.length_eq
       have HV2 := Lib.hid (show (if adjB ((T'.drop 0).map Env.e) = true then 6 else 0) = r by rw [List.drop_zero, hadj]; exact HV1.out)
       have HB3 := Lib.hid hB3
       have HSL := Lib.hid hsl
       have HCE := Lib.hid hce
       have hg3 : g < w3.heap.size := Nat.lt_of_lt_of_le HGG.out.2 hgr.size
       clear hper hpw hgr hce hB3 hsl hadj HV1 HSO HCLO HTOK HGG HB HB2
       rw [← hTl']
       have hTm' : T'.length ≤ 1000000 := by omega
       clear hTm hTl' h0 hlt hi
       go_wp2_with fail
       go_loopw [6] (fun x wr => ∃ i : Nat, x = .int .i64 ((i + 1 : Nat) : Int) ∧ (i = 0 ∨ i + 1 ≤ T'.length) ∧ Hid (Below w3.heap.size w3 wr) ∧ Hid ((if adjB ((T'.drop i).map Env.e) = true then 6 else 0) = r)) (fun x _ => T'.length + 1 - (intOf x).toNat)
       case atStart => exact ⟨0, rfl, .inl rfl, Lib.hid (Below.refl _ _), HV2⟩
       case round =>
         clear HV2
         obtain ⟨i, rfl, hi, HB, HV⟩ := hrel
         by_cases hlt : i + 1 < T'.length
         · have k0 := (HB.out.cell (p := ⟨g, i * 6 + 0, none⟩) hg3).trans (HCE.out i (by omega) 0 (by decide))
           have k1 := (HB.out.cell (p := ⟨g, (i + 1) * 6 + 0, none⟩) hg3).trans (HCE.out (i + 1) hlt 0 (by decide))
           have s0 := HSL.out _ (List.getElem_mem (show i < T'.length by omega))
           have s1 := HSL.out _ (List.getElem_mem hlt)
           have HV1 := Lib.hid (show (if (decide ((T'[i]'(by omega)).path <+: T'[i + 1].path) || adjB ((T'.drop (i + 1)).map Env.e)) = true then 6 else 0) = r by rw [← adj_drop hlt]; exact HV.out)
           clear HV
           generalize (T'[i]'(by omega)) = x at k0 s0 HV1
           generalize T'[i + 1] = y at k1 s1 HV1
           simp only [cellsE, List.getElem?_cons_zero, Nat.add_zero] at k0 k1
           have HPR := Lib.hid (fun w' (hb : Below wr.heap.size wr w') => Prefix_any x.pv y.pv x.path y.path w' ((s0.1.below HB.out).below hb) ((s1.1.below HB.out).below hb) s0.2 s1.2)
           rw [← pre_dec] at HV1
           clear s0 s1
           generalize preS x.path y.path = b at HPR HV1
           generalize x.pv = xv at k0 HPR
           generalize y.pv = yv at k1 HPR
           have b0 : (0 : Int) ≤ ((i + 1 : Nat) : Int) - 1 := by omega
           have b1 : ((i + 1 : Nat) : Int) - 1 < (T'.length : Int) := by omega
           have b2 : (((i + 1 : Nat) : Int) - 1).toNat = i := by omega
           have w1 : IntKind.i64.wrap (((i + 1 : Nat) : Int) - 1) = (i : Int) := by rw [show ((i + 1 : Nat) : Int) - 1 = (i : Int) by omega]; exact IntWalk.i64_in _ (by omega)
           have w2 : IntKind.i64.wrap ((i : Int) + 1 - 1) = (i : Int) := by rw [show (i : Int) + 1 - 1 = (i : Int) by omega]; exact IntWalk.i64_in _ (by omega)
           have w3' : IntKind.i64.wrap (i : Int) = (i : Int) := IntWalk.i64_in _ (by omega)
           have b3 : (0 : Int) ≤ (i : Int) := by omega
           have b4 : (i : Int) < (T'.length : Int) := by omega
           have b5 : (0 : Int) ≤ (i : Int) + 1 := by omega
           have b6 : (i : Int) + 1 < (T'.length : Int) := by omega
           have b7 : ((i : Int) + 1).toNat = i + 1 := by omega
           have HK := Lib.hid (fun w' (hb : Below wr.heap.size wr w') => And.intro ((hb.cell (p := ⟨g, i * 6, none⟩) (Nat.lt_of_lt_of_le hg3 HB.out.size)).trans k0) ((hb.cell (p := ⟨g, (i + 1) * 6, none⟩) (Nat.lt_of_lt_of_le hg3 HB.out.size)).trans k1))
           have HB0 := Lib.hid (below_drew (Below.refl wr.heap.size wr))
           go_wp2_with fail
           clear k0 k1
           go_region_held3 (fun w' => w'.cell? ⟨g, i * 6, none⟩ = some xv ∧ w'.cell? ⟨g, (i + 1) * 6, none⟩ = some yv)
             (first
               | with_reducible exact HK.out _ HB0.out
               | with_reducible exact HK.out _ HB9.out
               | go_keep)
             (first
               | (go_at_call 72; refine (HPR.out _ HB0.out).mono ?_; rintro e w9 ⟨rfl, hb9⟩; have HB9 := Lib.hid (HB0.out.trans (hb9.mono HB0.out.size)); clear hb9))
           all_goals
             clear w1 w2 w3' b7
             have HB10 := Lib.hid (HB.out.trans (HB9.out.mono HB.out.size))
             rcases Bool.eq_false_or_eq_true b with rfl | rfl
             · have HV2 := Lib.hid (show 6 = r by rw [← HV1.out]; rfl)
               go_wp2_with fail
               go_ret
               exact ⟨by rw [← HV2.out]; rfl, HB3.out.trans (HB10.out.mono HB3.out.size)⟩
             · have HV2 := Lib.hid (show (if adjB ((T'.drop (i + 1)).map Env.e) = true then 6 else 0) = r by rw [← HV1.out]; rfl)
               go_wp2_with fail
               go_roundw
               case rel => exact ⟨i + 1, by go_num, .inr hlt, HB10, HV2⟩
               case measure => simp [intOf]; omega
         · have HV1 := Lib.hid (show 0 = r by rw [← HV.out, adj_end (by omega)]; rfl)
           go_wp2_with fail
           go_ret
           exact ⟨by rw [← HV1.out]; rfl, HB3.out.trans (HB.out.mono HB3.out.size)⟩
end
section
open Go.RowKit Go.Maps
theorem laidOutP : laidOutB Tryz.prog = true := by kernel_rfl
theorem stpLaw : Keyed Tryz.prog 44 := Keyed.of_law (deep_law_laid laidOutP (m := 2) (by omega) (of_decide_eq_true (by kernel_rfl)) (by kernel_rfl) (by rw [Tryz.underlying44]))
theorem stp_key (s : Stp) (hl : s.lab.length ≤ 1000000) (hi : (Lit.int .i64 s.idx).wf = true) : ∃ l, keyOf Tryz.prog 44 (.agg #[.string (S s.lab), .int .i64 s.idx]) = some l := by
 have h1 : Tryz.prog.keyType 44 = true := by kernel_rfl
 have h2 : (Value.agg #[.string (S s.lab), .int .i64 s.idx]).formed Tryz.prog 44 = true := by simp [Value.formed, Tryz.underlying44, show Tryz.prog.cellsOf 44 = 2 by kernel_rfl]
 have h3 : ∃ ls, Tryz.prog.keyLits (Tryz.prog.types.size + 1) 44 (Value.agg #[.string (S s.lab), .int .i64 s.idx]).cells.toList = some ls := by
   obtain ⟨n, hn⟩ : ∃ n, Tryz.prog.types.size + 1 = n + 2 := ⟨Tryz.prog.types.size - 1, by kernel_rfl⟩
   rw [hn]
   have c0 : Tryz.prog.cellsOf 9 = 1 := by kernel_rfl
   have c1 : Tryz.prog.cellsOf 3 = 1 := by kernel_rfl
   have c2 : Tryz.prog.cellsOf 44 = 2 := by kernel_rfl
   have hs : (S s.lab).size ≤ maxLen := by show s.lab.length ≤ maxLen; unfold maxLen; omega
   have u0 := Tryz.underlying44
   have u1 := Tryz.underlying9
   have u2 := Tryz.underlying3
   generalize Tryz.prog = P at *
   refine ⟨[.string (S s.lab).data.toList, .int .i64 s.idx], ?_⟩
   simp [Program.keyLits, u0, u1, u2, c0, c1, c2, Value.cells, hs, hi]
 obtain ⟨ls, h3⟩ := h3
 refine ⟨.string (keyBytes ls), ?_⟩
 unfold keyOf
 rw [Tryz.underlying44]
 simp only [h1, h2, Bool.and_self, if_true, h3, Option.map_some]
end
section
open Go.RowKit Go.Maps
theorem own_set {W : World} {base : Nat} {e : TypeId} {s g n cap : Nat} {xs : List Value} (h : W.ownsRow base e s (.slice (some ⟨g, 0, none⟩) n cap) n xs) (i : Nat) (v : Value) :
   (W.setCell ⟨g, i, none⟩ v).ownsRow base e s (.slice (some ⟨g, 0, none⟩) n cap) n (xs.set i v) := by
 obtain ⟨h1, h2⟩ := h
 refine ⟨by rw [List.length_set]; exact h1, ?_⟩
 rcases h2 with ⟨hv, -⟩ | ⟨g', cap', cur, hv, hb, hg, hc, hm, hsz, ht⟩
 · cases hv
 · injection hv with e1 e2 e3
   injection e1 with e1
   injection e1 with e1
   subst e1; subst e3
   refine .inr ⟨g, cap, cur.setIfInBounds i v, rfl, hb, ?_, hc, hm, by simpa using hsz, ?_⟩
   · simp only [World.setCell, Array.getElem?_modify, if_true, hg, Option.map_some]; rfl
   · rw [Array.toList_setIfInBounds, List.take_set, ht]
theorem own_set_other {W : World} {base : Nat} {e : TypeId} {s n B : Nat} {u : Value} {xs : List Value} (h : W.ownsRow base e s u n xs) (hB : u.ownBlock ≠ some B) (i : Nat) (v : Value) : (W.setCell ⟨B, i, none⟩ v).ownsRow base e s u n xs := by
 refine ⟨h.1, ?_⟩
 rcases h.2 with h | ⟨g, cap, cur, rfl, hb, hg, hr⟩
 · exact .inl h
 · refine .inr ⟨g, cap, cur, rfl, hb, ?_, hr⟩
   have : B ≠ g := fun e => hB (by rw [e]; rfl)
   simp only [World.setCell, Array.getElem?_modify, if_neg this, hg]
theorem own_grown {W W' : World} {base : Nat} {e : TypeId} {s n : Nat} {u : Value} {xs : List Value} {row : Option Nat} (h : W.ownsRow base e s u n xs) (hg : W.grownBy W' row) (hne : u.ownBlock = none ∨ u.ownBlock ≠ row) : W'.ownsRow base e s u n xs := by
 refine ⟨h.1, ?_⟩
 rcases h.2 with h | ⟨g, cap, cur, rfl, hb, hg0, hr⟩
 · exact .inl h
 · refine .inr ⟨g, cap, cur, rfl, hb, ?_, hr⟩
   rw [hg.block g (Array.getElem?_eq_some_iff.1 hg0).1 ?_]
   · exact hg0
   · rcases hne with hne | hne
     · simp [Value.ownBlock] at hne
     · intro e; exact hne (by rw [← e]; rfl)
theorem own_types {W : World} {b1 b2 : Nat} {e1 e2 : TypeId} {s1 s2 n1 n2 : Nat} {v1 v2 : Value} {x1 x2 : List Value} (h1 : W.ownsRow b1 e1 s1 v1 n1 x1) (h2 : W.ownsRow b2 e2 s2 v2 n2 x2) (hne : e1 ≠ e2) : v1.ownBlock = none ∨ v1.ownBlock ≠ v2.ownBlock := by
 rcases h1.2 with ⟨rfl, -⟩ | ⟨g, cap, cur, rfl, hb, hg, -⟩
 · exact .inl rfl
 · right
   intro e
   rcases h2.2 with ⟨rfl, -⟩ | ⟨g', cap', cur', rfl, hb', hg', -⟩
   · simp [Value.ownBlock] at e
   · simp [Value.ownBlock] at e
     subst e
     rw [hg] at hg'
     injection hg' with hg'
     injection hg' with _ e _
     exact hne e
structure Grp where
 st : Stp
 es : List Env
 v : Value
def cellsG (g : Grp) : List Value := [.string (S g.st.lab), .int .i64 g.st.idx, g.v]
def flatG (G : List Grp) : List Value := G.flatMap cellsG
theorem flatG_snoc (G : List Grp) (g : Grp) : flatG (G ++ [g]) = flatG G ++ cellsG g := by unfold flatG; simp
theorem flatG_get : ∀ (G : List Grp) (j : Nat) (h : j < G.length) (i : Nat), i < 3 → (flatG G)[j * 3 + i]? = (cellsG G[j])[i]?
 | t :: r, 0, _, i, hi => by
   unfold flatG
   rw [List.flatMap_cons, Nat.zero_mul, Nat.zero_add, List.getElem?_append_left (by simp [cellsG]; omega)]; rfl
 | t :: r, j + 1, h, i, hi => by
   have := flatG_get r j (by simpa using h) i hi
   unfold flatG at *
   rw [List.flatMap_cons, List.getElem?_append_right (by simp [cellsG]; omega), show (j + 1) * 3 + i - (cellsG t).length = j * 3 + i by simp [cellsG]; omega, this]; rfl
theorem flatG_set : ∀ (G : List Grp) (k : Nat) (h : k < G.length) (es : List Env) (v : Value), flatG (G.set k ⟨G[k].st, es, v⟩) = (flatG G).set (k * 3 + 2) v
 | t :: r, 0, _, es, v => by
   unfold flatG
   rw [List.set_cons_zero, List.flatMap_cons, List.flatMap_cons]; rfl
 | t :: r, k + 1, h, es, v => by
   have ih := flatG_set r k (by simpa using h) es v
   unfold flatG at *
   rw [List.set_cons_succ, List.flatMap_cons, List.flatMap_cons]
   simp only [List.getElem_cons_succ]
   rw [ih, List.set_append_right _ _ (by simp [cellsG]; omega)]
   congr 2
   simp [cellsG]; omega
def stpOf : Value → Option (List UInt8 × Int)
 | .agg a => match a.toList with
   | [.string s, .int _ i] => some (s.data.toList, i)
   | _ => none
 | _ => none
def MapG (G : List Grp) (D : DataW Unit) : Prop :=
 ∀ (s : Stp) (l : Lit), keyOf Tryz.prog 44 (.agg #[.string (S s.lab), .int .i64 s.idx]) = some l →
   (∀ (k : Nat) (h : k < G.length), G[k].st = s → has D l = true ∧ D.atKey l (.lit (.int .i64 0)) = .lit (.int .i64 (k : Int))) ∧ ((∀ g ∈ G, g.st ≠ s) → has D l = false)
structure GrS (w : World) (N Bm : Nat) (u : Value) (G : List Grp) (W : World) : Prop where
 own : W.ownsRow N 104 3 u G.length (flatG G)
 rows : ∀ g ∈ G, W.ownsRow N 42 6 g.v g.es.length (flatE g.es)
 sep : G.Pairwise fun a b => a.v.ownBlock = none ∨ a.v.ownBlock ≠ b.v.ownBlock
 map : ∃ D, W.ownsMap Tryz.prog 44 (plainElem (H := Unit) Tryz.prog 3) Bm G.length D ∧ MapG G D
 nm : Bm < N
 nw : N ≤ W.heap.size
 wm : w.heap.size ≤ Bm
 bel : Below w.heap.size w W
theorem map_kept {W W' : World} {Bm n : Nat} {D : DataW Unit} {row : Option Nat} (h : W.ownsMap Tryz.prog 44 (plainElem (H := Unit) Tryz.prog 3) Bm n D) (hg : W.grownBy W' row) (hne : row ≠ some Bm) : W'.ownsMap Tryz.prog 44 (plainElem (H := Unit) Tryz.prog 3) Bm n D := by
 obtain ⟨es, clock, hb, F, hs, hD⟩ := h
 exact ⟨es, clock, (hg.block Bm (Array.getElem?_eq_some_iff.1 hb).1 (fun e => hne e.symm)).trans hb, F, hs, hD⟩
theorem grown_below {W W' : World} (h : Below W.heap.size W W') : W.grownBy W' none := ⟨h.os, h.tape, h.output, h.size, fun k hk _ => h.block k hk⟩
theorem GrS.below {w : World} {N Bm : Nat} {u : Value} {G : List Grp} {W W' : World} (h : GrS w N Bm u G W) (hb : Below W.heap.size W W') : GrS w N Bm u G W' := by
 obtain ⟨D, h1, h2⟩ := h.map
 exact ⟨own_under h.own hb, fun g hg => own_under (h.rows g hg) hb, h.sep, ⟨D, map_kept h1 (grown_below hb) (by simp), h2⟩, h.nm, Nat.le_trans h.nw hb.size, h.wm, h.bel.trans (hb.mono h.bel.size)⟩
theorem GrS.add {w : World} {N Bm : Nat} {u u' : Value} {G : List Grp} {W W1 W2 : World} {s : Stp} {l : Lit} {D : DataW Unit} (h : GrS w N Bm u G W) (hD : W.ownsMap Tryz.prog 44 (plainElem (H := Unit) Tryz.prog 3) Bm G.length D ∧ MapG G D)
   (hl : keyOf Tryz.prog 44 (.agg #[.string (S s.lab), .int .i64 s.idx]) = some l) (hs : ∀ g ∈ G, g.st ≠ s)
   (hm : W1.ownsMap Tryz.prog 44 (plainElem (H := Unit) Tryz.prog 3) Bm (G.length + 1) (D.put l (.lit (.int .i64 (G.length : Int))))) (hg1 : W.grownBy W1 (some Bm))
   (ho : W2.ownsRow N 104 3 u' (G.length + 1) (flatG G ++ [.string (S s.lab), .int .i64 s.idx, .slice none 0 0])) (hg2 : W1.grownBy W2 u.ownBlock) :
   GrS w N Bm u' (G ++ [⟨s, [], .slice none 0 0⟩]) W2 := by
 have hge : ∀ {v : Value} {k n : Nat} {e : TypeId} {xs : List Value}, W.ownsRow N e n v k xs → v.ownBlock = none ∨ v.ownBlock ≠ some Bm := fun hv => by
   rcases own_head hv with ⟨rfl, -⟩ | ⟨g, cap, rfl, hb, -, -, ek⟩
   · exact .inl rfl
   · right; rw [ek]; intro e; injection e with e; have := h.nm; omega
 have hIs : IsMap D := by obtain ⟨es, clock, -, -, -, e⟩ := hD.1; exact ⟨_, e⟩
 refine ⟨?_, ?_, ?_, ⟨D.put l (.lit (.int .i64 (G.length : Int))), ?_, ?_⟩, h.nm, Nat.le_trans h.nw (Nat.le_trans hg1.size hg2.size), h.wm, ?_⟩
 · rw [flatG_snoc, List.length_append]; exact ho
 · intro g hg
   rcases List.mem_append.1 hg with hg | hg
   · have hr := h.rows g hg
     have h1 := own_grown hr hg1 (hge hr)
     exact own_grown h1 hg2 (own_types h1 (own_grown h.own hg1 (hge h.own)) (by decide))
   · rw [List.mem_singleton.1 hg]; exact World.ownsRow_nil _ _ _ _
 · rw [List.pairwise_append]
   refine ⟨h.sep, List.pairwise_singleton .., fun a ha b hb => ?_⟩
   rw [List.mem_singleton.1 hb]
   show a.v.ownBlock = none ∨ a.v.ownBlock ≠ none
   cases a.v.ownBlock <;> simp
 · rw [List.length_append]
   refine map_kept hm hg2 ?_
   rcases hge h.own with e | e
   · rw [e]; simp
   · exact e
 · intro s' l' hl'
   by_cases hss : s' = s
   · subst hss
     rw [hl] at hl'
     injection hl' with hl'
     subst hl'
     refine ⟨fun k hk hks => ?_, fun hno => ?_⟩
     · rcases Nat.lt_or_ge k G.length with hlt | hge
       · rw [List.getElem_append_left hlt] at hks
         exact absurd hks (hs _ (List.getElem_mem hlt))
       · have : k = G.length := by simp at hk; omega
         subst this
         exact ⟨has_put_same hIs (stpLaw.key hl) _, atKey_put_same hIs (stpLaw.key hl) _ _⟩
     · exact absurd rfl (hno ⟨s', [], .slice none 0 0⟩ (by simp))
   · have hne : l' ≠ l := fun e => hss (by
       subst e
       have := stpLaw.inj hl' hl
       have e := congrArg stpOf this
       have e : some (s'.lab, s'.idx) = some (s.lab, s.idx) := e
       exact stp_ext (Prod.mk.inj (Option.some.inj e)).1 (Prod.mk.inj (Option.some.inj e)).2)
     obtain ⟨m1, m2⟩ := hD.2 s' l' hl'
     refine ⟨fun k hk hks => ?_, fun hno => ?_⟩
     · rcases Nat.lt_or_ge k G.length with hlt | hge
       · rw [List.getElem_append_left hlt] at hks
         rw [has_put_other hne, atKey_put_other hne]
         exact m1 k hlt hks
       · have : k = G.length := by simp at hk; omega
         subst this
         simp at hks
         exact absurd hks.symm hss
     · rw [has_put_other hne]
       exact m2 fun g hg => hno g (List.mem_append_left _ hg)
 · refine (h.bel.grown hg1 h.bel.size (fun k hk => by injection hk with hk; have := h.wm; omega)).grown hg2 (Nat.le_trans h.bel.size hg1.size) ?_
   intro k hk
   have h1 := (own_ge h.own hk).1
   have h2 := h.nm
   have h3 := h.wm
   omega
end
section
open Go.RowKit Go.Maps
theorem set_st (G : List Grp) (k : Nat) (hk : k < G.length) (es : List Env) (v : Value) (j : Nat) (hj : j < (G.set k ⟨G[k].st, es, v⟩).length) : (G.set k ⟨G[k].st, es, v⟩)[j].st = (G[j]'(by simpa using hj)).st := by
 rw [List.getElem_set]
 split
 · next h => subst h; rfl
 · rfl
theorem own_two {W : World} {b : Nat} {e : TypeId} {s n : Nat} {v : Value} {xs : List Value} (h : W.ownsRow b e s v n xs) : v.ownBlock = none ∨ ∃ g, v.ownBlock = some g ∧ b ≤ g ∧ g < W.heap.size := by
 cases hv : v.ownBlock with
 | none => exact .inl rfl
 | some g => exact .inr ⟨g, rfl, own_ge h hv⟩
theorem GrS.push {w : World} {N Bm gu cu : Nat} {G : List Grp} {W W1 : World} (h : GrS w N Bm (.slice (some ⟨gu, 0, none⟩) G.length cu) G W) (k : Nat) (hk : k < G.length) (t : Env) (v' : Value)
   (ho : W1.ownsRow N 42 6 v' (G[k].es.length + 1) (flatE G[k].es ++ cellsE t)) (hg : W.grownBy W1 G[k].v.ownBlock) (ha : v'.ownBlock = G[k].v.ownBlock ∨ ∃ b, v'.ownBlock = some b ∧ W.heap.size ≤ b) :
   GrS w N Bm (.slice (some ⟨gu, 0, none⟩) G.length cu) (G.set k ⟨G[k].st, G[k].es ++ [t], v'⟩) (W1.setCell ⟨gu, k * 3 + 2, none⟩ v') := by
 have hrk := h.rows _ (List.getElem_mem hk)
 have hu1 : W1.ownsRow N 104 3 (.slice (some ⟨gu, 0, none⟩) G.length cu) G.length (flatG G) := own_grown h.own hg (own_types h.own hrk (by decide))
 have hgu : N ≤ gu ∧ gu < W.heap.size := own_ge h.own rfl
 have hlen : (G.set k ⟨G[k].st, G[k].es ++ [t], v'⟩).length = G.length := by simp
 have hoth : ∀ (j : Nat) (hj : j < G.length), j ≠ k → G[j].v.ownBlock = none ∨ G[j].v.ownBlock ≠ G[k].v.ownBlock := by
   intro j hj hjk
   rcases own_two (h.rows _ (List.getElem_mem hj)) with e | ⟨g, e, -, -⟩
   · exact .inl e
   · have hp := List.pairwise_iff_getElem.1 h.sep
     rcases Nat.lt_or_gt_of_ne hjk with hl | hl
     · exact hp j k hj hk hl
     · rcases hp k j hk hj hl with e1 | e1
       · right; rw [e, e1]; simp
       · exact .inr (Ne.symm e1)
 have hrow : ∀ (j : Nat) (hj : j < G.length), j ≠ k → W1.ownsRow N 42 6 G[j].v G[j].es.length (flatE G[j].es) := fun j hj hjk => own_grown (h.rows _ (List.getElem_mem hj)) hg (hoth j hj hjk)
 have hset : ∀ {v : Value} {n : Nat} {xs : List Value}, W1.ownsRow N 42 6 v n xs → (W1.setCell ⟨gu, k * 3 + 2, none⟩ v').ownsRow N 42 6 v n xs := fun hv => own_set_other hv (by
   rcases own_types hv hu1 (by decide) with e | e
   · rw [e]; simp
   · exact e) _ _
 obtain ⟨D, hD1, hD2⟩ := h.map
 refine ⟨?_, ?_, ?_, ⟨D, ?_, ?_⟩, h.nm, ?_, h.wm, ?_⟩
 · rw [hlen, flatG_set]
   exact own_set hu1 _ _
 · intro g hgm
   obtain ⟨j, hj, rfl⟩ := List.getElem_of_mem hgm
   rw [hlen] at hj
   rw [List.getElem_set]
   split
   · simp only [List.length_append, List.length_cons, List.length_nil]
     rw [flatE_snoc]
     exact hset ho
   · next hjk => exact hset (hrow j hj (Ne.symm hjk))
 · rw [List.pairwise_iff_getElem]
   intro i j hi hj hij
   rw [hlen] at hi hj
   rw [List.getElem_set, List.getElem_set]
   have hp := List.pairwise_iff_getElem.1 h.sep
   split
   · next hik =>
     subst hik
     rw [if_neg (by omega)]
     rcases ha with e | ⟨b, e, hb⟩
     · show v'.ownBlock = none ∨ v'.ownBlock ≠ G[j].v.ownBlock
       rw [e]; exact hp k j hk hj hij
     · right
       show v'.ownBlock ≠ G[j].v.ownBlock
       rw [e]
       rcases own_two (h.rows _ (List.getElem_mem hj)) with e1 | ⟨g, e1, -, h2⟩
       · rw [e1]; simp
       · rw [e1]; intro e2; injection e2; omega
   · split
     · next hjk =>
       subst hjk
       show G[i].v.ownBlock = none ∨ G[i].v.ownBlock ≠ v'.ownBlock
       rcases ha with e | ⟨b, e, hb⟩
       · rw [e]; exact hp i k hi hk hij
       · rcases own_two (h.rows _ (List.getElem_mem hi)) with e1 | ⟨g, e1, -, h2⟩
         · exact .inl e1
         · right; rw [e, e1]; intro e2; injection e2; omega
     · exact hp i j hi hj hij
 · rw [hlen]
   have h1 := map_kept hD1 hg (by
     rcases own_two hrk with e | ⟨g, e, h1, -⟩
     · rw [e]; simp
     · rw [e]; intro e2; injection e2; have := h.nm; omega)
   obtain ⟨es, clock, hb, F, hs, hd⟩ := h1
   refine ⟨es, clock, ?_, F, hs, hd⟩
   have : gu ≠ Bm := by have := h.nm; omega
   simp only [World.setCell, Array.getElem?_modify, if_neg this, hb]
 · intro s l hl
   obtain ⟨m1, m2⟩ := hD2 s l hl
   refine ⟨fun j hj hjs => m1 j (by rw [hlen] at hj; exact hj) (by rw [← set_st G k hk _ _ j hj]; exact hjs), fun hno => m2 fun g hg => ?_⟩
   obtain ⟨j, hj, rfl⟩ := List.getElem_of_mem hg
   have := hno ((G.set k ⟨G[k].st, G[k].es ++ [t], v'⟩)[j]'(by rw [hlen]; exact hj)) (List.getElem_mem _)
   rwa [set_st G k hk] at this
 · have := hg.size
   have := h.nw
   simp; omega
 · refine (h.bel.grown hg h.bel.size ?_).setCell ?_ _
   · intro b hb
     have := (own_ge hrk hb).1
     have := h.nm; have := h.wm
     omega
   · have := h.nm; have := h.wm
     show w.heap.size ≤ gu
     omega
structure GrM (w : World) (L : List Ent) (s : Option Stp) (G : List Grp) : Prop where
 mem : ∀ s', (∃ g ∈ G, g.st = s') ↔ (s = some s' ∨ ∃ e ∈ L, hdS e = s')
 ents : ∀ g ∈ G, g.es.map Env.e = blw L g.st
 good : ∀ g ∈ G, ∀ t ∈ g.es, t.good w (fun _ => True)
 nodup : (G.map Grp.st).Nodup
theorem GrM.nil (w : World) : GrM w [] none [] := ⟨by simp, by simp, by simp, by simp⟩
theorem blw_snoc (L : List Ent) (e : Ent) (s : Stp) : blw (L ++ [e]) s = blw L s ++ (match cutS s e with | none => [] | some x => [x]) := by
 unfold blw
 rw [List.filterMap_append]
 congr 1
 cases h : cutS s e <;> simp [h]
theorem blw_none {L : List Ent} {s : Stp} (hne : ∀ e ∈ L, e.1 ≠ []) (h : ∀ e ∈ L, hdS e ≠ s) : blw L s = [] := by
 unfold blw
 rw [List.filterMap_eq_nil_iff]
 intro e he
 exact cut_other (hne e he) (h e he)
theorem GrM.fresh {w : World} {L : List Ent} {G : List Grp} (h : GrM w L none G) (hne : ∀ e ∈ L, e.1 ≠ []) (s : Stp) (hs : ∀ g ∈ G, g.st ≠ s) : GrM w L (some s) (G ++ [⟨s, [], .slice none 0 0⟩]) := by
 have hno : ∀ e ∈ L, hdS e ≠ s := fun e he hes => by
   obtain ⟨g, hg, hgs⟩ := (h.mem s).2 (.inr ⟨e, he, hes⟩)
   exact hs g hg hgs
 refine ⟨fun s' => ?_, fun g hg => ?_, fun g hg => ?_, ?_⟩
 · constructor
   · rintro ⟨g, hg, rfl⟩
     rcases List.mem_append.1 hg with hg | hg
     · rcases (h.mem g.st).1 ⟨g, hg, rfl⟩ with e | e
       · cases e
       · exact .inr e
     · rw [List.mem_singleton.1 hg]; exact .inl rfl
   · rintro (e | e)
     · injection e with e
       exact ⟨_, List.mem_append_right _ (List.mem_singleton.2 rfl), e⟩
     · obtain ⟨g, hg, hgs⟩ := (h.mem s').2 (.inr e)
       exact ⟨g, List.mem_append_left _ hg, hgs⟩
 · rcases List.mem_append.1 hg with hg | hg
   · exact h.ents g hg
   · rw [List.mem_singleton.1 hg]; exact (blw_none hne hno).symm
 · rcases List.mem_append.1 hg with hg | hg
   · exact h.good g hg
   · rw [List.mem_singleton.1 hg]; intro t ht; simp at ht
 · rw [List.map_append, List.nodup_append]
   refine ⟨h.nodup, by simp, ?_⟩
   intro a ha b hb
   simp at hb
   subst hb
   obtain ⟨g, hg, rfl⟩ := List.mem_map.1 ha
   exact hs g hg
theorem GrM.known {w : World} {L : List Ent} {G : List Grp} (h : GrM w L none G) {k : Nat} (hk : k < G.length) : GrM w L (some G[k].st) G := by
 refine ⟨fun s' => ?_, h.ents, h.good, h.nodup⟩
 rw [h.mem s']
 constructor
 · rintro (e | e)
   · cases e
   · exact .inr e
 · rintro (e | e)
   · injection e with e
     exact (h.mem s').1 ⟨_, List.getElem_mem hk, e⟩
   · exact .inr e
theorem GrM.push {w : World} {L : List Ent} {G : List Grp} {k : Nat} (hk : k < G.length) (h : GrM w L (some G[k].st) G) (e : Ent) (he : e.1 ≠ []) (hs : hdS e = G[k].st) (t : Env) (ht : t.e = (e.1.tail, e.2)) (hg : t.good w (fun _ => True)) (v' : Value) :
   GrM w (L ++ [e]) none (G.set k ⟨G[k].st, G[k].es ++ [t], v'⟩) := by
 have hlen : (G.set k ⟨G[k].st, G[k].es ++ [t], v'⟩).length = G.length := by simp
 have hst : (G.set k ⟨G[k].st, G[k].es ++ [t], v'⟩).map Grp.st = G.map Grp.st := by
   apply List.ext_getElem (by simp)
   intro j h1 h2
   rw [List.getElem_map, List.getElem_map]
   exact set_st G k hk _ _ j (by simpa using h1)
 have hm : ∀ s', (∃ g ∈ G.set k ⟨G[k].st, G[k].es ++ [t], v'⟩, g.st = s') ↔ ∃ g ∈ G, g.st = s' := by
   intro s'
   have h1 : (∃ g ∈ G.set k ⟨G[k].st, G[k].es ++ [t], v'⟩, g.st = s') ↔ s' ∈ (G.set k ⟨G[k].st, G[k].es ++ [t], v'⟩).map Grp.st := by rw [List.mem_map]
   have h2 : (∃ g ∈ G, g.st = s') ↔ s' ∈ G.map Grp.st := by rw [List.mem_map]
   rw [h1, h2, hst]
 have hnd := List.pairwise_iff_getElem.1 h.nodup
 have hinj : ∀ (j : Nat) (hj : j < G.length), G[j].st = G[k].st → j = k := by
   intro j hj hjs
   rcases Nat.lt_trichotomy j k with hl | hl | hl
   · exact absurd (by rw [List.getElem_map, List.getElem_map]; exact hjs) (hnd j k (by simpa using hj) (by simpa using hk) hl)
   · exact hl
   · exact absurd (by rw [List.getElem_map, List.getElem_map]; exact hjs.symm) (hnd k j (by simpa using hk) (by simpa using hj) hl)
 refine ⟨fun s' => ?_, fun g hgm => ?_, fun g hgm => ?_, by rw [hst]; exact h.nodup⟩
 · rw [hm s', h.mem s']
   constructor
   · rintro (e1 | ⟨x, hx, hxs⟩)
     · injection e1 with e1
       exact .inr ⟨e, by simp, hs.trans e1⟩
     · exact .inr ⟨x, List.mem_append_left _ hx, hxs⟩
   · rintro (e1 | ⟨x, hx, hxs⟩)
     · cases e1
     · rcases List.mem_append.1 hx with hx | hx
       · exact .inr ⟨x, hx, hxs⟩
       · rw [List.mem_singleton.1 hx] at hxs
         exact .inl (by rw [← hxs, hs])
 · obtain ⟨j, hj, rfl⟩ := List.getElem_of_mem hgm
   rw [hlen] at hj
   rw [List.getElem_set]
   split
   · simp only
     rw [List.map_append, h.ents _ (List.getElem_mem hk), blw_snoc, ← hs, (cut_head he).1, List.map_cons, List.map_nil, ht]
   · next hjk =>
     rw [h.ents _ (List.getElem_mem hj), blw_snoc, cut_other he, List.append_nil]
     intro e1
     exact hjk (hinj j hj (e1.symm.trans hs)).symm
 · obtain ⟨j, hj, rfl⟩ := List.getElem_of_mem hgm
   rw [hlen] at hj
   rw [List.getElem_set]
   split
   · intro x hx
     rcases List.mem_append.1 hx with hx | hx
     · exact h.good _ (List.getElem_mem hk) x hx
     · rw [List.mem_singleton.1 hx]; exact hg
   · exact h.good _ (List.getElem_mem hj)
end
section
open Go.RowKit Go.Sort
theorem sls_one {W : World} {B : Nat} {s : Stp} (h : Blk W B #[.string (S s.lab), .int .i64 s.idx] 44) (cap : Nat) (hc : 1 ≤ cap) : SlS W (.slice (some ⟨B, 0, none⟩) 1 cap) [s] := by
 have c0 := h.cell 0
 have c1 := h.cell 1
 simp at c0 c1
 refine .inr ⟨B, 0, cap, rfl, hc, h.lt, fun j x hj => ?_⟩
 cases j with
 | zero =>
   simp at hj
   subst hj
   exact ⟨c0, c1⟩
 | succ j => simp at hj
set_option maxRecDepth 100000 in
set_option maxHeartbeats 4000000 in
theorem cmpGrp_any (x y : Grp) (W : World) :
   Calls Tryz.prog 116 #[.agg #[.string (S x.st.lab), .int .i64 x.st.idx, x.v], .agg #[.string (S y.st.lab), .int .i64 y.st.idx, y.v]] W
     fun e w' => e = .returned (.int .i64 (cmpS [x.st] [y.st])) ∧ Bel W.heap.size W w' := by
 have hb : Bel W.heap.size W ((W.alloc (.cells #[.string (S x.st.lab), .int .i64 x.st.idx, x.v] 104)).alloc (.cells #[.string (S y.st.lab), .int .i64 y.st.idx, y.v] 104)) := bel_al2 _ _ _ (Nat.le_refl _)
 have hn := two_new W #[.string (S x.st.lab), .int .i64 x.st.idx, x.v] #[.string (S y.st.lab), .int .i64 y.st.idx, y.v] 104 104
 generalize hr : cmpS [x.st] [y.st] = r
 have HRR := Lib.hid hr
 clear hr
 go_enter Tryz.func116, Tryz.ntmps116
 go_upto_region 1 with fail
 generalize (W.alloc (.cells #[.string (S x.st.lab), .int .i64 x.st.idx, x.v] 104)).alloc (.cells #[.string (S y.st.lab), .int .i64 y.st.idx, y.v] 104) = W1 at hb hn ⊢
 have c0 := hn.1.cell 0
 have c1 := hn.1.cell 1
 have d0 := hn.2.1.cell 0
 have d1 := hn.2.1.cell 1
 have e0 := (hn.2.1.alloc (.cells #[.string (S x.st.lab), .int .i64 x.st.idx] 44)).cell 0
 have e1 := (hn.2.1.alloc (.cells #[.string (S x.st.lab), .int .i64 x.st.idx] 44)).cell 1
 simp at c0 c1 d0 d1 e0 e1
 have HB := Lib.hid hb
 have HX := Lib.hid (two_new W1 #[.string (S x.st.lab), .int .i64 x.st.idx] #[.string (S y.st.lab), .int .i64 y.st.idx] 44 44)
 have HY := Lib.hid (bel_al2 W1 (.cells #[.string (S x.st.lab), .int .i64 x.st.idx] 44) (.cells #[.string (S y.st.lab), .int .i64 y.st.idx] 44) (Nat.le_refl _))
 clear hb hn
 go_wp2_with fail
 refine (Compare_bel _ _ [x.st] [y.st] _ (sls_one HX.out.1 _ (Nat.le_refl _)) (sls_one HX.out.2.1 _ (Nat.le_refl _)) (by simp) (by simp)).mono ?_
 rintro e w1 ⟨rfl, hb⟩
 have HB1 := Lib.hid (HB.out.trans ((HY.out.trans (hb.mono HY.out.size)).mono HB.out.size))
 rw [HRR.out]
 clear hb
 go_wp2_with fail
 go_ret
 exact ⟨rfl, HB1.out⟩
def SortG (W : World) (g : Nat) (T : List Grp) (e : Ending) (W' : World) : Prop :=
 e = .returned (.tuple #[]) ∧ ∃ T' : List Grp, T'.Perm T ∧ (T'.Pairwise fun a b => cmpS [a.st] [b.st] ≤ 0) ∧ W.grownBy W' (some g) ∧ ∀ (j : Nat) (h : j < T'.length) (i : Nat), i < 3 → W'.cell? ⟨g, j * 3 + i, none⟩ = (cellsG T'[j])[i]?
set_option maxHeartbeats 2000000 in
theorem sortGrp_any {T : List Grp} {W : World} {base g cap : Nat} (hown : W.ownsRow base 104 3 (.slice (some ⟨g, 0, none⟩) T.length cap) T.length (flatG T)) (hT : ∀ t ∈ T, t.v.oneCell' = true) (hn : T.length ≤ 1000000) :
   Calls Tryz.prog 115 #[.slice (some ⟨g, 0, none⟩) T.length cap, .func (.func 116) #[] #[]] W (SortG W g T) := by
 let α := {t : Grp // t.v.oneCell' = true}
 haveI : Inhabited α := ⟨⟨⟨⟨[], 0⟩, [], .slice none 0 0⟩, rfl⟩⟩
 let enc : α → List Value := fun t => cellsG t.1
 let cf : α → α → Int := fun x y => cmpS [x.1.st] [y.1.st]
 let U : List α := T.attachWith (fun t => t.v.oneCell' = true) hT
 have hU : U.map Subtype.val = T := List.attachWith_map_subtype_val ..
 have hUl : U.length = T.length := by rw [← hU]; simp
 have hF : U.flatMap enc = flatG T := by
   rw [← hU]; unfold flatG
   rw [List.flatMap_map]
 have hk : ∀ x : α, (enc x).length = 3 := fun _ => rfl
 have hblk : g < W.heap.size := by
   rcases own_head hown with ⟨hv, -⟩ | ⟨g', cap', hv, -, -, hg, -⟩
   · cases hv
   · injection hv with hv; injection hv with hv; injection hv with hv; subst hv; exact hg
 have hH : HoldsK enc 3 W g 0 U.toArray := own_holds (base := base) (e := 104) (cap := cap) enc hk (by decide) (by rw [hF, hUl]; exact hown)
 have h1 : ∀ x : α, ∀ v ∈ enc x, v.oneCell' = true := by
   intro x v hv
   simp only [enc, cellsG, List.mem_cons, List.not_mem_nil, or_false] at hv
   rcases hv with rfl | rfl | rfl
   · rfl
   · rfl
   · exact x.2
 have hO : SWO (ltOf cf) := by
   have hl : ∀ x y : α, ltOf cf x y = decide (cmpS [x.1.st] [y.1.st] < 0) := fun _ _ => rfl
   refine ⟨fun x => ?_, fun x y z a b => ?_, fun x y z a b => ?_⟩
   · rw [hl, (cmpS_zero [x.1.st] [x.1.st]).2 rfl]; rfl
   · rw [hl] at *
     simp only [decide_eq_true_eq] at *
     have n1 := cmpS_neg [x.1.st] [z.1.st]
     have n2 := cmpS_neg [y.1.st] [z.1.st]
     have n3 := cmpS_neg [x.1.st] [y.1.st]
     rcases Int.lt_or_le (cmpS [x.1.st] [z.1.st]) 0 with h | h
     · exact h
     · have := cmpS_ge (a := [y.1.st]) (b := [x.1.st]) (c := [z.1.st]) (by omega) h
       omega
   · rw [hl] at *
     simp only [decide_eq_false_iff_not] at *
     have := cmpS_ge (a := [x.1.st]) (b := [y.1.st]) (c := [z.1.st]) (by omega) (by omega)
     omega
 have hcmp : CmpLays Tryz.prog 116 #[] enc 3 cf g 0 U.toArray.size W := by
   intro m os dk hdk x y
   exact (cmpGrp_any x.1 y.1 _).mono fun e w' ⟨he, hb⟩ => ⟨he, hb.grows⟩
 have hsz : U.toArray.size = T.length := by simpa using hUl
 have hc := AnyQ.slices_SortFunc Tryz.sortGrp 3 Tryz.isAgg104 Tryz.sizeOf104 enc hk h1 cf hO 116 #[] g 0 cap U.toArray W (enters_of Tryz.func116 (by kernel_rfl) rfl) hcmp hH hblk (by rw [hsz]; omega)
 rw [hsz] at hc
 refine Calls.mono hc ?_
 rintro e w' ⟨he, d', n, os, hp, hs, rfl⟩
 have hds : d'.size = U.toArray.size := by rw [hp.1]
 obtain ⟨g1, g2⟩ := sorted_world enc 3 W g n U.toArray d' os hH hblk hds
 refine ⟨he, d'.toList.map Subtype.val, ?_, ?_, g1, ?_⟩
 · have := (perm_whole (d := U.toArray) (d' := d') (by rw [hsz]; exact hp)).map Subtype.val
   rw [← hU]; simpa using this
 · rw [List.pairwise_map]
   refine (sorted_pair (n := T.length) (by rw [hds, hsz]) hs).imp ?_
   intro x y hxy
   have : ¬ cmpS [y.1.st] [x.1.st] < 0 := by simpa [ltOf, cf] using hxy
   have n1 := cmpS_neg [x.1.st] [y.1.st]
   omega
 · intro j hj i hi
   have hj' : j < d'.size := by simpa using hj
   have := (g2.cell (i := j) (c := i) hj' hi).1
   rw [Nat.zero_add] at this
   rw [this, getElem!_pos d' j hj', getElem!_pos (enc d'[j]) i (by rw [hk]; exact hi)]
   rw [List.getElem?_eq_getElem (show i < (cellsG _).length from hi)]
   simp [enc]
def GrpR (W : World) (u : Value) (L : List Ent) : Prop :=
 ∃ g cap, u = .slice (some ⟨g, 0, none⟩) (grp L).length cap ∧ (grp L).length ≤ cap ∧ g < W.heap.size ∧ ∀ (j : Nat) (h : j < (grp L).length), ∃ gv, W.cell? ⟨g, j * 3, none⟩ = some (.string (S (grp L)[j].lab)) ∧ W.cell? ⟨g, j * 3 + 1, none⟩ = some (.int .i64 (grp L)[j].idx) ∧
   W.cell? ⟨g, j * 3 + 2, none⟩ = some gv ∧ EntR W (fun _ => True) gv (blw L (grp L)[j])
theorem GrpR.under {W W' : World} {u : Value} {L : List Ent} (h : GrpR W u L) (hb : Below W.heap.size W W') : GrpR W' u L := by
 obtain ⟨g, cap, rfl, hc, hg, hj⟩ := h
 refine ⟨g, cap, rfl, hc, Nat.lt_of_lt_of_le hg hb.size, fun j h => ?_⟩
 obtain ⟨gv, h1, h2, h3, h4⟩ := hj j h
 exact ⟨gv, (hb.cell (p := ⟨g, j * 3, none⟩) hg).trans h1, (hb.cell (p := ⟨g, j * 3 + 1, none⟩) hg).trans h2, (hb.cell (p := ⟨g, j * 3 + 2, none⟩) hg).trans h3, h4.under hb⟩
theorem grp_ne {L : List Ent} (h : L ≠ []) : 0 < (grp L).length := by
 cases L with
 | nil => exact absurd rfl h
 | cons e r => exact List.length_pos_of_mem (grp_mem.2 ⟨e, List.mem_cons_self .., rfl⟩)
theorem sorted_grp {L : List Ent} {w : World} {G T : List Grp} (hM : GrM w L none G) (hp : T.Perm G) (hs : T.Pairwise fun a b => cmpS [a.st] [b.st] ≤ 0) : T.map Grp.st = grp L := by
 have hnd : (T.map Grp.st).Nodup := (hp.map Grp.st).nodup_iff.2 hM.nodup
 refine sort_one ?_ (grp_sort L) ?_
 · rw [List.pairwise_map]
   have h2 : T.Pairwise fun a b => a.st ≠ b.st := by rw [List.Nodup, List.pairwise_map] at hnd; exact hnd
   refine (hs.and h2).imp ?_
   rintro a b ⟨h1, h2⟩
   rw [cmpS, if_neg h2] at h1
   have h0 : oneS a.st b.st ≠ 0 := fun e => h2 ((oneS_zero _ _).1 e)
   exact one_neg.1 (by omega)
 · intro s
   rw [List.mem_map, grp_mem]
   constructor
   · rintro ⟨g, hg, hgs⟩
     rcases (hM.mem s).1 ⟨g, hp.mem_iff.1 hg, hgs⟩ with e | e
     · cases e
     · exact e
   · intro he
     obtain ⟨g, hg, hgs⟩ := (hM.mem s).2 (.inr he)
     exact ⟨g, hp.mem_iff.2 hg, hgs⟩
theorem grp_done {w W W' : World} {L : List Ent} {G : List Grp} {gu cu : Nat} {e : Ending} (hR : GrS w (w.heap.size + 1) w.heap.size (.slice (some ⟨gu, 0, none⟩) G.length cu) G W) (hM : GrM w L none G) (h : SortG W gu G e W') :
   GrpR W' (.slice (some ⟨gu, 0, none⟩) G.length cu) L ∧ Below w.heap.size w W' := by
 obtain ⟨-, T, hp, hs, hg, hc⟩ := h
 have hT := sorted_grp hM hp hs
 have hl : (grp L).length = G.length := by rw [← hT, List.length_map]; exact hp.length_eq
 have hTl : T.length = (grp L).length := by rw [← hT, List.length_map]
 have hgu := own_ge hR.own rfl
 refine ⟨⟨gu, cu, by rw [hl], ?_, ?_, fun j hj => ?_⟩, ?_⟩
 · rcases own_head hR.own with ⟨hv, -⟩ | ⟨g', cap', hv, -, hcc, -⟩
   · cases hv
   · injection hv with h1 h2 h3; subst h3; rw [hl]; exact hcc
 · exact Nat.lt_of_lt_of_le hgu.2 hg.size
 · have hjT : j < T.length := by omega
   have hst : T[j].st = (grp L)[j] := by
     have : (T.map Grp.st)[j]'(by simpa using hjT) = (grp L)[j] := by congr 1
     simpa using this
   have hmem : T[j] ∈ G := hp.mem_iff.1 (List.getElem_mem hjT)
   have c0 := hc j hjT 0 (by decide)
   have c1 := hc j hjT 1 (by decide)
   have c2 := hc j hjT 2 (by decide)
   refine ⟨T[j].v, ?_, ?_, c2, ?_⟩
   · rw [← hst]; exact c0
   · rw [← hst]; exact c1
   · have hrow := hR.rows _ hmem
     have hr2 := own_grown hrow hg (own_types hrow hR.own (by decide))
     have hz := own_ents hr2 (ok := fun _ => True) (fun _ _ => trivial) (fun t ht => ?_)
     · rw [hM.ents _ hmem, hst] at hz
       exact hz
     · obtain ⟨g1, g2⟩ := hM.good _ hmem t ht
       have hbw : Below w.heap.size w W' := hR.bel.grown hg hR.bel.size (fun k hk => by injection hk with hk; have h1 := hR.wm; have h2 := hR.nm; have h3 : w.heap.size + 1 ≤ gu := hgu.1; subst hk; exact Nat.le_of_lt h3)
       exact ⟨g1.under hbw, g2.kept hbw.size fun B hB _ => ⟨trivial, fun o => hbw.cell (p := ⟨B, o, none⟩) hB⟩⟩
 · exact hR.bel.grown hg hR.bel.size (fun k hk => by injection hk with hk; have h1 := hR.wm; have h2 := hR.nm; have h3 : w.heap.size + 1 ≤ gu := hgu.1; subst hk; exact Nat.le_of_lt h3)
end
end Go.Proofs.YtoahmganodehkaaGreatDoor
