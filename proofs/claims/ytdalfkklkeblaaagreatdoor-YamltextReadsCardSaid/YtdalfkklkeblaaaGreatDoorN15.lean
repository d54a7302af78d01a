import Derived.Test.YtdalfkklkeblaaaGreatDoorN01
import Derived.Test.YtdalfkklkeblaaaGreatDoorN13
import Derived.Laws.AppendOwn
import Derived.Shelf.SlSortCmp.InsertionK
import Derived.Test.YtdalfkklkeblaaaGreatDoorN12
import Derived.Test.YtdalfkklkeblaaaGreatDoorN14
import Derived.Sort.LotA
import Derived.Shelf.SlSortCmp.KitK
import Derived.Sort.WalkB2
import Derived.Sort.WalkB12
import Derived.Deep.LoopGhost
import Derived.Test.YtdalfkklkeblaaaGreatDoorProg
namespace Go.Proofs.YtdalfkklkeblaaaGreatDoor
set_option linter.unusedSimpArgs false
set_option linter.unusedVariables false
section
open Go.RowKit Go.Shelf
attribute [local go_sem] Oper.semAt_some
def entsL (E : List YEnt) (n : Nat) : List UInt8 := joinLn (E.flatMap fun e => entL e.b e.x n)
theorem entsL_snoc (E : List YEnt) (e : YEnt) (n : Nat) : entsL (E ++ [e]) n = ct (entsL E n) (joinLn (entL e.b e.x n)) := by
 unfold entsL
 rw [List.flatMap_append, join_two]
 simp
theorem lnI_flat (n : Nat) : ∀ l : List Dat, lnI l n = l.flatMap fun x => entL [45] x n
 | [] => by rw [lnI]; rfl
 | x :: r => by rw [lnI_cons, lnI_flat n r, itm_ent]; rfl
theorem lnM_flat (n : Nat) : ∀ l : List (List UInt8 × Dat), lnM l n = l.flatMap fun p => entL (ct (strY p.1) [58]) p.2 n
 | [] => by rw [lnM]; rfl
 | x :: r => by rw [lnM_cons, lnM_flat n r, mem_ent]; rfl
theorem ents_text {w : World} {ok : Nat → Prop} {d : Dat} {p q : Option Addr} {cap caq : Nat} {E : List YEnt} (h : EntsAt w ok d p q cap caq E) (n : Nat) : entsL E n = joinLn (lnD d n) := by
 have hm : E.map (fun e => (e.b, e.x)) = d.its.map (fun x => ([45], x)) ++ d.mem.map (fun p => (ct (strY p.1) [58], p.2)) := by
   apply List.ext_getElem?
   intro i
   rw [List.getElem?_map]
   by_cases h1 : i < d.its.length
   · obtain ⟨B, o, e, -, -, -, he, hb, hx, -⟩ := h.it i h1
     rw [he, List.getElem?_append_left (by simpa using h1), List.getElem?_map, List.getElem?_eq_getElem h1]
     simp [hb, hx]
   · by_cases h2 : i - d.its.length < d.mem.length
     · obtain ⟨B, o, e, -, -, -, he, hb, hx, -⟩ := h.me _ h2
       rw [show d.its.length + (i - d.its.length) = i by omega] at he
       rw [he, List.getElem?_append_right (by simpa using h1), List.length_map, List.getElem?_map, List.getElem?_eq_getElem h2]
       simp [hb, hx]
     · rw [List.getElem?_eq_none (by rw [h.len]; omega), List.getElem?_append_right (by simpa using h1), List.length_map, List.getElem?_map, List.getElem?_eq_none (by omega)]
       rfl
 unfold entsL
 rw [show E.flatMap (fun e => entL e.b e.x n) = (E.map (fun e => (e.b, e.x))).flatMap (fun y => entL y.1 y.2 n) by rw [List.flatMap_map], hm, List.flatMap_append, lnD_eq, lnI_flat, lnM_flat, List.flatMap_map, List.flatMap_map]
theorem joinLn_mem {E : List YEnt} {n : Nat} {e : YEnt} (he : e ∈ E) : (joinLn (entL e.b e.x n)).length ≤ (entsL E n).length := by
 obtain ⟨s, t, rfl⟩ := List.append_of_mem he
 unfold entsL
 rw [List.flatMap_append, List.flatMap_cons, join_two, join_two, ct_len, ct_len]
 omega
theorem entsL_le {E : List YEnt} {n k : Nat} (h : ∀ e ∈ E, (joinLn (entL e.b e.x n)).length ≤ k) : (entsL E n).length ≤ E.length * k := by
 induction E with
 | nil => simp [entsL, joinLn]
 | cons e E ih =>
   have h1 := h e (List.mem_cons_self ..)
   have h2 := ih fun x hx => h x (List.mem_cons_of_mem _ hx)
   unfold entsL at h2 ⊢
   rw [List.flatMap_cons, join_two, ct_len, List.length_cons, Nat.add_mul]
   omega
theorem ents_at {w : World} {ok : Nat → Prop} {d : Dat} {p q : Option Addr} {cap caq : Nat} {E : List YEnt} (h : EntsAt w ok d p q cap caq E) {e : YEnt} (he : e ∈ E) : Rep w ok e.x e.vi e.vm ∧ ((e.b = [45] ∧ e.x ∈ d.its) ∨ ∃ p ∈ d.mem, e.b = ct (strY p.1) [58] ∧ e.x = p.2) := by
 obtain ⟨i, hi, rfl⟩ := List.getElem_of_mem he
 have hl := h.len
 by_cases h1 : i < d.its.length
 · obtain ⟨B, o, e, -, -, -, he', hb, hx, -, hr⟩ := h.it i h1
   rw [List.getElem?_eq_getElem hi] at he'
   cases he'
   exact ⟨hr, .inl ⟨hb, by rw [hx]; exact List.getElem_mem h1⟩⟩
 · have h2 : i - d.its.length < d.mem.length := by omega
   obtain ⟨B, o, e, -, -, -, he', hb, hx, -, -, hr⟩ := h.me _ h2
   rw [show d.its.length + (i - d.its.length) = i by omega, List.getElem?_eq_getElem hi] at he'
   cases he'
   exact ⟨hr, .inr ⟨_, List.getElem_mem h2, hb, hx⟩⟩
def BlS (w : World) (n : Nat) (cs : Array Value) (Be : Nat) (u : List UInt8) (W wx : World) : Prop :=
 Boxed wx (w.heap.size + 2) 9 (.string (S u)) ∧ Boxed wx (w.heap.size + 1) 3 (.int .i64 n) ∧ KeepsFrom (w.heap.size + 4) W wx ∧ KpY w.heap.size (w.heap.size + 3) W wx ∧ Below w.heap.size w wx ∧ Blk wx Be cs 78 ∧ w.heap.size + 4 ≤ Be
theorem keeps_below {B : Nat} {W W' : World} (h : Below W.heap.size W W') : KeepsFrom B W W' := ⟨h.size, fun k o _ hk _ => (h.block k (Array.getElem?_eq_some_iff.1 hk).1).trans hk⟩
theorem BlS.below {w : World} {n : Nat} {cs : Array Value} {Be : Nat} {u : List UInt8} {W wx wy : World} (h : BlS w n cs Be u W wx) (hb : Below wx.heap.size wx wy) : BlS w n cs Be u W wy := by
 obtain ⟨h1, h2, h3, h4, h5, h6, h7⟩ := h
 have hs := h6.lt
 exact ⟨(hb.block _ h1.lt).trans h1, (hb.block _ h2.lt).trans h2, h3.trans (keeps_below hb), h4.below (by omega) (by omega) hb, h5.trans (hb.mono h5.size), h6.below hb, h7⟩
theorem BlS.set {w : World} {n : Nat} {cs : Array Value} {Be : Nat} {u : List UInt8} {W wx : World} (h : BlS w n cs Be u W wx) (v : List UInt8) : BlS w n cs Be v W (wx.setCell ⟨w.heap.size + 2, 0, none⟩ (.string (S v))) := by
 obtain ⟨h1, h2, h3, h4, h5, h6, h7⟩ := h
 have hk : KeepsFrom (w.heap.size + 4) wx (wx.setCell ⟨w.heap.size + 2, 0, none⟩ (.string (S v))) := (KeepsOthers.setCell _ _ _).from _
 refine ⟨h1.set _, h2.other (by omega) _, h3.trans hk, h4.trans ⟨hk.size, fun j hj => ?_, ?_⟩, h5.setCell (by simp) _, h6.set_other _ _ (by omega), h7⟩
 · exact Below.heap_setCell _ _ _ _ (by show j ≠ w.heap.size + 2; omega)
 · exact Below.heap_setCell _ _ _ _ (by show w.heap.size + 3 ≠ w.heap.size + 2; omega)
theorem BlS.fin {w : World} {n : Nat} {cs : Array Value} {Be : Nat} {u : List UInt8} {W wx wy : World} (h : BlS w n cs Be u W wx) (hb : Below wx.heap.size wx wy) : KeepsFrom (w.heap.size + 4) W wy ∧ KpY w.heap.size (w.heap.size + 3) W wy ∧ Boxed wy (w.heap.size + 2) 9 (.string (S u)) ∧ Boxed wy (w.heap.size + 1) 3 (.int .i64 n) ∧ Below w.heap.size w wy ∧ w.heap.size + 4 ≤ wy.heap.size := by
 obtain ⟨h1, h2, h3, h4, h5, h6, h7⟩ := h.below hb
 exact ⟨h3, h4, h1, h2, h5, Nat.le_of_lt (Nat.lt_of_le_of_lt h7 h6.lt)⟩
theorem blk_own {β : Type} (B : Nat) (cs : Array Value) (t : TypeId) : Own (fun (_ : β) W => Blk W B cs t) := fun s X Y row hs hg hrow =>
 hs.kept hg (fun e' => by obtain ⟨o, ho, hc⟩ := hrow B e'.symm; rw [show X.heap[B]? = _ from hs] at ho; cases ho; cases hc)
theorem size_own {β : Type} (B k : Nat) : OwnFrom B (fun (_ : β) W => k ≤ W.heap.size) := fun s X Y row hs hg hrow => Nat.le_trans hs hg.size
def entC (e : YEnt) : Array Value := #[.string (S e.b), .int .i64 e.x.k, .int .i64 e.x.n, .string (S e.x.s), e.vi, e.vm]
theorem blw_start (w : World) (c1 c2 : Array Value) (t1 t2 t3 t4 : TypeId) (v2 v3 : Value) :
   (((((w.alloc (.cells c1 t1)).alloc (.cells #[v2] t2)).alloc (.cells #[v3] t3)).alloc (.cells c2 t4)).heap.size = w.heap.size + 4) ∧ Boxed ((((w.alloc (.cells c1 t1)).alloc (.cells #[v2] t2)).alloc (.cells #[v3] t3)).alloc (.cells c2 t4)) (w.heap.size + 2) t3 v3 ∧ Boxed ((((w.alloc (.cells c1 t1)).alloc (.cells #[v2] t2)).alloc (.cells #[v3] t3)).alloc (.cells c2 t4)) (w.heap.size + 1) t2 v2 ∧
   Blk ((((w.alloc (.cells c1 t1)).alloc (.cells #[v2] t2)).alloc (.cells #[v3] t3)).alloc (.cells c2 t4)) (w.heap.size + 3) c2 t4 ∧ Below w.heap.size w ((((w.alloc (.cells c1 t1)).alloc (.cells #[v2] t2)).alloc (.cells #[v3] t3)).alloc (.cells c2 t4)) := by
 have e1 : (w.alloc (.cells c1 t1)).heap.size = w.heap.size + 1 := by simp
 have e2 : ((w.alloc (.cells c1 t1)).alloc (.cells #[v2] t2)).heap.size = w.heap.size + 2 := by simp
 have e3 : (((w.alloc (.cells c1 t1)).alloc (.cells #[v2] t2)).alloc (.cells #[v3] t3)).heap.size = w.heap.size + 3 := by simp
 refine ⟨by simp, ?_, ?_, ?_, ?_⟩
 · have := (Boxed.new ((w.alloc (.cells c1 t1)).alloc (.cells #[v2] t2)) t3 v3).alloc (.cells c2 t4)
   rwa [e2] at this
 · have := ((Boxed.new (w.alloc (.cells c1 t1)) t2 v2).alloc (.cells #[v3] t3)).alloc (.cells c2 t4)
   rwa [e1] at this
 · have := Blk.new (((w.alloc (.cells c1 t1)).alloc (.cells #[v2] t2)).alloc (.cells #[v3] t3)) c2 t4
   rwa [e3] at this
 · exact ((((Below.refl _ w).alloc (Nat.le_refl _) _).alloc (by omega) _).alloc (by omega) _).alloc (by omega) _
set_option maxRecDepth 100000 in
set_option maxHeartbeats 8000000 in
theorem block_any (m : Nat) : ∀ (d : Dat), SizeOf.sizeOf d < m → ∀ (lv : Nat) (vi vm : Value) (ok : Nat → Prop) (n : Nat) (w : World), Rep w ok d vi vm → chk d lv = 0 → limD d = true → n ≤ 2 * lv → (joinLn (lnD d n)).length ≤ 1000000 → NumOk w →
   Calls Tryz.prog 32 #[.agg #[.int .i64 d.k, .int .i64 d.n, .string (S d.s), vi, vm], .int .i64 (n : Int)] w fun e w' => e = .returned (.string (S (joinLn (lnD d n)))) ∧ Below w.heap.size w w' := by
 induction m with
 | zero => intro d h; exact absurd h (Nat.not_lt_zero _)
 | succ m ih =>
   intro d hd lv vi vm ok n w hr hc hlim hn hlen hE
   obtain ⟨p, cap, rfl, -, -⟩ := hr.items
   obtain ⟨q, caq, rfl, -, -⟩ := hr.members
   obtain ⟨hlv, ho, hci, hcm⟩ := chk_zero.1 hc
   obtain ⟨-, li, lm, h1, h2⟩ := lim_iff.1 hlim
   obtain ⟨E, hEn⟩ := ents_of hr
   have htx := ents_text hEn n
   have hlab : ∀ m ∈ d.mem, m.1.length ≤ 1000000 := fun m hm => (h2 m hm).1
   refine callsIn_wide.1 (?_ : CallsIn Fence.wide 6 _ _ _ _ _)
   have h16 : 1 ≤ 6 := by omega
   refine callsIn_of_wp_marks Tryz.func32 rfl trivial ?_ rfl
   simp only [Tryz.ntmps32, List.size_toArray, List.length_cons, List.length_nil, Nat.reduceAdd, Nat.reduceSub, Array.replicate_succ, Array.replicate_zero, List.push_toArray, List.append_toArray, List.nil_append, List.cons_append]
   gi_wp2_with fail
   refine ⟨trivial, ?_⟩
   refine (entries_in _ d _ _ p q cap caq rfl rfl _).mono ?_
   rintro e w' ⟨rfl, rfl⟩
   gi_wp2_with fail
   obtain ⟨hs4, bo, bi, bd, hb4⟩ := blw_start w #[.int .i64 d.k, .int .i64 d.n, .string (S d.s), .slice p d.its.length cap, .slice q d.mem.length caq] (boxD d (.slice p d.its.length cap) (.slice q d.mem.length caq)) 25 3 9 25 (.int .i64 (n : Int)) (.string ⟨#[]⟩)
   generalize (((w.alloc (.cells #[.int .i64 d.k, .int .i64 d.n, .string (S d.s), .slice p d.its.length cap, .slice q d.mem.length caq] 25)).alloc (.cells #[.int .i64 (n : Int)] 3)).alloc (.cells #[.string ⟨#[]⟩] 9)).alloc (.cells (boxD d (.slice p d.its.length cap) (.slice q d.mem.length caq)) 25) = w3 at hs4 bo bi bd hb4 ⊢
   have hk3 : OldY w.heap.size w w3 := fun j hj => hb4.block j hj
   refine wpIn_rangeFunc_ownH rfl h16 (gf := 76) (lb := #[.pointer (some ⟨w.heap.size + 1 + 1 + 1, 0, none⟩)]) rfl trivial (enters_of Tryz.func76 (by kernel_rfl) rfl)
     (ents_stops _ (by omega) (w.heap.size + 1 + 1 + 1) hEn hlab (by omega) (by omega) w3 hk3 (by omega) bd) (fun h k => h.trans k) (fun W y o o' hl' hy _ _ => ⟨by simp, fun j hj => World.putObj_heap_other (by omega), World.putObj_heap_other (by omega)⟩) (Below.refl _ _) (fun _ => rfl)
     (fun pre W => Boxed W (w.heap.size + 2) 9 (.string (S (entsL (pre.map (·.1)) n))) ∧ Boxed W (w.heap.size + 1) 3 (.int .i64 (n : Int)) ∧ Below w.heap.size w W ∧ w.heap.size + 4 ≤ W.heap.size)
     (fun _ _ _ => False)
     (OwnFrom.and (Own.from (boxed_own _ _ _) _) (OwnFrom.and (Own.from (boxed_own _ _ _) _) (OwnFrom.and (ownFrom_below (Nat.le_refl _) (by omega)) (size_own _ _))))
     (fun _ _ _ _ _ hs _ _ => hs)
     ⟨bo, bi, hb4, by omega⟩
     (fun x a' W => ∃ Be, a' = { tmps := #[.agg #[.int .i64 d.k, .int .i64 d.n, .string (S d.s), .slice p d.its.length cap, .slice q d.mem.length caq], .int .i64 (n : Int), .pointer (some ⟨w.heap.size, 0, none⟩), .pointer (some ⟨w.heap.size + 1, 0, none⟩), .string ⟨#[]⟩, .pointer (some ⟨w.heap.size + 1 + 1, 0, none⟩), .pointer (some ⟨Be, 0, none⟩), undef, undef,
         .agg #[.int .i64 d.k, .int .i64 d.n, .string (S d.s), .slice p d.its.length cap, .slice q d.mem.length caq], .func (.func 76) #[] #[.pointer (some ⟨w.heap.size + 1 + 1 + 1, 0, none⟩)], .agg (entC x.1), undef, undef, undef, undef, undef, undef, undef, undef, undef, undef, undef, undef, undef, undef, undef, undef, undef, undef, undef, undef, undef, undef, undef, undef, undef, undef, undef, undef], defers := [] } ∧ Blk W Be (entC x.1) 78 ∧ w.heap.size + 4 ≤ Be)
     ?hAx ?assign ?body ?done ?stop
   case hAx =>
     rintro x a' s A B row ⟨Be, h1, h2, h3⟩ hg hr
     exact ⟨Be, h1, (blk_own (β := Unit) Be _ _).from (w3.heap.size) () A B row h2 hg hr, h3⟩
   case assign =>
     rintro l pre ⟨x, hx⟩ W K ⟨hI1, hI2, hI3, hI4⟩ hK
     obtain ⟨hr0, -⟩ := ents_at hEn hx
     obtain ⟨b, x, vi, vm⟩ := x
     obtain ⟨ip, ic, hvi, -, -⟩ := hr0.items
     obtain ⟨mp, mc, hvm, -, -⟩ := hr0.members
     obtain rfl : vi = .slice ip x.its.length ic := hvi
     obtain rfl : vm = .slice mp x.mem.length mc := hvm
     have hba := alloc_below W (.cells (entC ⟨b, x, .slice ip x.its.length ic, .slice mp x.mem.length mc⟩) 78)
     have hl1 := hI1.lt
     have hl2 := hI2.lt
     have hKK := hK _ _ (keeps_below hba) ((KpY.refl _ _ _).below (by omega) (by omega) hba) ⟨(hba.block _ hl1).trans hI1, (hba.block _ hl2).trans hI2, hI3.trans (hba.mono hI3.size), by simp; omega⟩ ⟨_, rfl, Blk.new _ _ _, hI4⟩
     clear hK
     unfold YEnt.enc
     unfold entC at hKK
     gi_wp2
     exact hKK
   case body =>
     rintro l pre ⟨x, hx⟩ a' W hl _ ⟨hI1, hI2, hI3, hI4⟩ ⟨Be, rfl, hBe, hBe2⟩ hpre
     obtain ⟨hr0, hmem⟩ := ents_at hEn hx
     have hel : (joinLn (entL x.b x.x n)).length ≤ 1000000 := Nat.le_trans (joinLn_mem hx) (by rw [htx]; exact hlen)
     have hal : (entsL (pre.map (·.1)) n).length ≤ 2000000000000 := by
       refine Nat.le_trans (entsL_le (k := 1000000) fun e he => ?_) (by rw [List.length_map]; have := hEn.len; omega)
       obtain ⟨y, -, rfl⟩ := List.mem_map.1 he
       exact Nat.le_trans (joinLn_mem y.2) (by rw [htx]; exact hlen)
     have hkx : chk x.x (lv + 1) = 0 ∧ limD x.x = true ∧ SizeOf.sizeOf x.x < m := by
       rcases hmem with ⟨-, h⟩ | ⟨y, h, -, e⟩
       · exact ⟨hci _ h, h1 _ h, by have := dat_it h; omega⟩
       · rw [e]; exact ⟨hcm _ h, (h2 _ h).2, by have := dat_mg h; omega⟩
     obtain ⟨hkc, hkl, hks⟩ := hkx
     have hlv1 := (chk_zero.1 hkc).1
     have hsn := entsL_snoc (pre.map (·.1)) x n
     generalize hacc : entsL (pre.map (·.1)) n = acc at hI1 hal hsn ⊢
     have HSN := Lib.hid (show entsL (List.map (fun e : {e : YEnt // e ∈ E} => e.1) (pre ++ [(⟨x, hx⟩ : {e : YEnt // e ∈ E})])) n = ct acc (joinLn (entL x.b x.x n)) by rw [List.map_append]; exact hsn)
     have HSH := Lib.hid (fun w' (hb : Below w.heap.size w w') (hE' : NumOk w') => short_any (hr0.under hb) (chk_zero.1 hkc).2.1 hkl hE')
     have HBK := Lib.hid (fun w' (hb : Below w.heap.size w w') (hE' : NumOk w') (hl : (joinLn (lnD x.x (n + 2))).length ≤ 1000000) => ih x.x hks (lv + 1) x.vi x.vm ok (n + 2) w' (hr0.under hb) hkc hkl (by omega) hl hE')
     have hS0 : BlS w n (entC x) Be acc W W := ⟨hI1, hI2, KeepsFrom.refl _ _, KpY.refl _ _ _, hI3, hBe, hBe2⟩
     have HE := Lib.hid hE
     have hbl : x.b.length ≤ 1000000 := by
       have : (joinLn (entL x.b x.x n)).length ≥ x.b.length := by
         cases h : shortY x.x with
         | some t => rw [ent_some h]; simp only [ct_len]; omega
         | none => rw [ent_none h]; simp only [ct_len]; omega
       omega
     have HES := Lib.hid (fun t (h : shortY x.x = some t) => ent_some (b := x.b) (n := n) h)
     have HEN := Lib.hid (fun (h : shortY x.x = none) => ent_none (b := x.b) (n := n) h)
     have hnn : n ≤ 128 := by omega
     obtain ⟨b, x, vi, vm⟩ := x
     obtain ⟨ip, ic, hvi, -, -⟩ := hr0.items
     obtain ⟨mp, mc, hvm, -, -⟩ := hr0.members
     obtain rfl : vi = .slice ip x.its.length ic := hvi
     obtain rfl : vm = .slice mp x.mem.length mc := hvm
     simp only [entC] at hel hbl HSN HSH HBK hS0 HES HEN ⊢
     have HEL := Lib.hid hel
     clear ih hd hr hc hlim hlen hE ho hci hcm h1 h2 htx hlab hI1 hI2 hI3 hI4 hBe hBe2 hmem hr0 hkc hkl hks hlv1 hsn hacc hpre hel bo bi bd hb4 hk3
     have HS4 := Lib.hid hs4
     clear hs4
     gi_upto_region 4 with fail
     gi_cut [6] from 12 (fun b6 wx => b6 = .pointer (some ⟨Be, 0, none⟩) ∧ Hid (BlS w n #[.string (S b), .int .i64 x.k, .int .i64 x.n, .string (S x.s), .slice ip x.its.length ic, .slice mp x.mem.length mc] Be (ct acc (ct (spc n) b)) W wx))
     case first =>
       rename_i hJ hK2
       have HS0 := Lib.hid hS0
       obtain ⟨k1, k2, -, -, -, k3, -⟩ := hS0
       have c1 := k1.cell
       have f1 := k1.frozen
       have c2 := k2.cell
       have c3 := k3.cell 0
       simp at c3
       have hsl := spc_len n
       generalize hsp : spc n = sp at hsl ⊢
       have g1 : ¬ (9223372036854775807 : Nat) < sp.length + b.length := by omega
       have g2 : ¬ (9223372036854775807 : Nat) < acc.length + (ct sp b).length := by rw [ct_len]; omega
       gi_region_with (refine ⟨trivial, ?_⟩; gi_at_call 54; refine (CallsIn.inRound l (callsIn_wide.2 (repeat_sp n hnn _))).mono ?_; rintro e w' ⟨rfl, rfl⟩; rw [hsp])
       all_goals
         refine hK2 _ _ (Met.intro (hJ _ _ ?_))
         (repeat apply Exists.intro)
         refine ⟨?_, rfl⟩
         rw [hsp]
         refine ⟨rfl, Lib.hid (BlS.below (HS0.out.set _) ?_)⟩
         repeat first | exact Below.refl _ _ | refine below_drew ?_
     case rest =>
       clear hS0
       obtain ⟨rfl, HS⟩ := hcut
       obtain ⟨k1, k2, -, -, k5, k3, -⟩ := HS.out
       have c1 := k1.cell
       have f1 := k1.frozen
       have c2 := k2.cell
       have n1 := k3.cell 1
       have n2 := k3.cell 2
       have n3 := k3.cell 3
       have n4 := k3.cell 4
       have n5 := k3.cell 5
       simp at n1 n2 n3 n4 n5
       have HSC := Lib.hid (HSH.out _ k5 (HE.out.below k5))
       clear k1 k2 k3 k5 HSH
       gi_wp2_with fail
       refine ⟨trivial, ?_⟩
       refine (CallsIn.inRound l (callsIn_wide.2 HSC.out)).mono ?_
       rintro e w5 ⟨rfl, hb⟩
       have HS5 := Lib.hid (HS.out.below hb)
       clear hb HSC HS c1 f1 c2 n1 n2 n3 n4 n5
       obtain ⟨k1, k2, -, -, k5, k3, -⟩ := HS5.out
       have c1 := k1.cell
       have f1 := k1.frozen
       have c2 := k2.cell
       have n1 := k3.cell 1
       have n2 := k3.cell 2
       have n3 := k3.cell 3
       have n4 := k3.cell 4
       have n5 := k3.cell 5
       simp at n1 n2 n3 n4 n5
       unfold shrV
       cases hsy : shortY x with
       | some t =>
         have HR := Lib.hid (HES.out t hsy)
         have hl : t.length ≤ 1000000 ∧ n ≤ 1000000 := by
           have h1 := HEL.out
           rw [HR.out] at h1
           simp only [ct_len, spc_len] at h1
           omega
         have hll : (ct acc (ct (spc n) b)).length ≤ 3000000000000 := by rw [ct_len, ct_len, spc_len]; omega
         generalize hac : ct acc (ct (spc n) b) = ac at HS5 c1 hll
         obtain ⟨hlt, hln⟩ := hl
         clear hsy HES HEN HBK k1 k2 k3 k5
         simp only [Option.getD_some, Option.isSome_some]
         gi_wp2_with fail
         have e : entsL (List.map (fun e : {e : YEnt // e ∈ E} => e.1) (pre ++ [(⟨⟨b, x, .slice ip x.its.length ic, .slice mp x.mem.length mc⟩, hx⟩ : {e : YEnt // e ∈ E})])) n = ct ac (ct (ct [32] t) [10]) := by
           rw [HSN.out, HR.out, ← hac]
           simp only [ct_eq, List.append_assoc]
         show KeepsFrom w3.heap.size W _ ∧ _
         dsimp only
         rw [HS4.out, e]
         exact BlS.fin (HS5.out.set _) (Below.refl _ _)
       | none =>
         have HR := Lib.hid (HEN.out hsy)
         have hl : (joinLn (lnD x (n + 2))).length ≤ 1000000 := by
           have h1 := HEL.out
           rw [HR.out] at h1
           simp only [ct_len, spc_len] at h1
           omega
         have HBC := Lib.hid (fun w' (hb : Below w5.heap.size w5 w') => show Calls Tryz.prog 32 #[.agg #[.int .i64 x.k, .int .i64 x.n, .string (S x.s), .slice ip x.its.length ic, .slice mp x.mem.length mc], .int .i64 ((n : Int) + 2)] w' _ from HBK.out w' (k5.trans (hb.mono k5.size)) (HE.out.below (k5.trans (hb.mono k5.size))) hl)
         have hll : (ct acc (ct (spc n) b)).length ≤ 3000000000000 := by rw [ct_len, ct_len, spc_len]; omega
         generalize hac : ct acc (ct (spc n) b) = ac at HS5 c1 hll
         generalize joinLn (lnD x (n + 2)) = u at HR HBC hl
         have g1 : ¬ (9223372036854775807 : Nat) < 1 + u.length := by omega
         have g2 : ¬ (9223372036854775807 : Nat) < ac.length + (ct [10] u).length := by rw [ct_len, List.length_singleton]; omega
         have hw1 : IntKind.i64.wrap ((n : Int) + 2) = (n : Int) + 2 := IntWalk.i64_in _ (by omega)
         have HKE := Lib.hid (fun w' (hb : Below w5.heap.size w5 w') => (show _ ∧ _ ∧ _ ∧ _ ∧ _ ∧ _ ∧ _ ∧ _ from ⟨(hb.cell (p := ⟨w.heap.size + 1 + 1, 0, none⟩) k1.lt).trans c1, (hb.frozen (p := ⟨w.heap.size + 1 + 1, 0, none⟩) k1.lt).trans f1, (hb.cell (p := ⟨w.heap.size + 1, 0, none⟩) k2.lt).trans c2, (hb.cell (p := ⟨Be, 1, none⟩) k3.lt).trans n1, (hb.cell (p := ⟨Be, 2, none⟩) k3.lt).trans n2, (hb.cell (p := ⟨Be, 3, none⟩) k3.lt).trans n3, (hb.cell (p := ⟨Be, 4, none⟩) k3.lt).trans n4, (hb.cell (p := ⟨Be, 5, none⟩) k3.lt).trans n5⟩))
         have HB0 := Lib.hid (below_drew (Below.refl w5.heap.size w5))
         have HB00 := Lib.hid (Below.refl w5.heap.size w5)
         clear hsy HES HEN HBK k1 k2 k3 k5
         simp only [Option.getD_none, Option.isSome_none]
         gi_upto_region 8 with fail
         gi_region_with (refine ⟨trivial, ?_⟩; gi_at_call 32; refine (CallsIn.inRound l (callsIn_wide.2 (HBC.out _ (by repeat first | exact Below.refl _ _ | refine below_drew ?_)))).mono ?_; rintro e w6 ⟨rfl, hb⟩; have HB6 := Lib.hid (show Below w5.heap.size w5 w6 from Below.trans (by repeat first | exact Below.refl _ _ | refine below_drew ?_) (hb.mono (Nat.le_refl w5.heap.size))); clear hb; obtain ⟨d1, d2, d3, d4, d5, d6, d7, d8⟩ := HKE.out _ HB6.out)
         all_goals
           gi_wp2_with fail
           have e : entsL (List.map (fun e : {e : YEnt // e ∈ E} => e.1) (pre ++ [(⟨⟨b, x, .slice ip x.its.length ic, .slice mp x.mem.length mc⟩, hx⟩ : {e : YEnt // e ∈ E})])) n = ct ac (ct [10] u) := by
             rw [HSN.out, HR.out, ← hac]
             simp only [ct_eq, List.append_assoc]
           show KeepsFrom w3.heap.size W _ ∧ _
           dsimp only
           rw [HS4.out, e]
           exact BlS.fin ((HS5.out.below HB6.out).set _) (by repeat first | exact Below.refl _ _ | refine below_drew ?_)
   case done =>
     rintro D ys W hD hys ⟨hI1, hI2, hI3, hI4⟩ hK
     have hc := hI1.cell
     have hf := hI1.frozen
     rw [hys, htx] at hc
     gi_wp2_with fail
     refine ⟨by simp, .inl ⟨_, _, rfl, run_takeDeferred hK, ?_⟩⟩
     exact ⟨_, results_tmp rfl _ _ _, rfl, hI3.trans (belowK_b (w := w) (Nat.le_refl _) _ D _ _ (by omega) hK rfl rfl)⟩
   case stop =>
     rintro D c pre W _ _ h _
     exact h.elim
end
section
open Go.RowKit
def textV2 (d : Dat) : Value := .tuple #[.string (S (textY d).1), .int .i64 ((textY d).2 : Int)]
theorem doc_none {d : Dat} (h : shortY d = none) : docLn d = lnD d 0 := by unfold docLn; rw [h]
theorem doc_some {d : Dat} {t : List UInt8} (h : shortY d = some t) : docLn d = [(0, t)] := by unfold docLn; rw [h]
set_option maxRecDepth 100000 in
set_option maxHeartbeats 4000000 in
theorem text_anyY {d : Dat} {vi vm : Value} {ok : Nat → Prop} {w : World} (hr : Rep w ok d vi vm) (hlim : limD d = true) (hlen : chk d 1 = 0 → (joinLn (docLn d)).length ≤ 1000000) (hE : NumOk w) :
   Calls Tryz.prog 14 #[.agg #[.int .i64 d.k, .int .i64 d.n, .string (S d.s), vi, vm]] w fun e w' => e = .returned (textV2 d) ∧ Below w.heap.size w w' := by
 have HREP := Lib.hid hr
 have HCK := Lib.hid (fun w' (hb : Below w.heap.size w w') => Check_any (HREP.out.under hb) hlim)
 have HSH := Lib.hid (fun (ho : chk d 1 = 0) w' (hb : Below w.heap.size w w') (hE' : NumOk w') => short_any (HREP.out.under hb) (chk_zero.1 ho).2.1 hlim hE')
 have HBK := Lib.hid (fun (ho : chk d 1 = 0) (hs : shortY d = none) w' (hb : Below w.heap.size w w') (hE' : NumOk w') => block_any (SizeOf.sizeOf d + 1) d (Nat.lt_succ_self _) 1 vi vm ok 0 w' (HREP.out.under hb) ho hlim (by omega) (doc_none hs ▸ hlen ho) hE')
 have HSL := Lib.hid (fun (ho : chk d 1 = 0) t (hs : shortY d = some t) => (show t.length ≤ 1000000 by have := hlen ho; rw [doc_some hs] at this; simp [joinLn, oneLn] at this; omega))
 have HV1 := Lib.hid (fun (h : chk d 1 = 0) t (hs : shortY d = some t) => (show textV2 d = .tuple #[.string (S (t ++ [10])), .int .i64 0] by unfold textV2 textY; rw [if_pos h, hs]; rfl))
 have HV2 := Lib.hid (fun (h : chk d 1 = 0) (hs : shortY d = none) => (show textV2 d = .tuple #[.string (S (joinLn (lnD d 0))), .int .i64 0] by unfold textV2 textY; rw [if_pos h, hs]; rfl))
 have HV3 := Lib.hid (fun (h : ¬ chk d 1 = 0) => (show textV2 d = .tuple #[.string (S []), .int .i64 (chk d 1 : Int)] by unfold textV2 textY; rw [if_neg h]))
 obtain ⟨p, cap, rfl, -, -⟩ := hr.items
 obtain ⟨q, caq, rfl, -, -⟩ := hr.members
 generalize textV2 d = r at HV1 HV2 HV3 ⊢
 have HE := Lib.hid hE
 have hS : CkS w.heap.size w d (.slice p d.its.length cap) (.slice q d.mem.length caq) (w.alloc (.cells #[.int .i64 d.k, .int .i64 d.n, .string (S d.s), .slice p d.its.length cap, .slice q d.mem.length caq] 25)) := CkS.new w d _ _
 clear hr hlim hlen hE
 go_enter Tryz.func14, Tryz.ntmps14
 go_upto_region 1 with fail
 generalize w.alloc (.cells #[.int .i64 d.k, .int .i64 d.n, .string (S d.s), .slice p d.its.length cap, .slice q d.mem.length caq] 25) = W at hS ⊢
 obtain ⟨c0, c1, c2, c3, c4, hlw⟩ := hS.cells
 have HS := Lib.hid hS
 clear hS
 go_wp2_with fail
 refine (HCK.out _ HS.out.2).mono ?_
 rintro e w1 ⟨rfl, hb⟩
 have HS1 := Lib.hid (HS.out.below hb)
 clear hb HS HCK c0 c1 c2 c3 c4 hlw
 obtain ⟨c0, c1, c2, c3, c4, hlw⟩ := HS1.out.cells
 generalize hck : chk d 1 = ck at HSH HBK HSL HV1 HV2 HV3 ⊢
 clear hck
 by_cases hc : ck = 0
 case neg =>
   have HR := Lib.hid (HV3.out hc)
   have t1 : ((ck : Int) != 0) = true := by simp; omega
   have t2 : ((ck : Int) == 0) = false := by simp; omega
   have t3 : ¬ ((ck : Int) = 0) := by omega
   clear hc HV1 HV2 HV3 HSH HBK HSL
   go_wp2_with fail
   go_ret2
   exact ⟨by rw [HR.out]; rfl, HS1.out.2⟩
 subst hc
 have HSC := Lib.hid (HSH.out rfl _ HS1.out.2 (HE.out.below HS1.out.2))
 go_wp2_with fail
 refine HSC.out.mono ?_
 rintro e w2 ⟨rfl, hb⟩
 have HS2 := Lib.hid (HS1.out.below hb)
 clear hb HS1 HSC HSH c0 c1 c2 c3 c4 hlw
 obtain ⟨c0, c1, c2, c3, c4, hlw⟩ := HS2.out.cells
 unfold shrV
 cases hsy : shortY d with
 | some s =>
   have HR := Lib.hid (HV1.out (by trivial) s hsy)
   have hl := HSL.out (by trivial) s hsy
   clear hsy HV1 HV2 HV3 HBK HSL
   simp only [Option.getD_some, Option.isSome_some]
   go_wp2_with fail
   go_ret2
   exact ⟨by rw [HR.out]; rfl, HS2.out.2⟩
 | none =>
   have HR := Lib.hid (HV2.out (by trivial) hsy)
   have HBC := Lib.hid (HBK.out (by trivial) hsy _ HS2.out.2 (HE.out.below HS2.out.2))
   clear hsy HV1 HV2 HV3 HBK HSL
   simp only [Option.getD_none, Option.isSome_none]
   go_wp2_with fail
   refine HBC.out.mono ?_
   rintro e w3 ⟨rfl, hb⟩
   have HB3 := Lib.hid (HS2.out.2.trans (hb.mono HS2.out.2.size))
   clear hb
   go_wp2_with fail
   go_ret2
   exact ⟨by rw [HR.out]; rfl, HB3.out⟩
set_option maxRecDepth 100000 in
set_option maxHeartbeats 4000000 in
theorem refText_anyY {d : Dat} {vi vm : Value} {ok : Nat → Prop} {w : World} (hr : Rep w ok d vi vm) (hlim : limD d = true) (hlen : chk d 1 = 0 → (joinLn (docLn d)).length ≤ 1000000) :
   Calls Tryz.prog 15 #[.agg #[.int .i64 d.k, .int .i64 d.n, .string (S d.s), vi, vm]] w fun e w' => e = .returned (textV2 d) ∧ Below w.heap.size w w' := by
 have HREP := Lib.hid hr
 have HCK := Lib.hid (fun w' (hb : Below w.heap.size w w') => refChk_any (HREP.out.under hb))
 have HSH := Lib.hid (fun (ho : chk d 1 = 0) w' (hb : Below w.heap.size w w') => refShort_yaml (HREP.out.under hb) (chk_zero.1 ho).2.1 hlim)
 have HBK := Lib.hid (fun (ho : chk d 1 = 0) (hs : shortY d = none) w' (hb : Below w.heap.size w w') => refBlock_any (SizeOf.sizeOf d + 1) d (Nat.lt_succ_self _) 1 vi vm ok 0 w' (HREP.out.under hb) ho hlim (doc_none hs ▸ hlen ho))
 have HSL := Lib.hid (fun (ho : chk d 1 = 0) t (hs : shortY d = some t) => (show t.length ≤ 1000000 by have := hlen ho; rw [doc_some hs] at this; simp [joinLn, oneLn] at this; omega))
 have HV1 := Lib.hid (fun (h : chk d 1 = 0) t (hs : shortY d = some t) => (show textV2 d = .tuple #[.string (S (t ++ [10])), .int .i64 0] by unfold textV2 textY; rw [if_pos h, hs]; rfl))
 have HV2 := Lib.hid (fun (h : chk d 1 = 0) (hs : shortY d = none) => (show textV2 d = .tuple #[.string (S (joinLn (lnD d 0))), .int .i64 0] by unfold textV2 textY; rw [if_pos h, hs]; rfl))
 have HV3 := Lib.hid (fun (h : ¬ chk d 1 = 0) => (show textV2 d = .tuple #[.string (S []), .int .i64 (chk d 1 : Int)] by unfold textV2 textY; rw [if_neg h]))
 obtain ⟨p, cap, rfl, -, -⟩ := hr.items
 obtain ⟨q, caq, rfl, -, -⟩ := hr.members
 generalize textV2 d = r at HV1 HV2 HV3 ⊢
 have hS : CkS w.heap.size w d (.slice p d.its.length cap) (.slice q d.mem.length caq) (w.alloc (.cells #[.int .i64 d.k, .int .i64 d.n, .string (S d.s), .slice p d.its.length cap, .slice q d.mem.length caq] 25)) := CkS.new w d _ _
 clear hr hlim hlen
 go_enter Tryz.func15, Tryz.ntmps15
 go_upto_region 1 with fail
 generalize w.alloc (.cells #[.int .i64 d.k, .int .i64 d.n, .string (S d.s), .slice p d.its.length cap, .slice q d.mem.length caq] 25) = W at hS ⊢
 obtain ⟨c0, c1, c2, c3, c4, hlw⟩ := hS.cells
 have HS := Lib.hid hS
 clear hS
 go_wp2_with fail
 refine (HCK.out _ HS.out.2).mono ?_
 rintro e w1 ⟨rfl, hb⟩
 have HS1 := Lib.hid (HS.out.below hb)
 clear hb HS HCK c0 c1 c2 c3 c4 hlw
 obtain ⟨c0, c1, c2, c3, c4, hlw⟩ := HS1.out.cells
 generalize hck : chk d 1 = ck at HSH HBK HSL HV1 HV2 HV3 ⊢
 clear hck
 by_cases hc : ck = 0
 case neg =>
   have HR := Lib.hid (HV3.out hc)
   have t1 : ((ck : Int) != 0) = true := by simp; omega
   have t2 : ((ck : Int) == 0) = false := by simp; omega
   have t3 : ¬ ((ck : Int) = 0) := by omega
   clear hc HV1 HV2 HV3 HSH HBK HSL
   go_wp2_with fail
   go_ret2
   exact ⟨by rw [HR.out]; rfl, HS1.out.2⟩
 subst hc
 have HSC := Lib.hid (HSH.out rfl _ HS1.out.2)
 go_wp2_with fail
 refine HSC.out.mono ?_
 rintro e w2 ⟨s, sb, rfl, hsy, hb⟩
 have HS2 := Lib.hid (HS1.out.below hb)
 clear hb HS1 HSC HSH c0 c1 c2 c3 c4 hlw
 obtain ⟨c0, c1, c2, c3, c4, hlw⟩ := HS2.out.cells
 rcases Bool.eq_false_or_eq_true sb with rfl | rfl
 · rw [if_pos rfl] at hsy
   have HR := Lib.hid (HV1.out (by trivial) s hsy)
   have hl := HSL.out (by trivial) s hsy
   clear hsy HV1 HV2 HV3 HBK HSL
   go_wp2_with fail
   go_ret2
   exact ⟨by rw [HR.out]; rfl, HS2.out.2⟩
 · have hsn : shortY d = none := by rw [hsy]; rfl
   have HR := Lib.hid (HV2.out (by trivial) hsn)
   have HBC := Lib.hid (HBK.out (by trivial) hsn _ HS2.out.2)
   clear hsy hsn HV1 HV2 HV3 HBK HSL
   go_wp2_with fail
   refine HBC.out.mono ?_
   rintro e w3 ⟨rfl, hb⟩
   have HB3 := Lib.hid (HS2.out.2.trans (hb.mono HS2.out.2.size))
   clear hb
   go_wp2_with fail
   go_ret2
   exact ⟨by rw [HR.out]; rfl, HB3.out⟩
end
section
open Go.RowKit
def dropS (x : List UInt8) : List UInt8 := x.drop (x.takeWhile fun c => c == 32).length
theorem dropS_sp (x : List UInt8) : dropS (32 :: x) = dropS x := by
 unfold dropS
 rw [List.takeWhile_cons_of_pos (by rfl)]
 rfl
theorem dropS_no {x : List UInt8} (h : byt x 0 ≠ 32 ∨ x = []) : dropS x = x := by
 cases x with
 | nil => rfl
 | cons c r =>
   unfold dropS
   rw [List.takeWhile_cons_of_neg]
   · rfl
   · rcases h with h | h
     · simpa [byt] using h
     · cases h
theorem sl_tail (c : UInt8) (r : List UInt8) : sl (c :: r) 1 (c :: r).length = r := by
 unfold sl
 simp
def sizeS : Value → Nat | .string b => b.size | _ => 0
set_option maxRecDepth 100000 in
set_option maxHeartbeats 4000000 in
theorem trimByte_any (l : List UInt8) (hl : l.length ≤ 1000000) (w : World) : Calls Tryz.prog 84 #[.string (S l), .int .u8 32] w fun e w' => e = .returned (.string (S (dropS l))) ∧ w' = w := by
 go_enter Tryz.func84, Tryz.ntmps84
 go_upto_region 1 with fail
 go_loopw [0] (fun x wr => ∃ m : List UInt8, x = .string (S m) ∧ m.length ≤ l.length ∧ Hid (dropS m = dropS l) ∧ wr = w) (fun x _ => sizeS x)
 case atStart => exact ⟨l, rfl, Nat.le_refl _, Lib.hid rfl, rfl⟩
 case round =>
   obtain ⟨m, rfl, hm, HD, rfl⟩ := hrel
   cases m with
   | nil =>
     go_wp2_with fail
     go_ret
     exact ⟨by rw [← HD.out]; rfl, rfl⟩
   | cons c r =>
     have hl1 : (0 : Int) < ((c :: r).length : Int) := by simp
     have hlr : (c :: r).length ≤ 1000000 := by omega
     have hb0 : byt (c :: r) 0 = c := rfl
     have hsl := sl_tail c r
     by_cases h : c = 32
     · subst h
       have HD2 := Lib.hid (show dropS r = dropS l by rw [← HD.out, dropS_sp])
       have hm2 : r.length ≤ l.length := by simp at hm; omega
       have hme : sizeS (.string (S r)) < sizeS (.string (S (32 :: r))) := by show (S r).size < (S (32 :: r)).size; rw [S_size, S_size]; simp
       have T1 : (((byt (32 :: r) 0).toNat : Int) == 32) = true := by rw [hb0]; rfl
       generalize 32 :: r = m at *
       clear hb0 HD
       go_wp2_with fail
       exact ⟨⟨r, rfl, hm2, HD2, trivial⟩, hme⟩
     · have HD2 := Lib.hid (show c :: r = dropS l by rw [← HD.out, dropS_no (x := c :: r) (.inl h)])
       have T1 : (((byt (c :: r) 0).toNat : Int) == 32) = false := by rw [hb0]; exact u8_ne h
       generalize c :: r = m at *
       clear hb0 HD
       go_wp2_with fail
       go_ret
       exact ⟨by rw [← HD2.out]; rfl, rfl⟩
set_option maxRecDepth 100000 in
set_option maxHeartbeats 4000000 in
theorem trim_any (l : List UInt8) (hl : l.length ≤ 1000000) (w : World) : Calls Tryz.prog 61 #[.string (S l), .string ⟨#[32]⟩] w fun e w' => e = .returned (.string (S (dropS l))) ∧ w' = w := by
 cases l with
 | nil =>
   go_enter Tryz.func61, Tryz.ntmps61
   go_wp2_with fail
   go_ret
   exact ⟨rfl, rfl⟩
 | cons c r =>
   have t1 : ((c :: r) == []) = false := rfl
   generalize c :: r = m at *
   have HT := Lib.hid (trimByte_any m hl w)
   go_enter Tryz.func61, Tryz.ntmps61
   go_wp2_with fail
   refine HT.out.mono ?_
   rintro e w' ⟨rfl, rfl⟩
   go_wp2_with fail
   go_ret
   exact ⟨rfl, rfl⟩
end
section
open Go.RowKit
def MaxOk (w : World) : Prop := ∃ m : Int, w.cell? ⟨1, 0, none⟩ = some (.int .i64 m)
theorem MaxOk.below {w w' : World} (h : MaxOk w) (hb : Below w.heap.size w w') : MaxOk w' := by
 obtain ⟨m, hm⟩ := h
 refine ⟨m, (hb.cell (p := ⟨_, 0, none⟩) ?_).trans hm⟩
 show (_ : Nat) < w.heap.size
 rcases Nat.lt_or_ge 1 w.heap.size with h | h
 · exact h
 · exfalso
   unfold World.cell? at hm
   rw [show w.heap[1]? = none from Array.getElem?_eq_none h] at hm
   cases hm
def scells (l : List (List UInt8)) : List Value := l.map fun x => .string (S x)
theorem Split_any (c : UInt8) (l : List UInt8) (hl : l.length ≤ 1000000) (w : World) (hM : MaxOk w) :
   Calls Tryz.prog 60 #[.string (S l), .string (S [c])] w fun e w' => e = .returned (.slice (some ⟨w.heap.size, 0, none⟩) (splitC c l).length (splitC c l).length) ∧ w' = w.alloc (.cells (scells (splitC c l)).toArray 9) := by
 obtain ⟨m, hm⟩ := hM
 refine (Tryz.strings_Split (S l) (S [c]) m w (by show l.length < _; omega) hm (by show 1 ≤ 1; omega)).mono ?_
 rintro e w' ⟨rfl, rfl⟩
 rw [countB_one, splitB_one, List.map_map]
 exact ⟨rfl, rfl⟩
theorem below_alA {N : Nat} {w W : World} (h : Below N w W) (hN : N ≤ w.heap.size) (o : Obj) : Below N w (W.alloc o) := h.alloc (Nat.le_trans hN h.size) o
theorem infoLn : (Tryz.prog.info? 87).map (fun i => (i.zero, i.size, i.bytes)) = some (some (.agg #[.int .i64 0, .string ⟨#[]⟩, .int .i64 0]), 3, 32) := by kernel_rfl
def cellsL (x : Ln) : List Value := [.int .i64 (x.ind : Int), .string (S x.txt), .int .i64 (x.no : Int)]
def flatL (L : List Ln) : List Value := L.flatMap cellsL
theorem flatL_snoc (L : List Ln) (x : Ln) : flatL (L ++ [x]) = flatL L ++ cellsL x := by unfold flatL; simp
theorem flatL_get : ∀ (L : List Ln) (j : Nat) (x : Ln), L[j]? = some x → (flatL L)[j * 3]? = some (.int .i64 (x.ind : Int)) ∧ (flatL L)[j * 3 + 1]? = some (.string (S x.txt)) ∧ (flatL L)[j * 3 + 2]? = some (.int .i64 (x.no : Int))
 | [], j, x, h => by simp at h
 | y :: r, 0, x, h => by simp at h; subst h; exact ⟨rfl, rfl, rfl⟩
 | y :: r, j + 1, x, h => by
   have := flatL_get r j x (by simpa using h)
   rw [show (j + 1) * 3 = j * 3 + 3 by omega]
   exact this
def LnR (W : World) (lo : Nat) (v : Value) (L : List Ln) : Prop :=
 ∃ p cap B, v = .slice p L.length cap ∧ ∀ (j : Nat) (h : j < L.length), p = some ⟨B, 0, none⟩ ∧ lo ≤ B ∧ L.length ≤ cap ∧ B < W.heap.size ∧ W.cell? ⟨B, j * 3, none⟩ = some (.int .i64 (L[j].ind : Int)) ∧ W.cell? ⟨B, j * 3 + 1, none⟩ = some (.string (S L[j].txt)) ∧ W.cell? ⟨B, j * 3 + 2, none⟩ = some (.int .i64 (L[j].no : Int))
theorem own_LnR {W : World} {base lo : Nat} {e : TypeId} {v : Value} {L : List Ln} (h : W.ownsRow base e 3 v L.length (flatL L)) (hlo : lo ≤ base) : LnR W lo v L := by
 rcases own_head h with ⟨rfl, h0⟩ | ⟨g, cap, rfl, hb, hc, hg, -⟩
 · exact ⟨none, 0, 0, by rw [h0], fun j h => by omega⟩
 · refine ⟨_, cap, g, rfl, fun j h' => ⟨rfl, Nat.le_trans hlo hb, hc, hg, ?_⟩⟩
   obtain ⟨h1, h2, h3⟩ := flatL_get L j _ (List.getElem?_eq_getElem h')
   have k1 := h.cells (g := g) rfl _ _ h1
   have k2 := h.cells (g := g) rfl _ _ h2
   have k3 := h.cells (g := g) rfl _ _ h3
   rw [Lib.add_plain, Nat.zero_add] at k1 k2 k3
   exact ⟨k1, k2, k3⟩
theorem LnR.grown {W W' : World} {lo Br : Nat} {v : Value} {L : List Ln} (h : LnR W lo v L) (hg : W.grownBy W' (some Br)) (hr : Br < lo) : LnR W' lo v L := by
 obtain ⟨p, cap, B, rfl, hc⟩ := h
 refine ⟨p, cap, B, rfl, fun j h => ?_⟩
 obtain ⟨h1, h0, h2, h3, h4, h5, h6⟩ := hc j h
 have hq := hg.block B h3 (fun e => by injection e with e; omega)
 exact ⟨h1, h0, h2, Nat.lt_of_lt_of_le h3 hg.size, (World.cell?_of_block (a := ⟨B, _, none⟩) hq).trans h4, (World.cell?_of_block (a := ⟨B, _, none⟩) hq).trans h5, (World.cell?_of_block (a := ⟨B, _, none⟩) hq).trans h6⟩
theorem LnR.under {W W' : World} {lo : Nat} {v : Value} {L : List Ln} (h : LnR W lo v L) (hb : Below W.heap.size W W') : LnR W' lo v L := by
 obtain ⟨p, cap, B, rfl, hc⟩ := h
 refine ⟨p, cap, B, rfl, fun j h => ?_⟩
 obtain ⟨h1, h0, h2, h3, h4, h5, h6⟩ := hc j h
 exact ⟨h1, h0, h2, Nat.lt_of_lt_of_le h3 hb.size, (hb.cell (p := ⟨B, _, none⟩) h3).trans h4, (hb.cell (p := ⟨B, _, none⟩) h3).trans h5, (hb.cell (p := ⟨B, _, none⟩) h3).trans h6⟩
theorem linesN_snoc : ∀ (a : List (List UInt8)) (x : List UInt8) (i : Nat), linesN (a ++ [x]) i = linesN a i ++ (lineOf x (i + a.length + 1)).toList
 | [], x, i => by rw [List.nil_append, linesN, linesN, linesN, List.append_nil]; rfl
 | y :: r, x, i => by
   rw [List.cons_append, linesN, linesN, linesN_snoc r x (i + 1), List.append_assoc, List.length_cons]
   rw [show i + 1 + r.length + 1 = i + (r.length + 1) + 1 by omega]
theorem linesN_take {ps : List (List UInt8)} {k : Nat} (h : k < ps.length) : linesN (ps.take (k + 1)) 0 = linesN (ps.take k) 0 ++ (lineOf ps[k] (k + 1)).toList := by
 rw [List.take_add_one, List.getElem?_eq_getElem h, Option.toList_some, linesN_snoc, List.length_take, Nat.zero_add, Nat.min_eq_left (by omega)]
theorem linesN_len : ∀ (a : List (List UInt8)) (i : Nat), (linesN a i).length ≤ a.length
 | [], i => by rw [linesN]; simp
 | x :: r, i => by
   have := linesN_len r (i + 1)
   rw [linesN, List.length_append, List.length_cons]
   have h1 : (lineOf x (i + 1)).toList.length ≤ 1 := by cases lineOf x (i + 1) <;> simp
   omega
theorem lineOf_drop (x : List UInt8) (i : Nat) : lineOf x i = if dropS x = [] ∨ byt (dropS x) 0 = 35 then none else some ⟨(x.takeWhile fun c => c == 32).length, dropS x, i⟩ := rfl
theorem dropS_len (x : List UInt8) : (dropS x).length + (x.takeWhile fun c => c == 32).length = x.length := by
 unfold dropS
 rw [List.length_drop]
 have := (List.takeWhile_sublist (l := x) fun c => c == 32).length_le
 omega
theorem pieces_mem (s : List UInt8) : ∀ p ∈ pieces s, p.length ≤ s.length := by
 intro p hp
 unfold pieces at hp
 split at hp
 · exact splitC_mem_len 10 s p (List.dropLast_subset _ hp)
 · exact splitC_mem_len 10 s p hp
theorem pieces_count (s : List UInt8) : (pieces s).length ≤ s.length + 1 := by
 have h := splitC_len 10 s
 have h2 := List.count_le_length (a := (10 : UInt8)) (l := s)
 unfold pieces
 split
 · rw [List.length_dropLast]; omega
 · omega
theorem pieces_get {s : List UInt8} {j : Nat} (h : j < (pieces s).length) : (splitC 10 s)[j]? = some (pieces s)[j] := by
 have e : (pieces s)[j]? = (splitC 10 s)[j]? := by
   unfold pieces at h ⊢
   split
   · rename_i h2
     rw [if_pos h2, List.length_dropLast] at h
     rw [List.getElem?_dropLast, if_pos h]
   · rfl
 rw [← e, List.getElem?_eq_getElem h]
def LnsP (w : World) (s : List UInt8) (e : Ending) (w' : World) : Prop := ∃ v, e = .returned (.tuple #[v, .int .i64 ((pieces s).length : Int)]) ∧ LnR w' w.heap.size v (linesY s) ∧ Below w.heap.size w w'
set_option maxRecDepth 100000 in
set_option maxHeartbeats 4000000 in
theorem lines_any (l : List UInt8) (hl : l.length ≤ 1000000) (w : World) (hM : MaxOk w) : Calls Tryz.prog 37 #[.string (S l)] w (LnsP w l) := by
 obtain ⟨i0, hi, hz0, hz1, hz2⟩ := info_parts infoLn
 have HSP := Lib.hid (Split_any 10 l hl w hM)
 have hn := splitC_len 10 l
 have hcn := List.count_le_length (a := (10 : UInt8)) (l := l)
 have HW0 : Hid (∀ j, j < (pieces l).length → (w.alloc (.cells (scells (splitC 10 l)).toArray 9)).cell? ⟨w.heap.size, j, none⟩ = some (.string (S ((pieces l)[j]?.getD [])))) := Lib.hid (fun j hj => by
   rw [World.cell?_alloc_mark]
   rw [List.getElem?_eq_getElem hj, Option.getD_some]
   have := pieces_get hj
   show (scells (splitC 10 l)).toArray[j]? = _
   unfold scells
   rw [List.getElem?_toArray, List.getElem?_map, this]; rfl)
 have hlast : ∃ x, (splitC 10 l)[(splitC 10 l).length - 1]? = some x ∧ (x.isEmpty = true ∧ (pieces l).length = (splitC 10 l).length - 1 ∨ x.isEmpty = false ∧ (pieces l).length = (splitC 10 l).length) := by
   have hp : 0 < (splitC 10 l).length := by omega
   refine ⟨(splitC 10 l)[(splitC 10 l).length - 1], List.getElem?_eq_getElem (by omega), ?_⟩
   have hg : (splitC 10 l).getLast? = some (splitC 10 l)[(splitC 10 l).length - 1] := by rw [List.getLast?_eq_getElem?, List.getElem?_eq_getElem (by omega)]
   by_cases h : (splitC 10 l)[(splitC 10 l).length - 1] = []
   · left
     refine ⟨by rw [h]; rfl, ?_⟩
     unfold pieces
     rw [hg, h, if_pos rfl, List.length_dropLast]
   · right
     refine ⟨by rw [List.isEmpty_eq_false_iff]; exact h, ?_⟩
     unfold pieces
     rw [hg, if_neg (by simpa using h)]
 obtain ⟨x, hx, hxx⟩ := hlast
 have hxc : (w.alloc (.cells (scells (splitC 10 l)).toArray 9)).cell? ⟨w.heap.size, (splitC 10 l).length - 1, none⟩ = some (.string (S x)) := by
   rw [World.cell?_alloc_mark]
   show (scells (splitC 10 l)).toArray[_]? = _
   unfold scells
   rw [List.getElem?_toArray, List.getElem?_map, hx]; rfl
 have HB0 := Lib.hid (alloc_below w (.cells (scells (splitC 10 l)).toArray 9))
 have hsz : w.heap.size < (w.alloc (.cells (scells (splitC 10 l)).toArray 9)).heap.size := by simp
 have hszE : (w.alloc (.cells (scells (splitC 10 l)).toArray 9)).heap.size = w.heap.size + 1 := by simp
 have HPL := Lib.hid (fun j (h : j < (pieces l).length) => Nat.le_trans (pieces_mem l _ (List.getElem_mem h)) hl)
 have HLY := Lib.hid (show linesY l = linesN ((pieces l).take (pieces l).length) 0 by rw [List.take_length]; rfl)
 have hpc := pieces_count l
 unfold LnsP
 generalize linesY l = ly at HLY ⊢
 generalize pieces l = ps at HW0 hxx HPL HLY hpc ⊢
 generalize w.alloc (.cells (scells (splitC 10 l)).toArray 9) = W at HSP HW0 hxc HB0 hsz hszE
 obtain ⟨m, hm⟩ : ∃ m : Nat, (splitC 10 l).length = m + 1 := ⟨_, hn⟩
 rw [hm] at HSP hxc hxx
 rw [Nat.add_sub_cancel] at hxc hxx
 have hm2 : m ≤ 1000000 := by omega
 clear hn hcn hx hm
 go_enter Tryz.func37, Tryz.ntmps37
 go_wp2_with fail
 refine HSP.out.mono ?_
 rintro e W ⟨rfl, rfl⟩
 clear HSP
 have hm0 : (0 : Int) ≤ (m : Int) := by omega
 have hw1 : IntKind.i64.wrap (((m + 1 : Nat) : Int) - 1) = (m : Int) := by rw [IntWalk.i64_in _ (by omega)]; omega
 go_upto_if 17 with fail
 go_cut [4] from 9 (fun v wx => v = .slice (some ⟨w.heap.size, 0, none⟩) ps.length (m + 1) ∧ wx = W)
 case first =>
   rcases hxx with ⟨h1, h2⟩ | ⟨h1, h2⟩
   · have H2 := Lib.hid h2
     rw [h1]
     clear HW0 HPL HLY h2 hpc
     go_wp2_with fail
     go_meet
     exact ⟨by rw [H2.out], rfl⟩
   · have H2 := Lib.hid h2
     rw [h1]
     clear HW0 HPL HLY h2 hpc
     go_wp2_with fail
     go_meet
     exact ⟨by rw [H2.out], rfl⟩
 case rest =>
   obtain ⟨rfl, hwc⟩ := hcut
   rw [hwc]
   clear hwc
   have hpm : ps.length ≤ m + 1 := by rcases hxx with ⟨-, h⟩ | ⟨-, h⟩ <;> omega
   clear hxx hxc
   go_wp2_with fail
   go_loopw [5, 25] (fun v x wr => ∃ k : Nat, x = .int .i64 (k : Int) ∧ k ≤ ps.length ∧ Hid (wr.ownsRow (w.heap.size + 1) 87 3 v (linesN (ps.take k) 0).length (flatL (linesN (ps.take k) 0))) ∧ Hid (Below w.heap.size w wr) ∧ Hid (Below W.heap.size W wr)) (fun _ x _ => ps.length - (intOf x).toNat)
   case atStart => exact ⟨0, rfl, Nat.zero_le _, Lib.hid ⟨rfl, .inl ⟨rfl, rfl⟩⟩, HB0, Lib.hid (Below.refl _ _)⟩
   case round =>
     obtain ⟨k, rfl, hk, HO, HB, HBW⟩ := hrel
     by_cases hlt : k < ps.length
     · have hll := HPL.out k hlt
       have c0 := (HBW.out.cell (p := ⟨w.heap.size, k, none⟩) hsz).trans (HW0.out k hlt)
       rw [List.getElem?_eq_getElem hlt, Option.getD_some] at c0
       have HT := Lib.hid (linesN_take hlt)
       have HLO := Lib.hid (lineOf_drop ps[k] (k + 1))
       generalize ps[k] = x at c0 hll HT HLO
       have hdl := dropS_len x
       have HTR := Lib.hid (trim_any x hll)
       generalize dropS x = t at HLO hdl HTR
       generalize (x.takeWhile fun c => c == 32).length = n at HLO hdl
       go_wp2_with fail
       refine (HTR.out _).mono ?_
       rintro e wr ⟨rfl, rfl⟩
       clear HTR
       cases t with
       | nil =>
         have HN := Lib.hid (show linesN (ps.take (k + 1)) 0 = linesN (ps.take k) 0 by rw [HT.out, HLO.out, if_pos (.inl rfl)]; simp)
         clear HT HLO
         go_wp2_with fail
         go_roundw
         case rel => exact ⟨k + 1, by go_num, hlt, by rw [HN.out]; exact HO, HB, HBW⟩
         case measure => simp [intOf]; omega
       | cons c r =>
         have he : (c :: r).isEmpty = false := rfl
         have hl0 : (0 : Int) < ((c :: r).length : Int) := by simp
         have hne : ¬ (c :: r = []) := List.cons_ne_nil _ _
         generalize c :: r = t at *
         by_cases h35 : byt t 0 = 35
         · have HN := Lib.hid (show linesN (ps.take (k + 1)) 0 = linesN (ps.take k) 0 by rw [HT.out, HLO.out, if_pos (.inr h35)]; simp)
           have T1 : (((byt t 0).toNat : Int) == 35) = true := by rw [h35]; rfl
           have T2 : (((byt t 0).toNat : Int) != 35) = false := by rw [h35]; rfl
           clear HT HLO h35
           go_wp2_with fail
           go_roundw
           case rel => exact ⟨k + 1, by go_num, hlt, by rw [HN.out]; exact HO, HB, HBW⟩
           case measure => simp [intOf]; omega
         · have HN := Lib.hid (show linesN (ps.take (k + 1)) 0 = linesN (ps.take k) 0 ++ [⟨n, t, k + 1⟩] by rw [HT.out, HLO.out, if_neg (by rintro (h | h); exact hne h; exact h35 h)]; simp)
           have T1 : (((byt t 0).toNat : Int) == 35) = false := u8_ne h35
           have T2 : (((byt t 0).toNat : Int) != 35) = true := by
             show (!(((byt t 0).toNat : Int) == 35)) = true
             rw [T1]; rfl
           have w2' : IntKind.i64.wrap ((x.length : Int) - (t.length : Int)) = (n : Int) := by rw [IntWalk.i64_in _ (by omega)]; omega
           have hlk := linesN_len (ps.take k) 0
           rw [List.length_take] at hlk
           clear HT HLO h35 hdl hne
           generalize linesN (ps.take k) 0 = M at HO HN hlk
           have own1 := HO.out
           have hsz1 := HB.out.size
           have hsz2 := HBW.out.size
           go_wp2_with (at_builtin; refine wpList_append_own _ rfl _ _ 57 rfl (w.heap.size + 1) 87 i0 (.agg #[.int .i64 0, .string ⟨#[]⟩, .int .i64 0]) 3 32 Tryz.underlying57 hi hz0 hz1 hz2 rfl (by decide) _ _ _ rfl (own1.alloc _) ⟨wr.heap.size, 0, none⟩ 1 1 [.int .i64 (n : Int), .string (S t), .int .i64 ((k : Int) + 1)] rfl rfl (cells_new5 wr _ _) (by simp [Value.oneCell']) (by unfold maxLen; omega) (by omega) (by simp; omega) ?_; intro v' w2 hown2 hgrow _)
           have HB2 := Lib.hid (below_own (below_alA HB.out (Nat.le_refl _) _) (own1.alloc _) hgrow (by omega) (by simp; omega))
           have HBW2 := Lib.hid (below_own (below_alA HBW.out (Nat.le_refl _) _) (own1.alloc _) hgrow (by omega) (by simp; omega))
           clear hgrow own1
           go_wp2_with fail
           go_roundw
           case rel => exact ⟨k + 1, by go_num, hlt, Lib.hid (by rw [HN.out, flatL_snoc, List.length_append]; exact hown2), HB2, HBW2⟩
           case measure => simp [intOf]; omega
     · obtain rfl : k = ps.length := by omega
       rw [← HLY.out] at HO
       have HLN := Lib.hid (own_LnR (lo := w.heap.size) HO.out (by omega))
       obtain ⟨p, cap, B, rfl, -⟩ := HLN.out
       go_wp2_with fail
       go_ret2
       exact ⟨_, rfl, HLN.out, HB.out⟩
end
section
open Go.RowKit Go.Sort Go.Proofs
variable {α : Type}
theorem flatMap_get (enc : α → List Value) (k : Nat) (hk : ∀ x, (enc x).length = k) : ∀ (T : List α) (j : Nat) (h : j < T.length) (i : Nat), i < k → (T.flatMap enc)[j * k + i]? = (enc T[j])[i]?
 | t :: r, 0, _, i, hi => by
   rw [List.flatMap_cons, Nat.zero_mul, Nat.zero_add, List.getElem?_append_left (by rw [hk]; omega)]; rfl
 | t :: r, j + 1, h, i, hi => by
   have := flatMap_get enc k hk r j (by simpa using h) i hi
   rw [List.flatMap_cons, List.getElem?_append_right (by rw [hk, Nat.add_mul]; omega), hk, show (j + 1) * k + i - k = j * k + i by rw [Nat.add_mul]; omega, this]; rfl
variable [Inhabited α]
theorem getI (T : List α) (j : Nat) (h : j < T.length) : T.toArray[j]! = T[j] := by
 rw [getElem!_pos T.toArray j (by simpa using h)]; simp
theorem own_holds {W : World} {base : Nat} {e : TypeId} {k g cap : Nat} (enc : α → List Value) (hk : ∀ x, (enc x).length = k) (hk0 : 0 < k) {T : List α} (h : W.ownsRow base e k (.slice (some ⟨g, 0, none⟩) T.length cap) T.length (T.flatMap enc)) : HoldsK enc k W g 0 T.toArray := by
 intro t ht
 rw [size_flatK] at ht
 have ht' : t < T.length * k := by simpa using ht
 have hj : t / k < T.length := Nat.div_lt_of_lt_mul (by rw [Nat.mul_comm]; exact ht')
 have hm : t % k < k := Nat.mod_lt _ hk0
 have e1 : t = t / k * k + t % k := by rw [Nat.mul_comm]; exact (Nat.div_add_mod t k).symm
 have hg := flatMap_get enc k hk T (t / k) hj (t % k) hm
 rw [← e1] at hg
 have hx : (T.flatMap enc)[t]? = some (enc T[t / k])[t % k]! := by
   rw [hg, getElem!_pos (enc T[t / k]) (t % k) (by rw [hk]; exact hm), List.getElem?_eq_getElem]
 have c := h.cells (g := g) rfl t _ hx
 rw [Lib.add_plain, Nat.zero_add] at c
 refine ⟨?_, ?_⟩
 · rw [Nat.zero_add, c, get_flatK enc k T.toArray t ht]
   rw [getI T (t / k) hj]; rfl
 · rcases h.2 with ⟨hv, -⟩ | ⟨g', cap', cur, hv, -, hg', -⟩
   · cases hv
   · injection hv with hv
     injection hv with hv
     injection hv with hv
     subst hv
     simp [World.frozen?, hg']
theorem sorted_world (enc : α → List Value) (k : Nat) (W0 : World) (blk m : Nat) (d d' : Array α) (os : Array Obj) (hH : HoldsK enc k W0 blk 0 d) (hblk : blk < W0.heap.size) (hs : d'.size = d.size) :
   W0.grownBy (sortWorldK enc k W0 blk 0 m d' os) (some blk) ∧ HoldsK enc k (sortWorldK enc k W0 blk 0 m d' os) blk 0 d' := by
 refine ⟨⟨rfl, rfl, rfl, ?_, fun j hj hne => ?_⟩, ?_⟩
 · show W0.heap.size ≤ ((W0.heap.modify blk _) ++ os).size
   simp
 · unfold sortWorldK
   rw [heap_grow_old _ _ (show j < (putRowK enc k (Sort.ahead W0 m) blk 0 d').heap.size by show j < (W0.heap.modify blk _).size; simpa using hj)]
   show (W0.heap.modify blk _)[j]? = _
   rw [Array.getElem?_modify, if_neg (fun e => hne (by rw [e]))]
 · exact holdsK_grow enc k _ _ _ _ _ (by show blk < (W0.heap.modify blk _).size; simpa using hblk) (holdsK_putRowK enc k _ _ _ d d' (holdsK_ahead enc k _ _ _ _ _ hH) hs)
theorem perm_whole {d d' : Array α} (h : PermIn 0 d.size d d') : d'.toList.Perm d.toList := by
 obtain ⟨h1, -, h2⟩ := h
 have e1 : d'.extract 0 d.size = d' := by rw [← h1]; simp
 have e2 : d.extract 0 d.size = d := by simp
 rwa [e1, e2] at h2
theorem sorted_pair {lt : α → α → Bool} {d' : Array α} {n : Nat} (hn : d'.size = n) (h : SortedIn lt 0 n d') : d'.toList.Pairwise fun x y => lt y x = false := by
 rw [List.pairwise_iff_getElem]
 intro i j hi hj hij
 have := h i j (Nat.zero_le _) hij (by rw [← hn]; simpa using hj)
 rw [getElem!_pos d' j (by simpa using hj), getElem!_pos d' i (by simpa using hi)] at this
 simpa using this
end
section
open Go.Sort
set_option linter.unusedSectionVars false
section
variable {α : Type} [Inhabited α]
theorem nth_mid (A C : List α) (x : α) : (A ++ x :: C).toArray[A.length]! = x := by
 rw [getElem!_pos _ _ (by simp)]; simp
theorem set_mid : ∀ (A C : List α) (x y : α), (A ++ x :: C).set A.length y = A ++ y :: C
 | [], _, _, _ => rfl
 | a :: A, C, x, y => by rw [List.cons_append, List.length_cons, List.set_cons_succ, set_mid A C x y]; rfl
theorem swp_mid (A B C : List α) (x y : α) : swp (A ++ x :: (B ++ y :: C)).toArray A.length (A.length + 1 + B.length) = (A ++ y :: (B ++ x :: C)).toArray := by
 have h1 : (A ++ x :: (B ++ y :: C)).toArray[A.length + 1 + B.length]! = y := by
   have := nth_mid (A ++ x :: B) C y
   rw [List.length_append, List.length_cons] at this
   rw [show A.length + 1 + B.length = A.length + (B.length + 1) by omega]
   rw [← this]
   simp
 unfold swp
 have h2 : (A ++ x :: (B ++ y :: C)).toArray.setIfInBounds A.length y = (A ++ y :: (B ++ y :: C)).toArray := by
   rw [List.setIfInBounds_toArray]
   exact congrArg List.toArray (set_mid _ _ _ _)
 rw [h1, nth_mid, h2, List.setIfInBounds_toArray]
 congr 1
 have := set_mid (A ++ y :: B) C y x
 rw [List.length_append, List.length_cons] at this
 rw [show A.length + 1 + B.length = A.length + (B.length + 1) by omega]
 have e : A ++ y :: (B ++ y :: C) = (A ++ y :: B) ++ y :: C := by simp
 rw [e, this]; simp
def exR (P X M Y Q : List α) (i : Nat) : List α := P ++ (Y.take i ++ X.drop i) ++ M ++ (X.take i ++ Y.drop i) ++ Q
theorem exR_zero (P X M Y Q : List α) : exR P X M Y Q 0 = P ++ X ++ M ++ Y ++ Q := by simp [exR]
theorem exR_end (P X M Y Q : List α) (h : X.length = Y.length) : exR P X M Y Q X.length = P ++ Y ++ M ++ X ++ Q := by
 unfold exR
 rw [List.take_of_length_le (by omega), List.drop_length, List.take_length, List.drop_of_length_le (by omega), List.append_nil, List.append_nil]
theorem exR_len (P X M Y Q : List α) (i : Nat) (h : X.length = Y.length) : (exR P X M Y Q i).length = P.length + X.length + M.length + Y.length + Q.length := by
 simp [exR]; omega
theorem exR_step (P X M Y Q : List α) (i : Nat) (h : X.length = Y.length) (hi : i < X.length) :
   swp (exR P X M Y Q i).toArray (P.length + i) (P.length + X.length + M.length + i) = (exR P X M Y Q (i + 1)).toArray := by
 have hi2 : i < Y.length := by omega
 have e1 : exR P X M Y Q i = (P ++ Y.take i) ++ X[i] :: ((X.drop (i + 1) ++ M ++ X.take i) ++ Y[i] :: (Y.drop (i + 1) ++ Q)) := by
   unfold exR
   rw [List.drop_eq_getElem_cons hi, List.drop_eq_getElem_cons hi2]
   simp only [List.append_assoc, List.cons_append, List.nil_append]
 have e2 : exR P X M Y Q (i + 1) = (P ++ Y.take i) ++ Y[i] :: ((X.drop (i + 1) ++ M ++ X.take i) ++ X[i] :: (Y.drop (i + 1) ++ Q)) := by
   unfold exR
   rw [List.take_add_one, List.take_add_one, List.getElem?_eq_getElem hi, List.getElem?_eq_getElem hi2]
   simp only [List.append_assoc, List.cons_append, List.nil_append, Option.toList_some]
 have h1 : P.length + i = (P ++ Y.take i).length := by simp; omega
 have h2 : P.length + X.length + M.length + i = (P ++ Y.take i).length + 1 + (X.drop (i + 1) ++ M ++ X.take i).length := by simp; omega
 rw [e1, e2, h1, h2, swp_mid]
def srtL (lt : α → α → Bool) (l : List α) : Prop := l.Pairwise fun x y => lt y x = false
variable {lt : α → α → Bool}
theorem lt_asymm (hO : SWO lt) {x y : α} (h : lt x y = true) : lt y x = false := by
 rcases Bool.eq_false_or_eq_true (lt y x) with e | e
 · have := hO.trans x y x h e
   rw [hO.irrefl] at this; cases this
 · exact e
def lowP (lt : α → α → Bool) (a b : List α) : Prop := ∀ x ∈ a, ∀ y ∈ b, lt y x = false
theorem low_ends (hO : SWO lt) {a b : List α} (ha : srtL lt a) (hb : srtL lt b) (h : ∀ z w, a.getLast? = some z → b.head? = some w → lt w z = false) : lowP lt a b := by
 intro x hx y hy
 rcases List.eq_nil_or_concat a with rfl | ⟨a', z, rfl⟩
 · cases hx
 cases b with
 | nil => cases hy
 | cons w b' =>
   have hwz : lt w z = false := h z w (by simp) rfl
   have hzx : lt z x = false := by
     rcases List.mem_append.1 (by simpa using hx : x ∈ a' ++ [z]) with h1 | h1
     · have ha' : srtL lt (a' ++ [z]) := by simpa using ha
       exact (List.pairwise_append.1 ha').2.2 x h1 z (List.mem_cons_self ..)
     · rw [List.mem_singleton.1 h1]; exact hO.irrefl z
   have hyw : lt y w = false := by
     rcases List.mem_cons.1 hy with rfl | h1
     · exact hO.irrefl _
     · exact (List.pairwise_cons.1 hb).1 y h1
   exact hO.ntrans y z x (hO.ntrans y w z hyw hwz) hzx
theorem low_perm {a b a' b' : List α} (h : lowP lt a b) (ha : a'.Perm a) (hb : b'.Perm b) : lowP lt a' b' := fun x hx y hy => h x (ha.mem_iff.1 hx) y (hb.mem_iff.1 hy)
theorem low_app {a1 a2 b1 b2 : List α} (h1 : lowP lt a1 b1) (h2 : lowP lt a1 b2) (h3 : lowP lt a2 b1) (h4 : lowP lt a2 b2) : lowP lt (a1 ++ a2) (b1 ++ b2) := by
 intro x hx y hy
 rcases List.mem_append.1 hx with hx | hx <;> rcases List.mem_append.1 hy with hy | hy
 · exact h1 x hx y hy
 · exact h2 x hx y hy
 · exact h3 x hx y hy
 · exact h4 x hx y hy
theorem perm_four (X1 X2 Y1 Y2 : List α) : ((X1 ++ Y1) ++ (X2 ++ Y2)).Perm ((X1 ++ X2) ++ (Y1 ++ Y2)) := by
 have : (Y1 ++ X2).Perm (X2 ++ Y1) := List.perm_append_comm
 have h := (this.append_right Y2).append_left X1
 simpa using h
theorem merge_join (hO : SWO lt) {X1 X2 Y1 Y2 Z1 Z2 : List α} (hX : srtL lt (X1 ++ X2)) (hY : srtL lt (Y1 ++ Y2)) (h1 : ∀ z w, X1.getLast? = some z → Y2.head? = some w → lt w z = false)
   (h2 : ∀ z w, Y1.getLast? = some z → X2.head? = some w → lt w z = false) (p1 : Z1.Perm (X1 ++ Y1)) (s1 : srtL lt Z1) (p2 : Z2.Perm (X2 ++ Y2)) (s2 : srtL lt Z2) :
   (Z1 ++ Z2).Perm ((X1 ++ X2) ++ (Y1 ++ Y2)) ∧ srtL lt (Z1 ++ Z2) := by
 obtain ⟨x1, x2, x3⟩ := List.pairwise_append.1 hX
 obtain ⟨y1, y2, y3⟩ := List.pairwise_append.1 hY
 refine ⟨(p1.append p2).trans (perm_four X1 X2 Y1 Y2), List.pairwise_append.2 ⟨s1, s2, ?_⟩⟩
 exact low_perm (low_app x3 (low_ends hO x1 y2 h1) (low_ends hO y1 x2 h2) y3) p1 p2
theorem srt_one (x : α) : srtL lt [x] := List.pairwise_singleton _ _
theorem srt_app {a b : List α} (ha : srtL lt a) (hb : srtL lt b) (h : lowP lt a b) : srtL lt (a ++ b) := List.pairwise_append.2 ⟨ha, hb, h⟩
theorem ins_left (hO : SWO lt) {x : α} {A B : List α} (hs : srtL lt (A ++ B)) (h1 : ∀ z, A.getLast? = some z → lt x z = false) (h2 : ∀ w, B.head? = some w → lt w x = false) :
   (A ++ x :: B).Perm ([x] ++ (A ++ B)) ∧ srtL lt (A ++ x :: B) := by
 obtain ⟨a1, b1, -⟩ := List.pairwise_append.1 hs
 have hz : srtL lt ([x] ++ B) := srt_app (srt_one x) b1 (low_ends hO (srt_one x) b1 fun z w hz hw => by simp at hz; rw [← hz]; exact h2 w hw)
 have := merge_join hO (X1 := []) (X2 := [x]) (Y1 := A) (Y2 := B) (Z1 := A) (Z2 := x :: B) (srt_one x) hs (fun z w hz => by simp at hz) (fun z w hz hw => by simp at hw; rw [← hw]; exact h1 z hz) (List.Perm.refl _) a1 (List.Perm.refl _) hz
 exact this
theorem ins_right (hO : SWO lt) {y : α} {A B : List α} (hs : srtL lt (A ++ B)) (h1 : ∀ z, A.getLast? = some z → lt y z = false) (h2 : ∀ w, B.head? = some w → lt w y = false) :
   (A ++ y :: B).Perm ((A ++ B) ++ [y]) ∧ srtL lt (A ++ y :: B) := by
 obtain ⟨a1, b1, -⟩ := List.pairwise_append.1 hs
 have hz : srtL lt (A ++ [y]) := srt_app a1 (srt_one y) (low_ends hO a1 (srt_one y) fun z w hz hw => by simp at hw; rw [← hw]; exact h1 z hz)
 have := merge_join hO (X1 := A) (X2 := B) (Y1 := [y]) (Y2 := []) (Z1 := A ++ [y]) (Z2 := B) hs (by simpa using srt_one y) (fun z w _ hw => by simp at hw) (fun z w hz hw => by simp at hz; rw [← hz]; exact h2 w hw) (List.Perm.refl _) hz (by simp) b1
 simpa using this
theorem nth_right (A B : List α) {t : Nat} (h1 : A.length ≤ t) (h2 : t < A.length + B.length) : (A ++ B).toArray[t]! = B[t - A.length] := by
 rw [getElem!_pos _ _ (by simp; omega)]
 simp [List.getElem_append_right h1]
theorem nth_left (A B : List α) {t : Nat} (h1 : t < A.length) : (A ++ B).toArray[t]! = A[t] := by
 rw [getElem!_pos _ _ (by simp; omega)]
 simp [List.getElem_append_left h1]
theorem nth_in (P X Q : List α) {t : Nat} (h1 : P.length ≤ t) (h2 : t < P.length + X.length) : (P ++ X ++ Q).toArray[t]! = X[t - P.length] := by
 rw [nth_left (P ++ X) Q (by simp; omega), List.getElem_append_right h1]
theorem last_take {l : List α} {i : Nat} (h : i < l.length) : (l.take (i + 1)).getLast? = some l[i] := by
 rw [List.getLast?_eq_getElem?, List.length_take, Nat.min_eq_left (by omega), Nat.add_sub_cancel, List.getElem?_take, if_pos (by omega), List.getElem?_eq_getElem]
theorem last_of {l : List α} {i : Nat} {z : α} (hi : i ≤ l.length) (h : (l.take i).getLast? = some z) : ∃ (h : i - 1 < l.length), 0 < i ∧ z = l[i - 1] := by
 cases i with
 | zero => simp at h
 | succ i => rw [last_take (by omega)] at h; exact ⟨by omega, by omega, by simpa using h.symm⟩
theorem head_of {l : List α} {i : Nat} {z : α} (h : (l.drop i).head? = some z) : ∃ (h : i < l.length), z = l[i] := by
 rw [List.head?_drop] at h
 obtain ⟨h1, h2⟩ := List.getElem?_eq_some_iff.1 h
 exact ⟨h1, h2.symm⟩
structure SymC (a m b mid s0 r0 : Nat) : Prop where
 am : a < m
 mb : m < b
 emid : mid = (a + b) / 2
 cut : (mid < m ∧ s0 = mid + m - b ∧ r0 = mid) ∨ (m ≤ mid ∧ s0 = a ∧ r0 = m)
theorem SymC.le {a m b mid s0 r0 s : Nat} (h : SymC a m b mid s0 r0) (h1 : s0 ≤ s) (h2 : s ≤ r0) : a ≤ s ∧ s ≤ m ∧ s ≤ mid ∧ m ≤ mid + m - s ∧ mid + m - s ≤ b ∧ a < mid ∧ mid < b := by
 obtain ⟨am, mb, e, hc⟩ := h
 have hm : a < mid ∧ mid < b := by omega
 rcases hc with ⟨h3, rfl, rfl⟩ | ⟨h3, rfl, rfl⟩ <;> omega
theorem sym_low (hO : SWO lt) {P X Y Q : List α} {a m b mid s0 r0 s : Nat} (h : SymC a m b mid s0 r0) (ha : a = P.length) (hm : m = a + X.length) (hb : b = m + Y.length) (h1 : s0 ≤ s) (h2 : s ≤ r0)
   (F1 : s = s0 ∨ lt (P ++ X ++ Y ++ Q).toArray[mid + m - s]! (P ++ X ++ Y ++ Q).toArray[s - 1]! = false) (F2 : s = r0 ∨ lt (P ++ X ++ Y ++ Q).toArray[mid + m - 1 - s]! (P ++ X ++ Y ++ Q).toArray[s]! = true) :
   (∀ z w, (X.take (s - a)).getLast? = some z → (Y.drop (mid + m - s - m)).head? = some w → lt w z = false) ∧
   (∀ z w, (Y.take (mid + m - s - m)).getLast? = some z → (X.drop (s - a)).head? = some w → lt w z = false) := by
 obtain ⟨l1, l2, l3, l4, l5, l6, l7⟩ := h.le h1 h2
 have hc := h.cut
 have hx : ∀ t, a ≤ t → t < m → ∀ (hh : t - a < X.length), (P ++ X ++ Y ++ Q).toArray[t]! = X[t - a] := by
   intro t t1 t2 hh
   have := nth_in P X (Y ++ Q) (t := t) (by omega) (by omega)
   rw [← List.append_assoc] at this
   rw [this]; congr 1; omega
 have hy : ∀ t, m ≤ t → t < b → ∀ (hh : t - m < Y.length), (P ++ X ++ Y ++ Q).toArray[t]! = Y[t - m] := by
   intro t t1 t2 hh
   have := nth_in (P ++ X) Y Q (t := t) (by simp; omega) (by simp; omega)
   rw [this]; congr 1; simp; omega
 constructor
 · intro z w hz hw
   obtain ⟨g1, g2, rfl⟩ := last_of (by omega) hz
   obtain ⟨g3, rfl⟩ := head_of hw
   rcases F1 with e | e
   · exfalso
     rcases hc with ⟨h3, rfl, rfl⟩ | ⟨h3, rfl, rfl⟩ <;> omega
   · rw [hy (mid + m - s) (by omega) (by omega) g3, hx (s - 1) (by omega) (by omega) (by omega)] at e
     rw [← e]; congr 2; omega
 · intro z w hz hw
   obtain ⟨g1, g2, rfl⟩ := last_of (by omega) hz
   obtain ⟨g3, rfl⟩ := head_of hw
   rcases F2 with e | e
   · exfalso
     rcases hc with ⟨h3, rfl, rfl⟩ | ⟨h3, rfl, rfl⟩ <;> omega
   · rw [hy (mid + m - 1 - s) (by omega) (by omega) (by omega), hx s (by omega) (by omega) g3] at e
     have := lt_asymm hO e
     rw [← this]; congr 2; omega
end
end
section
open Go.Shelf Go.RowKit Go.Lib Go.Sort
structure MsP (P : Program) (k : Nat) : Prop where
 mixed : P.follows .mixedOrders = true
 fSwap : P.funcs[185]? = some Tryz.f185
 fRot : P.funcs[170]? = some Tryz.f170
 fSym : P.funcs[154]? = some Tryz.f154
 fStb : P.funcs[130]? = some Tryz.f130
 t3 : P.underlying 3 = some (.int .i64)
 a3 : ∀ w, Sem.run P (isAgg 3) w = .ok false w
 z3 : ∀ w, Sem.run P (Go.sizeOf 3) w = .ok 1 w
 v3 : ∀ w, Sem.run P (zeroValue 3) w = .ok (.int .i64 0) w
 t4 : P.underlying 4 = some .bool
 a4 : ∀ w, Sem.run P (isAgg 4) w = .ok false w
 z4 : ∀ w, Sem.run P (Go.sizeOf 4) w = .ok 1 w
 v4 : ∀ w, Sem.run P (zeroValue 4) w = .ok (.bool false) w
 t23 : P.underlying 23 = some (.slice 43)
 a23 : ∀ w, Sem.run P (isAgg 23) w = .ok false w
 z23 : ∀ w, Sem.run P (Go.sizeOf 23) w = .ok 1 w
 v23 : ∀ w, Sem.run P (zeroValue 23) w = .ok (.slice none 0 0) w
 a43 : ∀ w, Sem.run P (isAgg 43) w = .ok true w
 z43 : ∀ w, Sem.run P (Go.sizeOf 43) w = .ok k w
 t134 : P.underlying 134 = some (.func #[43, 43] #[3] false)
 a134 : ∀ w, Sem.run P (isAgg 134) w = .ok false w
 z134 : ∀ w, Sem.run P (Go.sizeOf 134) w = .ok 1 w
 v134 : ∀ w, Sem.run P (zeroValue 134) w = .ok .nilFunc w
 t100 : P.underlying 100 = some (.int .u64)
 a100 : ∀ w, Sem.run P (isAgg 100) w = .ok false w
 z100 : ∀ w, Sem.run P (Go.sizeOf 100) w = .ok 1 w
variable {P : Program} {k : Nat} {α : Type} [Inhabited α]
set_option maxHeartbeats 4000000 in
set_option maxRecDepth 1000000 in
theorem swapR_any (H : MsP P k) (enc : α → List Value) (fv : Value) (blk off cap N : Nat) (d0 : Array α) (A X M Y Q : List α) (w0 w : World) (R : RowK enc k w0 blk off d0) (hs : d0.size = N) (hl : A.length + X.length + M.length + Y.length + Q.length = N) (hxy : X.length = Y.length)
   (S : SWK enc k w0 blk off (A ++ X ++ M ++ Y ++ Q).toArray w) (a b n : Nat) (ha : a = A.length) (hb : b = A.length + X.length + M.length) (hn : n = X.length) (hsz : N < 4611686018427387904) :
   Calls P 185 #[.slice (some ⟨blk, off, none⟩) N cap, .int .i64 a, .int .i64 b, .int .i64 n, fv] w fun e w' => e = .returned (.tuple #[]) ∧ SWK enc k w0 blk off (A ++ Y ++ M ++ X ++ Q).toArray w' := by
 have mixed := H.mixed; have t3 := H.t3; have a3 := H.a3; have z3 := H.z3; have v3 := H.v3; have t4 := H.t4; have a4 := H.a4; have z4 := H.z4; have v4 := H.v4; have t23 := H.t23; have a23 := H.a23; have z23 := H.z23; have v23 := H.v23; have t134 := H.t134; have a134 := H.a134; have z134 := H.z134; have v134 := H.v134; have aE := H.a43; have zE := H.z43
 have FG := H.fSwap
 have S0 : Aside (SWK enc k w0 blk off (exR A X M Y Q 0).toArray w) := by rw [exR_zero]; exact S
 clear S
 go_enter FG, Tryz.ntmps185
 go_wp2
 go_loopg [10] n (fun kx s10 wr => ∃ i : Nat, s10 = .int .i64 i ∧ i ≤ n ∧ n - i ≤ kx ∧ Aside (SWK enc k w0 blk off (exR A X M Y Q i).toArray wr))
 case atStart => exact ⟨0, rfl, Nat.zero_le _, Nat.le_refl _, S0⟩
 case round =>
   clear S0
   obtain ⟨i, rfl, hin, hkx, S1⟩ := hrel
   by_cases hlt : i < n
   · have hltz : (i : Int) < (n : Int) := by omega
     have hdl : (exR A X M Y Q i).toArray.size = N := by rw [List.size_toArray, exR_len _ _ _ _ _ _ hxy]; exact hl
     have HST := Lib.hid (exR_step A X M Y Q i hxy (by omega))
     rw [← hb, ← ha] at HST
     have hai : a + i < N := by omega
     have hbi : b + i < N := by omega
     generalize (exR A X M Y Q i).toArray = dk at S1 hdl HST
     clear hl hxy ha hb hn
     have ea1 : ((a : Int) + (i : Int)).toNat = a + i := by omega
     have pa1 : (0 : Int) ≤ (a : Int) + (i : Int) := by omega
     have ba1 : (a : Int) + (i : Int) < (N : Int) := by omega
     have ra1 : IntKind.i64.wrap ((a : Int) + (i : Int)) = (a : Int) + (i : Int) := by rw [IntKind.wrap_i64]; omega
     have ec1 : ((b : Int) + (i : Int)).toNat = b + i := by omega
     have pc1 : (0 : Int) ≤ (b : Int) + (i : Int) := by omega
     have bc1 : (b : Int) + (i : Int) < (N : Int) := by omega
     have rc1 : IntKind.i64.wrap ((b : Int) + (i : Int)) = (b : Int) + (i : Int) := by rw [IntKind.wrap_i64]; omega
     have S2 : Aside (SWK enc k w0 blk off (swp dk (a + i) (b + i)) ((wr.drew.setCells blk (off + (a + i) * k) (enc dk[b + i]!)).setCells blk (off + (b + i) * k) (enc dk[a + i]!))) := S1.out.swapped R (a + i) (b + i) (by omega) (by omega)
     have l1 := S1.out.ld1 R (by omega) P (a + i) (by omega)
     have l2 := S1.out.ld1 R (by omega) P (b + i) (by omega)
     have s1 := S1.out.st1 R (by omega) P (a + i) (by omega) dk[b + i]!
     have s2 := S1.out.st2 R (by omega) P (a + i) (b + i) (by omega) (by omega) dk[b + i]! dk[a + i]!
     have n1 : (enc dk[a + i]!).length = k := R.hk _
     have n2 : (enc dk[b + i]!).length = k := R.hk _
     rw [HST.out] at S2
     generalize enc dk[a + i]! = cI at S2 l1 s2 n1
     generalize enc dk[b + i]! = cJ at S2 l2 s1 s2 n2
     clear S1 HST
     go_wp2_with fail
     go_big_region_o
     clear l1 l2 s1 s2
     generalize (wr.drew.setCells blk (off + (a + i) * k) cJ).setCells blk (off + (b + i) * k) cI = w2 at S2 ⊢
     go_wp2
     go_roundg (n - (i + 1))
     case measure => omega
     case rel => exact ⟨i + 1, by go_num, hlt, Nat.le_refl _, S2⟩
   · obtain rfl : i = n := by omega
     have hltz : ¬ (i : Int) < (i : Int) := by omega
     go_wp2
     go_end0
     refine ⟨rfl, ?_⟩
     have := S1.out
     rw [hn, exR_end _ _ _ _ _ hxy] at this
     simpa only [List.append_assoc] using this
end
section
open Go.Shelf Go.RowKit Go.Lib Go.Sort
variable {P : Program} {k : Nat} {α : Type} [Inhabited α]
def RotS (m : Nat) (E : List α) (i j : Nat) (L : List α) : Prop :=
 ∃ A X Y Q : List α, L = A ++ X ++ Y ++ Q ∧ E = A ++ Y ++ X ++ Q ∧ X.length = i ∧ Y.length = j ∧ A.length + i = m ∧ 0 < i ∧ 0 < j
set_option linter.unusedSectionVars false
theorem rng_cut {L : List α} {n : Nat} (h : n ≤ L.length) : ∃ L1 L2, L = L1 ++ L2 ∧ L1.length = n ∧ L2.length = L.length - n :=
 ⟨L.take n, L.drop n, (List.take_append_drop n L).symm, by rw [List.length_take]; omega, by rw [List.length_drop]⟩
set_option maxHeartbeats 4000000 in
set_option maxRecDepth 1000000 in
theorem rot_any (H : MsP P k) (enc : α → List Value) (fv : Value) (blk off cap N : Nat) (d0 : Array α) (A X Y Q : List α) (w0 w : World) (R : RowK enc k w0 blk off d0) (hs : d0.size = N) (hl : A.length + X.length + Y.length + Q.length = N) (hX : 0 < X.length) (hY : 0 < Y.length)
   (S : SWK enc k w0 blk off (A ++ X ++ Y ++ Q).toArray w) (a m b : Nat) (ha : a = A.length) (hm : m = A.length + X.length) (hb : b = A.length + X.length + Y.length) (hsz : N < 4611686018427387904) :
   Calls P 170 #[.slice (some ⟨blk, off, none⟩) N cap, .int .i64 a, .int .i64 m, .int .i64 b, fv] w fun e w' => e = .returned (.tuple #[]) ∧ SWK enc k w0 blk off (A ++ Y ++ X ++ Q).toArray w' := by
 have mixed := H.mixed; have t3 := H.t3; have a3 := H.a3; have z3 := H.z3; have v3 := H.v3; have t4 := H.t4; have a4 := H.a4; have z4 := H.z4; have v4 := H.v4; have t23 := H.t23; have a23 := H.a23; have z23 := H.z23; have v23 := H.v23; have t134 := H.t134; have a134 := H.a134; have z134 := H.z134; have v134 := H.v134
 have FG := H.fRot
 have eSwap : ∀ args w, (callFunc 185 args).run P w = .ok (.enter 185 args) w := enters_of H.fSwap (by kernel_rfl) rfl
 have HS : Hid (∀ (A X M Y Q : List α) (w : World) (a b n : Nat), A.length + X.length + M.length + Y.length + Q.length = N → X.length = Y.length → SWK enc k w0 blk off (A ++ X ++ M ++ Y ++ Q).toArray w → a = A.length → b = A.length + X.length + M.length → n = X.length →
     Calls P 185 #[.slice (some ⟨blk, off, none⟩) N cap, .int .i64 a, .int .i64 b, .int .i64 n, fv] w fun e w' => e = .returned (.tuple #[]) ∧ SWK enc k w0 blk off (A ++ Y ++ M ++ X ++ Q).toArray w') :=
   Lib.hid fun A X M Y Q w a b n h1 h2 h3 h4 h5 h6 => swapR_any H enc fv blk off cap N d0 A X M Y Q w0 w R hs h1 h2 h3 a b n h4 h5 h6 hsz
 obtain ⟨E, hE⟩ : ∃ E, E = A ++ Y ++ X ++ Q := ⟨_, rfl⟩
 obtain ⟨L, hL⟩ : ∃ L, L = A ++ X ++ Y ++ Q := ⟨_, rfl⟩
 have HN : L.length = N := by rw [hL]; simp; omega
 have h0 : RotS m E X.length Y.length L := ⟨A, X, Y, Q, hL, hE, rfl, rfl, by omega, hX, hY⟩
 rw [← hL] at S
 rw [← hE]
 have hi : X.length = m - a := by omega
 have hj : Y.length = b - m := by omega
 rw [hi, hj] at h0
 have hbN : b ≤ N := by omega
 have hma : a < m := by omega
 have hmb : m < b := by omega
 have S0 : Aside (SWK enc k w0 blk off L.toArray w) := S
 have H0 := Lib.hid h0
 clear S h0 hE hL hl hX hY ha hm hb hi hj hs R H A X Y Q
 go_enter FG, Tryz.ntmps170
 go_wp2
 go_loopg [10, 11] (b - a) (fun kx s10 s11 wr => ∃ (i j : Nat) (L : List α), s10 = .int .i64 i ∧ s11 = .int .i64 j ∧ i + j ≤ kx ∧ i ≤ m ∧ m + j ≤ N ∧ 0 < i ∧ 0 < j ∧ L.length = N ∧ Hid (RotS m E i j L) ∧ Aside (SWK enc k w0 blk off L.toArray wr))
 case atStart => exact ⟨m - a, b - m, L, by go_num, by go_num, by omega, by omega, by omega, by omega, by omega, HN, H0, S0⟩
 case round =>
   clear S0 H0 HN L
   obtain ⟨i, j, L, rfl, rfl, hkx, him, hmj, hi0, hj0, HN, H1, S1⟩ := hrel
   by_cases hne : i = j
   · subst hne
     have hzz : ((i : Int) != (i : Int)) = false := by simp
     obtain ⟨A, X, Y, Q, rfl, hE, hx, hy, ha, -, -⟩ := H1.out
     have HC := Lib.hid (HS.out A X [] Y Q wr (m - i) m i (by simp at HN; simp; omega) (by omega) (by simpa using S1.out) (by omega) (by simp; omega) (by omega))
     have hE2 := Lib.hid hE
     clear H1 S1 HS hE
     have e1 : IntKind.i64.wrap ((m : Int) - (i : Int)) = ((m - i : Nat) : Int) := by rw [IntKind.wrap_i64]; omega
     go_wp2_with (go_at_fn 185; refine HC.out.mono ?_; rintro e w1 ⟨rfl, hS⟩)
     go_end0
     refine ⟨rfl, ?_⟩
     rw [hE2.out]
     simpa using hS
   · rcases Nat.lt_or_ge j i with hlt | hge
     · have hzz : ((i : Int) != (j : Int)) = true := by simp; omega
       have hgt : (j : Int) < (i : Int) := by omega
       obtain ⟨A, X, Y, Q, rfl, hE, hx, hy, ha, -, -⟩ := H1.out
       obtain ⟨X1, X2, rfl, hx1, hx2⟩ := rng_cut (L := X) (n := j) (by omega)
       have HC := Lib.hid (HS.out A X1 X2 Y Q wr (m - i) m j (by simp at HN hx; omega) (by omega) (by simpa using S1.out) (by omega) (by simp at hx; omega) (by omega))
       have HR := Lib.hid (show RotS m E (i - j) j (A ++ Y ++ X2 ++ X1 ++ Q) from ⟨A ++ Y, X2, X1, Q, rfl, by rw [hE]; simp, by simp at hx; omega, hx1, by simp; omega, by omega, hj0⟩)
       have HN2 : (A ++ Y ++ X2 ++ X1 ++ Q).length = N := by rw [← HN]; simp; omega
       clear H1 S1 hE HN
       generalize A ++ Y ++ X2 ++ X1 ++ Q = L2 at HC HR HN2
       clear hx hx1 hx2 hy ha
       have e1 : IntKind.i64.wrap ((m : Int) - (i : Int)) = ((m - i : Nat) : Int) := by rw [IntKind.wrap_i64]; omega
       go_wp2_with (go_at_fn 185; refine HC.out.mono ?_; rintro e w1 ⟨rfl, hS⟩; have HSS : Aside (SWK enc k w0 blk off L2.toArray w1) := hS; clear hS)
       go_roundg (i - j + j)
       case measure => omega
       case rel => exact ⟨i - j, j, L2, by go_num, rfl, Nat.le_refl _, by omega, hmj, by omega, hj0, HN2, HR, HSS⟩
     · have hzz : ((i : Int) != (j : Int)) = true := by simp; omega
       have hgt : ¬ (j : Int) < (i : Int) := by omega
       obtain ⟨A, X, Y, Q, rfl, hE, hx, hy, ha, -, -⟩ := H1.out
       obtain ⟨Y1, Y2, rfl, hy1, hy2⟩ := rng_cut (L := Y) (n := j - i) (by omega)
       have HC := Lib.hid (HS.out A X Y1 Y2 Q wr (m - i) (m + j - i) i (by simp at HN hy; omega) (by simp at hy; omega) (by simpa using S1.out) (by omega) (by simp at hy; omega) (by omega))
       have HR := Lib.hid (show RotS m E i (j - i) (A ++ Y2 ++ Y1 ++ X ++ Q) from ⟨A, Y2, Y1, X ++ Q, by simp, by rw [hE]; simp, by simp at hy; omega, hy1, by omega, hi0, by omega⟩)
       have HN2 : (A ++ Y2 ++ Y1 ++ X ++ Q).length = N := by rw [← HN]; simp; omega
       clear H1 S1 hE HN
       generalize A ++ Y2 ++ Y1 ++ X ++ Q = L2 at HC HR HN2
       clear hx hy1 hy2 hy ha
       have e1 : IntKind.i64.wrap ((m : Int) - (i : Int)) = ((m - i : Nat) : Int) := by rw [IntKind.wrap_i64]; omega
       have e2 : IntKind.i64.wrap ((m : Int) + (j : Int) - (i : Int)) = ((m + j - i : Nat) : Int) := by rw [IntKind.wrap_i64]; omega
       go_wp2_with (go_at_fn 185; refine HC.out.mono ?_; rintro e w1 ⟨rfl, hS⟩; have HSS : Aside (SWK enc k w0 blk off L2.toArray w1) := hS; clear hS)
       go_roundg (i + (j - i))
       case measure => omega
       case rel => exact ⟨i, j - i, L2, rfl, by go_num, Nat.le_refl _, him, by omega, hi0, by omega, HN2, HR, HSS⟩
end
end Go.Proofs.YtdalfkklkeblaaaGreatDoor
