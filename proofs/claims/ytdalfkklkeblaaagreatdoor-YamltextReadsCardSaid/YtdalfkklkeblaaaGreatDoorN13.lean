import Derived.Laws.AppendOwn
import Derived.Maps.AppendAt
import Derived.WalkSpells
import Derived.Test.YtdalfkklkeblaaaGreatDoorN07
import Derived.Test.YtdalfkklkeblaaaGreatDoorN10
import Derived.Test.YtdalfkklkeblaaaGreatDoorN12
import Derived.Test.YtdalfkklkeblaaaGreatDoorN08
import Derived.Test.YtdalfkklkeblaaaGreatDoorN01
import Derived.Deep.DeepCutAuto
import Derived.Deep.CutBlock
import Derived.Deep.RegionWith
import Derived.BigQuiet
import Derived.Test.YtdalfkklkeblaaaGreatDoorN02
import Derived.Deep.RegionHeld3
import Derived.RangeFuncNested
import Derived.RangeFuncBound
import Derived.RangeFuncCalls
import Derived.RangeFuncLeaves
import Derived.RangeFuncBox
import Derived.Shelf.Abstract
import Derived.Shelf.RegionOpen
import Derived.OwnWalkIn
import Derived.TacticsInMore
import Derived.LoopNIn
import Derived.LoopIn
import Derived.Stop.RegionWithIn
import Derived.Sort.CutIn
namespace Go.Proofs.YtdalfkklkeblaaaGreatDoor
set_option linter.unusedSimpArgs false
set_option linter.unusedVariables false
section
open Go.RowKit
theorem infoDat : (Tryz.prog.info? 25).map (fun i => (i.zero, i.size, i.bytes)) = some (some (.agg #[.int .i64 0, .int .i64 0, .string ⟨#[]⟩, .slice none 0 0, .slice none 0 0]), 5, 80) := by kernel_rfl
set_option maxHeartbeats 1000000 in
theorem cloneDat_any (p : Option Addr) (n c : Nat) (news : List Value) (w : World) (hl : news.length = n * 5) (hn : n ≤ 10000000) (hp : ∀ a, p = some a → ∀ j u, news[j]? = some u → w.cell? (a.add j) = some u) (h0 : p = none → n = 0) (h1 : ∀ u ∈ news, u.oneCell' = true) :
   Calls Tryz.prog 104 #[.slice p n c] w fun e w' => ∃ v', e = .returned v' ∧ w'.ownsRow w.heap.size 25 5 v' n news ∧ Below w.heap.size w w' := by
 obtain ⟨i0, hi, hz0, hz1, hz2⟩ := info_parts infoDat
 have q22 := fun (w : World) (a : Option Addr) (n c n' c' : Nat) => Lib.run_eql_slice_nil (P := Tryz.prog) w _ _ a n c n' c' Tryz.underlying22
 cases p with
 | none =>
   obtain rfl := h0 rfl
   obtain rfl : news = [] := List.length_eq_zero_iff.1 (by omega)
   clear hp h0 h1 hl
   go_enter Tryz.func104, Tryz.ntmps104
   go_wp2_with fail
   go_ret
   exact ⟨_, rfl, World.ownsRow_nil _ _ _ _, Below.refl _ _⟩
 | some a =>
   have HA := Lib.hid (hp a rfl)
   have H1 := Lib.hid h1
   have HL := Lib.hid hl
   clear hp h0 h1 hl
   go_enter Tryz.func104, Tryz.ntmps104
   go_wp2_with (at_builtin; refine wpList_append_own _ rfl _ _ 22 rfl w.heap.size 25 i0 (.agg #[.int .i64 0, .int .i64 0, .string ⟨#[]⟩, .slice none 0 0, .slice none 0 0]) 5 80 Tryz.underlying22 hi hz0 hz1 hz2 rfl (by decide) (.slice (some ⟨w.heap.size, 0, none⟩) 0 0) 0 [] rfl (World.ownsRow_made w #[] 0 (Nat.le_refl _) (Nat.zero_le _) (by simp)) a n c news rfl HL.out (fun j u hj => by obtain ⟨b, o, s⟩ := a; exact Lib.cell?_alloc_some _ (HA.out j u hj)) H1.out (by unfold maxLen; omega) (by omega) (by simp) ?_; intro v' w1 hown hgrow _)
   have HO := Lib.hid hown
   have HG := Lib.hid hgrow
   clear hown hgrow
   go_wp2_with fail
   go_ret
   refine ⟨v', rfl, by simpa using HO.out, ?_⟩
   refine ((Below.refl _ w).alloc (Nat.le_refl _) _).grown HG.out (by simp) ?_
   intro k hk
   simp [Value.ownBlock] at hk
   omega
end
section
open Go.RowKit
theorem cells_new5 (w : World) (vs : List Value) (t : TypeId) : ∀ j u, vs[j]? = some u → (w.alloc (.cells vs.toArray t)).cell? ((⟨w.heap.size, 0, none⟩ : Addr).add j) = some u := by
 intro j u h
 rw [Addr.add_lit, Nat.zero_add, (Blk.new w vs.toArray t).cell j]
 simpa using h
theorem cells_new_at {W : World} {arr : Array Value} {vs : List Value} {t : TypeId} {N : Nat} (hN : W.heap.size = N) (ha : arr.toList = vs) : ∀ j u, vs[j]? = some u → (W.alloc (.cells arr t)).cell? ((⟨N, 0, none⟩ : Addr).add j) = some u := by
 subst hN; subst ha
 exact cells_new5 W arr.toList t
theorem own_form5 {W : World} {base : Nat} {e : TypeId} {size : Nat} {v : Value} {n : Nat} {xs : List Value} (h : W.ownsRow base e size v n xs) : ∃ p cap, v = .slice p n cap := by
 rcases h.2 with ⟨hv, h0⟩ | ⟨g, cap, cur, hv, -⟩
 · exact ⟨none, 0, by rw [hv, h0]⟩
 · exact ⟨_, cap, hv⟩
theorem flat5_len (T : List (Dat × Value × Value)) : (flat5 T).length = T.length * 5 := by
 induction T with
 | nil => rfl
 | cons t r ih => unfold flat5 at *; rw [List.flatMap_cons, List.length_append, ih]; simp [cells5]; omega
theorem Rep.one {W : World} {ok : Nat → Prop} {d : Dat} {vi vm : Value} (h : Rep W ok d vi vm) : vi.oneCell' = true ∧ vm.oneCell' = true := by
 cases h with
 | mk => exact ⟨rfl, rfl⟩
theorem flat5_one {W : World} {ok : Nat → Prop} {T : List (Dat × Value × Value)} (h : ∀ t ∈ T, Rep W ok t.1 t.2.1 t.2.2) : ∀ u ∈ flat5 T, u.oneCell' = true := by
 intro u hu
 obtain ⟨t, ht, hu⟩ := List.mem_flatMap.1 hu
 obtain ⟨h1, h2⟩ := (h t ht).one
 simp only [cells5, List.mem_cons, List.not_mem_nil, or_false] at hu
 rcases hu with rfl | rfl | rfl | rfl | rfl
 · rfl
 · rfl
 · rfl
 · exact h1
 · exact h2
theorem Rep.itemsT {W : World} {ok : Nat → Prop} {d : Dat} {vi vm : Value} (h : Rep W ok d vi vm) : ∃ (p : Option Addr) (cap : Nat) (T : List (Dat × Value × Value)), vi = .slice p T.length cap ∧ T.map (fun t => t.1) = d.its ∧ (∀ t ∈ T, Rep W ok t.1 t.2.1 t.2.2) ∧
   (p = none → T.length = 0) ∧ ∀ a, p = some a → ∀ j u, (flat5 T)[j]? = some u → W.cell? (a.add j) = some u := by
 cases h with
 | mk p q cap caq B o B' o' vi vm ui um hl hp hc hr hq hd hs =>
   have hT : (List.ofFn fun j : Fin d.its.length => (d.its[j], vi j, vm j)).length = d.its.length := by simp
   refine ⟨p, cap, List.ofFn fun j : Fin d.its.length => (d.its[j], vi j, vm j), by rw [hT], ?_, ?_, ?_, ?_⟩
   · apply List.ext_getElem (by simp)
     intro j h1 h2
     simp
   · intro t ht
     obtain ⟨j, rfl⟩ := List.mem_ofFn.1 ht
     exact hr j j.2
   · intro hp0
     rw [hT]
     rcases Nat.eq_zero_or_pos d.its.length with h | h
     · exact h
     · obtain ⟨h1, -⟩ := hp h
       rw [hp0] at h1; cases h1
   · intro a ha i u hu
     have hi : i < d.its.length * 5 := by
       have := (List.getElem?_eq_some_iff.1 hu).1
       rw [flat5_len, hT] at this; exact this
     have hj : i / 5 < d.its.length := by omega
     have hm : i % 5 < 5 := Nat.mod_lt _ (by decide)
     have e : i = i / 5 * 5 + i % 5 := by omega
     have hg := flat5_get (List.ofFn fun j : Fin d.its.length => (d.its[j], vi j, vm j)) (i / 5) (by rw [hT]; exact hj) (i % 5) hm
     rw [← e, hu] at hg
     simp only [List.getElem_ofFn] at hg
     obtain ⟨h1, -, -, -⟩ := hp (by omega)
     rw [ha] at h1
     injection h1 with h1
     subst h1
     rw [Lib.add_plain, e]
     have q1 := hc (i / 5) hj
     generalize i % 5 = r at hg hm
     generalize i / 5 = k at *
     rw [← Nat.add_assoc]
     match r, hm, hg with
     | 0, _, hg => injection hg with hg; rw [hg]; exact q1.c0
     | 1, _, hg => injection hg with hg; rw [hg]; exact q1.c1
     | 2, _, hg => injection hg with hg; rw [hg]; exact q1.c2
     | 3, _, hg => injection hg with hg; rw [hg]; exact q1.c3
     | 4, _, hg => injection hg with hg; rw [hg]; exact q1.c4
def KidS (w : World) (ok : Nat → Prop) (d : Dat) (e : Ending) (w' : World) : Prop :=
 ∃ v T, e = .returned v ∧ w'.ownsRow (w.heap.size + 1) 25 5 v T.length (flat5 T) ∧ T.map (fun t => t.1) = kids d ∧ (∀ t ∈ T, Rep w ok t.1 t.2.1 t.2.2) ∧ Below w.heap.size w w'
theorem below_own {N B : Nat} {w a b : World} {e : TypeId} {s n : Nat} {v : Value} {xs : List Value} (h : Below N w a) (ho : a.ownsRow B e s v n xs) (hg : a.grownBy b v.ownBlock) (hB : N ≤ B) (ha : N ≤ a.heap.size) : Below N w b := by
 refine h.grown hg ha ?_
 intro k hk
 rcases own_head ho with ⟨rfl, -⟩ | ⟨g, cap, rfl, hb, -, -, ek⟩
 · simp [Value.ownBlock] at hk
 · rw [ek] at hk; injection hk with hk; omega
theorem ck_own {N B : Nat} {w a b : World} {d : Dat} {vi vm : Value} {e : TypeId} {s n : Nat} {v : Value} {xs : List Value} (h : CkS N w d vi vm a) (ho : a.ownsRow B e s v n xs) (hg : a.grownBy b v.ownBlock) (hB : N < B) : CkS N w d vi vm b := by
 refine ⟨h.1.kept hg ?_, below_own h.2 ho hg (by omega) (Nat.le_of_lt h.1.lt)⟩
 intro hk
 rcases own_head ho with ⟨rfl, -⟩ | ⟨g, cap, rfl, hb, -, -, ek⟩
 · simp [Value.ownBlock] at hk
 · rw [ek] at hk; injection hk with hk; omega
theorem CkS.alloc {N : Nat} {w W : World} {d : Dat} {vi vm : Value} (h : CkS N w d vi vm W) (o : Obj) : CkS N w d vi vm (W.alloc o) := h.below ((Below.refl _ _).alloc (Nat.le_refl _) _)
theorem take_kid {d : Dat} {i : Nat} (h : i < d.mem.length) : (d.mem.take (i + 1)).map (fun p => p.2) = (d.mem.take i).map (fun p => p.2) ++ [d.mem[i].2] := by
 rw [List.take_succ_eq_append_getElem h, List.map_append]; rfl
set_option maxRecDepth 100000 in
set_option maxHeartbeats 4000000 in
theorem children_any {d : Dat} {vi vm : Value} {ok : Nat → Prop} {w : World} (hr : Rep w ok d vi vm) (hlim : limD d = true) :
   Calls Tryz.prog 70 #[.agg #[.int .i64 d.k, .int .i64 d.n, .string (S d.s), vi, vm]] w (KidS w ok d) := by
 obtain ⟨i0, hi, hz0, hz1, hz2⟩ := info_parts infoDat
 obtain ⟨hl1, hl2, -⟩ := lim_len hlim
 obtain ⟨q, caq, rfl, -, hme⟩ := hr.members
 obtain ⟨p, cap, T, rfl, hT, hrep, h0, hcell⟩ := hr.itemsT
 clear hr hlim
 have hTl : T.length = d.its.length := by rw [← hT]; simp
 have hT1 : T.length ≤ 1000000 := by omega
 have HM := Lib.hid hme
 have HT := Lib.hid (And.intro hT hrep)
 have HC := Lib.hid (And.intro h0 hcell)
 clear hme hT hrep h0 hcell hTl hl1
 go_enter Tryz.func70, Tryz.ntmps70
 go_upto_region 1 with fail
 have hS : CkS w.heap.size w d (.slice p T.length cap) (.slice q d.mem.length caq) (w.alloc (.cells #[.int .i64 d.k, .int .i64 d.n, .string (S d.s), .slice p T.length cap, .slice q d.mem.length caq] 25)) := CkS.new w d _ _
 have HCl := Lib.hid (cloneDat_any p T.length cap (flat5 T) (w.alloc (.cells #[.int .i64 d.k, .int .i64 d.n, .string (S d.s), .slice p T.length cap, .slice q d.mem.length caq] 25)) (flat5_len T) (by omega) (fun a ha j u hu => by obtain ⟨b, o, s⟩ := a; exact Lib.cell?_alloc_some _ (HC.out.2 _ ha j u hu)) HC.out.1 (flat5_one HT.out.2))
 have hsz : (w.alloc (.cells #[.int .i64 d.k, .int .i64 d.n, .string (S d.s), .slice p T.length cap, .slice q d.mem.length caq] 25)).heap.size = w.heap.size + 1 := by simp
 have HZ := Lib.hid hsz
 clear hsz
 generalize w.alloc (.cells #[.int .i64 d.k, .int .i64 d.n, .string (S d.s), .slice p T.length cap, .slice q d.mem.length caq] 25) = W at hS HCl HZ ⊢
 obtain ⟨c0, c1, c2, c3, c4, hlw⟩ := hS.cells
 have HS := Lib.hid hS
 clear hS
 go_wp2_with fail
 refine HCl.out.mono ?_
 rintro e w1 ⟨v, rfl, hown, hb⟩
 have HO := hown
 rw [HZ.out] at HO
 have HO := Lib.hid HO
 have HS1 := Lib.hid (HS.out.below hb)
 clear hown hb HCl
 obtain ⟨d0, d1, d2, d3, d4, dlw⟩ := HS1.out.cells
 clear c0 c1 c2 c3 c4 hlw
 go_wp2_with fail
 obtain ⟨d0, d1, d2, d3, d4, dlw⟩ := HS1.out.cells
 clear HS HC
 go_loopw [3, 12] (fun v x wr => ∃ (i : Nat) (U : List (Dat × Value × Value)), x = .int .i64 (i : Int) ∧ i ≤ d.mem.length ∧ U.length ≤ 1000000 + i ∧ Hid (CkS w.heap.size w d (.slice p T.length cap) (.slice q d.mem.length caq) wr) ∧ Hid (wr.ownsRow (w.heap.size + 1) 25 5 v U.length (flat5 U)) ∧ Hid (U.map (fun t => t.1) = d.its ++ (d.mem.take i).map (fun p => p.2) ∧ ∀ t ∈ U, Rep w ok t.1 t.2.1 t.2.2)) (fun _ x _ => d.mem.length - (intOf x).toNat)
 case atStart => exact ⟨0, T, rfl, Nat.zero_le _, by omega, HS1, HO, Lib.hid ⟨by rw [HT.out.1]; simp, HT.out.2⟩⟩
 case round =>
   clear HO HS1 HT hT1 d0 d1 d2 d3 d4 dlw
   obtain ⟨i, U, rfl, hi', hU, HC, HO, HT⟩ := hrel
   obtain ⟨vp, vc, rfl⟩ := own_form5 HO.out
   by_cases hlt : i < d.mem.length
   · obtain ⟨B, o, xi, xm, rfl, hcap, hB, hlab, hc, hx⟩ := HM.out i hlt
     obtain ⟨k0, k1, k2, k3, k4⟩ := hc.below HC.out.2 hB
     have k5 := (HC.out.2.cell (p := ⟨B, o + i * 6, none⟩) hB).trans hlab
     obtain ⟨p1, cap1, rfl, -, -⟩ := hx.items
     obtain ⟨q1, caq1, rfl, -, -⟩ := hx.members
     have HX := Lib.hid hx
     have HK := Lib.hid (take_kid hlt)
     obtain ⟨-, -, -, -, c4, hlw⟩ := HC.out.cells
     clear hc hx hlab
     generalize d.mem[i] = y at k0 k1 k2 k3 k4 k5 HX HK
     obtain ⟨l, x⟩ := y
     simp only at k0 k1 k2 k3 k4 k5 HX HK
     go_wp2_with (at_builtin; refine wpList_append_own _ rfl _ _ 22 rfl (w.heap.size + 1) 25 i0 (.agg #[.int .i64 0, .int .i64 0, .string ⟨#[]⟩, .slice none 0 0, .slice none 0 0]) 5 80 Tryz.underlying22 hi hz0 hz1 hz2 rfl (by decide) (.slice vp U.length vc) U.length (flat5 U) rfl ((HO.out.alloc _).alloc _) ⟨wr.heap.size + 1, 0, none⟩ 1 1 (cells5 (x, .slice p1 x.its.length cap1, .slice q1 x.mem.length caq1)) rfl rfl (cells_new_at (by simp) rfl) (by simp [cells5, Value.oneCell']) (by unfold maxLen; omega) (by omega) (by simp; omega) ?_; intro v' w2 hown2 hgrow _)
     have HC3 := Lib.hid (ck_own ((HC.out.alloc _).alloc _) ((HO.out.alloc _).alloc _) hgrow (Nat.lt_succ_self _))
     have HO3 := hown2
     rw [← flat5_snoc, show U.length + 1 = (U ++ [(x, Value.slice p1 x.its.length cap1, Value.slice q1 x.mem.length caq1)]).length by simp] at HO3
     have HO3 := Lib.hid HO3
     clear hown2 hgrow
     go_wp2_with fail
     go_roundw
     case rel =>
       · refine ⟨i + 1, U ++ [(x, Value.slice p1 x.its.length cap1, Value.slice q1 x.mem.length caq1)], by go_num, hlt, by simp; omega, HC3, HO3, Lib.hid ⟨?_, ?_⟩⟩
         · rw [HK.out, List.map_append, HT.out.1, List.append_assoc]; rfl
         · intro t ht
           rcases List.mem_append.1 ht with ht | ht
           · exact HT.out.2 t ht
           · rw [List.mem_singleton.1 ht]; exact HX.out
     case measure => simp [intOf]; omega
   · have hil : i = d.mem.length := by omega
     have HK := Lib.hid (show U.map (fun t => t.1) = kids d by rw [HT.out.1, hil, List.take_length]; rfl)
     clear hil
     go_wp2_with fail
     go_ret
     exact ⟨_, U, rfl, HO.out, HK.out, HT.out.2, HC.out.2⟩
set_option maxRecDepth 100000 in
set_option maxHeartbeats 4000000 in
theorem check_any (m : Nat) : ∀ (d : Dat), SizeOf.sizeOf d < m → ∀ (lv : Nat), lv ≤ 17 → ∀ (vi vm : Value) (ok : Nat → Prop) (w : World), limD d = true → Rep w ok d vi vm →
   Calls Tryz.prog 50 #[.agg #[.int .i64 d.k, .int .i64 d.n, .string (S d.s), vi, vm], .int .i64 (lv : Int)] w fun e w' => e = .returned (.int .i64 (chk d lv : Int)) ∧ Below w.heap.size w w' := by
 induction m with
 | zero => intro d h; exact absurd h (Nat.not_lt_zero _)
 | succ m ih =>
   intro d hd lv hlv vi vm ok w hlim hr
   obtain ⟨r, hrr⟩ : ∃ r, chk d lv = r := ⟨_, rfl⟩
   rw [hrr]
   have HR := Lib.hid ((chk_kids d lv).symm.trans hrr)
   have IH := Lib.hid ih
   have HREP := Lib.hid hr
   have HLIM := Lib.hid hlim
   have HD := Lib.hid hd
   clear hrr ih hr hlim hd
   have hS : CkS w.heap.size w d vi vm (w.alloc (.cells #[.int .i64 d.k, .int .i64 d.n, .string (S d.s), vi, vm] 25)) := CkS.new w d _ _
   by_cases h16 : 16 < lv
   · have HV := Lib.hid (show 9 = r by rw [← HR.out, if_pos h16])
     have HS := Lib.hid hS
     clear hS
     go_enter Tryz.func50, Tryz.ntmps50
     go_wp2_with fail
     go_ret
     exact ⟨by rw [← HV.out]; rfl, HS.out.2⟩
   have HR0 := HR.out
   rw [if_neg h16] at HR0
   have HR1 := Lib.hid HR0
   clear HR HR0
   go_enter Tryz.func50, Tryz.ntmps50
   go_upto_region 1 with fail
   generalize w.alloc (.cells #[.int .i64 d.k, .int .i64 d.n, .string (S d.s), vi, vm] 25) = W at hS ⊢
   obtain ⟨c0, c1, c2, c3, c4, hlw⟩ := hS.cells
   have HS := Lib.hid hS
   clear hS
   go_wp2_with fail
   refine (ownD_any (HREP.out.under HS.out.2)).mono ?_
   rintro e w1 ⟨rfl, hb⟩
   have HS1 := Lib.hid (HS.out.below hb)
   clear hb HS c0 c1 c2 c3 c4 hlw
   obtain ⟨c0, c1, c2, c3, c4, hlw⟩ := HS1.out.cells
   rcases Nat.eq_zero_or_pos (ownE d) with ho | ho
   case inr =>
     have HV0 := HR1.out
     rw [if_neg (by omega : ¬ ownE d = 0)] at HV0
     have HV := Lib.hid HV0
     clear HV0
     generalize ownE d = z at ho HV HR1 ⊢
     have ez : ((z : Int) == 0) = false := beq_eq_false_iff_ne.2 (by omega)
     have ez' : ((z : Int) != 0) = true := by simpa using (by omega : ¬ z = 0)
     go_wp2_with fail
     go_ret
     exact ⟨by rw [HV.out]; rfl, HS1.out.2⟩
   have HV0 := HR1.out
   rw [if_pos ho] at HV0
   have HV := Lib.hid (show chkI ((kids d).drop 0) (lv + 1) = r from HV0)
   clear HV0
   rw [ho]
   clear ho HR1
   go_wp2_with fail
   refine (children_any (HREP.out.under HS1.out.2) HLIM.out).mono ?_
   rintro e w2 ⟨v, T, rfl, hown, hT, hrep, hb⟩
   have HS2 := Lib.hid (HS1.out.below hb)
   clear c0 c1 c2 c3 c4 hlw
   obtain ⟨p, cap, B, rfl, hcell⟩ := own5 hown
   have HCE := Lib.hid hcell
   have HT := Lib.hid hT
   have HRP := Lib.hid (fun t ht => (hrep t ht).under hb)
   have hTl : T.length = (kids d).length := by rw [← hT]; simp
   have hTm : T.length ≤ 2000000 := by
     have := lim_len HLIM.out
     rw [hTl, kids_len]; omega
   have HTL := Lib.hid hTl
   clear hown hT hrep hcell hb hTl
   go_wp2_with fail
   go_loopw [19] (fun x wr => ∃ i : Nat, x = .int .i64 (i : Int) ∧ i ≤ T.length ∧ Hid (Below w.heap.size w wr) ∧ Hid (Below w2.heap.size w2 wr) ∧ Hid (chkI ((kids d).drop i) (lv + 1) = r)) (fun x _ => T.length - (intOf x).toNat)
   case atStart => exact ⟨0, rfl, Nat.zero_le _, Lib.hid HS2.out.2, Lib.hid (Below.refl _ _), HV⟩
   case round =>
     obtain ⟨i, rfl, hi, HB, HB2, HV⟩ := hrel
     by_cases hlt : i < T.length
     · obtain ⟨rfl, hcap, hB0, hB, hc⟩ := HCE.out i hlt
       have hik : i < (kids d).length := by have := HTL.out; omega
       have hTi : T[i].1 = (kids d)[i] := by
         have := HT.out
         have h2 : (T.map fun t => t.1)[i]'(by simpa using hlt) = (kids d)[i] := by congr 1
         simpa using h2
       have HV0 := HV.out
       rw [chkI_step hik, ← hTi] at HV0
       have HV1 := Lib.hid HV0
       clear HV0
       have hsz := Nat.lt_of_lt_of_le (kid_lt (List.getElem_mem hik)) (Nat.le_of_lt_succ HD.out)
       rw [← hTi] at hsz
       have HL := Lib.hid hsz
       have hkl := kid_lim HLIM.out (List.getElem_mem hik)
       rw [← hTi] at hkl
       have HKL := Lib.hid hkl
       have HX := Lib.hid ((HRP.out T[i] (List.getElem_mem hlt)).under HB2.out)
       obtain ⟨k0, k1, k2, k3, k4⟩ := hc.below HB2.out hB
       clear hc hTi hsz hkl hik HV
       generalize T[i] = t at k0 k1 k2 k3 k4 HV1 HL HX HKL
       obtain ⟨x, xi, xm⟩ := t
       simp only at k0 k1 k2 k3 k4 HV1 HL HX HKL
       obtain ⟨p1, cap1, rfl, -, -⟩ := HX.out.items
       obtain ⟨q1, caq1, rfl, -, -⟩ := HX.out.members
       go_wp2_with fail
       refine (IH.out x HL.out (lv + 1) (by omega) _ _ ok _ HKL.out (HX.out.under ((Below.refl _ wr).alloc (Nat.le_refl _) _))).mono ?_
       rintro e w3 ⟨rfl, hb⟩
       have HB3 := Lib.hid ((((HB.out.alloc HB.out.size _)).trans (hb.mono (by have := HB.out.size; simp; omega))))
       have HB4 := Lib.hid ((((HB2.out.alloc HB2.out.size _)).trans (hb.mono (by have := HB2.out.size; simp; omega))))
       clear hb
       rcases Nat.eq_zero_or_pos (chk x (lv + 1)) with hl | hl
       · have HV0 := HV1.out
         rw [if_pos hl] at HV0
         have HV2 := Lib.hid HV0
         clear HV0
         rw [hl]
         clear hl
         go_wp2_with fail
         go_roundw
         case rel => exact ⟨i + 1, by go_num, hlt, HB3, HB4, HV2⟩
         case measure => simp [intOf]; omega
       · have HV0 := HV1.out
         rw [if_neg (by omega : ¬ chk x (lv + 1) = 0)] at HV0
         have HV2 := Lib.hid HV0
         clear HV0
         generalize chk x (lv + 1) = z at hl HV2 HV1 ⊢
         have ez : ((z : Int) == 0) = false := beq_eq_false_iff_ne.2 (by omega)
         have ez' : ((z : Int) != 0) = true := by simpa using (by omega : ¬ z = 0)
         go_wp2_with fail
         go_ret
         exact ⟨by rw [HV2.out]; rfl, HB3.out⟩
     · have HV1 := Lib.hid (show 0 = r by rw [← HV.out, chkI_done (by have := HTL.out; omega)])
       clear HV
       go_wp2_with fail
       go_ret
       exact ⟨by rw [← HV1.out]; rfl, HB.out⟩
theorem Check_any {d : Dat} {vi vm : Value} {ok : Nat → Prop} {w : World} (hr : Rep w ok d vi vm) (hlim : limD d = true) : Calls Tryz.prog 30 #[.agg #[.int .i64 d.k, .int .i64 d.n, .string (S d.s), vi, vm]] w fun e w' => e = .returned (.int .i64 (chk d 1 : Int)) ∧ Below w.heap.size w w' := by
 have HW := Lib.hid (fun w' (hb : Below w.heap.size w w') => check_any (SizeOf.sizeOf d + 1) d (Nat.lt_succ_self _) 1 (by omega) vi vm ok w' hlim (hr.under hb))
 clear hr hlim
 have e1 : ((1 : Nat) : Int) = 1 := rfl
 simp only [e1] at HW
 generalize chk d 1 = r at HW ⊢
 go_enter Tryz.func30, Tryz.ntmps30
 go_upto_region 1 with fail
 have hS : CkS w.heap.size w d vi vm (w.alloc (.cells #[.int .i64 d.k, .int .i64 d.n, .string (S d.s), vi, vm] 25)) := CkS.new w d _ _
 generalize w.alloc (.cells #[.int .i64 d.k, .int .i64 d.n, .string (S d.s), vi, vm] 25) = W at hS ⊢
 obtain ⟨c0, c1, c2, c3, c4, hlw⟩ := hS.cells
 have HS0 := Lib.hid hS
 clear hS
 go_wp2_with fail
 refine (HW.out _ HS0.out.2).mono ?_
 rintro e w1 ⟨rfl, hb⟩
 have HB := Lib.hid (HS0.out.below hb).2
 clear hb HS0 c0 c1 c2 c3 c4 hlw
 go_wp2_with fail
 go_ret
 exact ⟨rfl, HB.out⟩
end
section
open Go.RowKit
theorem insNone_any (p : Option Addr) (cap : Nat) (f : Value) (w : World) : Calls Tryz.prog 153 #[.slice p 0 cap, .int .i64 0, .int .i64 0, f] w fun e w' => e = .returned (.tuple #[]) ∧ w = w' := by
 go_enter Tryz.func153, Tryz.ntmps153
 go_wp2_with fail
 refine wp_loop_rounds 1 ?_
 rw [rounds_succ]
 go_wp2_with fail
 go_end0
 exact ⟨rfl, rfl⟩
theorem stableNone_any (p : Option Addr) (cap : Nat) (f : Value) (w : World) : Calls Tryz.prog 130 #[.slice p 0 cap, .int .i64 0, f] w fun e w' => e = .returned (.tuple #[]) ∧ w = w' := by
 go_enter Tryz.func130, Tryz.ntmps130
 go_wp2_with fail
 refine wp_loop_rounds 1 ?_
 rw [rounds_succ]
 go_wp2_with (go_at_call 153; refine (insNone_any _ _ _ _).mono ?_; rintro e w' ⟨rfl, rfl⟩)
 refine wp_loop_rounds 1 ?_
 rw [rounds_succ]
 go_wp2_with fail
 go_end0
 exact ⟨rfl, rfl⟩
theorem sortNone_any (p : Option Addr) (cap : Nat) (f : Value) (w : World) : Calls Tryz.prog 93 #[.slice p 0 cap, f] w fun e w' => e = .returned (.tuple #[]) ∧ w = w' := by
 go_enter Tryz.func93, Tryz.ntmps93
 go_wp2_with (go_at_call 130; refine (stableNone_any _ _ _ _).mono ?_; rintro e w' ⟨rfl, rfl⟩)
 go_end0
 exact ⟨rfl, rfl⟩
theorem dat_leaf {d : Dat} (hi : d.its = []) (hm : d.mem = []) : d = .mk d.k d.n d.s [] [] := by
 obtain ⟨k, n, s, its, mem⟩ := d
 have h1 : its = [] := hi
 have h2 : mem = [] := hm
 subst h1; subst h2; rfl
theorem three_new (w : World) (a b c : Array Value) (t1 t2 t3 : TypeId) : Blk (((w.alloc (.cells a t1)).alloc (.cells b t2)).alloc (.cells c t3)) w.heap.size a t1 ∧ Blk (((w.alloc (.cells a t1)).alloc (.cells b t2)).alloc (.cells c t3)) (w.heap.size + 1) b t2 ∧
   Blk (((w.alloc (.cells a t1)).alloc (.cells b t2)).alloc (.cells c t3)) (w.heap.size + 1 + 1) c t3 ∧ Below w.heap.size w (((w.alloc (.cells a t1)).alloc (.cells b t2)).alloc (.cells c t3)) := by
 refine ⟨((Blk.new w a t1).alloc _).alloc _, ?_, ?_, (((Below.refl _ _).alloc (Nat.le_refl _) _).alloc (by simp) _).alloc (by simp; omega) _⟩
 · have h := (Blk.new (w.alloc (.cells a t1)) b t2).alloc (.cells c t3)
   simpa using h
 · have h := Blk.new ((w.alloc (.cells a t1)).alloc (.cells b t2)) c t3
   simpa using h
def Thr (w : World) (a b c : Array Value) (t1 t2 t3 : TypeId) (W : World) : Prop := Blk W w.heap.size a t1 ∧ Blk W (w.heap.size + 1) b t2 ∧ Blk W (w.heap.size + 1 + 1) c t3 ∧ Below w.heap.size w W
theorem Thr.below {w W W' : World} {a b c : Array Value} {t1 t2 t3 : TypeId} (h : Thr w a b c t1 t2 t3 W) (hb : Below W.heap.size W W') : Thr w a b c t1 t2 t3 W' :=
 ⟨h.1.below hb, h.2.1.below hb, h.2.2.1.below hb, h.2.2.2.trans (hb.mono h.2.2.2.size)⟩
end
section
open Go.RowKit
theorem SlK.open {W : World} {ok : Nat → Prop} {v : Value} {L : List Stp} (h : SlK W ok v L) : ∃ p cap, v = .slice p L.length cap ∧ ∀ (j : Nat) (_ : j < L.length), ∃ B o, p = some ⟨B, o, none⟩ ∧ L.length ≤ cap ∧ B < W.heap.size ∧ ok B ∧ W.cell? ⟨B, o + j * 2, none⟩ = some (.string (S L[j].lab)) ∧ W.cell? ⟨B, o + j * 2 + 1, none⟩ = some (.int .i64 L[j].idx) := by
 obtain ⟨p, cap, B, o, rfl, hp, hc⟩ := h
 refine ⟨p, cap, rfl, fun j h => ?_⟩
 obtain ⟨h1, h2, h3, h4⟩ := hp (by omega)
 exact ⟨B, o, h1, h2, h3, h4, hc j h⟩
def GetS (w : World) (d : Dat) (vi vm : Value) (W : World) : Prop :=
 Blk W w.heap.size (boxD d vi vm) 25 ∧ Blk W (w.heap.size + 1) #[.int .i64 0, .int .i64 0, .string ⟨#[]⟩, .slice none 0 0, .slice none 0 0] 25 ∧ Below w.heap.size w W
theorem GetS.below {w W W' : World} {d : Dat} {vi vm : Value} (h : GetS w d vi vm W) (hb : Below W.heap.size W W') : GetS w d vi vm W' :=
 ⟨h.1.below hb, h.2.1.below hb, h.2.2.trans (hb.mono h.2.2.size)⟩
theorem GetS.put {w W : World} {d : Dat} {vi vm : Value} (h : GetS w d vi vm W) (x : Dat) (xi xm : Value) :
   GetS w x xi xm (((((W.setCell ⟨w.heap.size, 0, none⟩ (.int .i64 x.k)).setCell ⟨w.heap.size, 1, none⟩ (.int .i64 x.n)).setCell ⟨w.heap.size, 2, none⟩ (.string (S x.s))).setCell ⟨w.heap.size, 3, none⟩ xi).setCell ⟨w.heap.size, 4, none⟩ xm) := by
 obtain ⟨h1, h2, h3⟩ := h
 refine ⟨((((h1.set 0 _).set 1 _).set 2 _).set 3 _).set 4 _, ((((h2.set_other 0 _ (by omega)).set_other 1 _ (by omega)).set_other 2 _ (by omega)).set_other 3 _ (by omega)).set_other 4 _ (by omega), ?_⟩
 exact ((((h3.setCell (Nat.le_refl _) _).setCell (Nat.le_refl _) _).setCell (Nat.le_refl _) _).setCell (Nat.le_refl _) _).setCell (Nat.le_refl _) _
theorem GetS.facts {w W : World} {d : Dat} {vi vm : Value} (h : GetS w d vi vm W) :
   (W.cell? ⟨w.heap.size, 0, none⟩ = some (.int .i64 d.k) ∧ W.cell? ⟨w.heap.size, 1, none⟩ = some (.int .i64 d.n) ∧ W.cell? ⟨w.heap.size, 2, none⟩ = some (.string (S d.s)) ∧ W.cell? ⟨w.heap.size, 3, none⟩ = some vi ∧ W.cell? ⟨w.heap.size, 4, none⟩ = some vm) ∧
   (W.frozen? ⟨w.heap.size, 0, none⟩ = false ∧ W.frozen? ⟨w.heap.size, 1, none⟩ = false ∧ W.frozen? ⟨w.heap.size, 2, none⟩ = false ∧ W.frozen? ⟨w.heap.size, 3, none⟩ = false ∧ W.frozen? ⟨w.heap.size, 4, none⟩ = false) ∧ w.heap.size + 1 < W.heap.size :=
 ⟨⟨h.1.cell 0, h.1.cell 1, h.1.cell 2, h.1.cell 3, h.1.cell 4⟩, ⟨h.1.frozen 0, h.1.frozen 1, h.1.frozen 2, h.1.frozen 3, h.1.frozen 4⟩, h.2.1.lt⟩
theorem two_new (w : World) (a b : Array Value) (t1 t2 : TypeId) : Blk ((w.alloc (.cells a t1)).alloc (.cells b t2)) w.heap.size a t1 ∧ Blk ((w.alloc (.cells a t1)).alloc (.cells b t2)) (w.heap.size + 1) b t2 ∧ Below w.heap.size w ((w.alloc (.cells a t1)).alloc (.cells b t2)) := by
 refine ⟨(Blk.new w a t1).alloc _, ?_, ((Below.refl _ _).alloc (Nat.le_refl _) _).alloc (by simp) _⟩
 have h := Blk.new (w.alloc (.cells a t1)) b t2
 simpa using h
end
section
open Go.RowKit
theorem joinNone_any (p : Option Addr) (cap : Nat) (s : ByteArray) (w : World) : Calls Tryz.prog 141 #[.slice p 0 cap, .string s] w fun e w' => e = .returned (.string (S [])) ∧ w = w' := by
 go_enter Tryz.func141, Tryz.ntmps141
 go_wp2_with fail
 go_ret
 exact ⟨rfl, rfl⟩
theorem joinD_any (a b : List UInt8) (ha : a.length ≤ 1000) (hb : b.length ≤ 1000) (p : Option Addr) (cap : Nat) (w : World) : Calls Tryz.prog 113 #[.string (S a), .string (S b), .slice p 0 cap] w fun e w' => e = .returned (.string (S (a ++ b))) ∧ w = w' := by
 have HE := Lib.hid (show ct (ct a []) b = a ++ b by simp [ct])
 go_enter Tryz.func113, Tryz.ntmps113
 go_wp2_with (go_at_call 141; refine (joinNone_any _ _ _ _).mono ?_; rintro e w' ⟨rfl, rfl⟩)
 go_ret
 exact ⟨by rw [← HE.out]; rfl, rfl⟩
set_option maxRecDepth 100000 in
theorem text_1 (p q : Option Addr) (cap caq : Nat) (w : World) :
   Calls Tryz.prog 75 #[.agg #[.int .i64 1, .int .i64 0, .string (S []), .slice p 0 cap, .slice q 0 caq]] w fun e w' => e = .returned (.string (S [110, 117, 108, 108])) ∧ Below w.heap.size w w' := by
 go_enter Tryz.func75, Tryz.ntmps75
 go_wp2_with fail
 refine wp_loop_rounds 1 ?_
 rw [rounds_succ]
 go_wp2_with fail
 refine wp_loop_rounds 1 ?_
 rw [rounds_succ]
 go_wp2_with fail
 go_ret
 exact ⟨rfl, by go_grown⟩
set_option maxRecDepth 100000 in
theorem text_2t (p q : Option Addr) (cap caq : Nat) (w : World) :
   Calls Tryz.prog 75 #[.agg #[.int .i64 2, .int .i64 1, .string (S []), .slice p 0 cap, .slice q 0 caq]] w fun e w' => e = .returned (.string (S [116, 114, 117, 101])) ∧ Below w.heap.size w w' := by
 go_enter Tryz.func75, Tryz.ntmps75
 go_wp2_with fail
 refine wp_loop_rounds 1 ?_
 rw [rounds_succ]
 go_wp2_with fail
 refine wp_loop_rounds 1 ?_
 rw [rounds_succ]
 go_wp2_with fail
 go_ret
 exact ⟨rfl, by go_grown⟩
set_option maxRecDepth 100000 in
theorem text_2f (n : Int) (p q : Option Addr) (cap caq : Nat) (w : World) (hn : (n == 1) = false) :
   Calls Tryz.prog 75 #[.agg #[.int .i64 2, .int .i64 n, .string (S []), .slice p 0 cap, .slice q 0 caq]] w fun e w' => e = .returned (.string (S [102, 97, 108, 115, 101])) ∧ Below w.heap.size w w' := by
 go_enter Tryz.func75, Tryz.ntmps75
 go_wp2_with fail
 refine wp_loop_rounds 1 ?_
 rw [rounds_succ]
 go_wp2_with fail
 refine wp_loop_rounds 1 ?_
 rw [rounds_succ]
 go_wp2_with fail
 go_ret
 exact ⟨rfl, by go_grown⟩
set_option maxRecDepth 100000 in
theorem text_3 (n : Int) (p q : Option Addr) (cap caq : Nat) (w : World) (hE : NumOk w) :
   Calls Tryz.prog 75 #[.agg #[.int .i64 3, .int .i64 n, .string (S []), .slice p 0 cap, .slice q 0 caq]] w fun e w' => e = .returned (.string (S (textI n))) ∧ Below w.heap.size w w' := by
 have HE := Lib.hid hE
 clear hE
 go_enter Tryz.func75, Tryz.ntmps75
 go_wp2_with fail
 refine wp_loop_rounds 1 ?_
 rw [rounds_succ]
 go_wp2_with fail
 refine wp_loop_rounds 1 ?_
 rw [rounds_succ]
 go_wp2_with (go_at_call 112; refine (fxText_any n _ (HE.out.below (by go_grown))).mono ?_; rintro e w' ⟨rfl, hb⟩; have HB := Lib.hid (((Below.refl _ w).alloc (Nat.le_refl _) _).trans (hb.mono (by simp))); clear hb)
 go_ret
 exact ⟨rfl, by exact HB.out⟩
set_option maxRecDepth 100000 in
theorem text_4 (s : List UInt8) (p q : Option Addr) (cap caq : Nat) (w : World) (hs : s.length ≤ 1000000) :
   Calls Tryz.prog 75 #[.agg #[.int .i64 4, .int .i64 0, .string (S s), .slice p 0 cap, .slice q 0 caq]] w fun e w' => e = .returned (.string (S (quoteL s))) ∧ Below w.heap.size w w' := by
 go_enter Tryz.func75, Tryz.ntmps75
 go_wp2_with fail
 refine wp_loop_rounds 1 ?_
 rw [rounds_succ]
 go_wp2_with fail
 refine wp_loop_rounds 1 ?_
 rw [rounds_succ]
 go_wp2_with (go_at_call 74; refine (quote_any s hs _).mono ?_; rintro e w' ⟨rfl, hb⟩; have HB := Lib.hid (((Below.refl _ w).alloc (Nat.le_refl _) _).trans (hb.mono (by simp))); clear hb)
 go_ret
 exact ⟨rfl, by exact HB.out⟩
set_option maxRecDepth 100000 in
theorem text_5 (p q : Option Addr) (cap caq : Nat) (w : World) :
   Calls Tryz.prog 75 #[.agg #[.int .i64 5, .int .i64 0, .string (S []), .slice p 0 cap, .slice q 0 caq]] w fun e w' => e = .returned (.string (S [91, 93])) ∧ Below w.heap.size w w' := by
 go_enter Tryz.func75, Tryz.ntmps75
 go_wp2_with fail
 refine wp_loop_rounds 1 ?_
 rw [rounds_succ]
 go_wp2_with fail
 refine wp_loop_rounds 1 ?_
 rw [rounds_succ]
 go_wp2_with (go_at_call 113; refine (joinD_any [91] [93] (by decide) (by decide) _ _ _).mono ?_; rintro e w' ⟨rfl, rfl⟩)
 go_ret
 exact ⟨rfl, by go_grown⟩
set_option maxRecDepth 100000 in
theorem text_6 (p q : Option Addr) (cap caq : Nat) (w : World) :
   Calls Tryz.prog 75 #[.agg #[.int .i64 6, .int .i64 0, .string (S []), .slice p 0 cap, .slice q 0 caq]] w fun e w' => e = .returned (.string (S [123, 125])) ∧ Below w.heap.size w w' := by
 go_enter Tryz.func75, Tryz.ntmps75
 go_wp2_with fail
 refine wp_loop_rounds 1 ?_
 rw [rounds_succ]
 go_wp2_with fail
 refine wp_loop_rounds 1 ?_
 rw [rounds_succ]
 go_wp2_with (go_at_call 113; refine (joinD_any [123] [125] (by decide) (by decide) _ _ _).mono ?_; rintro e w' ⟨rfl, rfl⟩)
 go_ret
 exact ⟨rfl, by go_grown⟩
theorem textLeaf_any {d : Dat} {vi vm : Value} {ok : Nat → Prop} {w : World} (hr : Rep w ok d vi vm) (hp : plainB d = true) (hi : d.its = []) (hm : d.mem = []) (hs : d.s.length ≤ 1000000) (hE : NumOk w) :
   Calls Tryz.prog 75 #[.agg #[.int .i64 d.k, .int .i64 d.n, .string (S d.s), vi, vm]] w fun e w' => e = .returned (.string (S (leafT d))) ∧ Below w.heap.size w w' := by
 obtain ⟨p, cap, rfl, -, -⟩ := hr.items
 obtain ⟨q, caq, rfl, -, -⟩ := hr.members
 obtain ⟨⟨h1, h6⟩, h2, h4, -, -⟩ := plain_iff.1 hp
 rw [hi, hm]
 clear hr hp
 have hd := dat_leaf hi hm
 generalize d.k = k at *
 generalize d.n = n at *
 generalize d.s = s at *
 subst hd
 have hk : k = 1 ∨ k = 2 ∨ k = 3 ∨ k = 4 ∨ k = 5 ∨ k = 6 := by omega
 rcases hk with rfl | rfl | rfl | rfl | rfl | rfl
 · obtain rfl : n = 0 := by simpa using h2
   obtain rfl : s = [] := by simpa using h4
   exact text_1 _ _ _ _ _
 · obtain rfl : s = [] := by simpa using h4
   by_cases hn : n = 1
   · subst hn; exact text_2t _ _ _ _ _
   · have : leafT (.mk 2 n [] [] []) = [102, 97, 108, 115, 101] := by simp [leafT, Dat.k, Dat.n, hn]
     rw [this]
     exact text_2f n _ _ _ _ _ (by simpa using hn)
 · obtain rfl : s = [] := by simpa using h4
   exact text_3 _ _ _ _ _ _ hE
 · obtain rfl : n = 0 := by simpa using h2
   exact text_4 _ _ _ _ _ _ hs
 · obtain rfl : n = 0 := by simpa using h2
   obtain rfl : s = [] := by simpa using h4
   exact text_5 _ _ _ _ _
 · obtain rfl : n = 0 := by simpa using h2
   obtain rfl : s = [] := by simpa using h4
   exact text_6 _ _ _ _ _
theorem TextLeaf_any {d : Dat} {vi vm : Value} {ok : Nat → Prop} {w : World} (hr : Rep w ok d vi vm) (hl : leafB d = true) (hlim : limD d = true) (hE : NumOk w) :
   Calls Tryz.prog 52 #[.agg #[.int .i64 d.k, .int .i64 d.n, .string (S d.s), vi, vm]] w fun e w' => e = .returned (.tuple #[.string (S (leafT d)), .int .i64 0]) ∧ Below w.heap.size w w' := by
 obtain ⟨hc, hi, hm⟩ := leaf_iff.1 hl
 obtain ⟨-, ho, -, -⟩ := chk_zero.1 hc
 have HP := Lib.hid (own_zero ho).1
 have HIM := Lib.hid (And.intro hi hm)
 have HREP := Lib.hid hr
 have HE := Lib.hid hE
 have HSL := Lib.hid (lim_len hlim).2.2
 have HCK := Lib.hid (fun w' (hb : Below w.heap.size w w') => (Check_any (hr.under hb) hlim))
 simp only [hc] at HCK
 clear hr hl hlim hc hi hm ho hE
 go_enter Tryz.func52, Tryz.ntmps52
 go_upto_region 1 with fail
 have hS : CkS w.heap.size w d vi vm (w.alloc (.cells #[.int .i64 d.k, .int .i64 d.n, .string (S d.s), vi, vm] 25)) := CkS.new w d _ _
 generalize w.alloc (.cells #[.int .i64 d.k, .int .i64 d.n, .string (S d.s), vi, vm] 25) = W at hS ⊢
 obtain ⟨c0, c1, c2, c3, c4, hlw⟩ := hS.cells
 have HS := Lib.hid hS
 clear hS
 go_wp2_with fail
 refine (HCK.out _ HS.out.2).mono ?_
 rintro e w1 ⟨rfl, hb⟩
 have HS1 := Lib.hid (HS.out.below hb)
 clear hb HS c0 c1 c2 c3 c4 hlw HCK
 obtain ⟨c0, c1, c2, c3, c4, hlw⟩ := HS1.out.cells
 go_wp2_with fail
 refine (textLeaf_any (HREP.out.under HS1.out.2) HP.out HIM.out.1 HIM.out.2 HSL.out (HE.out.below HS1.out.2)).mono ?_
 rintro e w2 ⟨rfl, hb⟩
 have HB := Lib.hid (HS1.out.below hb).2
 clear hb
 go_wp2_with fail
 go_ret2
 exact ⟨rfl, HB.out⟩
end
section
open Go.RowKit
theorem leaf_of {d : Dat} (ho : ownE d = 0) (hi : d.its = []) (hm : d.mem = []) : leafB d = true :=
 leaf_iff.2 ⟨chk_zero.2 ⟨by decide, ho, by rw [hi]; intro x hx; simp at hx, by rw [hm]; intro x hx; simp at hx⟩, hi, hm⟩
def shrV (d : Dat) : Value := .tuple #[.string (S ((shortY d).getD [])), .bool (shortY d).isSome]
set_option maxRecDepth 100000 in
set_option maxHeartbeats 4000000 in
theorem short_any {d : Dat} {vi vm : Value} {ok : Nat → Prop} {w : World} (hr : Rep w ok d vi vm) (ho : ownE d = 0) (hlim : limD d = true) (hE : NumOk w) :
   Calls Tryz.prog 31 #[.agg #[.int .i64 d.k, .int .i64 d.n, .string (S d.s), vi, vm]] w fun e w' => e = .returned (shrV d) ∧ Below w.heap.size w w' := by
 obtain ⟨hs, hi6, hm6, -, -⟩ := lim_iff.1 hlim
 have HREP := Lib.hid hr
 obtain ⟨p, cap, rfl, -, -⟩ := hr.items
 obtain ⟨q, caq, rfl, -, -⟩ := hr.members
 have HV := Lib.hid (show shrV d = .tuple #[.string (S ((if d.k = 4 then some (strY d.s) else if 0 < d.its.length + d.mem.length then none else some (leafT d)).getD [])), .bool (if d.k = 4 then some (strY d.s) else if 0 < d.its.length + d.mem.length then none else some (leafT d)).isSome] from rfl)
 generalize shrV d = r at HV ⊢
 have HTL := Lib.hid (fun (h : ¬ 0 < d.its.length + d.mem.length) w' (hb : Below w.heap.size w w') (hE' : NumOk w') => TextLeaf_any (HREP.out.under hb) (leaf_of ho (List.length_eq_zero_iff.1 (by omega)) (List.length_eq_zero_iff.1 (by omega))) hlim hE')
 have HE := Lib.hid hE
 have hS : CkS w.heap.size w d (.slice p d.its.length cap) (.slice q d.mem.length caq) (w.alloc (.cells #[.int .i64 d.k, .int .i64 d.n, .string (S d.s), .slice p d.its.length cap, .slice q d.mem.length caq] 25)) := CkS.new w d _ _
 clear hr ho hlim hE
 go_enter Tryz.func31, Tryz.ntmps31
 go_upto_region 1 with fail
 generalize w.alloc (.cells #[.int .i64 d.k, .int .i64 d.n, .string (S d.s), .slice p d.its.length cap, .slice q d.mem.length caq] 25) = W at hS ⊢
 obtain ⟨c0, c1, c2, c3, c4, hlw⟩ := hS.cells
 have HB := Lib.hid hS.2
 clear hS
 by_cases h4 : d.k = 4
 · have t1 : (d.k == 4) = true := by rw [h4]; rfl
   have HR := Lib.hid (show r = .tuple #[.string (S (strY d.s)), .bool true] by rw [HV.out, if_pos h4]; rfl)
   clear h4 HV
   go_wp2_with fail
   refine (str_any d.s hs _).mono ?_
   rintro e w1 ⟨rfl, hb⟩
   have HB1 := Lib.hid (HB.out.trans (hb.mono HB.out.size))
   clear hb
   go_wp2_with fail
   go_ret2
   exact ⟨by rw [HR.out]; rfl, HB1.out⟩
 · have t1 : (d.k == 4) = false := beq_eq_false_iff_ne.2 h4
   have w1' : IntKind.i64.wrap ((d.its.length : Int) + (d.mem.length : Int)) = (d.its.length : Int) + (d.mem.length : Int) := IntWalk.i64_in _ (by omega)
   by_cases h0 : 0 < d.its.length + d.mem.length
   · have t2 : (0 : Int) < (d.its.length : Int) + (d.mem.length : Int) := by omega
     have HR := Lib.hid (show r = .tuple #[.string (S []), .bool false] by rw [HV.out, if_neg h4, if_pos h0]; rfl)
     clear h4 HV h0
     go_wp2_with fail
     go_ret2
     exact ⟨by rw [HR.out]; rfl, HB.out⟩
   · have t2 : ¬ (0 : Int) < (d.its.length : Int) + (d.mem.length : Int) := by omega
     have HR := Lib.hid (show r = .tuple #[.string (S (leafT d)), .bool true] by rw [HV.out, if_neg h4, if_neg h0]; rfl)
     have HC := Lib.hid (HTL.out h0 _ HB.out (HE.out.below HB.out))
     clear h4 HV h0
     go_wp2_with fail
     refine HC.out.mono ?_
     rintro e w1 ⟨rfl, hb⟩
     have HB1 := Lib.hid (HB.out.trans (hb.mono HB.out.size))
     clear hb HC
     go_wp2_with fail
     go_ret2
     exact ⟨by rw [HR.out]; rfl, HB1.out⟩
set_option maxRecDepth 100000 in
set_option maxHeartbeats 4000000 in
theorem scalar_any {d : Dat} {vi vm : Value} {ok : Nat → Prop} {w : World} (hr : Rep w ok d vi vm) (hlim : limD d = true) (hE : NumOk w) :
   Calls Tryz.prog 16 #[.agg #[.int .i64 d.k, .int .i64 d.n, .string (S d.s), vi, vm]] w fun e w' => e = .returned (.string (S (scalarY d))) ∧ Below w.heap.size w w' := by
 have HREP := Lib.hid hr
 have HCK := Lib.hid (fun w' (hb : Below w.heap.size w w') => Check_any (HREP.out.under hb) hlim)
 have HSH := Lib.hid (fun (ho : ownE d = 0) w' (hb : Below w.heap.size w w') (hE' : NumOk w') => short_any (HREP.out.under hb) ho hlim hE')
 obtain ⟨p, cap, rfl, -, -⟩ := hr.items
 obtain ⟨q, caq, rfl, -, -⟩ := hr.members
 have HV := Lib.hid (show scalarY d = if chk d 1 ≠ 0 ∨ d.k = 5 ∨ d.k = 6 then [63] else (shortY d).getD [] from rfl)
 generalize scalarY d = r at HV ⊢
 have HE := Lib.hid hE
 have hS : CkS w.heap.size w d (.slice p d.its.length cap) (.slice q d.mem.length caq) (w.alloc (.cells #[.int .i64 d.k, .int .i64 d.n, .string (S d.s), .slice p d.its.length cap, .slice q d.mem.length caq] 25)) := CkS.new w d _ _
 have HOW := Lib.hid (fun (h : chk d 1 = 0) => (chk_zero.1 h).2.1)
 clear hr hlim hE
 go_enter Tryz.func16, Tryz.ntmps16
 go_upto_region 1 with fail
 generalize w.alloc (.cells #[.int .i64 d.k, .int .i64 d.n, .string (S d.s), .slice p d.its.length cap, .slice q d.mem.length caq] 25) = W at hS ⊢
 obtain ⟨c0, c1, c2, c3, c4, hlw⟩ := hS.cells
 have HS := Lib.hid hS
 clear hS
 go_wp2_with fail
 refine (HCK.out _ HS.out.2).mono ?_
 rintro e w1 ⟨rfl, hb⟩
 have HS1 := Lib.hid (HS.out.below hb)
 clear hb HS c0 c1 c2 c3 c4 hlw
 obtain ⟨c0, c1, c2, c3, c4, hlw⟩ := HS1.out.cells
 generalize hck : chk d 1 = ck at HV HOW ⊢
 clear hck
 by_cases hc : ck = 0
 case neg =>
   have HR := Lib.hid (show r = [63] by rw [HV.out, if_pos (.inl hc)])
   have t1 : ((ck : Int) != 0) = true := by simp; omega
   have t2 : ((ck : Int) == 0) = false := by simp; omega
   have t3 : ¬ ((ck : Int) = 0) := by omega
   clear hc HV
   go_wp2_with fail
   go_ret
   exact ⟨by rw [HR.out]; rfl, HS1.out.2⟩
 have HO := Lib.hid (HOW.out hc)
 subst hc
 by_cases h5 : d.k = 5
 · have t1 : (d.k == 5) = true := by rw [h5]; rfl
   have HR := Lib.hid (show r = [63] by rw [HV.out, if_pos (.inr (.inl h5))])
   clear h5 HV
   go_wp2_with fail
   go_ret
   exact ⟨by rw [HR.out]; rfl, HS1.out.2⟩
 have t1 : (d.k == 5) = false := beq_eq_false_iff_ne.2 h5
 by_cases h6 : d.k = 6
 · have t2 : (d.k == 6) = true := by rw [h6]; rfl
   have HR := Lib.hid (show r = [63] by rw [HV.out, if_pos (.inr (.inr h6))])
   clear h5 h6 HV
   go_wp2_with fail
   go_ret
   exact ⟨by rw [HR.out]; rfl, HS1.out.2⟩
 have t2 : (d.k == 6) = false := beq_eq_false_iff_ne.2 h6
 have HR := Lib.hid (show r = (shortY d).getD [] by rw [HV.out, if_neg (by rintro (h | h | h); exact h rfl; exact h5 h; exact h6 h)])
 clear h5 h6 HV
 go_wp2_with fail
 refine (HSH.out HO.out _ HS1.out.2 (HE.out.below HS1.out.2)).mono ?_
 rintro e w2 ⟨rfl, hb⟩
 have HB2 := Lib.hid (HS1.out.2.trans (hb.mono HS1.out.2.size))
 clear hb
 unfold shrV
 go_wp2_with fail
 go_ret
 exact ⟨by rw [HR.out]; rfl, HB2.out⟩
set_option maxRecDepth 100000 in
set_option maxHeartbeats 4000000 in
theorem refScalar_any {d : Dat} {vi vm : Value} {ok : Nat → Prop} {w : World} (hr : Rep w ok d vi vm) (hs : d.s.length ≤ 1000000) :
   Calls Tryz.prog 17 #[.agg #[.int .i64 d.k, .int .i64 d.n, .string (S d.s), vi, vm]] w fun e w' => e = .returned (.string (S (scalarY d))) ∧ Below w.heap.size w w' := by
 have HREP := Lib.hid hr
 have HCK := Lib.hid (fun w' (hb : Below w.heap.size w w') => refChk_any (HREP.out.under hb))
 obtain ⟨p, cap, rfl, -, -⟩ := hr.items
 obtain ⟨q, caq, rfl, -, -⟩ := hr.members
 have HV := Lib.hid (show scalarY d = if chk d 1 ≠ 0 ∨ d.k = 5 ∨ d.k = 6 then [63] else (shortY d).getD [] from rfl)
 have HSP := Lib.hid (fun (hc : chk d 1 = 0) (h5 : ¬ d.k = 5) (h6 : ¬ d.k = 6) => (show (shortY d).getD [] = (if d.k = 1 then [110, 117, 108, 108] else if d.k = 2 then (if d.n = 1 then [116, 114, 117, 101] else [102, 97, 108, 115, 101]) else if d.k = 3 then textI d.n else strY d.s) ∧ (d.k = 1 ∨ d.k = 2 ∨ d.k = 3 ∨ d.k = 4) from by
   obtain ⟨hp, -, -⟩ := own_parts (chk_zero.1 hc).2.1
   obtain ⟨⟨k1, k6⟩, -, -, hi, hm⟩ := plain_iff.1 hp
   have e2 : d.its.length = 0 := by rcases hi with h | h; exact absurd h h5; rw [h]; rfl
   have e3 : d.mem.length = 0 := by rcases hm with h | h; exact absurd h h6; rw [h]; rfl
   refine ⟨?_, by omega⟩
   unfold shortY
   by_cases h4 : d.k = 4
   · rw [if_pos h4, if_neg (by omega), if_neg (by omega), if_neg (by omega)]; rfl
   · rw [if_neg h4, if_neg (by omega)]
     show leafT d = _
     unfold leafT
     split
     · rfl
     · split
       · rfl
       · split
         · rfl
         · omega))
 generalize scalarY d = r at HV ⊢
 have hS : CkS w.heap.size w d (.slice p d.its.length cap) (.slice q d.mem.length caq) (w.alloc (.cells #[.int .i64 d.k, .int .i64 d.n, .string (S d.s), .slice p d.its.length cap, .slice q d.mem.length caq] 25)) := CkS.new w d _ _
 clear hr
 go_enter Tryz.func17, Tryz.ntmps17
 go_upto_region 1 with fail
 generalize w.alloc (.cells #[.int .i64 d.k, .int .i64 d.n, .string (S d.s), .slice p d.its.length cap, .slice q d.mem.length caq] 25) = W at hS ⊢
 obtain ⟨c0, c1, c2, c3, c4, hlw⟩ := hS.cells
 have HS := Lib.hid hS
 clear hS
 go_wp2_with fail
 refine (HCK.out _ HS.out.2).mono ?_
 rintro e w1 ⟨rfl, hb⟩
 have HS1 := Lib.hid (HS.out.below hb)
 clear hb HS c0 c1 c2 c3 c4 hlw
 obtain ⟨c0, c1, c2, c3, c4, hlw⟩ := HS1.out.cells
 generalize hck : chk d 1 = ck at HV HSP ⊢
 clear hck HCK
 by_cases hc : ck = 0
 case neg =>
   have HR := Lib.hid (show r = [63] by rw [HV.out, if_pos (.inl hc)])
   have t1 : ((ck : Int) != 0) = true := by simp; omega
   have t2 : ((ck : Int) == 0) = false := by simp; omega
   have t3 : ¬ ((ck : Int) = 0) := by omega
   clear hc HV HSP
   go_wp2_with fail
   go_ret
   exact ⟨by rw [HR.out]; rfl, HS1.out.2⟩
 subst hc
 by_cases h56 : d.k = 5 ∨ d.k = 6
 · have t1 : (d.k == 1) = false := beq_eq_false_iff_ne.2 (by omega)
   have t2 : (d.k == 2) = false := beq_eq_false_iff_ne.2 (by omega)
   have t3 : (d.k == 3) = false := beq_eq_false_iff_ne.2 (by omega)
   have t4 : (d.k == 4) = false := beq_eq_false_iff_ne.2 (by omega)
   have HR := Lib.hid (show r = [63] by rw [HV.out, if_pos (.inr h56)])
   clear h56 HV HSP
   go_wp2_with fail
   go_ret
   exact ⟨by rw [HR.out]; rfl, HS1.out.2⟩
 obtain ⟨hsp, hk⟩ := HSP.out rfl (fun h => h56 (.inl h)) (fun h => h56 (.inr h))
 have HR0 := Lib.hid (show r = (if d.k = 1 then [110, 117, 108, 108] else if d.k = 2 then (if d.n = 1 then [116, 114, 117, 101] else [102, 97, 108, 115, 101]) else if d.k = 3 then textI d.n else strY d.s) by
   rw [HV.out, if_neg (by rintro (h | h); exact h rfl; exact h56 h)]; exact hsp)
 clear h56 HV HSP hsp
 rcases hk with hk | hk | hk | hk
 · have t1 : (d.k == 1) = true := by rw [hk]; rfl
   have HR := Lib.hid (show r = [110, 117, 108, 108] by rw [HR0.out, if_pos hk])
   clear hk HR0
   go_wp2_with fail
   go_ret
   exact ⟨by rw [HR.out]; rfl, HS1.out.2⟩
 · have t1 : (d.k == 1) = false := beq_eq_false_iff_ne.2 (by omega)
   have t2 : (d.k == 2) = true := by rw [hk]; rfl
   have HR1 := Lib.hid (show r = if d.n = 1 then [116, 114, 117, 101] else [102, 97, 108, 115, 101] by rw [HR0.out, if_neg (by omega), if_pos hk])
   clear hk HR0
   by_cases hn : d.n = 1
   · have t3 : (d.n == 1) = true := by rw [hn]; rfl
     have HR := Lib.hid (show r = [116, 114, 117, 101] by rw [HR1.out, if_pos hn])
     clear hn HR1
     go_wp2_with fail
     go_ret
     exact ⟨by rw [HR.out]; rfl, HS1.out.2⟩
   · have t3 : (d.n == 1) = false := beq_eq_false_iff_ne.2 hn
     have HR := Lib.hid (show r = [102, 97, 108, 115, 101] by rw [HR1.out, if_neg hn])
     clear hn HR1
     go_wp2_with fail
     go_ret
     exact ⟨by rw [HR.out]; rfl, HS1.out.2⟩
 · have t1 : (d.k == 1) = false := beq_eq_false_iff_ne.2 (by omega)
   have t2 : (d.k == 2) = false := beq_eq_false_iff_ne.2 (by omega)
   have t3 : (d.k == 3) = true := by rw [hk]; rfl
   have HR := Lib.hid (show r = textI d.n by rw [HR0.out, if_neg (by omega), if_neg (by omega), if_pos hk])
   clear hk HR0
   go_wp2_with fail
   refine (fxRefText_any d.n _).mono ?_
   rintro e w2 ⟨rfl, hb⟩
   have HB2 := Lib.hid (HS1.out.2.trans (hb.mono HS1.out.2.size))
   clear hb
   go_wp2_with fail
   go_ret
   exact ⟨by rw [HR.out]; rfl, HB2.out⟩
 · have t1 : (d.k == 1) = false := beq_eq_false_iff_ne.2 (by omega)
   have t2 : (d.k == 2) = false := beq_eq_false_iff_ne.2 (by omega)
   have t3 : (d.k == 3) = false := beq_eq_false_iff_ne.2 (by omega)
   have t4 : (d.k == 4) = true := by rw [hk]; rfl
   have HR := Lib.hid (show r = strY d.s by rw [HR0.out, if_neg (by omega), if_neg (by omega), if_neg (by omega)])
   clear hk HR0
   go_wp2_with fail
   refine (refStr_any d.s hs _).mono ?_
   rintro e w2 ⟨rfl, hb⟩
   have HB2 := Lib.hid (HS1.out.2.trans (hb.mono HS1.out.2.size))
   clear hb
   go_wp2_with fail
   go_ret
   exact ⟨by rw [HR.out]; rfl, HB2.out⟩
def RShP (w : World) (d : Dat) (e : Ending) (w' : World) : Prop := ∃ s b, e = .returned (.tuple #[.string (S s), .bool b]) ∧ shortY d = (if b = true then some s else none) ∧ Below w.heap.size w w'
set_option maxRecDepth 100000 in
set_option maxHeartbeats 4000000 in
theorem refShort_yaml {d : Dat} {vi vm : Value} {ok : Nat → Prop} {w : World} (hr : Rep w ok d vi vm) (ho : ownE d = 0) (hlim : limD d = true) :
   Calls Tryz.prog 33 #[.agg #[.int .i64 d.k, .int .i64 d.n, .string (S d.s), vi, vm]] w (RShP w d) := by
 obtain ⟨hs, hi6, hm6, -, -⟩ := lim_iff.1 hlim
 have HREP := Lib.hid hr
 have HSC := Lib.hid (fun w' (hb : Below w.heap.size w w') => refScalar_any (HREP.out.under hb) hs)
 obtain ⟨p, cap, rfl, -, -⟩ := hr.items
 obtain ⟨q, caq, rfl, -, -⟩ := hr.members
 obtain ⟨hp, -, -⟩ := own_parts ho
 obtain ⟨⟨k1, k6⟩, hn0, hss, hit, hme⟩ := plain_iff.1 hp
 have HO := Lib.hid ho
 have hS : CkS w.heap.size w d (.slice p d.its.length cap) (.slice q d.mem.length caq) (w.alloc (.cells #[.int .i64 d.k, .int .i64 d.n, .string (S d.s), .slice p d.its.length cap, .slice q d.mem.length caq] 25)) := CkS.new w d _ _
 by_cases h5 : d.k = 5
 · have t1 : (d.k == 5) = true := by rw [h5]; rfl
   have e3 : d.mem = [] := by rcases hme with h | h; omega; exact h
   have HF := Lib.hid (show shortY d = (if ((d.its.length : Int) == 0) = true then some [91, 93] else none) by
     unfold shortY
     rw [if_neg (by omega), e3]
     by_cases h0 : d.its = []
     · rw [if_neg (by rw [h0]; decide), if_pos (by rw [h0]; rfl)]
       unfold leafT
       rw [if_neg (by omega), if_neg (by omega), if_neg (by omega), if_neg (by omega), if_pos h5]
     · have h1 := List.length_pos_iff.2 h0
       rw [if_pos (by simp; omega), if_neg (by rw [beq_iff_eq]; omega)])
   clear hr ho hp h5 hn0 hss hit hme e3
   go_enter Tryz.func33, Tryz.ntmps33
   go_upto_region 1 with fail
   generalize w.alloc (.cells #[.int .i64 d.k, .int .i64 d.n, .string (S d.s), .slice p d.its.length cap, .slice q d.mem.length caq] 25) = W at hS ⊢
   obtain ⟨c0, c1, c2, c3, c4, hlw⟩ := hS.cells
   have HB := Lib.hid hS.2
   clear hS
   go_wp2_with fail
   go_quiet (fail)
   go_wp2_with fail
   go_ret2
   exact ⟨_, _, rfl, HF.out, below_drewN HB.out nq⟩
 have t1 : (d.k == 5) = false := beq_eq_false_iff_ne.2 h5
 have e2 : d.its = [] := by rcases hit with h | h; exact absurd h h5; exact h
 by_cases h6 : d.k = 6
 · have t3 : (d.k == 6) = true := by rw [h6]; rfl
   have HF := Lib.hid (show shortY d = (if ((d.mem.length : Int) == 0) = true then some [123, 125] else none) by
     unfold shortY
     rw [if_neg (by omega), e2]
     by_cases h0 : d.mem = []
     · rw [if_neg (by rw [h0]; decide), if_pos (by rw [h0]; rfl)]
       unfold leafT
       rw [if_neg (by omega), if_neg (by omega), if_neg (by omega), if_neg (by omega), if_neg h5]
     · have h1 := List.length_pos_iff.2 h0
       rw [if_pos (by simp; omega), if_neg (by rw [beq_iff_eq]; omega)])
   clear hr ho hp h5 h6 hn0 hss hit hme e2
   go_enter Tryz.func33, Tryz.ntmps33
   go_upto_region 1 with fail
   generalize w.alloc (.cells #[.int .i64 d.k, .int .i64 d.n, .string (S d.s), .slice p d.its.length cap, .slice q d.mem.length caq] 25) = W at hS ⊢
   obtain ⟨c0, c1, c2, c3, c4, hlw⟩ := hS.cells
   have HB := Lib.hid hS.2
   clear hS
   go_wp2_with fail
   go_quiet (fail)
   go_wp2_with fail
   go_ret2
   exact ⟨_, _, rfl, HF.out, below_drewN HB.out nq⟩
 have t3 : (d.k == 6) = false := beq_eq_false_iff_ne.2 h6
 have e3 : d.mem = [] := by rcases hme with h | h; exact absurd h h6; exact h
 have hc1 : chk d 1 = 0 := (leaf_iff.1 (leaf_of ho e2 e3)).1
 have HF := Lib.hid (show shortY d = (if true = true then some (scalarY d) else none) by
   rw [if_pos rfl]
   unfold scalarY
   rw [if_neg (by rintro (h | h | h); exact h hc1; exact h5 h; exact h6 h)]
   unfold shortY
   split
   · rfl
   · rw [e2, e3]; rfl)
 clear hr ho hp h5 h6 hn0 hss hit hme e2 e3 hc1
 go_enter Tryz.func33, Tryz.ntmps33
 go_upto_region 1 with fail
 generalize w.alloc (.cells #[.int .i64 d.k, .int .i64 d.n, .string (S d.s), .slice p d.its.length cap, .slice q d.mem.length caq] 25) = W at hS ⊢
 obtain ⟨c0, c1, c2, c3, c4, hlw⟩ := hS.cells
 have HB := Lib.hid hS.2
 clear hS
 go_wp2_with fail
 refine (HSC.out _ HB.out).mono ?_
 rintro e w1 ⟨rfl, hb⟩
 have HB1 := Lib.hid (HB.out.trans (hb.mono HB.out.size))
 clear hb
 go_wp2_with fail
 go_ret2
 exact ⟨_, _, rfl, HF.out, HB1.out⟩
end
section
open Go.RowKit
def entL (b : List UInt8) (x : Dat) (n : Nat) : List (Nat × List UInt8) := match shortY x with | some t => [(n, b ++ 32 :: t)] | none => (n, b) :: lnD x (n + 2)
theorem itm_ent (x : Dat) (n : Nat) : itmY x n = entL [45] x n := by unfold itmY entL; cases shortY x <;> rfl
theorem mem_ent (p : List UInt8 × Dat) (n : Nat) : memY p n = entL (strY p.1 ++ [58]) p.2 n := by
 unfold memY entL
 cases shortY p.2 with
 | some t => simp only [List.append_assoc]; rfl
 | none => rfl
def spc (n : Nat) : List UInt8 := List.replicate n 32
theorem spc_two (n : Nat) : ct (spc n) [32, 32] = spc (n + 2) := by
 unfold spc
 rw [ct_eq]
 show List.replicate n 32 ++ List.replicate 2 32 = _
 rw [List.replicate_append_replicate]
theorem spc_len (n : Nat) : (spc n).length = n := by simp [spc]
theorem ent_some {b : List UInt8} {x : Dat} {n : Nat} {t : List UInt8} (h : shortY x = some t) : joinLn (entL b x n) = ct (ct (ct (ct (spc n) b) [32]) t) [10] := by
 unfold entL
 rw [h]
 simp [joinLn, oneLn, ct_eq, spc]
theorem ent_none {b : List UInt8} {x : Dat} {n : Nat} (h : shortY x = none) : joinLn (entL b x n) = ct (ct (ct (spc n) b) [10]) (joinLn (lnD x (n + 2))) := by
 unfold entL
 rw [h]
 simp [joinLn, oneLn, ct_eq, spc]
set_option maxRecDepth 100000 in
set_option maxHeartbeats 4000000 in
theorem refEntry_of {x : Dat} {vi vm : Value} {ok : Nat → Prop} {w : World} (b : List UInt8) (n : Nat) (hr : Rep w ok x vi vm) (ho : ownE x = 0) (hlim : limD x = true) (hlen : (joinLn (entL b x n)).length ≤ 1000000)
   (HBK : shortY x = none → ∀ w', Below w.heap.size w w' → Calls Tryz.prog 34 #[.string (S (spc (n + 2))), .agg #[.int .i64 x.k, .int .i64 x.n, .string (S x.s), vi, vm]] w' fun e w'' => e = .returned (.string (S (joinLn (lnD x (n + 2))))) ∧ Below w'.heap.size w' w'') :
   Calls Tryz.prog 55 #[.string (S (spc n)), .string (S b), .agg #[.int .i64 x.k, .int .i64 x.n, .string (S x.s), vi, vm]] w fun e w' => e = .returned (.string (S (joinLn (entL b x n)))) ∧ Below w.heap.size w w' := by
 have HSH := Lib.hid (fun w' (hb : Below w.heap.size w w') => refShort_yaml (hr.under hb) ho hlim)
 have HB0 := Lib.hid HBK
 obtain ⟨p, cap, rfl, -, -⟩ := hr.items
 obtain ⟨q, caq, rfl, -, -⟩ := hr.members
 have hS : CkS w.heap.size w x (.slice p x.its.length cap) (.slice q x.mem.length caq) (w.alloc (.cells #[.int .i64 x.k, .int .i64 x.n, .string (S x.s), .slice p x.its.length cap, .slice q x.mem.length caq] 25)) := CkS.new w x _ _
 have HES := Lib.hid (fun t (h : shortY x = some t) => ent_some (b := b) (n := n) h)
 have HEN := Lib.hid (fun (h : shortY x = none) => ent_none (b := b) (n := n) h)
 generalize joinLn (entL b x n) = r at hlen HES HEN ⊢
 clear hr ho hlim HBK
 go_enter Tryz.func55, Tryz.ntmps55
 go_upto_region 1 with fail
 generalize w.alloc (.cells #[.int .i64 x.k, .int .i64 x.n, .string (S x.s), .slice p x.its.length cap, .slice q x.mem.length caq] 25) = W at hS ⊢
 obtain ⟨c0, c1, c2, c3, c4, hlw⟩ := hS.cells
 have HS := Lib.hid hS
 clear hS
 go_wp2_with fail
 refine (HSH.out _ HS.out.2).mono ?_
 rintro e w1 ⟨s, sb, rfl, hsy, hb⟩
 have HS1 := Lib.hid (HS.out.below hb)
 clear hb HS c0 c1 c2 c3 c4 hlw HSH
 rcases Bool.eq_false_or_eq_true sb with rfl | rfl
 · have HR := Lib.hid (HES.out s (by rw [hsy, if_pos rfl]))
   have hl : n + b.length + 1 + s.length + 1 ≤ 1000000 := by
     have h1 := hlen
     rw [HR.out] at h1
     simp only [ct_len, spc_len, List.length_cons, List.length_nil] at h1
     omega
   have hsl := spc_len n
   generalize spc n = sp at HR hsl ⊢
   have hlb : b.length ≤ 1000000 := by omega
   have hls : s.length ≤ 1000000 := by omega
   have hlp : sp.length ≤ 1000000 := by omega
   clear hsy hlen hsl hl HES HEN
   go_wp2_with fail
   go_ret
   exact ⟨by rw [HR.out]; rfl, HS1.out.2⟩
 · have hsn : shortY x = none := by rw [hsy]; rfl
   have HR := Lib.hid (HEN.out hsn)
   have HB1 := Lib.hid (HB0.out hsn _ HS1.out.2)
   rw [← spc_two] at HB1
   generalize joinLn (lnD x (n + 2)) = u at HR HB1
   have hl : n + b.length + 1 + u.length ≤ 1000000 := by
     have h1 := hlen
     rw [HR.out] at h1
     simp only [ct_len, spc_len, List.length_cons, List.length_nil] at h1
     omega
   have hsl := spc_len n
   generalize spc n = sp at HR HB1 hsl ⊢
   have hlb : b.length ≤ 1000000 := by omega
   have hlu : u.length ≤ 1000000 := by omega
   have hlp : sp.length ≤ 1000000 := by omega
   obtain ⟨c0, c1, c2, c3, c4, hlw⟩ := HS1.out.cells
   clear hsy hlen hsl hl HES HEN hsn HB0
   go_wp2_with fail
   refine HB1.out.mono ?_
   rintro e w2 ⟨rfl, hb⟩
   have HB2 := Lib.hid (HS1.out.2.trans (hb.mono HS1.out.2.size))
   clear hb HB1 HS1
   go_wp2_with fail
   go_ret
   exact ⟨by rw [HR.out]; rfl, HB2.out⟩
theorem lnI_app : ∀ (a b : List Dat) (i : Nat), lnI (a ++ b) i = lnI a i ++ lnI b i
 | [], b, i => by rw [List.nil_append, lnI, List.nil_append]
 | x :: r, b, i => by rw [List.cons_append, lnI_cons, lnI_cons, lnI_app r b i, List.append_assoc]
theorem lnM_app : ∀ (a b : List (List UInt8 × Dat)) (i : Nat), lnM (a ++ b) i = lnM a i ++ lnM b i
 | [], b, i => by rw [List.nil_append, lnM, List.nil_append]
 | x :: r, b, i => by rw [List.cons_append, lnM_cons, lnM_cons, lnM_app r b i, List.append_assoc]
def accI (d : Dat) (n i : Nat) : List UInt8 := joinLn (lnI (d.its.take i) n)
def accM (d : Dat) (n i : Nat) : List UInt8 := joinLn (lnI d.its n ++ lnM (d.mem.take i) n)
theorem join_two (a b : List (Nat × List UInt8)) : joinLn (a ++ b) = ct (joinLn a) (joinLn b) := by unfold joinLn; rw [List.flatMap_append]; rfl
theorem accI_step {d : Dat} {n i : Nat} (h : i < d.its.length) : accI d n (i + 1) = ct (accI d n i) (joinLn (entL [45] d.its[i] n)) := by
 unfold accI
 rw [List.take_succ_eq_append_getElem h, lnI_app, lnI_cons, show lnI [] n = [] from by rw [lnI], List.append_nil, itm_ent, join_two]
theorem accM_step {d : Dat} {n i : Nat} (h : i < d.mem.length) : accM d n (i + 1) = ct (accM d n i) (joinLn (entL (ct (strY d.mem[i].1) [58]) d.mem[i].2 n)) := by
 unfold accM
 rw [List.take_succ_eq_append_getElem h, lnM_app, lnM_cons, show lnM [] n = [] from by rw [lnM], List.append_nil, mem_ent, ← List.append_assoc, join_two]; rfl
theorem accI_end (d : Dat) (n : Nat) : accI d n d.its.length = accM d n 0 := by
 unfold accI accM
 rw [List.take_length, List.take_zero, show lnM [] n = [] from by rw [lnM], List.append_nil]
theorem accM_end (d : Dat) (n : Nat) : accM d n d.mem.length = joinLn (lnD d n) := by
 unfold accM
 rw [List.take_length, lnD_eq]
theorem accM_le (d : Dat) (n i : Nat) : (accM d n i).length ≤ (joinLn (lnD d n)).length := by
 rw [← accM_end]
 unfold accM
 rw [List.take_length]
 conv => rhs; rw [← List.take_append_drop i d.mem]
 rw [lnM_app, join_two, join_two, join_two, ct_len, ct_len, ct_len]; omega
theorem accI_le (d : Dat) (n i : Nat) : (accI d n i).length ≤ (joinLn (lnD d n)).length := by
 refine Nat.le_trans ?_ (accM_le d n 0)
 unfold accI accM
 rw [List.take_zero, show lnM [] n = [] from by rw [lnM], List.append_nil]
 conv => rhs; rw [← List.take_append_drop i d.its]
 rw [lnI_app, join_two, ct_len]; omega
set_option maxRecDepth 100000 in
set_option maxHeartbeats 8000000 in
theorem refBlock_any (m : Nat) : ∀ (d : Dat), SizeOf.sizeOf d < m → ∀ (lv : Nat) (vi vm : Value) (ok : Nat → Prop) (n : Nat) (w : World), Rep w ok d vi vm → chk d lv = 0 → limD d = true → (joinLn (lnD d n)).length ≤ 1000000 →
   Calls Tryz.prog 34 #[.string (S (spc n)), .agg #[.int .i64 d.k, .int .i64 d.n, .string (S d.s), vi, vm]] w fun e w' => e = .returned (.string (S (joinLn (lnD d n)))) ∧ Below w.heap.size w w' := by
 induction m with
 | zero => intro d h; exact absurd h (Nat.not_lt_zero _)
 | succ m ih =>
   intro d hd lv vi vm ok n w hr hc hlim hlen
   obtain ⟨p, cap, rfl, -, hit⟩ := hr.items
   obtain ⟨q, caq, rfl, -, hme⟩ := hr.members
   obtain ⟨-, ho, hci, hcm⟩ := chk_zero.1 hc
   obtain ⟨-, li, lm, h1, h2⟩ := lim_iff.1 hlim
   have HIT := Lib.hid hit
   have HME := Lib.hid hme
   have HLI := Lib.hid (fun i => Nat.le_trans (accI_le d n i) hlen)
   have HLM := Lib.hid (fun i => Nat.le_trans (accM_le d n i) hlen)
   have HEI := Lib.hid (fun i (h : i < d.its.length) (vi : Value) (vm : Value) (w' : World) (ok' : Nat → Prop) (hr' : Rep w' ok' d.its[i] vi vm) => refEntry_of [45] n hr' (chk_zero.1 (hci _ (List.getElem_mem h))).2.1 (h1 _ (List.getElem_mem h))
     (by have := HLI.out (i + 1); rw [accI_step h, ct_len] at this; omega)
     (fun hs w2 hb2 => ih _ (by have := dat_it (List.getElem_mem h); omega) (lv + 1) vi vm ok' (n + 2) w2 (hr'.under hb2) (hci _ (List.getElem_mem h)) (h1 _ (List.getElem_mem h))
       (by have := HLI.out (i + 1); rw [accI_step h, ent_none hs, ct_len, ct_len] at this; omega)))
   have HEM := Lib.hid (fun i (h : i < d.mem.length) (vi : Value) (vm : Value) (w' : World) (ok' : Nat → Prop) (hr' : Rep w' ok' d.mem[i].2 vi vm) => refEntry_of (ct (strY d.mem[i].1) [58]) n hr' (chk_zero.1 (hcm _ (List.getElem_mem h))).2.1 (h2 _ (List.getElem_mem h)).2
     (by have := HLM.out (i + 1); rw [accM_step h, ct_len] at this; omega)
     (fun hs w2 hb2 => ih _ (by have := dat_mg (List.getElem_mem h); omega) (lv + 1) vi vm ok' (n + 2) w2 (hr'.under hb2) (hcm _ (List.getElem_mem h)) (h2 _ (List.getElem_mem h)).2
       (by have := HLM.out (i + 1); rw [accM_step h, ent_none hs, ct_len, ct_len] at this; omega)))
   have HLB := Lib.hid (fun i (h : i < d.mem.length) => (h2 _ (List.getElem_mem h)).1)
   have HSI := Lib.hid (fun i (h : i < d.its.length) => accI_step (n := n) h)
   have HSM := Lib.hid (fun i (h : i < d.mem.length) => accM_step (n := n) h)
   have HND := Lib.hid (accM_end d n)
   have HNI := Lib.hid (accI_end d n)
   have hS : CkS w.heap.size w d (.slice p d.its.length cap) (.slice q d.mem.length caq) (w.alloc (.cells #[.int .i64 d.k, .int .i64 d.n, .string (S d.s), .slice p d.its.length cap, .slice q d.mem.length caq] 25)) := CkS.new w d _ _
   generalize joinLn (lnD d n) = r at HND ⊢
   clear ih hd hr hc hlim hlen hit hme ho hci hcm h1 h2
   generalize hsp : spc n = sp at *
   go_enter Tryz.func34, Tryz.ntmps34
   go_upto_region 1 with fail
   generalize w.alloc (.cells #[.int .i64 d.k, .int .i64 d.n, .string (S d.s), .slice p d.its.length cap, .slice q d.mem.length caq] 25) = W at hS ⊢
   obtain ⟨c0, c1, c2, c3, c4, hlw⟩ := hS.cells
   have HS := Lib.hid hS
   clear hS
   go_wp2_with fail
   go_loopw [5, 13] (fun u x wr => ∃ i : Nat, u = .string (S (accI d n i)) ∧ x = .int .i64 (i : Int) ∧ i ≤ d.its.length ∧ Hid (CkS w.heap.size w d (.slice p d.its.length cap) (.slice q d.mem.length caq) wr)) (fun _ x _ => d.its.length - (intOf x).toNat)
   case atStart => exact ⟨0, rfl, rfl, Nat.zero_le _, HS⟩
   case round =>
     clear HS c0 c1 c2 c3 c4 hlw
     obtain ⟨i, rfl, rfl, hi, HS⟩ := hrel
     by_cases hlt : i < d.its.length
     · obtain ⟨B, o, xi, xm, rfl, hcap, hB, hcell, hx⟩ := HIT.out i hlt
       obtain ⟨k0, k1, k2, k3, k4⟩ := hcell.below HS.out.2 hB
       have HX := Lib.hid (hx.under HS.out.2)
       have HE := Lib.hid (HEI.out i hlt xi xm)
       have HST := Lib.hid (HSI.out i hlt)
       have hl0 := HLI.out i
       have hl1 := HLI.out (i + 1)
       rw [HST.out, ct_len] at hl1
       obtain ⟨ip, ic, rfl, -, -⟩ := hx.items
       obtain ⟨mp, mc, rfl, -, -⟩ := hx.members
       clear hx hcell
       generalize d.its[i] = x at k0 k1 k2 k3 k4 HX HE HST hl1
       have hN := Blk.new wr #[.int .i64 x.k, .int .i64 x.n, .string (S x.s), .slice ip x.its.length ic, .slice mp x.mem.length mc] 25
       have hb3 := (Below.refl wr.heap.size wr).alloc (Nat.le_refl _) (.cells #[.int .i64 x.k, .int .i64 x.n, .string (S x.s), .slice ip x.its.length ic, .slice mp x.mem.length mc] 25)
       generalize joinLn (entL [45] x n) = u at HE HST hl1
       obtain ⟨c0, c1, c2, c3, c4, hlw⟩ := HS.out.cells
       go_upto_region 5 with fail
       generalize wr.alloc (.cells #[.int .i64 x.k, .int .i64 x.n, .string (S x.s), .slice ip x.its.length ic, .slice mp x.mem.length mc] 25) = W3 at hN hb3 ⊢
       have n0 := hN.cell 0
       have n1 := hN.cell 1
       have n2 := hN.cell 2
       have n3 := hN.cell 3
       have n4 := hN.cell 4
       simp at n0 n1 n2 n3 n4
       have HS3 := Lib.hid (HS.out.below hb3)
       have HX3 := Lib.hid (HX.out.under hb3)
       have hlu : u.length ≤ 1000000 := by omega
       clear hN hb3 c0 c1 c2 c3 c4 hlw k0 k1 k2 k3 k4 hl1
       go_wp2_with fail
       refine (HE.out _ _ HX3.out).mono ?_
       rintro e w4 ⟨rfl, hb⟩
       have HS4 := Lib.hid (HS3.out.below hb)
       clear hb n0 n1 n2 n3 n4 HE HX3 HS3
       go_wp2_with fail
       go_roundw
       case rel => exact ⟨i + 1, by rw [HST.out], by go_num, hlt, HS4⟩
       case measure => simp [intOf]; omega
     · obtain rfl : i = d.its.length := by omega
       rw [HNI.out]
       obtain ⟨c0, c1, c2, c3, c4, hlw⟩ := HS.out.cells
       go_wp2_with fail
       go_loopw [5, 26] (fun u x wr => ∃ i : Nat, u = .string (S (accM d n i)) ∧ x = .int .i64 (i : Int) ∧ i ≤ d.mem.length ∧ Hid (CkS w.heap.size w d (.slice p d.its.length cap) (.slice q d.mem.length caq) wr)) (fun _ x _ => d.mem.length - (intOf x).toNat)
       case atStart => exact ⟨0, rfl, rfl, Nat.zero_le _, HS⟩
       case round =>
         clear HS c0 c1 c2 c3 c4 hlw hi hlt
         obtain ⟨i, rfl, rfl, hi, HS⟩ := hrel
         by_cases hlt : i < d.mem.length
         · obtain ⟨B, o, xi, xm, rfl, hcap, hB, hlab, hcell, hx⟩ := HME.out i hlt
           obtain ⟨k0, k1, k2, k3, k4⟩ := hcell.below HS.out.2 hB
           have k5 := (HS.out.2.cell (p := ⟨B, o + i * 6, none⟩) hB).trans hlab
           have HX := Lib.hid (hx.under HS.out.2)
           have HE := Lib.hid (HEM.out i hlt xi xm)
           have HST := Lib.hid (HSM.out i hlt)
           have hl0 := HLM.out i
           have hl1 := HLM.out (i + 1)
           have hlb := HLB.out i hlt
           rw [HST.out, ct_len] at hl1
           obtain ⟨ip, ic, rfl, -, -⟩ := hx.items
           obtain ⟨mp, mc, rfl, -, -⟩ := hx.members
           clear hx hcell hlab
           generalize d.mem[i] = y at k0 k1 k2 k3 k4 k5 HX HE HST hl1 hlb
           obtain ⟨l, x⟩ := y
           simp only at k0 k1 k2 k3 k4 k5 HX HE HST hl1 hlb
           have hN := Blk.new wr #[.string (S l), .int .i64 x.k, .int .i64 x.n, .string (S x.s), .slice ip x.its.length ic, .slice mp x.mem.length mc] 43
           have hb3 := (Below.refl wr.heap.size wr).alloc (Nat.le_refl _) (.cells #[.string (S l), .int .i64 x.k, .int .i64 x.n, .string (S x.s), .slice ip x.its.length ic, .slice mp x.mem.length mc] 43)
           have HLS := Lib.hid (str_len l)
           generalize joinLn (entL (ct (strY l) [58]) x n) = u at HE HST hl1
           obtain ⟨c0, c1, c2, c3, c4, hlw⟩ := HS.out.cells
           go_upto_region 10 with fail
           generalize hW3 : wr.alloc (.cells #[.string (S l), .int .i64 x.k, .int .i64 x.n, .string (S x.s), .slice ip x.its.length ic, .slice mp x.mem.length mc] 43) = W3 at hN hb3 ⊢
           have hlt3 := hN.lt
           have n0 := hN.cell 0
           have n1 := hN.cell 1
           have n2 := hN.cell 2
           have n3 := hN.cell 3
           have n4 := hN.cell 4
           have n5 := hN.cell 5
           simp at n0 n1 n2 n3 n4 n5
           have HS3 := Lib.hid (HS.out.below hb3)
           have HX3 := Lib.hid (HX.out.under hb3)
           have hlu : u.length ≤ 1000000 := by omega
           have hls : (strY l).length ≤ 5000000 := by have := HLS.out; omega
           have g1 : ¬ (9223372036854775807 : Nat) < (strY l).length + 1 := by omega
           have g2 : ¬ (9223372036854775807 : Nat) < (accM d n i).length + u.length := by omega
           have HKE := Lib.hid (fun w' (hb : Below W3.heap.size W3 w') => And.intro ((hb.cell (p := ⟨wr.heap.size, 0, none⟩) hlt3).trans n0) (And.intro ((hb.cell (p := ⟨wr.heap.size, 1, none⟩) hlt3).trans n1) (And.intro ((hb.cell (p := ⟨wr.heap.size, 2, none⟩) hlt3).trans n2) (And.intro ((hb.cell (p := ⟨wr.heap.size, 3, none⟩) hlt3).trans n3) (And.intro ((hb.cell (p := ⟨wr.heap.size, 4, none⟩) hlt3).trans n4) ((hb.cell (p := ⟨wr.heap.size, 5, none⟩) hlt3).trans n5))))))
           have HB0 := Lib.hid (below_drew (Below.refl W3.heap.size W3))
           clear hN hb3 c0 c1 c2 c3 c4 hlw k0 k1 k2 k3 k4 k5 hl1 hW3 n0 n1 n2 n3 n4 n5
           go_region_held3 (fun w' => w'.cell? ⟨wr.heap.size, 0, none⟩ = some (.string (S l)) ∧ w'.cell? ⟨wr.heap.size, 1, none⟩ = some (.int .i64 x.k) ∧ w'.cell? ⟨wr.heap.size, 2, none⟩ = some (.int .i64 x.n) ∧ w'.cell? ⟨wr.heap.size, 3, none⟩ = some (.string (S x.s)) ∧ w'.cell? ⟨wr.heap.size, 4, none⟩ = some (.slice ip x.its.length ic) ∧ w'.cell? ⟨wr.heap.size, 5, none⟩ = some (.slice mp x.mem.length mc))
             (first
               | with_reducible exact HKE.out _ HB0.out
               | with_reducible exact HKE.out _ HB4.out
               | with_reducible exact HKE.out _ HB5.out
               | go_keep)
             (first
               | (go_at_call 36; refine (refStr_any l hlb _).mono ?_; rintro e x4 ⟨rfl, hb⟩; have HB4 := Lib.hid (HB0.out.trans (hb.mono HB0.out.size)); clear hb)
               | (go_at_call 55; refine (HE.out _ _ (HX3.out.under HB4.out)).mono ?_; rintro e x5 ⟨rfl, hb⟩; have HB5 := Lib.hid (HB4.out.trans (hb.mono HB4.out.size)); clear hb))
           all_goals
             go_wp2_with fail
             go_roundw
             case rel => exact ⟨i + 1, by rw [HST.out], by go_num, hlt, Lib.hid (HS3.out.below HB5.out)⟩
             case measure => simp [intOf]; omega
         · obtain rfl : i = d.mem.length := by omega
           have HB := Lib.hid HS.out.2
           clear HS
           go_wp2_with fail
           go_ret
           exact ⟨by rw [← HND.out]; rfl, HB.out⟩
end
section
open Go.RowKit
theorem mul_one_lo (n : Nat) (h : n ≤ 128) : 1 * n % 18446744073709551616 = n ∧ 1 * n / 18446744073709551616 = 0 := by omega
theorem sl_sp (n : Nat) (h : n ≤ 128) : sl (List.replicate 128 32) 0 n = spc n := by
 unfold sl spc
 rw [List.drop_zero, Nat.sub_zero, List.take_replicate, Nat.min_eq_left h]
set_option maxRecDepth 100000 in
set_option maxHeartbeats 4000000 in
theorem repeat_sp (n : Nat) (hn : n ≤ 128) (w : World) : Calls Tryz.prog 54 #[.string ⟨#[32]⟩, .int .i64 (n : Int)] w fun e w' => e = .returned (.string (S (spc n))) ∧ w' = w := by
 by_cases h0 : n = 0
 · subst h0
   go_enter Tryz.func54, Tryz.ntmps54
   go_wp2_with fail
   go_ret
   exact ⟨rfl, rfl⟩
 by_cases h1 : n = 1
 · subst h1
   go_enter Tryz.func54, Tryz.ntmps54
   go_wp2_with fail
   go_ret
   exact ⟨rfl, rfl⟩
 have t0 : ((n : Int) == 0) = false := by simp; omega
 have t1 : ((n : Int) == 1) = false := by simp; omega
 have t2 : ¬ (n : Int) < 0 := by omega
 have t3 : (n : Int) ≤ 128 := by omega
 have w1' : IntKind.u64.wrap (n : Int) = (n : Int) := IntWalk.u64_in _ (by omega)
 have w2' : IntKind.i64.wrap (n : Int) = (n : Int) := IntWalk.i64_in _ (by omega)
 obtain ⟨e1, e2⟩ := mul_one_lo n hn
 have hm := Tryz.bits_Mul 1 n (by omega) (by omega) w
 rw [e1, e2] at hm
 clear h0 h1
 go_enter Tryz.func54, Tryz.ntmps54
 go_wp2_with fail
 refine hm.mono ?_
 rintro e w' ⟨rfl, rfl⟩
 go_wp2_with fail
 refine (Tryz.strings_HasPrefix _ _ _).mono ?_
 rintro e w' ⟨rfl, rfl⟩
 rw [show Lib.hasPrefix _ _ = true from rfl]
 go_wp2_with fail
 go_ret
 exact ⟨congrArg (fun x => Ending.returned (.string (S x))) (sl_sp n hn), rfl⟩
end
section
open Go.RowKit Go.Shelf
attribute [local go_sem] Oper.semAt_some
structure YEnt where
 b : List UInt8
 x : Dat
 vi : Value
 vm : Value
def YEnt.enc (e : YEnt) : Array Value := #[.agg #[.string (S e.b), .int .i64 e.x.k, .int .i64 e.x.n, .string (S e.x.s), e.vi, e.vm]]
structure EntsAt (w : World) (ok : Nat → Prop) (d : Dat) (p q : Option Addr) (cap caq : Nat) (E : List YEnt) : Prop where
 len : E.length = d.its.length + d.mem.length
 it : ∀ (i : Nat) (h : i < d.its.length), ∃ B o e, p = some ⟨B, o, none⟩ ∧ d.its.length ≤ cap ∧ B < w.heap.size ∧ E[i]? = some e ∧ e.b = [45] ∧ e.x = d.its[i] ∧ DCell w B (o + i * 5) e.x e.vi e.vm ∧ Rep w ok e.x e.vi e.vm
 me : ∀ (i : Nat) (h : i < d.mem.length), ∃ B o e, q = some ⟨B, o, none⟩ ∧ d.mem.length ≤ caq ∧ B < w.heap.size ∧ E[d.its.length + i]? = some e ∧ e.b = ct (strY d.mem[i].1) [58] ∧ e.x = d.mem[i].2 ∧ w.cell? ⟨B, o + i * 6, none⟩ = some (.string (S d.mem[i].1)) ∧ DCell w B (o + i * 6 + 1) e.x e.vi e.vm ∧ Rep w ok e.x e.vi e.vm
theorem list_pick {α : Type} {P : Nat → α → Prop} : ∀ n, (∀ i, i < n → ∃ y, P i y) → ∃ L : List α, L.length = n ∧ ∀ i, i < n → ∃ y, L[i]? = some y ∧ P i y
 | 0, _ => ⟨[], rfl, fun i h => absurd h (Nat.not_lt_zero _)⟩
 | n + 1, h => by
   obtain ⟨L, hl, hp⟩ := list_pick n (fun i hi => h i (by omega))
   obtain ⟨y, hy⟩ := h n (by omega)
   refine ⟨L ++ [y], by simp [hl], fun i hi => ?_⟩
   by_cases e : i = n
   · subst e
     exact ⟨y, by rw [List.getElem?_append_right (by omega), hl, Nat.sub_self]; rfl, hy⟩
   · obtain ⟨z, hz, hz2⟩ := hp i (by omega)
     exact ⟨z, by rw [List.getElem?_append_left (by omega)]; exact hz, hz2⟩
theorem ents_of {w : World} {ok : Nat → Prop} {d : Dat} {p q : Option Addr} {m1 m2 cap caq : Nat} (h : Rep w ok d (.slice p m1 cap) (.slice q m2 caq)) : ∃ E, EntsAt w ok d p q cap caq E := by
 obtain ⟨p', cap', e1, -, hit⟩ := h.items
 obtain ⟨q', caq', e2, -, hme⟩ := h.members
 cases e1; cases e2
 obtain ⟨L1, l1, h1⟩ := list_pick (α := YEnt) (P := fun i e => ∃ h : i < d.its.length, ∃ B o, p = some ⟨B, o, none⟩ ∧ d.its.length ≤ cap ∧ B < w.heap.size ∧ e.b = [45] ∧ e.x = d.its[i] ∧ DCell w B (o + i * 5) e.x e.vi e.vm ∧ Rep w ok e.x e.vi e.vm) d.its.length (fun i hi => by
   obtain ⟨B, o, xi, xm, a1, a2, a3, a4, a5⟩ := hit i hi
   exact ⟨⟨[45], d.its[i], xi, xm⟩, hi, B, o, a1, a2, a3, rfl, rfl, a4, a5⟩)
 obtain ⟨L2, l2, h2⟩ := list_pick (α := YEnt) (P := fun i e => ∃ h : i < d.mem.length, ∃ B o, q = some ⟨B, o, none⟩ ∧ d.mem.length ≤ caq ∧ B < w.heap.size ∧ e.b = ct (strY d.mem[i].1) [58] ∧ e.x = d.mem[i].2 ∧ w.cell? ⟨B, o + i * 6, none⟩ = some (.string (S d.mem[i].1)) ∧ DCell w B (o + i * 6 + 1) e.x e.vi e.vm ∧ Rep w ok e.x e.vi e.vm) d.mem.length (fun i hi => by
   obtain ⟨B, o, xi, xm, a1, a2, a3, a4, a5, a6⟩ := hme i hi
   exact ⟨⟨ct (strY d.mem[i].1) [58], d.mem[i].2, xi, xm⟩, hi, B, o, a1, a2, a3, rfl, rfl, a4, a5, a6⟩)
 refine ⟨L1 ++ L2, by simp [l1, l2], fun i hi => ?_, fun i hi => ?_⟩
 · obtain ⟨e, he, _, B, o, a1, a2, a3, a4, a5, a6, a7⟩ := h1 i hi
   exact ⟨B, o, e, a1, a2, a3, by rw [List.getElem?_append_left (by omega)]; exact he, a4, a5, a6, a7⟩
 · obtain ⟨e, he, _, B, o, a1, a2, a3, a4, a5, a6, a7, a8⟩ := h2 i hi
   exact ⟨B, o, e, a1, a2, a3, by rw [List.getElem?_append_right (by omega), l1, Nat.add_sub_cancel_left]; exact he, a4, a5, a6, a7, a8⟩
def KpY (N Bn : Nat) (A B : World) : Prop := A.heap.size ≤ B.heap.size ∧ (∀ j, j < N → B.heap[j]? = A.heap[j]?) ∧ B.heap[Bn]? = A.heap[Bn]?
theorem KpY.trans {N Bn : Nat} {A B C : World} (h : KpY N Bn A B) (k : KpY N Bn B C) : KpY N Bn A C := ⟨Nat.le_trans h.1 k.1, fun j hj => (k.2.1 j hj).trans (h.2.1 j hj), k.2.2.trans h.2.2⟩
theorem KpY.refl (N Bn : Nat) (A : World) : KpY N Bn A A := ⟨Nat.le_refl _, fun _ _ => rfl, rfl⟩
theorem KpY.below {N Bn : Nat} {A B C : World} (h : KpY N Bn A B) (hN : N ≤ B.heap.size) (hBn : Bn < B.heap.size) (hb : Below B.heap.size B C) : KpY N Bn A C := ⟨Nat.le_trans h.1 hb.size, fun j hj => (hb.block j (by omega)).trans (h.2.1 j hj), (hb.block Bn hBn).trans h.2.2⟩
def OldY (N : Nat) (A B : World) : Prop := ∀ j, j < N → B.heap[j]? = A.heap[j]?
theorem OldY.below {N : Nat} {A B C : World} (h : OldY N A B) (hN : N ≤ B.heap.size) (hb : Below B.heap.size B C) : OldY N A C := fun j hj => (hb.block j (by omega)).trans (h j hj)
theorem OldY.kept {N Bn : Nat} {A B C : World} (h : OldY N A B) (k : KpY N Bn B C) : OldY N A C := fun j hj => (k.2.1 j hj).trans (h j hj)
theorem OldY.cell {N : Nat} {A B : World} (h : OldY N A B) {b o : Nat} (hb : b < N) : B.cell? ⟨b, o, none⟩ = A.cell? ⟨b, o, none⟩ := World.cell?_of_block (h b hb)
theorem OldY.dcell {N : Nat} {A B : World} (h : OldY N A B) {b o : Nat} {d : Dat} {vi vm : Value} (hb : b < N) (hc : DCell A b o d vi vm) : DCell B b o d vi vm :=
 ⟨(h.cell hb).trans hc.c0, (h.cell hb).trans hc.c1, (h.cell hb).trans hc.c2, (h.cell hb).trans hc.c3, (h.cell hb).trans hc.c4⟩
theorem below_abides {β : Type} {B : Nat} {J : β → World → Prop} (h : AbidesFrom B J) {s : β} {W W' : World} (hs : J s W) (hb : Below W.heap.size W W') : J s W' :=
 h s W W' none hs ⟨hb.os, hb.tape, hb.output, hb.size, fun k hk _ => hb.block k hk⟩ (fun r e => by cases e)
theorem alloc_below (W : World) (o : Obj) : Below W.heap.size W (W.alloc o) := (Below.refl _ _).alloc (Nat.le_refl _) o
set_option maxRecDepth 100000 in
set_option maxHeartbeats 4000000 in
theorem ents1_in (n : Nat) (hn : 1 ≤ n) (y Bn : Nat) {d : Dat} {p q : Option Addr} {cap caq : Nat} {E : List YEnt} {w0 : World} {ok : Nat → Prop} (hE : EntsAt w0 ok d p q cap caq E) (hlab : ∀ m ∈ d.mem, m.1.length ≤ 1000000)
   (hi1 : d.its.length ≤ 1000000) (hm1 : d.mem.length ≤ 1000000) (J Jx : List YEnt → World → Prop) (W : World) (hJ : AbidesFrom W.heap.size J)
   (hY : ∀ pre x W1, x ∈ E → J pre W1 → pre.length < E.length → YieldAt Fence.wide (n - 1) Tryz.prog y (YEnt.enc x) W1 fun e W' =>
     (e = .returned (.bool true) ∧ J (pre ++ [x]) W' ∧ KpY w0.heap.size Bn W1 W') ∨ (e = .returned (.bool false) ∧ Jx (pre ++ [x]) W'))
   (h0W : OldY w0.heap.size w0 W) (hBw : w0.heap.size ≤ Bn) (hBn : Blk W Bn (boxD d (.slice p d.its.length cap) (.slice q d.mem.length caq)) 25) (h0 : J [] W) :
   CallsIn Fence.wide n Tryz.prog 76 #[.func (.yield y) #[] #[], .pointer (some ⟨Bn, 0, none⟩)] W fun e W' => (∃ v, e = .returned v) ∧
     ((∃ xs, xs = E ∧ J xs W') ∨ (∃ pre, True ∧ Jx pre W')) := by
 have c3 : W.cell? ⟨Bn, 3, none⟩ = some (.slice p d.its.length cap) := hBn.cell 3
 refine callsIn_of_wp Tryz.func76 rfl trivial ?_ rfl
 simp only [Tryz.ntmps76, List.size_toArray, List.length_cons, List.length_nil, Nat.reduceAdd, Nat.reduceSub, Array.replicate_succ, Array.replicate_zero, List.push_toArray, List.append_toArray, List.nil_append, List.cons_append]
 gi_wp2
 clear c3
 gi_loopw [10] (fun i wr => ∃ k : Nat, k ≤ d.its.length ∧ i = .int .i64 k ∧ J (E.take k) wr ∧ OldY w0.heap.size w0 wr ∧ Blk wr Bn (boxD d (.slice p d.its.length cap) (.slice q d.mem.length caq)) 25)
   (fun i _ => d.its.length - (intOf i).toNat)
 case atStart => exact ⟨0, Nat.zero_le _, rfl, h0, h0W, hBn⟩
 case round =>
   obtain ⟨k, hk, rfl, hJk, hKk, hbx⟩ := hrel
   by_cases hlt : k < d.its.length
   · obtain ⟨B, o, e, rfl, hcap, hB, hEk, hb, -, hdc, hrp⟩ := hE.it k hlt
     obtain ⟨b, x, vi, vm⟩ := e
     obtain rfl : b = [45] := hb
     obtain ⟨ip, ic, hvi, -, -⟩ := hrp.items
     obtain ⟨mp, mc, hvm, -, -⟩ := hrp.members
     obtain rfl : vi = .slice ip x.its.length ic := hvi
     obtain rfl : vm = .slice mp x.mem.length mc := hvm
     obtain ⟨k0, k1, k2, k3, k4⟩ := hKk.dcell hB hdc
     have hkl : k < E.length := by have := hE.len; omega
     have hJ2 := below_abides hJ hJk (alloc_below wr (.cells #[.int .i64 x.k, .int .i64 x.n, .string (S x.s), .slice ip x.its.length ic, .slice mp x.mem.length mc] 25))
     obtain ⟨fn, tmps, assign, body, hy, hR⟩ := hY (E.take k) ⟨[45], x, .slice ip x.its.length ic, .slice mp x.mem.length mc⟩ _ (List.mem_of_getElem? hEk) hJ2 (by rw [List.length_take]; omega)
     change (Instr.yield y #[.agg #[.string ⟨#[45]⟩, .int .i64 x.k, .int .i64 x.n, .string (S x.s), .slice ip x.its.length ic, .slice mp x.mem.length mc]]).run _ _ = _ at hy
     gi_wp2_with fail
     refine hR.mono ?_
     rintro e' W3 (⟨rfl, hJ3, hk3⟩ | ⟨rfl, hJx3⟩)
     · gi_wp2
       go_roundw
       case rel =>
         refine ⟨k + 1, hlt, by go_num, ?_, ?_, ?_⟩
         · rw [List.take_add_one, hEk]; exact hJ3
         · exact (hKk.below (by have := hbx.lt; omega) (alloc_below _ _)).kept hk3
         · exact hk3.2.2.trans (hbx.alloc _)
       case measure => simp [intOf]; omega
     · gi_wp2
       refine bodyPost_ret (results_none rfl _ _ _) rfl ?_
       exact ⟨⟨_, rfl⟩, .inr ⟨_, trivial, hJx3⟩⟩
   · have c4 : wr.cell? ⟨Bn, 4, none⟩ = some (.slice q d.mem.length caq) := hbx.cell 4
     obtain rfl : k = d.its.length := by omega
     clear hlt hk
     gi_wp2
     clear c4
     gi_loopw [23] (fun i wr => ∃ k : Nat, k ≤ d.mem.length ∧ i = .int .i64 k ∧ J (E.take (d.its.length + k)) wr ∧ OldY w0.heap.size w0 wr ∧ Blk wr Bn (boxD d (.slice p d.its.length cap) (.slice q d.mem.length caq)) 25)
       (fun i _ => d.mem.length - (intOf i).toNat)
     case atStart => exact ⟨0, Nat.zero_le _, rfl, hJk, hKk, hbx⟩
     case round =>
       clear hJk hKk hbx
       obtain ⟨k, hk, rfl, hJk, hKk, hbx⟩ := hrel
       by_cases hlt : k < d.mem.length
       · obtain ⟨B, o, e, rfl, hcap, hB, hEk, hb, -, hl0, hdc, hrp⟩ := hE.me k hlt
         obtain ⟨b, x, vi, vm⟩ := e
         obtain rfl : b = ct (strY d.mem[k].1) [58] := hb
         obtain ⟨ip, ic, hvi, -, -⟩ := hrp.items
         obtain ⟨mp, mc, hvm, -, -⟩ := hrp.members
         obtain rfl : vi = .slice ip x.its.length ic := hvi
         obtain rfl : vm = .slice mp x.mem.length mc := hvm
         obtain ⟨k0, k1, k2, k3, k4⟩ := hKk.dcell hB hdc
         have k5 := (hKk.cell hB).trans hl0
         have hkl : d.its.length + k < E.length := by have := hE.len; omega
         have hlb := hlab _ (List.getElem_mem hlt)
         generalize d.mem[k].1 = l at *
         have hN := Blk.new wr #[.string (S l), .int .i64 x.k, .int .i64 x.n, .string (S x.s), .slice ip x.its.length ic, .slice mp x.mem.length mc] 43
         have hb3 := alloc_below wr (.cells #[.string (S l), .int .i64 x.k, .int .i64 x.n, .string (S x.s), .slice ip x.its.length ic, .slice mp x.mem.length mc] 43)
         gi_upto_region 8 with fail
         generalize wr.alloc (.cells #[.string (S l), .int .i64 x.k, .int .i64 x.n, .string (S x.s), .slice ip x.its.length ic, .slice mp x.mem.length mc] 43) = W3 at hN hb3 ⊢
         have n0 := hN.cell 0
         have n1 := hN.cell 1
         have n2 := hN.cell 2
         have n3 := hN.cell 3
         have n4 := hN.cell 4
         have n5 := hN.cell 5
         simp at n0 n1 n2 n3 n4 n5
         have hlt3 := hN.lt
         have hls := str_len l
         have g1 : ¬ (9223372036854775807 : Nat) < (strY l).length + 1 := by omega
         have HYY := Lib.hid (fun w' (hb : Below W3.heap.size W3 w') => (by
           have hJ2 := below_abides hJ hJk (hb3.trans (hb.mono hb3.size))
           obtain ⟨fn, tmps, assign, body, hy, hR⟩ := hY (E.take (d.its.length + k)) ⟨ct (strY l) [58], x, .slice ip x.its.length ic, .slice mp x.mem.length mc⟩ _ (List.mem_of_getElem? hEk) hJ2 (by rw [List.length_take]; omega)
           refine ⟨fn, tmps, assign, body, hy, hR.mono ?_⟩
           rintro e' W5 (⟨rfl, h1, h2⟩ | ⟨rfl, h1⟩)
           · exact ⟨true, rfl, .inl ⟨rfl, h1, h2⟩⟩
           · exact ⟨false, rfl, .inr ⟨rfl, h1⟩⟩ :
           YieldAt Fence.wide (n - 1) Tryz.prog y #[.agg #[.string (S (ct (strY l) [58])), .int .i64 x.k, .int .i64 x.n, .string (S x.s), .slice ip x.its.length ic, .slice mp x.mem.length mc]] w' fun e' W' => ∃ b, e' = .returned (.bool b) ∧ ((b = true ∧ J (E.take (d.its.length + k) ++ [⟨ct (strY l) [58], x, .slice ip x.its.length ic, .slice mp x.mem.length mc⟩]) W' ∧ KpY w0.heap.size Bn w' W') ∨ (b = false ∧ Jx (E.take (d.its.length + k) ++ [⟨ct (strY l) [58], x, .slice ip x.its.length ic, .slice mp x.mem.length mc⟩]) W'))))
         have HKE := Lib.hid (fun w' (hb : Below W3.heap.size W3 w') => And.intro ((hb.cell (p := ⟨wr.heap.size, 0, none⟩) hlt3).trans n0) (And.intro ((hb.cell (p := ⟨wr.heap.size, 1, none⟩) hlt3).trans n1) (And.intro ((hb.cell (p := ⟨wr.heap.size, 2, none⟩) hlt3).trans n2) (And.intro ((hb.cell (p := ⟨wr.heap.size, 3, none⟩) hlt3).trans n3) (And.intro ((hb.cell (p := ⟨wr.heap.size, 4, none⟩) hlt3).trans n4) ((hb.cell (p := ⟨wr.heap.size, 5, none⟩) hlt3).trans n5))))))
         have HKK := Lib.hid hKk
         have HBX := Lib.hid hbx
         have HB3 := Lib.hid hb3
         have HB0 := Lib.hid (below_drew (Below.refl W3.heap.size W3))
         clear hN hb3 k0 k1 k2 k3 k4 k5 hKk hbx hJk
         gi_region_with (first
           | (refine ⟨trivial, ?_⟩; gi_at_call 51; refine (callsIn_wide.2 (str_any l hlb _)).mono ?_; rintro e x4 ⟨rfl, hb⟩; have HB4 := Lib.hid (HB0.out.trans (hb.mono HB0.out.size)); clear hb; obtain ⟨fn, tmps, assign, body, hy, hR⟩ := HYY.out x4 HB4.out; obtain ⟨m0, m1, m2, m3, m4, m5⟩ := HKE.out x4 HB4.out)
           | (refine hR.mono ?_; rintro e' W5 ⟨b, rfl, hres⟩))
         all_goals
           rcases hres with ⟨rfl, hJ3, hk3⟩ | ⟨rfl, hJx3⟩
           · have hlt2 := HBX.out.lt
             have hb34 := HB3.out.trans (HB4.out.mono HB3.out.size)
             gi_wp2
             go_roundw
             case rel =>
               refine ⟨k + 1, hlt, by go_num, ?_, ?_, ?_⟩
               · rw [← Nat.add_assoc, List.take_add_one, hEk]; exact hJ3
               · exact (HKK.out.below (by omega) hb34).kept hk3
               · exact hk3.2.2.trans ((hb34.block Bn hlt2).trans HBX.out)
             case measure => simp [intOf]; omega
           · gi_wp2
             refine bodyPost_ret (results_none rfl _ _ _) rfl ?_
             exact ⟨⟨_, rfl⟩, .inr ⟨_, trivial, hJx3⟩⟩
       · gi_wp2
         go_end0
         exact ⟨⟨_, rfl⟩, .inl ⟨E, rfl, by rw [List.take_of_length_le (by have := hE.len; omega)] at hJk; exact hJk⟩⟩
theorem entries_in (n : Nat) (d : Dat) (vi vm : Value) (p q : Option Addr) (cap caq : Nat) (h1 : vi = .slice p d.its.length cap) (h2 : vm = .slice q d.mem.length caq) (w : World) :
   CallsIn Fence.wide n Tryz.prog 53 #[.agg #[.int .i64 d.k, .int .i64 d.n, .string (S d.s), vi, vm]] w fun e w' => e = .returned (.func (.func 76) #[] #[.pointer (some ⟨w.heap.size, 0, none⟩)]) ∧ w' = w.alloc (.cells (boxD d vi vm) 25) := by
 subst h1 h2
 refine callsIn_of_wp Tryz.func53 rfl trivial ?_ rfl
 simp only [Tryz.ntmps53, List.size_toArray, List.length_cons, List.length_nil, Nat.reduceAdd, Nat.reduceSub, Array.replicate_succ, Array.replicate_zero, List.push_toArray, List.append_toArray, List.nil_append, List.cons_append]
 gi_wp2
 go_ret
 exact ⟨rfl, rfl⟩
theorem ents_stops (n : Nat) (hn : 1 ≤ n) (Bn : Nat) {d : Dat} {p q : Option Addr} {cap caq : Nat} {E : List YEnt} {w0 : World} {ok : Nat → Prop} (hE : EntsAt w0 ok d p q cap caq E) (hlab : ∀ m ∈ d.mem, m.1.length ≤ 1000000)
   (hi1 : d.its.length ≤ 1000000) (hm1 : d.mem.length ≤ 1000000) (w : World) (h0W : OldY w0.heap.size w0 w) (hBw : w0.heap.size ≤ Bn) (hBn : Blk w Bn (boxD d (.slice p d.its.length cap) (.slice q d.mem.length caq)) 25) :
   SeqStopsK Fence.wide n Tryz.prog 76 #[.pointer (some ⟨Bn, 0, none⟩)] (fun x : {e : YEnt // e ∈ E} => YEnt.enc x.1) (KpY w0.heap.size Bn) (fun ys => ys.map (·.1) = E) (fun _ => True) E.length w := by
 intro y J Jx W hW hJ hJx hY h0
 refine (ents1_in n hn y Bn hE hlab hi1 hm1 (fun pre W => ∃ pre' : List {e : YEnt // e ∈ E}, pre'.map (·.1) = pre ∧ J pre' W) (fun pre W => ∃ pre' : List {e : YEnt // e ∈ E}, pre'.map (·.1) = pre ∧ Jx pre' W) W ?_ ?_
   (h0W.below (by have := hBn.lt; omega) hW) hBw (hBn.below hW) ⟨[], rfl, h0⟩).mono ?_
 · rintro s A B row ⟨pre', h1, h2⟩ hg hr
   exact ⟨pre', h1, hJ pre' A B row h2 hg hr⟩
 · rintro pre x W1 hx ⟨pre', rfl, h2⟩ hl
   obtain ⟨fn, tmps, assign, body, hy, hR⟩ := hY pre' ⟨x, hx⟩ W1 h2 (by rw [List.length_map] at hl; exact hl)
   refine ⟨fn, tmps, assign, body, hy, hR.mono ?_⟩
   rintro e' W' (⟨rfl, h3, h4⟩ | ⟨rfl, h3⟩)
   · exact .inl ⟨rfl, ⟨_, by rw [List.map_append]; rfl, h3⟩, h4⟩
   · exact .inr ⟨rfl, ⟨_, by rw [List.map_append]; rfl, h3⟩⟩
 · rintro e' W' ⟨hv, ⟨xs, rfl, ⟨pre', h1, h2⟩⟩ | ⟨pre, -, ⟨pre', h1, h2⟩⟩⟩
   · exact ⟨hv, .inl ⟨pre', h1, h2⟩⟩
   · exact ⟨hv, .inr ⟨pre', trivial, h2⟩⟩
end
end Go.Proofs.YtdalfkklkeblaaaGreatDoor
