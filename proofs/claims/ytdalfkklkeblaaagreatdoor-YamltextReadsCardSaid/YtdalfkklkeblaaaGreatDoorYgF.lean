import Derived.Test.YtdalfkklkeblaaaGreatDoorN31
namespace Go.Proofs.YtdalfkklkeblaaaGreatDoor
set_option linter.unusedSimpArgs false
set_option linter.unusedVariables false
open Go.RowKit
theorem DtS.fresh {lo Bd N : Nat} {kd : Int} {A : List (Dat × Value × Value)} {M M' : List (List UInt8 × Dat × Value × Value)} {vi vm v' : Value} {W w5 : World} (h : DtS lo Bd N kd A M vi vm W) (hb : Below W.heap.size W w5) (ho : w5.ownsRow W.heap.size 43 6 v' M'.length (flat6 M')) (hM : ∀ t ∈ M', Rep w5 (apY lo Bd vi vm) t.2.1 t.2.2.1 t.2.2.2 ∧ Rep W (apY lo Bd vi vm) t.2.1 t.2.2.1 t.2.2.2) : DtS lo Bd N kd A M' vi v' (w5.setCell ⟨Bd, 4, none⟩ v') := by
 obtain ⟨n1, n2, n3⟩ := h.nr
 have hv : ∀ B, B < W.heap.size → some B ≠ v'.ownBlock := fun B hB e => by have := (own_ge ho e.symm).1; omega
 have hr : ∀ {b s n : Nat} {e : TypeId} {v : Value} {xs : List Value} {X : World}, X.ownsRow b e s v n xs → N ≤ b → v.ownBlock ≠ some Bd := fun hw hb => by
   rcases own_two hw with e | ⟨g, e, h1, -⟩
   · rw [e]; simp
   · rw [e]; intro e2; injection e2; omega
 have hmono : ∀ {d : Dat} {yi ym : Value}, Rep W (apY lo Bd vi vm) d yi ym → Rep (w5.setCell ⟨Bd, 4, none⟩ v') (apY lo Bd vi v') d yi ym := fun hd =>
   ((hd.mono (ok' := apY lo Bd vi v') fun B hB hk => ⟨hk.1, hk.2.1, hk.2.2.1, hv B hB⟩).under hb).set _ _ fun B hB e => hB.2.1 e.symm
 exact ⟨(h.blk.below hb).set 4 v', own_set_other (own_under h.its hb) (hr (own_under h.its hb) (Nat.le_refl _)) _ _, own_set_other (own_lower ho n3) (hr ho n3) _ _, fun t ht => hmono (h.ga t ht), fun t ht => hmono (hM t ht).2, ⟨n1, n2, by have := hb.size; simp; omega⟩⟩
structure RpS (ws : World) (L : List Ln) (many ind : Nat) (R : Except (Nat × Nat) (Dat × List Ln)) (idx : Nat) (kd : Int) (A : List (Dat × Value × Value)) (M : List (List UInt8 × Dat × Value × Value)) (vi vm : Value) (its : List Dat) (mem : List (List UInt8 × Dat)) (W : World) : Prop where
 dt : DtS ws.heap.size ws.heap.size (ws.heap.size + 1) kd A M vi vm W
 bes : Below ws.heap.size ws W
 eq : R = blkR many ind kd its mem (L.drop idx)
 le : idx ≤ L.length
 few : its.length + mem.length ≤ idx
 ha : A.map (fun t => t.1) = its.map srtD
 hm : M.map (fun t => (t.1, t.2.1)) = sortM (mem.map fun p => (p.1, srtD p.2))
 nd : (mem.map fun p => p.1).Nodup
variable {ws W w5 : World} {L : List Ln} {many ind idx : Nat} {R : Except (Nat × Nat) (Dat × List Ln)} {kd : Int} {A : List (Dat × Value × Value)} {M : List (List UInt8 × Dat × Value × Value)} {vi vm : Value} {its : List Dat} {mem : List (List UInt8 × Dat)}
theorem RpS.below {W' : World} (h : RpS ws L many ind R idx kd A M vi vm its mem W) (hb : Below W.heap.size W W') : RpS ws L many ind R idx kd A M vi vm its mem W' :=
 ⟨h.dt.under hb, h.bes.trans (hb.mono h.bes.size), h.eq, h.le, h.few, h.ha, h.hm, h.nd⟩
theorem RpS.lens (h : RpS ws L many ind R idx kd A M vi vm its mem W) : A.length = its.length ∧ M.length = mem.length := by
 constructor
 · have := congrArg List.length h.ha; simpa using this
 · have := congrArg List.length h.hm
   rw [(sort_perm _).length_eq] at this
   simpa using this
theorem RpS.labels (h : RpS ws L many ind R idx kd A M vi vm its mem W) (lab : List UInt8) : (lab ∈ M.map fun t => t.1) ↔ lab ∈ mem.map fun p => p.1 := by
 have e : (M.map fun t => t.1) = (M.map fun t => (t.1, t.2.1)).map fun p => p.1 := by rw [List.map_map]; rfl
 rw [e, h.hm, sort_labels, srt_labels]
theorem RpS.rep (h : RpS ws L many ind R idx kd A M vi vm its mem W) (hL : L.length ≤ 1000000) : Rep W (fun B => ws.heap.size ≤ B) (srtD (.mk kd 0 [] its mem)) vi vm := by
 have hl := h.lens
 have h1 := h.few
 have h2 := h.le
 have h3 := h.dt.rep ⟨by omega, by omega⟩
 rw [h.ha, h.hm] at h3
 rw [srtD_eq]
 exact h3
theorem RpS.item (h : RpS ws L many ind R idx 5 A M vi vm its mem W) {d : Dat} {xi xm v' : Value} {o : Obj} (hx : Rep W (apY ws.heap.size ws.heap.size vi vm) (srtD d) xi xm)
   (ho : w5.ownsRow (ws.heap.size + 1) 25 5 v' (A.length + 1) (flat5 A ++ [.int .i64 (srtD d).k, .int .i64 (srtD d).n, .string (S (srtD d).s), xi, xm])) (hg : (W.alloc o).grownBy w5 vi.ownBlock) (ha : v'.ownBlock = vi.ownBlock ∨ v'.ownBlock = some (W.alloc o).heap.size)
   {idx' : Nat} (heq : R = blkR many ind 5 (its ++ [d]) mem (L.drop idx')) (hle : idx < idx' ∧ idx' ≤ L.length) :
   RpS ws L many ind R idx' 5 (A ++ [(srtD d, xi, xm)]) M v' vm (its ++ [d]) mem (w5.setCell ⟨ws.heap.size, 3, none⟩ v') := by
 have hgr := grown_push (Bd := ws.heap.size) (v' := v') (below_grown h.bes (Nat.le_refl _) none) h.dt.its (by omega) hg 3 (Nat.le_refl _)
 have hf := h.few
 refine ⟨h.dt.item_end hx ho hg ha, grown_below hgr, heq, hle.2, by simp; omega, ?_, h.hm, h.nd⟩
 rw [List.map_append, List.map_append, h.ha]; rfl
theorem RpS.memb (h : RpS ws L many ind R idx 6 A M vi vm its mem W) {d : Dat} {lab : List UInt8} {xi xm : Value} (hx : Rep W (apY ws.heap.size ws.heap.size vi vm) (srtD d) xi xm) (hn : lab ∉ mem.map fun p => p.1)
   {vp : Option Addr} {vc k : Nat} (hK : k = 0 ∨ ∃ p, M[k - 1]? = some p ∧ Op.bytesLess lab p.1 = false) (hD : ∀ p ∈ M.drop k, Op.bytesLess lab p.1 = true)
   (ho : w5.ownsRow W.heap.size 43 6 (.slice vp (M.length + 1) vc) (M.length + 1) (flat6 (M.take k ++ (lab, srtD d, xi, xm) :: M.drop k))) (hb : Below W.heap.size W w5)
   {idx' : Nat} (heq : R = blkR many ind 6 its (mem ++ [(lab, d)]) (L.drop idx')) (hle : idx < idx' ∧ idx' ≤ L.length) :
   RpS ws L many ind R idx' 6 A (M.take k ++ (lab, srtD d, xi, xm) :: M.drop k) vi (.slice vp (M.length + 1) vc) its (mem ++ [(lab, d)]) (w5.setCell ⟨ws.heap.size, 4, none⟩ (.slice vp (M.length + 1) vc)) := by
 have hl : (M.take k ++ (lab, srtD d, xi, xm) :: M.drop k).length = M.length + 1 := by
   have := congrArg List.length (List.take_append_drop k M)
   rw [List.length_append] at this ⊢
   rw [List.length_cons]; omega
 have hf := h.few
 refine ⟨h.dt.fresh hb (by rw [hl]; exact ho) fun t ht => ?_, (h.bes.trans (hb.mono h.bes.size)).setCell (Nat.le_refl _) _, heq, hle.2, by simp; omega, h.ha, ?_, ?_⟩
 · have hr : Rep W (apY ws.heap.size ws.heap.size vi vm) t.2.1 t.2.2.1 t.2.2.2 := by
     rcases List.mem_append.1 ht with ht | ht
     · exact h.dt.gm t (List.mem_of_mem_take ht)
     · rcases List.mem_cons.1 ht with rfl | ht
       · exact hx
       · exact h.dt.gm t (List.mem_of_mem_drop ht)
   exact ⟨hr.under hb, hr⟩
 · have hasc : ascP (sortM (mem.map fun p => (p.1, srtD p.2))) := asc_sort (by rw [srt_labels]; exact h.nd)
   have e0 : sortM ((mem ++ [(lab, d)]).map fun p => (p.1, srtD p.2)) = insM (lab, srtD d) (sortM (mem.map fun p => (p.1, srtD p.2))) := by rw [List.map_append, List.map_cons, List.map_nil, sort_snoc]
   rw [e0, ← h.hm]
   rw [← h.hm] at hasc
   have e := ins_from (m := (lab, srtD d)) (n := k) hasc (by
     rcases hK with h0 | ⟨p, hp, hq⟩
     · exact .inl h0
     · exact .inr ⟨(p.1, p.2.1), by rw [List.getElem?_map, hp]; rfl, hq⟩) (by
     intro p hp
     rw [← List.map_drop] at hp
     obtain ⟨q, hq, rfl⟩ := List.mem_map.1 hp
     exact hD q hq)
   show (M.take k ++ (lab, srtD d, xi, xm) :: M.drop k).map (fun t => (t.1, t.2.1)) = insM (lab, srtD d) (M.map fun t => (t.1, t.2.1))
   rw [e, List.map_append, List.map_cons, List.map_take, List.map_drop]
 · rw [List.map_append, List.nodup_append]
   refine ⟨h.nd, by simp, fun a ha b hb2 => ?_⟩
   rw [List.map_singleton, List.mem_singleton] at hb2
   intro e
   rw [hb2] at e
   rw [e] at ha
   exact hn ha
theorem blk_bad {k : Int} {x : Ln} {r : List Ln} (hk : k = 5 ∨ k = 6) (hl : x.txt.length ≤ 65536) (hx : ind ≤ x.ind) (h : lineR k x.txt = none ∨ ind < x.ind) : blkR many ind k its mem (x :: r) = .error (19, x.no) := by
 rcases Nat.lt_or_ge ind x.ind with h1 | h1
 · exact blk_over h1
 · rw [blk_line hk (by omega) hl]
   rcases h with h | h
   · rw [h]
   · omega
theorem blk_go {k : Int} {x : Ln} {r : List Ln} {l more : List UInt8} (hk : k = 5 ∨ k = 6) (hl : x.txt.length ≤ 65536) (hx : x.ind = ind) (h : lineR k x.txt = some (l, more)) :
   blkR many ind k its mem (x :: r) = match tailY more with
     | none => .error (19, x.no)
     | some _ => if k = 6 ∧ l ∈ mem.map (fun p => p.1) then .error (6, x.no)
       else match bodR many x more r with
         | .error e => .error e
         | .ok (d, r') => if k = 5 then blkR many ind 5 (its ++ [d]) mem r' else blkR many ind 6 its (mem ++ [(l, d)]) r' := by
 rw [blk_line hk hx hl, h]
 unfold bodR
 simp only
 cases tailY more with
 | none => rfl
 | some w => simp only [hx]; rfl
theorem bod_err {x : Ln} {more : List UInt8} {r : List Ln} {q : Nat × Nat} (h : bodR many x more r = .error q) : q.1 ≠ 0 := by
 unfold bodR at h
 split at h
 · injection h with h; rw [← h]; simp
 · rename_i w hw
   cases w with
   | some d => cases h
   | none => exact blkR_err h
theorem bod_end {x : Ln} {more : List UInt8} {r r' : List Ln} {d : Dat} (h : bodR many x more r = .ok (d, r')) : r' <:+ r := by
 unfold bodR at h
 split at h
 · cases h
 · rename_i w hw
   cases w with
   | some d => injection h with h; injection h with _ h; rw [← h]; exact List.suffix_refl _
   | none => exact blkR_end h
theorem tail_none {more : List UInt8} (h : tailY more = none) : more ≠ [] := by
 intro e; subst e; cases h
theorem bod_tail_none {x : Ln} {more : List UInt8} {r : List Ln} (h : tailY more = none) : bodR many x more r = .error (19, x.no) := by unfold bodR; rw [h]
theorem bod_tail_some {x : Ln} {more : List UInt8} {r : List Ln} {w : Option Dat} (h : tailY more = some w) (hm : more ≠ []) : ∃ d, bodR many x more r = .ok (d, r) := by
 unfold bodR
 rw [h]
 unfold tailY at h
 rw [if_neg hm] at h
 split at h
 · split at h
   · injection h with h; subst h; exact ⟨_, rfl⟩
   · cases h
 · cases h
end Go.Proofs.YtdalfkklkeblaaaGreatDoor
