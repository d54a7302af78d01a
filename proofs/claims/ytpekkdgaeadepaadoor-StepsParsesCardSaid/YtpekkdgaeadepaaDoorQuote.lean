/- The program's Quote, a loop over the iterator 'pieces', returns the literal of the string, for every string of at most 1000000 bytes. -/
import Derived.RangeFuncNested
import Derived.RangeFuncBound
import Derived.RangeFuncCalls
import Derived.RangeFuncLeaves
import Derived.RangeFuncBox
import Derived.Shelf.Abstract
import Derived.Shelf.RegionOpen
import Derived.OwnWalkIn
import Derived.TacticsInMore
import Derived.LoopNIn
import Derived.LoopIn
import Derived.Maps.AppendAt
import Derived.Test.YtpekkdgaeadepaaDoorRefQ
namespace Go.Proofs.YtpekkdgaeadepaaDoor
open Go.RowKit Go.Shelf
attribute [local go_sem] Oper.semAt_some

theorem drewN_abides {β : Type} {B : Nat} {J : β → World → Prop} (h : AbidesFrom B J) {s : β} {W : World} (hs : J s W) (n : Nat) : J s (W.drewN n) :=
  h s W (W.drewN n) none hs ⟨rfl, rfl, rfl, Nat.le_refl _, fun _ _ _ => rfl⟩ (fun r e => by cases e)

set_option maxRecDepth 100000 in
set_option maxHeartbeats 1000000 in
theorem pieces1_in (n : Nat) (hn : 1 ≤ n) (y Bn : Nat) (l : List UInt8) (hl : l.length ≤ 1000000) (J Jx : List UInt8 → World → Prop) (W : World) (hJ : AbidesFrom W.heap.size J)
    (hY : ∀ pre x W1, J pre W1 → pre.length < l.length → YieldAt Fence.wide (n - 1) Tryd.prog y #[.string (S (escB x))] W1 fun e W' =>
      (e = .returned (.bool true) ∧ J (pre ++ [x]) W' ∧ W'.heap[Bn]? = W1.heap[Bn]?) ∨ (e = .returned (.bool false) ∧ Jx (pre ++ [x]) W'))
    (hBn : Boxed W Bn 9 (.string (S l))) (h0 : J [] W) :
    CallsIn Fence.wide n Tryd.prog 74 #[.func (.yield y) #[] #[], .pointer (some ⟨Bn, 0, none⟩)] W fun e W' => (∃ v, e = .returned v) ∧
      ((∃ xs, xs = l ∧ J xs W') ∨ (∃ pre, pre <+: l ∧ Jx pre W')) := by
  have hc := hBn.cell
  refine callsIn_of_wp Tryd.func74 rfl trivial ?_ rfl
  simp only [Tryd.ntmps74, List.size_toArray, List.length_cons, List.length_nil, Nat.reduceAdd, Nat.reduceSub, Array.replicate_succ, Array.replicate_zero, List.push_toArray, List.append_toArray, List.nil_append, List.cons_append]
  gi_wp2
  clear hc
  gi_loopw [6] (fun i wr => ∃ k : Nat, k ≤ l.length ∧ i = .int .i64 k ∧ J (l.take k) wr ∧ Boxed wr Bn 9 (.string (S l)))
    (fun i _ => l.length - (intOf i).toNat)
  case atStart => exact ⟨0, by omega, rfl, h0, hBn⟩
  case round =>
    obtain ⟨k, hk, rfl, hJk, hbx⟩ := hrel
    by_cases hlt : k < l.length
    · have hc := hbx.cell
      gi_wp2_with fail
      refine ⟨trivial, ?_⟩
      refine (callsIn_wide.2 (escape_any _ _)).mono ?_
      rintro e w' ⟨rfl, q, rfl⟩
      obtain ⟨fn, tmps, assign, body, hy, hR⟩ := hY (l.take k) (byt l k) (wr.drewN q) (drewN_abides hJ hJk q) (by rw [List.length_take]; omega)
      gi_wp2_with fail
      refine hR.mono ?_
      rintro e W3 (⟨rfl, hJ3, hk3⟩ | ⟨rfl, hJx3⟩)
      · gi_wp2
        go_roundw
        case rel => exact ⟨k + 1, by omega, by go_num, by rw [take_byt l k hlt]; exact hJ3, hk3.trans hbx⟩
        case measure => simp [intOf]; omega
      · gi_wp2
        refine bodyPost_ret (results_none rfl _ _ _) rfl ?_
        exact ⟨⟨_, rfl⟩, .inr ⟨l.take k ++ [byt l k], by rw [← take_byt l k hlt]; exact List.take_prefix _ _, hJx3⟩⟩
    · gi_wp2
      go_end0
      exact ⟨⟨_, rfl⟩, .inl ⟨l, rfl, by rw [List.take_of_length_le (by omega)] at hJk; exact hJk⟩⟩

theorem pieces_in (n : Nat) (l : List UInt8) (w : World) :
    CallsIn Fence.wide n Tryd.prog 55 #[.string (S l)] w fun e w' => e = .returned (.func (.func 74) #[] #[.pointer (some ⟨w.heap.size, 0, none⟩)]) ∧ w' = w.alloc (.cells #[.string (S l)] 9) := by
  refine callsIn_of_wp Tryd.func55 rfl trivial ?_ rfl
  simp only [Tryd.ntmps55, List.size_toArray, List.length_cons, List.length_nil, Nat.reduceAdd, Nat.reduceSub, Array.replicate_succ, Array.replicate_zero, List.push_toArray, List.append_toArray, List.nil_append, List.cons_append]
  gi_wp2
  go_ret
  exact ⟨rfl, rfl⟩

theorem pieces_stops (n : Nat) (hn : 1 ≤ n) (Bn : Nat) (l : List UInt8) (hl : l.length ≤ 1000000) (w : World) (hBn : Boxed w Bn 9 (.string (S l))) :
    SeqStopsK Fence.wide n Tryd.prog 74 #[.pointer (some ⟨Bn, 0, none⟩)] (fun x : UInt8 => #[Value.string (S (escB x))]) (fun A B => B.heap[Bn]? = A.heap[Bn]?) (fun ys => ys = l) (fun pre => pre <+: l) l.length w := fun y J Jx W hW hJ _ hY h0 =>
  pieces1_in n hn y Bn l hl J Jx W hJ hY ((hW.block Bn hBn.lt).trans hBn) h0



section
variable {F : Fence} {n' : Nat} {P : Program}
theorem wpListIn_append_own_string {ops : Array Oper} {rest : List Oper} {o : Oper} {a : Act} {Q : Exit → Act → World → Prop} (w : World) (hgd : o.guard = none) (sl x : Operand) (t u : TypeId)
    (ho : o.op = .call { callee := .builtin .append, args := #[sl, x], argTypes := #[t, u] })
    (base : Nat) (e : TypeId) (i : TypeInfo) (ht : P.underlying t = some (.slice e)) (hu : P.underlying u = some .string) (hi : P.info? e = some i) (hz : i.zero = some (.int .u8 0))
    (hsize : i.size = 1) (hby : i.bytes = 1)
    (v : Value) (n : Nat) (xs : List Value) (hs : a.eval sl = v) (hown : w.ownsRow base e 1 v n xs) (s : ByteArray) (hx : a.eval x = .string s)
    (h63 : n + s.size ≤ maxLen) (hbytes : n + s.size ≤ 140737488355328) (hbase : base ≤ w.heap.size)
    (h : ∀ v' w', w'.ownsRow base e 1 v' (n + s.size) (xs ++ Lib.strCells s) → w.grownBy w' v.ownBlock → (v' = .slice none 0 0 ↔ v = .slice none 0 0 ∧ s.size = 0) → wpListIn F n' P ops Q rest (a.put o.dst v') w') : wpListIn F n' P ops Q (o :: rest) a w := by
  refine wpListIn_plain hgd fun K hK => ?_
  obtain ⟨v', w', hr, h2, h3, h4⟩ := Lib.run_append_own_string (P := P) w base t u o.type e i ht hu hi hz hsize hby v n xs hown s h63 hbytes hbase
  unfold Oper.wpIn
  refine ⟨?_, ?_⟩
  · simp [Oper.about, ho, resolve, Target.leads, Sem.run_pure]
  · rw [Oper.semAt_plain F _ _ (by rw [ho]; intro c hc'; cases hc')]
    simp [execOp, ho, resolve, invoke, builtin, hs, hx, hr, Result.andThen]
    exact hK _ _ (h v' w' h2 h3 h4)
end

theorem boxed_appended {W w1 : World} {n₀ B : Nat} {t e : TypeId} {size : Nat} {v v' : Value} {k m : Nat} {xs ys : List Value}
    (hv : Boxed W B t v) (hte : t ≠ e) (hrow : W.ownsRow n₀ e size v k xs) (hn₀ : n₀ ≤ W.heap.size) (hB : n₀ ≤ B)
    (hown' : w1.ownsRow n₀ e size v' m ys) (hgrow : W.grownBy w1 v.ownBlock) :
    Boxed w1 B t v ∧ Boxed (w1.setCell ⟨B, 0, none⟩ v') B t v' ∧ (w1.setCell ⟨B, 0, none⟩ v').ownsRow n₀ e size v' m ys ∧ KeepsOthers W (w1.setCell ⟨B, 0, none⟩ v') ∧ Below n₀ W (w1.setCell ⟨B, 0, none⟩ v') := by
  have hv1 : Boxed w1 B t v := hv.kept hgrow (hv.not_row hte hrow)
  refine ⟨hv1, hv1.set v', hown'.kept (grownBy_setCell' w1 B v') (.inr (hv1.not_row hte hown').symm), ?_, ?_⟩
  · refine (KeepsOthers.of_grownBy hgrow fun j o ej hj => ?_).trans (KeepsOthers.setCell _ _ _)
    rcases hrow.2 with ⟨rfl, _⟩ | ⟨g, cap, cur, rfl, _, hgb, _⟩
    · simp [Value.ownBlock] at ej
    · obtain rfl : g = j := by simpa [Value.ownBlock] using ej
      rw [hgb] at hj; cases hj; rfl
  · refine ((Below.refl n₀ W).grown hgrow hn₀ fun j ej => ?_).setCell (p := ⟨B, 0, none⟩) hB v'
    rcases hrow.2 with ⟨rfl, _⟩ | ⟨g, cap, cur, rfl, hb, _, _⟩
    · simp [Value.ownBlock] at ej
    · obtain rfl : g = j := by simpa [Value.ownBlock] using ej
      exact hb

def qpre (pre : List UInt8) : List UInt8 := 34 :: pre.flatMap escB
theorem qpre_len (pre : List UInt8) : 1 ≤ (qpre pre).length ∧ (qpre pre).length ≤ 4 * pre.length + 1 := by
  have := flat_len pre
  unfold qpre; rw [List.length_cons]; omega
theorem qpre_snoc (pre : List UInt8) (x : UInt8) : qpre (pre ++ [x]) = qpre pre ++ escB x := by
  unfold qpre; rw [List.flatMap_append]; simp
theorem own_keeps_block {W w1 : World} {base : Nat} {e : TypeId} {size : Nat} {v : Value} {k : Nat} {xs : List Value} {o ob : Obj} {D : Nat} (h : W.ownsRow base e size v k xs) (hgrow : (W.alloc o).grownBy w1 v.ownBlock)
    (hK : W.heap[D]? = some ob) (ho : ob.isCells = false) : w1.heap[D]? = some ob := by
  have hlt := (Array.getElem?_eq_some_iff.1 hK).1
  refine (hgrow.block D (by simp; omega) fun ej => ?_).trans ((Below.heap_alloc W _ D hlt).trans hK)
  obtain ⟨_, cur, hc⟩ := own_base h D ej.symm
  rw [hK] at hc; cases hc; cases ho

set_option maxRecDepth 100000 in
set_option maxHeartbeats 2000000 in
theorem Quote_in (l : List UInt8) (hl : l.length ≤ 1000000) (w : World) :
    CallsIn Fence.wide 6 Tryd.prog 40 #[.string (S l)] w fun e W' => e = .returned (.string (S (quoteL l))) ∧ Below w.heap.size w W' := by
  have h1 : 1 ≤ 6 := by omega
  obtain ⟨i0, hi, hz0, hz1, hz2⟩ := info_parts infoU8
  refine callsIn_of_wp_marks Tryd.func40 rfl trivial ?_ rfl
  simp only [Tryd.ntmps40, List.size_toArray, List.length_cons, List.length_nil, Nat.reduceAdd, Nat.reduceSub, Array.replicate_succ, Array.replicate_zero, List.push_toArray, List.append_toArray, List.nil_append, List.cons_append]
  gi_wp2_with fail
  refine ⟨trivial, ?_⟩
  refine (pieces_in _ _ _).mono ?_
  rintro e w' ⟨rfl, rfl⟩
  gi_wp2_with fail
  have bO := Boxed.new (w.alloc (.cells #[.int .u8 34] 5)) 33 (.slice (some ⟨w.heap.size, 0, none⟩) 1 1)
  have bS := Boxed.new ((w.alloc (.cells #[.int .u8 34] 5)).alloc (.cells #[.slice (some ⟨w.heap.size, 0, none⟩) 1 1] 33)) 9 (.string (S l))
  rw [World.size_alloc] at bO bS
  rw [World.size_alloc] at bS
  have bO' := bO.alloc (.cells #[.string (S l)] 9)
  have hB0 : Below w.heap.size w (((w.alloc (.cells #[.int .u8 34] 5)).alloc (.cells #[.slice (some ⟨w.heap.size, 0, none⟩) 1 1] 33)).alloc (.cells #[.string (S l)] 9)) :=
    (((Below.refl _ w).alloc (Nat.le_refl _) _).alloc (by simp) _).alloc (by simp; omega) _
  have hrow0 : (((w.alloc (.cells #[.int .u8 34] 5)).alloc (.cells #[.slice (some ⟨w.heap.size, 0, none⟩) 1 1] 33)).alloc (.cells #[.string (S l)] 9)).ownsRow w.heap.size 5 1 (.slice (some ⟨w.heap.size, 0, none⟩) 1 1) 1 [.int .u8 34] :=
    ⟨rfl, .inr ⟨w.heap.size, 1, #[.int .u8 34], rfl, Nat.le_refl _, ((Boxed.new w 5 (.int .u8 34)).alloc _).alloc _, Nat.le_refl _, by decide, rfl, rfl⟩⟩
  refine wpIn_rangeFunc_ownG rfl h1 (gf := 74) (lb := #[.pointer (some ⟨w.heap.size + 1 + 1, 0, none⟩)]) rfl trivial (enters_of Tryd.func74 (by kernel_rfl) rfl)
    (pieces_stops _ (by omega) (w.heap.size + 1 + 1) l hl _ bS) (fun h k => k.trans h) (fun W y o o' hl' hy _ _ => World.putObj_heap_other (by simp at hl'; omega)) (Below.refl _ _) (fun _ => rfl)
    (fun pre W => (∃ v, Boxed W (w.heap.size + 1) 33 v ∧ W.ownsRow w.heap.size 5 1 v (qpre pre).length (bcells (qpre pre)) ∧ True) ∧ Boxed W (w.heap.size + 1 + 1) 9 (.string (S l)) ∧ Below w.heap.size w W)
    (fun _ _ _ => False)
    (OwnFrom.and (Own.from (holdsRow_own w.heap.size (w.heap.size + 1) 33 5 1 (fun pre => (qpre pre).length) (fun pre => bcells (qpre pre)) (fun _ _ => True)) _) (OwnFrom.and (Own.from (boxed_own _ _ _) _) (ownFrom_below (Nat.le_refl _) (by simp; omega))))
    (fun _ _ _ _ _ hs _ _ => hs)
    ⟨⟨_, bO', hrow0, trivial⟩, bS, hB0⟩
    (fun x => { tmps := #[.string (S l), undef, .string ⟨#[]⟩, .pointer (some ⟨w.heap.size + 1, 0, none⟩), .string (S (escB x)), .slice (some ⟨w.heap.size, 0, none⟩) 1 1, .string (S l), .func (.func 74) #[] #[.pointer (some ⟨w.heap.size + 1 + 1, 0, none⟩)], .string (S (escB x)), undef, undef, undef, undef, undef, undef, undef], defers := [] }) ?assign ?body ?done ?stop
  case assign =>
    intro y x W K hK
    gi_wp2
    exact hK
  case body =>
    rintro y pre x W ⟨⟨v, hv, hrow, _⟩, hs, hB⟩ hlt
    have hc := hv.cell
    have hq := qpre_len pre
    have hx := esc_len x
    have hx' : (S (escB x)).size ≤ 4 := hx.2
    gi_wp2_with (gi_at_builtin; refine wpListIn_append_own_string _ rfl _ _ 33 9 rfl w.heap.size 5 i0 Tryd.underlying33 Tryd.underlying9 hi hz0 hz1 hz2 _ _ _ rfl hrow (S (escB x)) rfl (by unfold maxLen; omega) (by omega) hB.size ?_; intro v' w1 hown' hgrow _; obtain ⟨g', cap', rfl⟩ := ownsRow_pos hown' (by omega); obtain ⟨hv1, hv2, hr2, hk2, hb2⟩ := boxed_appended hv (by decide) hrow hB.size (by omega) hown' hgrow; have hc1 := hv1.cell; have hf1 := hv1.frozen)
    have hs2 : Boxed (w1.setCell ⟨w.heap.size + 1, 0, none⟩ (.slice (some ⟨g', 0, none⟩) ((qpre pre).length + (S (escB x)).size) cap')) (w.heap.size + 1 + 1) 9 (.string (S l)) :=
      (hs.kept hgrow (hs.not_row (by decide) hrow)).kept (grownBy_setCell' _ _ _) (by simp)
    refine ⟨hk2.from _, hs2.trans hs.symm, ⟨_, hv2, ?_, trivial⟩, hs2, hB.trans hb2⟩
    rw [qpre_snoc, ← bcells_append, List.length_append]
    exact hr2
  case done =>
    rintro D ys W hD rfl ⟨⟨v, hv, hrow, _⟩, hs, hB⟩ hK
    have hc := hv.cell
    have hq := qpre_len ys
    have hq2 : qpre ys ++ [34] = quoteL ys := rfl
    gi_wp2_with (gi_at_builtin; refine wpListIn_append_own _ rfl _ _ 33 rfl w.heap.size 5 i0 (.int .u8 0) 1 1 Tryd.underlying33 hi hz0 hz1 hz2 rfl (by decide) _ _ _ rfl (hrow.alloc _) ⟨W.heap.size, 0, none⟩ 1 1 [.int .u8 34] rfl rfl (cell_one_new _ _ _) (by simp [Value.oneCell']) (by unfold maxLen; omega) (by omega) (by have := hB.size; simp; omega) ?_; intro v' w1 hown' hgrow _; have hK1 := own_keeps_block hrow hgrow hK rfl; have hcv := conv_own (P := Tryd.prog) w1 33 9 5 w.heap.size v' (qpre ys ++ [34]) Tryd.underlying33 Tryd.underlying5 Tryd.underlying9 (by rw [List.length_append, ← bcells_append]; exact hown'); rw [hq2] at hcv; have hB1 := own_below1 hB hrow hgrow hB.size; clear hgrow hown' hq2)
    refine ⟨by simp, .inl ⟨_, _, rfl, run_takeDeferred hK1, ?_⟩⟩
    exact ⟨_, results_tmp rfl _ _ _, rfl, hB1.trans (belowK_b (w := w) (Nat.le_refl _) w1 D _ _ (by simp at hD; omega) hK1 rfl rfl)⟩
  case stop =>
    rintro D c pre W _ _ h _
    exact h.elim

theorem quote_any (l : List UInt8) (hl : l.length ≤ 1000000) (w : World) :
    Calls Tryd.prog 40 #[.string (S l)] w fun e w' => e = .returned (.string (S (quoteL l))) ∧ Below w.heap.size w w' :=
  callsIn_wide.1 (Quote_in l hl w)
end Go.Proofs.YtpekkdgaeadepaaDoor
