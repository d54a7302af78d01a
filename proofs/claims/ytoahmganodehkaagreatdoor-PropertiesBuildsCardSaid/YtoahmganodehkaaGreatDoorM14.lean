/- append onto a row that the call made, whatever the source's address. Over whatever program. -/
import Derived.Maps.AppendAt
import Derived.Deep.AppendLies
import Derived.Test.YtoahmganodehkaaGreatDoorM07
import Derived.OneCell
import Derived.Test.YtoahmganodehkaaGreatDoorM08
import Derived.Test.YtoahmganodehkaaGreatDoorM11
import Derived.Test.YtoahmganodehkaaGreatDoorM12
import Derived.Test.YtoahmganodehkaaGreatDoorM02
namespace Go.Proofs.YtoahmganodehkaaGreatDoor
set_option linter.unusedSimpArgs false
set_option linter.unusedVariables false
section
open Go.RowKit

section
variable {P : Program} (w : World)
theorem run_app_nil (base : Nat) (t ty e : TypeId) (i : TypeInfo) (size : Nat) (ht : P.underlying t = some (.slice e)) (hi : P.info? e = some i) (v : Value) (n : Nat) (xs : List Value) (hown : w.ownsRow base e size v n xs) (c : Nat) :
    (Builtin.append_ #[t, t] ty #[v, .slice none 0 c]).run P w = .ok v w := by
  rcases hown.2 with ⟨rfl, rfl⟩ | ⟨g, cap, cur, rfl, _, _, hnc, _⟩
  · simp [Builtin.append_, run_underlying ht, sizeOf, typeInfo, hi, Builtin.lenOf, Builtin.firstCells]
  · simp [Builtin.append_, run_underlying ht, sizeOf, typeInfo, hi, Builtin.lenOf, Builtin.firstCells, hnc, storeCells]
/-- a source: nil and empty, or at an address -/
def Src (w : World) (size : Nat) (p : Option Addr) (m : Nat) (news : List Value) : Prop :=
  news.length = m * size ∧ (p = none → m = 0) ∧ (∀ a, p = some a → ∀ j u, news[j]? = some u → w.cell? (a.add j) = some u) ∧ ∀ u ∈ news, u.oneCell' = true
theorem run_appd (base : Nat) (t ty e : TypeId) (i : TypeInfo) (z : Value) (size bytes : Nat) (ht : P.underlying t = some (.slice e)) (hi : P.info? e = some i) (hz : i.zero = some z)
    (hsize : i.size = size) (hby : i.bytes = bytes) (hzs : z.cells.size = size) (hsz : 0 < size) (v : Value) (n : Nat) (xs : List Value) (hown : w.ownsRow base e size v n xs)
    (p : Option Addr) (m c : Nat) (news : List Value) (hr : Src w size p m news) (h63 : n + m ≤ maxLen) (hbytes : (n + m) * bytes ≤ 140737488355328) (hbase : base ≤ w.heap.size) :
    ∃ v' w', (Builtin.append_ #[t, t] ty #[v, .slice p m c]).run P w = .ok v' w' ∧ w'.ownsRow base e size v' (n + m) (xs ++ news) ∧ w.grownBy w' v.ownBlock ∧ (v'.ownBlock = v.ownBlock ∨ v'.ownBlock = some w.heap.size) := by
  obtain ⟨hl, h0, hp, h1⟩ := hr
  cases p with
  | none =>
    obtain rfl := h0 rfl
    obtain rfl : news = [] := List.length_eq_zero_iff.1 (by omega)
    exact ⟨v, w, run_app_nil w base t ty e i size ht hi v n xs hown c, by simpa using hown, World.grownBy.refl w _, .inl rfl⟩
  | some a =>
    obtain ⟨v', w', hrun, h2, h3, -, h5⟩ := run_append_own_at (P := P) w base t ty e i z size bytes ht hi hz hsize hby hzs hsz v n xs hown a m c news hl (hp a rfl) h1 h63 hbytes hbase
    exact ⟨v', w', hrun, h2, h3, h5⟩
theorem wp_app {o : Oper} {a : Act} {K : Act → World → Prop} {Q : Exit → Act → World → Prop} (s x : Operand) (t : TypeId)
    (ho : o.op = .call { callee := .builtin .append, args := #[s, x], argTypes := #[t, t] })
    (base : Nat) (e : TypeId) (i : TypeInfo) (z : Value) (size bytes : Nat) (ht : P.underlying t = some (.slice e)) (hi : P.info? e = some i) (hz : i.zero = some z)
    (hsize : i.size = size) (hby : i.bytes = bytes) (hzs : z.cells.size = size) (hsz : 0 < size) (v : Value) (n : Nat) (xs : List Value) (hs : a.eval s = v) (hown : w.ownsRow base e size v n xs)
    (p : Option Addr) (m c : Nat) (news : List Value) (hx : a.eval x = .slice p m c) (hr : Src w size p m news) (h63 : n + m ≤ maxLen) (hbytes : (n + m) * bytes ≤ 140737488355328) (hbase : base ≤ w.heap.size)
    (h : ∀ v' w', w'.ownsRow base e size v' (n + m) (xs ++ news) → w.grownBy w' v.ownBlock → (v'.ownBlock = v.ownBlock ∨ v'.ownBlock = some w.heap.size) → K (a.put o.dst v') w') : o.wp P a w K Q := by
  obtain ⟨v', w', hrun, h2, h3, h4⟩ := run_appd (P := P) w base t o.type e i z size bytes ht hi hz hsize hby hzs hsz v n xs hown p m c news hr h63 hbytes hbase
  unfold Oper.wp execOp
  simp only [ho, resolve, invoke, builtin, Sem.run_bind, Sem.run_pure, Result.andThen_ok, List.map_toArray, List.map_cons, List.map_nil, hs, hx, hrun]
  exact h v' w' h2 h3 h4
theorem wpList_app {ops : Array Oper} {rest : List Oper} {o : Oper} {a : Act} {Q : Exit → Act → World → Prop} (hgd : o.guard = none) (s x : Operand) (t : TypeId)
    (ho : o.op = .call { callee := .builtin .append, args := #[s, x], argTypes := #[t, t] })
    (base : Nat) (e : TypeId) (i : TypeInfo) (z : Value) (size bytes : Nat) (ht : P.underlying t = some (.slice e)) (hi : P.info? e = some i) (hz : i.zero = some z)
    (hsize : i.size = size) (hby : i.bytes = bytes) (hzs : z.cells.size = size) (hsz : 0 < size) (v : Value) (n : Nat) (xs : List Value) (hs : a.eval s = v) (hown : w.ownsRow base e size v n xs)
    (p : Option Addr) (m c : Nat) (news : List Value) (hx : a.eval x = .slice p m c) (hr : Src w size p m news) (h63 : n + m ≤ maxLen) (hbytes : (n + m) * bytes ≤ 140737488355328) (hbase : base ≤ w.heap.size)
    (h : ∀ v' w', w'.ownsRow base e size v' (n + m) (xs ++ news) → w.grownBy w' v.ownBlock → (v'.ownBlock = v.ownBlock ∨ v'.ownBlock = some w.heap.size) → wpList P ops Q rest (a.put o.dst v') w') : wpList P ops Q (o :: rest) a w :=
  wpList_plain hgd fun _ hK => wp_app w s x t ho base e i z size bytes ht hi hz hsize hby hzs hsz v n xs hs hown p m c news hx hr h63 hbytes hbase fun v' w' h2 h3 h4 => hK _ _ (h v' w' h2 h3 h4)
theorem step_app {ops : Array Oper} {o : Oper} {a : Act} {K : Act → World → Prop} {Q : Exit → Act → World → Prop} {E : Prop} (hgd : o.guard = none) (s x : Operand) (t : TypeId)
    (ho : o.op = .call { callee := .builtin .append, args := #[s, x], argTypes := #[t, t] })
    (base : Nat) (e : TypeId) (i : TypeInfo) (z : Value) (size bytes : Nat) (ht : P.underlying t = some (.slice e)) (hi : P.info? e = some i) (hz : i.zero = some z)
    (hsize : i.size = size) (hby : i.bytes = bytes) (hzs : z.cells.size = size) (hsz : 0 < size) (v : Value) (n : Nat) (xs : List Value) (hs : a.eval s = v) (hown : w.ownsRow base e size v n xs)
    (p : Option Addr) (m c : Nat) (news : List Value) (hx : a.eval x = .slice p m c) (hr : Src w size p m news) (h63 : n + m ≤ maxLen) (hbytes : (n + m) * bytes ≤ 140737488355328) (hbase : base ≤ w.heap.size)
    (h : ∀ v' w', w'.ownsRow base e size v' (n + m) (xs ++ news) → w.grownBy w' v.ownBlock → (v'.ownBlock = v.ownBlock ∨ v'.ownBlock = some w.heap.size) → K (a.put o.dst v') w') :
    if Region.wanted o (yielded ops a.tmps) = true then Oper.wp P o a w K Q else E := by
  have hw : Region.wanted o (yielded ops a.tmps) = true := by simp [Region.wanted, hgd]
  rw [if_pos hw]
  exact wp_app w s x t ho base e i z size bytes ht hi hz hsize hby hzs hsz v n xs hs hown p m c news hx hr h63 hbytes hbase h
end
theorem own_empty (w : World) {t : TypeId} {size : Nat} : (w.alloc (.cells #[] t)).ownsRow w.heap.size t size (.slice (some ⟨w.heap.size, 0, none⟩) 0 0) 0 [] :=
  World.ownsRow_made w #[] 0 (Nat.le_refl _) (Nat.zero_le _) (by simp)
theorem Src.below {w w' : World} {size : Nat} {p : Option Addr} {m : Nat} {news : List Value} (h : Src w size p m news) (hb : Below w.heap.size w w') (hlt : ∀ a, p = some a → 0 < news.length → a.block < w.heap.size) : Src w' size p m news := by
  refine ⟨h.1, h.2.1, fun a ha j u hu => ?_, h.2.2.2⟩
  have hl : a.block < w.heap.size := hlt a ha (Nat.lt_of_le_of_lt (Nat.zero_le _) (List.getElem?_eq_some_iff.1 hu).1)
  have h1 := h.2.2.1 a ha j u hu
  exact (hb.cell (p := a.add j) (by rw [show (a.add j).block = a.block by unfold Addr.add; split <;> rfl]; exact hl)).trans h1
/-- steps as a source -/
theorem SlK.sourc {W : World} {ok : Nat → Prop} {p : Option Addr} {n cap : Nat} {L : List Stp} (h : SlK W ok (.slice p n cap) L) : Src W 2 p n (flatC L) := by
  obtain ⟨h1, h2, h3⟩ := h.src
  exact ⟨by rw [flatC_len, h1], h2, h3, flatC_oneC L⟩
end
section
open Go.RowKit

theorem lv_pos : ∀ (n : Nat) (d : Dat), SizeOf.sizeOf d < n → 0 < (lvD d).length
  | 0, _, h => absurd h (Nat.not_lt_zero _)
  | n + 1, d, hn => by
    rw [lvD_eq]
    by_cases h : (d.its.isEmpty && d.mem.isEmpty) = true
    · rw [if_pos h]; simp
    · rw [if_neg h, List.length_append]
      cases hi : d.its with
      | cons x r =>
        have hx : x ∈ d.its := by rw [hi]; exact List.mem_cons_self ..
        have h1 := lv_pos n x (by have := dat_it hx; omega)
        rw [lvI, List.length_append, List.length_map]; omega
      | nil =>
        cases hm : d.mem with
        | nil => rw [hi, hm] at h; exact absurd rfl h
        | cons p r =>
          obtain ⟨l, x⟩ := p
          have hx : (l, x) ∈ d.mem := by rw [hm]; exact List.mem_cons_self ..
          have h1 := lv_pos n x (by have := dat_me hx; omega)
          rw [lvM, List.length_append, List.length_map]; omega
theorem ents_pos (d : Dat) : 0 < (entsD d).length := by
  unfold entsD
  rw [List.length_map]
  exact lv_pos _ d (Nat.lt_succ_self _)
theorem flat_two (d : Dat) : (flatD d = (entsD d, 0) ∧ chk d 1 = 0 ∧ lbD d = true) ∨ ((flatD d).1 = [] ∧ (flatD d).2 ≠ 0) := by
  unfold flatD
  by_cases hc : chk d 1 = 0
  · rw [if_neg (by simp [hc])]
    by_cases hb : lbD d = true
    · rw [if_neg (by simp [hb])]; exact .inl ⟨rfl, hc, hb⟩
    · rw [if_pos (by simpa using hb)]; exact .inr ⟨rfl, by simp⟩
  · rw [if_pos hc]; exact .inr ⟨rfl, hc⟩
/-- what Flatten hands back, opened -/
theorem FlatP.open {w w' : World} {r : List Ent × Nat} {e : Ending} (h : FlatP w r e w') : ∃ p cap T, e = .returned (.tuple #[.slice p r.1.length cap, .int .i64 (r.2 : Int)]) ∧ w'.ownsRow w.heap.size 42 6 (.slice p r.1.length cap) r.1.length (flatE T) ∧ T.map Env.e = r.1 ∧ (∀ t ∈ T, t.good w' (fun B => w.heap.size ≤ B)) ∧ Below w.heap.size w w' := by
  obtain ⟨v, T, rfl, ho, hT, hg, hb⟩ := h
  have hl : T.length = r.1.length := by rw [← hT, List.length_map]
  rw [hl] at ho
  obtain ⟨p, cap, rfl⟩ := own_form5 ho
  exact ⟨p, cap, T, rfl, ho, hT, hg, hb⟩
theorem findM_mem {l : List UInt8} : ∀ {mem : List (List UInt8 × Dat)} {x : Dat}, findM l mem = some x → (l, x) ∈ mem
  | [], _, h => by rw [findM] at h; cases h
  | (k, y) :: r, x, h => by
    rw [findM] at h
    by_cases e : k = l
    · rw [if_pos e] at h; injection h with h; subst h; subst e; exact List.mem_cons_self ..
    · rw [if_neg e] at h; exact List.mem_cons_of_mem _ (findM_mem h)
theorem stpD_lim {d x : Dat} {s : Stp} (hl : limD d = true) (h : stpD d s = some x) : limD x = true := by
  obtain ⟨-, -, -, h1, h2⟩ := lim_iff.1 hl
  unfold stpD at h
  by_cases e : s.lab = []
  · rw [if_pos e] at h
    by_cases e2 : 0 ≤ s.idx
    · rw [if_pos e2] at h; exact h1 x (List.mem_of_getElem? h)
    · rw [if_neg e2] at h; cases h
  · rw [if_neg e] at h; exact (h2 _ (findM_mem h)).2
theorem getD_lim : ∀ (p : List Stp) (d : Dat), limD d = true → limD ((getD d p).getD dat0) = true
  | [], d, h => by rw [getD]; exact h
  | s :: r, d, h => by
    rw [getD]
    cases hs : stpD d s with
    | none => exact (by decide : limD dat0 = true)
    | some x => exact getD_lim r x (stpD_lim h hs)
theorem lv_labs : ∀ (n : Nat) (d : Dat), SizeOf.sizeOf d < n → limD d = true → ∀ p ∈ lvD d, ∀ x ∈ p, x.lab.length ≤ 1000000
  | 0, _, h, _ => absurd h (Nat.not_lt_zero _)
  | n + 1, d, hn, hl => by
    obtain ⟨-, -, -, h1, h2⟩ := lim_iff.1 hl
    have hI : ∀ (its : List Dat) (i : Nat), (∀ x ∈ its, SizeOf.sizeOf x < n ∧ limD x = true) → ∀ p ∈ lvI its i, ∀ x ∈ p, x.lab.length ≤ 1000000 := by
      intro its
      induction its with
      | nil => intro i _ p hp; rw [lvI] at hp; simp at hp
      | cons y r ih =>
        intro i h p hp
        rw [lvI] at hp
        rcases List.mem_append.1 hp with hp | hp
        · obtain ⟨q, hq, rfl⟩ := List.mem_map.1 hp
          intro x hx
          rcases List.mem_cons.1 hx with rfl | hx
          · exact Nat.zero_le _
          · exact lv_labs n y (h y (List.mem_cons_self ..)).1 (h y (List.mem_cons_self ..)).2 q hq x hx
        · exact ih (i + 1) (fun z hz => h z (List.mem_cons_of_mem _ hz)) p hp
    have hM : ∀ (mem : List (List UInt8 × Dat)), (∀ q ∈ mem, SizeOf.sizeOf q.2 < n ∧ q.1.length ≤ 1000000 ∧ limD q.2 = true) → ∀ p ∈ lvM mem, ∀ x ∈ p, x.lab.length ≤ 1000000 := by
      intro mem
      induction mem with
      | nil => intro _ p hp; rw [lvM] at hp; simp at hp
      | cons q r ih =>
        obtain ⟨l, y⟩ := q
        intro h p hp
        rw [lvM] at hp
        rcases List.mem_append.1 hp with hp | hp
        · obtain ⟨q, hq, rfl⟩ := List.mem_map.1 hp
          intro x hx
          rcases List.mem_cons.1 hx with rfl | hx
          · exact (h (l, y) (List.mem_cons_self ..)).2.1
          · exact lv_labs n y (h (l, y) (List.mem_cons_self ..)).1 (h (l, y) (List.mem_cons_self ..)).2.2 q hq x hx
        · exact ih (fun z hz => h z (List.mem_cons_of_mem _ hz)) p hp
    rw [lvD_eq]
    split
    · intro p hp; simp at hp; rw [hp]; intro x hx; simp at hx
    · intro p hp
      rcases List.mem_append.1 hp with hp | hp
      · exact hI d.its 0 (fun x hx => ⟨by have := dat_it hx; omega, h1 x hx⟩) p hp
      · exact hM d.mem (fun q hq => ⟨by have := dat_mg hq; omega, h2 q hq⟩) p hp
theorem ents_lims {d : Dat} (hc : chk d 1 = 0) (hl : limD d = true) : ∀ e ∈ entsD d, e.1.length ≤ 16 ∧ limD e.2 = true ∧ ∀ x ∈ e.1, x.lab.length ≤ 1000000 := by
  intro e he
  obtain ⟨p, hp, rfl⟩ := List.mem_map.1 he
  have h := path_len _ d 1 (Nat.lt_succ_self _) hc p hp
  exact ⟨by simp only; omega, getD_lim p d hl, lv_labs _ d (Nat.lt_succ_self _) hl p hp⟩
theorem blk_own {W : World} {B b s n : Nat} {cs : Array Value} {t e : TypeId} {v : Value} {xs : List Value} (h : Blk W B cs t) (ho : W.ownsRow b e s v n xs) (hne : t ≠ e) : some B ≠ v.ownBlock := by
  intro e'
  rcases ho.2 with ⟨rfl, -⟩ | ⟨g, cap, cur, rfl, hb, hg, -⟩
  · simp [Value.ownBlock] at e'
  · simp [Value.ownBlock] at e'
    subst e'
    unfold Blk at h
    rw [hg] at h
    injection h with h
    injection h with _ h2
    exact hne h2.symm
/-- the entry that is added: its path is a row of the call's own -/
def ClS (w2 : World) (B : Nat) (Q : List Stp) (wx : World) : Prop :=
  ∃ vp vc, Blk wx B #[.slice vp Q.length vc, .int .i64 1, .int .i64 0, .string ⟨#[]⟩, .slice none 0 0, .slice none 0 0] 42 ∧ wx.ownsRow w2.heap.size 44 2 (.slice vp Q.length vc) Q.length (flatC Q) ∧ Below w2.heap.size w2 wx ∧ w2.heap.size ≤ B
theorem ClS.new {w2 w4 : World} {P : List Stp} {vp : Option Addr} {vc : Nat} (ho : w4.ownsRow w2.heap.size 44 2 (.slice vp P.length vc) P.length (flatC P)) (hg : (w2.alloc (.cells #[] 44)).grownBy w4 (Value.slice (some ⟨w2.heap.size, 0, none⟩) 0 0).ownBlock) :
    ClS w2 w4.heap.size P (w4.alloc (.cells #[.slice vp P.length vc, .int .i64 1, .int .i64 0, .string ⟨#[]⟩, .slice none 0 0, .slice none 0 0] 42)) := by
  have hb : Below w2.heap.size w2 w4 := below_own ((Below.refl _ w2).alloc (Nat.le_refl _) _) (own_empty w2 (size := 2)) hg (Nat.le_refl _) (by simp)
  exact ⟨vp, vc, Blk.new w4 _ _, ho.alloc _, hb.alloc hb.size _, hb.size⟩
theorem ClS.push {w2 w5 w6 : World} {B : Nat} {P : List Stp} {s : Stp} {vp v6p : Option Addr} {vc v6c : Nat} (hB : Blk w5 B #[.slice vp P.length vc, .int .i64 1, .int .i64 0, .string ⟨#[]⟩, .slice none 0 0, .slice none 0 0] 42)
    (ho : w5.ownsRow w2.heap.size 44 2 (.slice vp P.length vc) P.length (flatC P)) (hb : Below w2.heap.size w2 w5) (hlo : w2.heap.size ≤ B) (o : Obj)
    (h6 : w6.ownsRow w2.heap.size 44 2 (.slice v6p (P.length + 1) v6c) (P.length + 1) (flatC P ++ [.string (S s.lab), .int .i64 s.idx])) (hg : (w5.alloc o).grownBy w6 (Value.slice vp P.length vc).ownBlock) :
    ClS w2 B (P ++ [s]) (w6.setCell ⟨B, 0, none⟩ (.slice v6p (P.length + 1) v6c)) := by
  have h5 := hB.alloc o
  have hk := h5.kept hg (blk_own h5 (ho.alloc o) (by decide))
  have hl : (P ++ [s]).length = P.length + 1 := by simp
  refine ⟨v6p, v6c, ?_, ?_, ?_, hlo⟩
  · rw [hl]; exact hk.set 0 _
  · rw [hl, flatC_snoc']
    exact ownsRow_setCell_other h6 (fun e => (blk_own hk h6 (by decide)) e.symm) _
  · exact (below_own (hb.alloc hb.size o) (ho.alloc o) hg (Nat.le_refl _) (by have := hb.size; simp; omega)).setCell hlo _
theorem ClS.mid {w2 w5 w6 : World} {B n : Nat} {P : List Stp} {vp : Option Addr} {vc : Nat} {cs : Array Value} (hB : Blk w5 B cs 42)
    (ho : w5.ownsRow w2.heap.size 44 2 (.slice vp n vc) n (flatC P)) (o : Obj) (hg : (w5.alloc o).grownBy w6 (Value.slice vp n vc).ownBlock) : w6.cell? ⟨B, 0, none⟩ = cs[0]? ∧ w6.frozen? ⟨B, 0, none⟩ = false ∧ B < w6.heap.size := by
  have h5 := hB.alloc o
  have hk := h5.kept hg (blk_own h5 (ho.alloc o) (by decide))
  exact ⟨hk.cell 0, hk.frozen 0, hk.lt⟩
theorem clash_ents {w1 w2 wc x2 : World} {T : List Env} {Q : List Stp} {qp : Option Addr} {qc : Nat} {v2 : Value} (hg : ∀ t ∈ T, t.good w2 (fun B => w1.heap.size ≤ B)) (hb1 : Below w2.heap.size w2 wc)
    (hq : wc.ownsRow w2.heap.size 44 2 (.slice qp Q.length qc) Q.length (flatC Q)) (hb2 : Below wc.heap.size wc x2)
    (ho : x2.ownsRow wc.heap.size 42 6 v2 (T.length + 1) (flatE T ++ cellsE ⟨Q, nullD, .slice qp Q.length qc, .slice none 0 0, .slice none 0 0⟩)) : EntR x2 (fun _ => True) v2 (T.map Env.e ++ [(Q, nullD)]) := by
  have e : T.map Env.e ++ [(Q, nullD)] = (T ++ [(⟨Q, nullD, .slice qp Q.length qc, .slice none 0 0, .slice none 0 0⟩ : Env)]).map Env.e := by rw [List.map_append]; rfl
  rw [e]
  have hl : (T ++ [(⟨Q, nullD, .slice qp Q.length qc, .slice none 0 0, .slice none 0 0⟩ : Env)]).length = T.length + 1 := by simp
  refine own_ents (base := wc.heap.size) (e := 42) (by rw [hl, flatE_snoc]; exact ho) (fun _ _ => trivial) fun t ht => ?_
  rcases List.mem_append.1 ht with ht | ht
  · obtain ⟨h1, h2⟩ := hg t ht
    exact ⟨((h1.under hb1).under hb2).mono fun _ _ _ => trivial, ((h2.under hb1).under hb2).mono fun _ _ _ => trivial⟩
  · obtain rfl := List.mem_singleton.1 ht
    exact ⟨(own_SlK hq (fun _ _ _ _ => trivial)).under hb2, rep_leaf _ _ rfl rfl none none 0 0⟩
theorem ents_src {w1 w2 w' : World} {g n cv : Nat} {T : List Env} (ho : w2.ownsRow w1.heap.size 42 6 (.slice (some ⟨g, 0, none⟩) n cv) n (flatE T)) (hn : T.length = n) (hgd : ∀ t ∈ T, t.good w2 (fun B => w1.heap.size ≤ B)) (hb : Below w2.heap.size w2 w') : Src w' 6 (some ⟨g, 0, none⟩) n (flatE T) := by
  have hg : g < w2.heap.size := (ho.lt g (by simp [Value.ownBlock])).2
  refine ⟨by rw [flatE_len, hn], by simp, fun a ha j u hu => ?_, ?_⟩
  · injection ha with ha; subst ha
    have h := ho.cells (g := g) rfl j u hu
    rw [Lib.add_plain] at h ⊢
    exact (hb.cell (p := ⟨g, 0 + j, none⟩) hg).trans h
  · exact flatE_one hgd
theorem new_src (x : World) (cs : Array Value) (t : TypeId) {vs : List Value} {m : Nat} (hv : cs.toList = vs := by rfl) (hl : vs.length = m * 6 := by rfl) (ho : ∀ u ∈ vs, u.oneCell' = true := by simp [Value.oneCell']) : Src (x.alloc (.cells cs t)) 6 (some ⟨x.heap.size, 0, none⟩) m vs :=
  ⟨hl, by simp, fun a ha j u hu => by injection ha with ha; subst ha; exact cells_new_at rfl hv j u hu, ho⟩
theorem new_src2 (x : World) (o : Obj) (cs : Array Value) (t : TypeId) {vs : List Value} {m : Nat} (hv : cs.toList = vs := by rfl) (hl : vs.length = m * 6 := by rfl) (ho : ∀ u ∈ vs, u.oneCell' = true := by simp [Value.oneCell']) : Src ((x.alloc o).alloc (.cells cs t)) 6 (some ⟨x.heap.size + 1, 0, none⟩) m vs := by
  have h := new_src (x.alloc o) cs t hv hl ho
  simpa using h
theorem kept_src {w x : World} {B : Nat} {cs : Array Value} {t : TypeId} (hB : Blk w B cs t) {row : Option Nat} (hg : w.grownBy x row) (hne : some B ≠ row) {vs : List Value} {m : Nat} (hv : cs.toList = vs := by rfl) (hl : vs.length = m * 6 := by rfl) (ho : ∀ u ∈ vs, u.oneCell' = true := by simp [Value.oneCell']) : Src x 6 (some ⟨B, 0, none⟩) m vs := by
  refine ⟨hl, by simp, fun a ha j u hu => ?_, ho⟩
  injection ha with ha; subst ha
  rw [Lib.add_plain, Nat.zero_add, (hB.kept hg hne).cell j]
  subst hv
  simpa using hu
theorem own_second (w : World) (o : Obj) {t : TypeId} : ((w.alloc o).alloc (.cells #[] t)).ownsRow w.heap.size t 6 (.slice (some ⟨w.heap.size + 1, 0, none⟩) 0 0) 0 [] := by
  have h := own_less (b' := w.heap.size) (own_empty (w.alloc o) (t := t) (size := 6)) (by simp)
  simpa using h
theorem labs_add {P : List Stp} (deep : Bool) (h : ∀ x ∈ P, x.lab.length ≤ 1000000) : ∀ x ∈ P ++ (if deep then [stepA] else []), x.lab.length ≤ 1000000 := by
  intro x hx
  rcases List.mem_append.1 hx with hx | hx
  · exact h x hx
  · cases deep with
    | true => obtain rfl := List.mem_singleton.1 hx; decide
    | false => cases hx
theorem clash_lims {L : List Ent} {T : List Env} {Q : List Stp} (hT : T.map Env.e = L) (hL : ∀ e ∈ L, e.1.length ≤ 16 ∧ limD e.2 = true ∧ ∀ x ∈ e.1, x.lab.length ≤ 1000000) (hl : L.length ≤ 40) (hQ : Q.length ≤ 17) (hq : ∀ x ∈ Q, x.lab.length ≤ 1000000) : entLims (T.map Env.e ++ [(Q, nullD)]) := by
  rw [hT]
  refine ⟨by simp; omega, fun e he => ?_⟩
  rcases List.mem_append.1 he with he | he
  · obtain ⟨h1, h2, h3⟩ := hL e he
    exact ⟨by omega, h2, h3⟩
  · obtain rfl := List.mem_singleton.1 he
    exact ⟨by simp only; omega, (by decide : limD nullD = true), hq⟩
theorem blk_two (w : World) (o : Obj) (cs : Array Value) {t : TypeId} : Blk ((w.alloc o).alloc (.cells cs t)) (w.heap.size + 1) cs t := by
  have h := Blk.new (w.alloc o) cs t
  simpa using h
theorem blk_three (w : World) (o o' : Obj) (cs : Array Value) {t : TypeId} : Blk (((w.alloc o).alloc o').alloc (.cells cs t)) (w.heap.size + 1 + 1) cs t := by
  have h := Blk.new ((w.alloc o).alloc o') cs t
  simpa using h
theorem own_third (w : World) (o o' : Obj) {t : TypeId} : (((w.alloc o).alloc o').alloc (.cells #[] t)).ownsRow w.heap.size t 6 (.slice (some ⟨w.heap.size + 1 + 1, 0, none⟩) 0 0) 0 [] := by
  have h := own_less (b' := w.heap.size) (own_empty ((w.alloc o).alloc o') (t := t) (size := 6)) (by simp; omega)
  simpa using h
theorem box_kept {w x : World} {B b s n : Nat} {cs : Array Value} {v : Value} {xs : List Value} (hB : Blk w B cs 26) (ho : w.ownsRow b 42 s v n xs) (hg : w.grownBy x v.ownBlock) : Blk x B cs 26 :=
  hB.kept hg (blk_own hB ho (by decide))
theorem Src.up {w : World} {size : Nat} {p : Option Addr} {m : Nat} {news : List Value} {o : Obj} (h : Src w size p m news) : Src (w.alloc o) size p m news :=
  ⟨h.1, h.2.1, fun a ha j u hu => by have h1 := h.2.2.1 a ha j u hu; generalize a.add j = b at h1 ⊢; obtain ⟨b, o', s⟩ := b; exact Lib.cell?_alloc_some _ h1, h.2.2.2⟩
theorem kept_srcD {w x : World} {B : Nat} {cs : Array Value} {t : TypeId} (hB : Blk w B cs t) {row : Option Nat} (hg : w.drew.grownBy x row) (hne : some B ≠ row) {vs : List Value} {m : Nat} (hv : cs.toList = vs := by rfl) (hl : vs.length = m * 6 := by rfl) (ho : ∀ u ∈ vs, u.oneCell' = true := by simp [Value.oneCell']) : Src x 6 (some ⟨B, 0, none⟩) m vs :=
  kept_src (w := w.drew) hB hg hne hv hl ho
theorem box_keptD {w x : World} {B b s n : Nat} {cs : Array Value} {v : Value} {xs : List Value} (hB : Blk w B cs 26) (ho : w.ownsRow b 42 s v n xs) (hg : w.drew.grownBy x v.ownBlock) : Blk x B cs 26 :=
  box_kept (w := w.drew) hB ho hg
theorem awake_from {w : World} (hE : StOk w) (hM : MaxOk w) (X : World) (hb : Below w.heap.size w X) : Calls Tryz.prog 10 #[] X fun e w' => e = .returned (.bool true) ∧ Below w.heap.size w w' :=
  (awake_any X (hE.below hb) (hM.below hb)).mono fun _ _ h => ⟨h.1, hb.trans (h.2.mono hb.size)⟩
end
section
open Go.RowKit

theorem two_push {W w' : World} {b n m : Nat} {e : TypeId} {s : Nat} {u v u' : Value} {xs ys : List Value} {o : Obj} (hv : W.ownsRow b e s v m ys) (hd : u.ownBlock = none ∨ v.ownBlock = none ∨ u.ownBlock ≠ v.ownBlock)
    (hg : (W.alloc o).grownBy w' u.ownBlock) (hat : u'.ownBlock = u.ownBlock ∨ u'.ownBlock = some (W.alloc o).heap.size) : w'.ownsRow b e s v m ys ∧ (u'.ownBlock = none ∨ v.ownBlock = none ∨ u'.ownBlock ≠ v.ownBlock) := by
  refine ⟨(hv.alloc o).kept hg ?_, ?_⟩
  · rcases hd with h | h | h
    · rw [h]
      cases v.ownBlock with
      | none => exact .inl rfl
      | some k => exact .inr (by simp)
    · exact .inl h
    · exact .inr (Ne.symm h)
  · rcases hat with h | h
    · rw [h]; exact hd
    · right
      cases hk : v.ownBlock with
      | none => exact .inl rfl
      | some k =>
        right
        rw [h]
        intro e'
        injection e' with e'
        have := (hv.lt k hk).2
        simp at e'
        omega
/-- the rows of the two lists -/
def OrS (w2 : World) (R M : List Env) (i j : Nat) (u v : Value) (wr : World) : Prop :=
  wr.ownsRow w2.heap.size 42 6 u i (flatE (R.take i)) ∧ wr.ownsRow w2.heap.size 42 6 v j (flatE (M.take j)) ∧ (u.ownBlock = none ∨ v.ownBlock = none ∨ u.ownBlock ≠ v.ownBlock) ∧ Below w2.heap.size w2 wr
theorem flatE_take {R : List Env} {i : Nat} (h : i < R.length) : flatE (R.take (i + 1)) = flatE (R.take i) ++ cellsE R[i] := by
  rw [List.take_succ_eq_append_getElem h, flatE_snoc]
theorem OrS.start (w2 : World) (R M : List Env) : OrS w2 R M 0 0 (.slice none 0 0) (.slice none 0 0) w2 :=
  ⟨World.ownsRow_nil _ _ _ _, World.ownsRow_nil _ _ _ _, .inl (by simp [Value.ownBlock]), Below.refl _ _⟩
theorem OrS.first {w2 wr w' : World} {R M : List Env} {i j : Nat} {u v u' : Value} {o : Obj} (h : OrS w2 R M i j u v wr) (hi : i < R.length) (hown : w'.ownsRow w2.heap.size 42 6 u' (i + 1) (flatE (R.take i) ++ cellsE R[i]))
    (hg : (wr.alloc o).grownBy w' u.ownBlock) (hat : u'.ownBlock = u.ownBlock ∨ u'.ownBlock = some (wr.alloc o).heap.size) : OrS w2 R M (i + 1) j u' v w' := by
  obtain ⟨h1, h2, h3, h4⟩ := h
  obtain ⟨k1, k2⟩ := two_push (n := i) (xs := flatE (R.take i)) h2 h3 hg hat
  exact ⟨by rw [flatE_take hi]; exact hown, k1, k2, below_own (h4.alloc h4.size o) (h1.alloc o) hg (Nat.le_refl _) (by have := h4.size; simp; omega)⟩
theorem OrS.second {w2 wr w' : World} {R M : List Env} {i j : Nat} {u v v' : Value} {o : Obj} (h : OrS w2 R M i j u v wr) (hj : j < M.length) (hown : w'.ownsRow w2.heap.size 42 6 v' (j + 1) (flatE (M.take j) ++ cellsE M[j]))
    (hg : (wr.alloc o).grownBy w' v.ownBlock) (hat : v'.ownBlock = v.ownBlock ∨ v'.ownBlock = some (wr.alloc o).heap.size) : OrS w2 R M i (j + 1) u v' w' := by
  obtain ⟨h1, h2, h3, h4⟩ := h
  have h3' : v.ownBlock = none ∨ u.ownBlock = none ∨ v.ownBlock ≠ u.ownBlock := by
    rcases h3 with h | h | h
    · exact .inr (.inl h)
    · exact .inl h
    · exact .inr (.inr (Ne.symm h))
  obtain ⟨k1, k2⟩ := two_push (n := j) (xs := flatE (M.take j)) h1 h3' hg hat
  refine ⟨k1, by rw [flatE_take hj]; exact hown, ?_, below_own (h4.alloc h4.size o) (h2.alloc o) hg (Nat.le_refl _) (by have := h4.size; simp; omega)⟩
  rcases k2 with h | h | h
  · exact .inr (.inl h)
  · exact .inl h
  · exact .inr (.inr (Ne.symm h))
def rotE (T : List Env) (k : Nat) : List Env := T.drop k ++ T.take k
theorem rotE_map (T : List Env) (k : Nat) : (rotE T k).map Env.e = rotL (T.map Env.e) k := by unfold rotE rotL; rw [List.map_append, List.map_drop, List.map_take]
theorem rotE_len (T : List Env) (k : Nat) : (rotE T k).length = T.length := by unfold rotE; simp; omega
theorem rotE_mem {T : List Env} {k : Nat} {t : Env} (h : t ∈ rotE T k) : t ∈ T := by
  unfold rotE at h
  rcases List.mem_append.1 h with h | h
  · exact List.mem_of_mem_drop h
  · exact List.mem_of_mem_take h
theorem rotE_get (T : List Env) (k i : Nat) (hk : k < T.length) (hi : i < T.length) (h : i < (rotE T k).length) : (rotE T k)[i] = T[(i + k) % T.length]'(Nat.mod_lt _ (by omega)) := by
  have e : ∀ (M : List Env) (_ : M = T.drop k ++ T.take k) (h : i < M.length), M[i] = T[(i + k) % T.length]'(Nat.mod_lt _ (by omega)) := by
    intro M hM h
    subst hM
    by_cases h1 : i < T.length - k
    · rw [List.getElem_append_left (by rw [List.length_drop]; exact h1), List.getElem_drop]
      have : (i + k) % T.length = k + i := by rw [Nat.mod_eq_of_lt (by omega)]; omega
      simp only [this]
    · rw [List.getElem_append_right (by rw [List.length_drop]; omega), List.getElem_take]
      have : (i + k) % T.length = i - (T.length - k) := by
        rw [show i + k = (i - (T.length - k)) + T.length by omega, Nat.add_mod_right, Nat.mod_eq_of_lt (by omega)]
      simp only [List.length_drop, this]
  exact e _ rfl h
/-- the entries of the two lists, whole -/
theorem OrS.ents {w1 w2 wr : World} {R M T : List Env} {u v : Value} (h : OrS w2 R M R.length M.length u v wr) (hg : ∀ t ∈ T, t.good w2 (fun B => w1.heap.size ≤ B)) (hR : ∀ t ∈ R, t ∈ T) (hM : ∀ t ∈ M, t ∈ T) :
    EntR wr (fun _ => True) u (R.map Env.e) ∧ EntR wr (fun _ => True) v (M.map Env.e) := by
  obtain ⟨h1, h2, -, h4⟩ := h
  rw [List.take_length] at h1 h2
  have k : ∀ t ∈ T, t.good wr (fun _ => True) := fun t ht => ⟨((hg t ht).1.under h4).mono fun _ _ _ => trivial, ((hg t ht).2.under h4).mono fun _ _ _ => trivial⟩
  exact ⟨own_ents h1 (fun _ _ => trivial) fun t ht => k t (hR t ht), own_ents h2 (fun _ _ => trivial) fun t ht => k t (hM t ht)⟩
/-- an entry's cells: its slices opened -/
theorem ent_cells {w1 w2 w' : World} {g n cv : Nat} {T : List Env} {j : Nat} (ho : w2.ownsRow w1.heap.size 42 6 (.slice (some ⟨g, 0, none⟩) n cv) n (flatE T)) (hj : j < T.length) (hgd : ∀ t ∈ T, t.good w2 (fun B => w1.heap.size ≤ B)) (hb : Below w2.heap.size w2 w') :
    ∃ p1 c1 p2 c2 p3 c3, cellsE T[j] = [.slice p1 T[j].path.length c1, .int .i64 T[j].data.k, .int .i64 T[j].data.n, .string (S T[j].data.s), .slice p2 T[j].data.its.length c2, .slice p3 T[j].data.mem.length c3] ∧
      w'.cell? ⟨g, j * 6, none⟩ = some (.slice p1 T[j].path.length c1) ∧ w'.cell? ⟨g, j * 6 + 1, none⟩ = some (.int .i64 T[j].data.k) ∧ w'.cell? ⟨g, j * 6 + 2, none⟩ = some (.int .i64 T[j].data.n) ∧ w'.cell? ⟨g, j * 6 + 3, none⟩ = some (.string (S T[j].data.s)) ∧
      w'.cell? ⟨g, j * 6 + 4, none⟩ = some (.slice p2 T[j].data.its.length c2) ∧ w'.cell? ⟨g, j * 6 + 5, none⟩ = some (.slice p3 T[j].data.mem.length c3) := by
  have hg : g < w2.heap.size := (ho.lt g (by simp [Value.ownBlock])).2
  obtain ⟨k1, k2⟩ := hgd _ (List.getElem_mem hj)
  obtain ⟨p1, c1, e1⟩ := slk_form k1
  obtain ⟨p2, c2, e2, -, -⟩ := k2.items
  obtain ⟨p3, c3, e3, -, -⟩ := k2.members
  have q : ∀ i, i < 6 → ∀ x, (cellsE T[j])[i]? = some x → w'.cell? ⟨g, j * 6 + i, none⟩ = some x := by
    intro i hi x hx
    have c := ho.cells (g := g) rfl (j * 6 + i) x ((flatE_get T j hj i hi).trans hx)
    rw [Lib.add_plain, Nat.zero_add] at c
    exact (hb.cell (p := ⟨g, j * 6 + i, none⟩) hg).trans c
  have ec : cellsE T[j] = [.slice p1 T[j].path.length c1, .int .i64 T[j].data.k, .int .i64 T[j].data.n, .string (S T[j].data.s), .slice p2 T[j].data.its.length c2, .slice p3 T[j].data.mem.length c3] := by
    unfold cellsE; rw [e1, e2, e3]
  rw [ec] at q
  exact ⟨p1, c1, p2, c2, p3, c3, ec, q 0 (by decide) _ rfl, q 1 (by decide) _ rfl, q 2 (by decide) _ rfl, q 3 (by decide) _ rfl, q 4 (by decide) _ rfl, q 5 (by decide) _ rfl⟩
end
section
open Go.RowKit

set_option maxRecDepth 100000 in
set_option maxHeartbeats 8000000 in
theorem lawPropertiesOrder (d : Dat) (vi vm : Value) (ok : Nat → Prop) (n : Int) (w : World) (hr : Rep w ok d vi vm) (hO : StOk w ∧ MaxOk w) :
    Calls Tryz.prog 9 #[.agg #[.int .i64 d.k, .int .i64 d.n, .string (S d.s), vi, vm], .int .i64 n] w fun e w' => e = .returned (.bool true) ∧ Below w.heap.size w w' := by
  have HE := Lib.hid hO.1
  have HM := Lib.hid hO.2
  have HREP := Lib.hid hr
  obtain ⟨p, cap, rfl, -, -⟩ := hr.items
  obtain ⟨q, caq, rfl, -, -⟩ := hr.members
  clear hO hr
  obtain ⟨sm, hsm⟩ : ∃ sm, smallD d = sm := ⟨_, rfl⟩
  have HSM := Lib.hid hsm
  have HSW := Lib.hid (fun w' (hb : Below w.heap.size w w') => refSmall_any (HREP.out.under hb))
  rw [hsm] at HSW
  clear hsm
  have hS : CkS w.heap.size w d (.slice p d.its.length cap) (.slice q d.mem.length caq) (w.alloc (.cells #[.int .i64 d.k, .int .i64 d.n, .string (S d.s), .slice p d.its.length cap, .slice q d.mem.length caq] 26)) := CkS.new w d _ _
  have hpos := ents_pos d
  rcases Bool.eq_false_or_eq_true sm with rfl | rfl
  case inr =>
    go_enter Tryz.func9, Tryz.ntmps9
    go_upto_region 1 with fail
    generalize w.alloc (.cells #[.int .i64 d.k, .int .i64 d.n, .string (S d.s), .slice p d.its.length cap, .slice q d.mem.length caq] 26) = W at hS ⊢
    obtain ⟨c0, c1, c2, c3, c4, hlw⟩ := hS.cells
    have HS := Lib.hid hS
    clear hS
    go_wp2_with fail
    refine (HSW.out _ HS.out.2).mono ?_
    rintro e w1 ⟨rfl, hb⟩
    have HB1 := Lib.hid (HS.out.2.trans (hb.mono HS.out.2.size))
    clear hb c0 c1 c2 c3 c4 hlw HS
    go_wp2_with fail
    refine (awake_any _ (HE.out.below HB1.out) (HM.out.below HB1.out)).mono ?_
    rintro e w2 ⟨rfl, hb⟩
    have HB2 := Lib.hid (HB1.out.trans (hb.mono HB1.out.size))
    clear hb
    go_wp2_with fail
    go_ret
    exact ⟨rfl, HB2.out⟩
  obtain ⟨hlim, htr⟩ := small_iff HSM.out
  have hlv : (lvD d).length ≤ 40 := by have := lv_len _ d (Nat.lt_succ_self _); omega
  have HFL := Lib.hid (fun w' (hb : Below w.heap.size w w') => Flatten_any (HREP.out.under hb) hlim (by omega))
  have HLIM := Lib.hid hlim
  clear htr hlim
  go_enter Tryz.func9, Tryz.ntmps9
  go_upto_region 1 with fail
  generalize w.alloc (.cells #[.int .i64 d.k, .int .i64 d.n, .string (S d.s), .slice p d.its.length cap, .slice q d.mem.length caq] 26) = W at hS ⊢
  obtain ⟨c0, c1, c2, c3, c4, hlw⟩ := hS.cells
  have HS := Lib.hid hS
  clear hS
  go_wp2_with fail
  refine (HSW.out _ HS.out.2).mono ?_
  rintro e w1 ⟨rfl, hb⟩
  have HS1 := Lib.hid (HS.out.below hb)
  clear hb c0 c1 c2 c3 c4 hlw HS
  obtain ⟨c0, c1, c2, c3, c4, hlw⟩ := HS1.out.cells
  go_wp2_with fail
  refine (HFL.out _ HS1.out.2).mono ?_
  rintro e w2 hF
  rcases flat_two d with ⟨h1, h2, h3⟩ | ⟨h1, h2⟩
  case inr =>
    obtain ⟨pv, cv, T, rfl, -, -, -, hb⟩ := hF.open
    have HB2 := Lib.hid (HS1.out.2.trans (hb.mono HS1.out.2.size))
    rw [h1]
    generalize (flatD d).2 = en at h2 ⊢
    have e1 : ((en : Int) != 0) = true := by simp; omega
    have e2 : ((en : Int) == 0) = false := by simp; omega
    have e3 : ¬ ((en : Int) = 0) := by omega
    clear hb hF h1 h2 c0 c1 c2 c3 c4 hlw
    go_wp2_with fail
    refine (awake_any _ (HE.out.below HB2.out) (HM.out.below HB2.out)).mono ?_
    rintro e w3 ⟨rfl, hb⟩
    have HB3 := Lib.hid (HB2.out.trans (hb.mono HB2.out.size))
    clear hb
    go_wp2_with fail
    go_ret
    exact ⟨rfl, HB3.out⟩
  rw [h1] at hF
  have hlen : (entsD d).length ≤ 40 := by unfold entsD; rw [List.length_map]; exact hlv
  have HOL := Lib.hid (fun k => order_law h2 h3 HLIM.out k)
  have hLd := ents_lims h2 HLIM.out
  obtain ⟨pv, cv, T, rfl, ho, hT, hg, hb⟩ := hF.open
  simp only at ho hT
  generalize entsD d = L at *
  have hTl : T.length = L.length := by rw [← hT, List.length_map]
  obtain ⟨g, cg, hv, -⟩ := ho.form hpos
  injection hv with hv1 _ hv3
  subst hv1; subst hv3
  have hln : ((L.length : Int) == 0) = false := by rw [beq_eq_false_iff_ne]; omega
  have hln2 : ¬ ((L.length : Int) = 0) := by omega
  -- the turn
  obtain ⟨a, ha, ha1, ha2⟩ : ∃ a : Int, n.tmod (L.length : Int) = a ∧ -(L.length : Int) < a ∧ a < (L.length : Int) := by
    refine ⟨_, rfl, ?_, ?_⟩
    · have h := Int.lt_tmod_of_pos n (show (0 : Int) < (L.length : Int) by omega); exact h
    · exact Int.tmod_lt_of_pos n (by omega)
  obtain ⟨k, hk, hk1⟩ : ∃ k : Nat, k < L.length ∧ (a + (L.length : Int)) % (L.length : Int) = (k : Int) := by
    have h1 := Int.emod_nonneg (a + (L.length : Int)) (show (L.length : Int) ≠ 0 by omega)
    have h2 := Int.emod_lt_of_pos (a + (L.length : Int)) (show (0 : Int) < (L.length : Int) by omega)
    exact ⟨((a + (L.length : Int)) % (L.length : Int)).toNat, by omega, by omega⟩
  have hk2 : (a + (L.length : Int)).tmod (L.length : Int) = (k : Int) := by rw [Int.tmod_eq_emod_of_nonneg (by omega)]; exact hk1
  have ha3 : (0 : Int) ≤ a + (L.length : Int) := by omega
  have ha4 : a + (L.length : Int) ≤ 100 := by omega
  have HB2 := Lib.hid (HS1.out.2.trans (hb.mono HS1.out.2.size))
  have KS := Lib.hid (HS1.out.below hb)
  have HO := Lib.hid ho
  have HT := Lib.hid hT
  have HG := Lib.hid hg
  have HTL := Lib.hid hTl
  have HLD := Lib.hid hLd
  clear hb ho hF hT hg h1 h2 h3 hLd c0 c1 c2 c3 c4 hlw
  have HS0 := Lib.hid (OrS.start w2 (rotE T k) T.reverse)
  go_upto_region 9 with fail
  clear ha ha1 ha2 hk1 hk2 ha3 ha4
  go_loopw [7, 8, 10] (fun x y z wr => ∃ (i : Nat) (up : Option Addr) (uc : Nat) (vp : Option Addr) (vc : Nat), x = .slice up i uc ∧ y = .slice vp i vc ∧ z = .int .i64 (i : Int) ∧ i ≤ L.length ∧ Hid (OrS w2 (rotE T k) T.reverse i i (.slice up i uc) (.slice vp i vc) wr)) (fun _ _ z _ => L.length - (intOf z).toNat)
  case atStart => exact ⟨0, none, 0, none, 0, rfl, rfl, rfl, Nat.zero_le _, HS0⟩
  case round =>
    clear HS0
    obtain ⟨i, up, uc, vp, vc, rfl, rfl, rfl, hi', HS⟩ := hrel
    obtain ⟨i1, hj, hy0, hy1, hy2⟩ := info_parts infoEnt
    by_cases hlt : i < L.length
    · have hlt1 : (i : Int) < (L.length : Int) := by omega
      have hiT : i < T.length := by have := HTL.out; omega
      have hiR : i < (rotE T k).length := by rw [rotE_len]; exact hiT
      have hiM : i < T.reverse.length := by rw [List.length_reverse]; exact hiT
      have hkT : k < T.length := by have := HTL.out; omega
      obtain ⟨j, hjT, hjm, hRj⟩ : ∃ (j : Nat) (h : j < T.length), ((i : Int) + (k : Int)) % (L.length : Int) = (j : Int) ∧ (rotE T k)[i] = T[j] :=
        ⟨(i + k) % T.length, Nat.mod_lt _ (by omega), by rw [← HTL.out]; simp, rotE_get T k i hkT hiT hiR⟩
      obtain ⟨r, hrT, hjq, hMr⟩ : ∃ (r : Nat) (h : r < T.length), (L.length : Int) - 1 - (i : Int) = (r : Int) ∧ T.reverse[i] = T[r] :=
        ⟨T.length - 1 - i, by omega, by have := HTL.out; omega, List.getElem_reverse ..⟩
      have HJQ := Lib.hid hjq
      have hjl : j < L.length := by have := HTL.out; omega
      have hql : r < L.length := by have := HTL.out; omega
      have HEC := Lib.hid (fun w' (hb : Below w2.heap.size w2 w') => And.intro (ent_cells HO.out hjT HG.out hb) (ent_cells HO.out hrT HG.out hb))
      obtain ⟨p1, c1, p2, c2, p3, c3, ec, x0, x1, x2, x3, x4, x5⟩ := (HEC.out _ HS.out.2.2.2).1
      have hEC := Lib.hid ((congrArg cellsE hRj).trans ec)
      have HM2 := Lib.hid (congrArg cellsE hMr)
      clear ec hRj hMr hjq
      have hgl : g < wr.heap.size := Nat.lt_of_lt_of_le (HO.out.lt g (by simp [Value.ownBlock])).2 HS.out.2.2.2.size
      generalize T[j].path.length = n1 at x0 hEC
      generalize T[j].data.its.length = n2 at x4 hEC
      generalize T[j].data.mem.length = n3 at x5 hEC
      generalize T[j].data.s = s1 at x3 hEC
      generalize T[j].data.k = k1 at x1 hEC
      generalize T[j].data.n = z1 at x2 hEC
      have HBD := Lib.hid (And.intro (show i + 1 ≤ maxLen by unfold maxLen; omega) (show (i + 1) * 104 ≤ 140737488355328 by omega))
      have HNEW := Lib.hid (new_src wr #[.slice p1 n1 c1, .int .i64 k1, .int .i64 z1, .string (S s1), .slice p2 n2 c2, .slice p3 n3 c3] 42 (vs := [.slice p1 n1 c1, .int .i64 k1, .int .i64 z1, .string (S s1), .slice p2 n2 c2, .slice p3 n3 c3]) (m := 1))
      have HSZ := Lib.hid (show w2.heap.size ≤ (wr.alloc (.cells #[.slice p1 n1 c1, .int .i64 k1, .int .i64 z1, .string (S s1), .slice p2 n2 c2, .slice p3 n3 c3] 42)).heap.size by have := HS.out.2.2.2.size; simp; omega)
      go_upto_region 12 with (at_builtin; refine wpList_app _ rfl _ _ _ rfl w2.heap.size 42 i1 (.agg #[.slice none 0 0, .int .i64 0, .int .i64 0, .string ⟨#[]⟩, .slice none 0 0, .slice none 0 0]) 6 104 Tryz.underlying37 hj hy0 hy1 hy2 rfl (by decide) (.slice up i uc) i (flatE ((rotE T k).take i)) rfl (HS.out.1.alloc _) (some ⟨wr.heap.size, 0, none⟩) 1 1 [.slice p1 n1 c1, .int .i64 k1, .int .i64 z1, .string (S s1), .slice p2 n2 c2, .slice p3 n3 c3] rfl HNEW.out HBD.out.1 HBD.out.2 HSZ.out ?_; intro u6 w6 hown6 hgrow6 hat6; obtain ⟨u6p, u6c, rfl⟩ := own_form5 hown6; have HS6 := Lib.hid (HS.out.first hiR (by rw [hEC.out]; exact hown6) hgrow6 hat6); clear hown6 hgrow6 hat6)
      clear x0 x1 x2 x3 x4 x5 HNEW HSZ HS hEC hgl hjm
      have hjq := HJQ.out
      obtain ⟨p4, c4, p5, c5, p6, c6, ec, x0, x1, x2, x3, x4, x5⟩ := (HEC.out _ HS6.out.2.2.2).2
      have hEC := Lib.hid (HM2.out.trans ec)
      have hgl : g < w6.heap.size := Nat.lt_of_lt_of_le (HO.out.lt g (by simp [Value.ownBlock])).2 HS6.out.2.2.2.size
      clear ec HM2 HEC
      generalize T[r].path.length = m1 at x0 hEC
      generalize T[r].data.its.length = m2 at x4 hEC
      generalize T[r].data.mem.length = m3 at x5 hEC
      generalize T[r].data.s = s2 at x3 hEC
      generalize T[r].data.k = k2 at x1 hEC
      generalize T[r].data.n = z2 at x2 hEC
      have HNEW := Lib.hid (new_src w6 #[.slice p4 m1 c4, .int .i64 k2, .int .i64 z2, .string (S s2), .slice p5 m2 c5, .slice p6 m3 c6] 42 (vs := [.slice p4 m1 c4, .int .i64 k2, .int .i64 z2, .string (S s2), .slice p5 m2 c5, .slice p6 m3 c6]) (m := 1))
      have HSZ := Lib.hid (show w2.heap.size ≤ (w6.alloc (.cells #[.slice p4 m1 c4, .int .i64 k2, .int .i64 z2, .string (S s2), .slice p5 m2 c5, .slice p6 m3 c6] 42)).heap.size by have := HS6.out.2.2.2.size; simp; omega)
      go_wp2_with (at_builtin; refine wpList_app _ rfl _ _ _ rfl w2.heap.size 42 i1 (.agg #[.slice none 0 0, .int .i64 0, .int .i64 0, .string ⟨#[]⟩, .slice none 0 0, .slice none 0 0]) 6 104 Tryz.underlying37 hj hy0 hy1 hy2 rfl (by decide) (.slice vp i vc) i (flatE (T.reverse.take i)) rfl (HS6.out.2.1.alloc _) (some ⟨w6.heap.size, 0, none⟩) 1 1 [.slice p4 m1 c4, .int .i64 k2, .int .i64 z2, .string (S s2), .slice p5 m2 c5, .slice p6 m3 c6] rfl HNEW.out HBD.out.1 HBD.out.2 HSZ.out ?_; intro v7 w7 hown7 hgrow7 hat7; obtain ⟨v7p, v7c, rfl⟩ := own_form5 hown7; have HS7 := Lib.hid (HS6.out.second hiM (by rw [hEC.out]; exact hown7) hgrow7 hat7); clear hown7 hgrow7 hat7)
      go_roundw
      case rel => exact ⟨i + 1, u6p, u6c, v7p, v7c, by simp, by simp, by go_num, hlt, HS7⟩
      case measure => simp [intOf]; omega
    · obtain rfl : i = L.length := by omega
      have hrl : (rotE T k).length = L.length := by rw [rotE_len]; exact HTL.out
      have hml : T.reverse.length = L.length := by rw [List.length_reverse]; exact HTL.out
      obtain ⟨e1, e2⟩ := OrS.ents (w1 := w1) (by rw [hrl, hml]; exact HS.out) HG.out (fun t ht => rotE_mem ht) (fun t ht => List.mem_reverse.1 ht)
      rw [rotE_map, HT.out] at e1
      rw [List.map_reverse, HT.out] at e2
      have HEN := Lib.hid (And.intro e1 e2)
      have HLM := Lib.hid (And.intro (show entLims (rotL L k) from ⟨by rw [rot_len]; omega, fun e he => by have h := HLD.out e ((rot_perm L k).mem_iff.1 he); exact ⟨by omega, h.2⟩⟩) (show entLims L.reverse from ⟨by rw [List.length_reverse]; omega, fun e he => by have h := HLD.out e (List.mem_reverse.1 he); exact ⟨by omega, h.2⟩⟩))
      have KS3 := Lib.hid (KS.out.below HS.out.2.2.2)
      clear e1 e2 hrl hml HS
      go_wp2_with fail
      refine (Build_any HEN.out.1 HLM.out.1).mono ?_
      rintro e w5 hp
      rw [(HOL.out k).1] at hp
      obtain ⟨p5, cap5, q5, caq5, rfl, hr, hb⟩ := hp.open
      have KS5 := Lib.hid (KS3.out.below hb)
      have HR5 := Lib.hid hr
      have HE5 := Lib.hid (HEN.out.2.under hb)
      have hn := Blk.new w5 #[.int .i64 d.k, .int .i64 d.n, .string (S d.s), .slice p5 d.its.length cap5, .slice q5 d.mem.length caq5] 26
      have hb0 := (Below.refl w5.heap.size w5).alloc (Nat.le_refl _) (.cells #[.int .i64 d.k, .int .i64 d.n, .string (S d.s), .slice p5 d.its.length cap5, .slice q5 d.mem.length caq5] 26)
      clear hp hr hb KS3 HEN
      go_upto_region 14 with fail
      generalize w5.alloc (.cells #[.int .i64 d.k, .int .i64 d.n, .string (S d.s), .slice p5 d.its.length cap5, .slice q5 d.mem.length caq5] 26) = w6 at hn hb0 ⊢
      have KS6 := Lib.hid (KS5.out.below hb0)
      have HR6 := Lib.hid (HR5.out.under hb0)
      have HE6 := Lib.hid (HE5.out.under hb0)
      have HN6 := Lib.hid hn
      clear hn hb0 KS5 HR5 HE5
      go_wp2_with fail
      refine (Build_any HE6.out HLM.out.2).mono ?_
      rintro e w7 hp
      rw [(HOL.out k).2] at hp
      obtain ⟨p7, cap7, q7, caq7, rfl, hr, hb⟩ := hp.open
      have KS7 := Lib.hid (KS6.out.below hb)
      have HR7 := Lib.hid (And.intro (HR6.out.under hb) hr)
      have HN7 := Lib.hid (HN6.out.below hb)
      have hn := Blk.new w7 #[.int .i64 d.k, .int .i64 d.n, .string (S d.s), .slice p7 d.its.length cap7, .slice q7 d.mem.length caq7] 26
      have hb0 := (Below.refl w7.heap.size w7).alloc (Nat.le_refl _) (.cells #[.int .i64 d.k, .int .i64 d.n, .string (S d.s), .slice p7 d.its.length cap7, .slice q7 d.mem.length caq7] 26)
      clear hp hr hb KS6 HR6 HN6 HE6
      go_upto_region 15 with fail
      generalize w7.alloc (.cells #[.int .i64 d.k, .int .i64 d.n, .string (S d.s), .slice p7 d.its.length cap7, .slice q7 d.mem.length caq7] 26) = w8 at hn hb0 ⊢
      have KS8 := Lib.hid (KS7.out.below hb0)
      have HR8 := Lib.hid (And.intro (HR7.out.1.under hb0) (HR7.out.2.under hb0))
      have HN8 := Lib.hid (And.intro (HN7.out.below hb0) hn)
      clear hn hb0 KS7 HR7 HN7
      obtain ⟨c0, c1, c2, c3, c4, hlw⟩ := KS8.out.cells
      have d0 := HN8.out.1.cell 0
      have d1 := HN8.out.1.cell 1
      have d2 := HN8.out.1.cell 2
      have d3 := HN8.out.1.cell 3
      have d4 := HN8.out.1.cell 4
      have f0 := HN8.out.2.cell 0
      have f1 := HN8.out.2.cell 1
      have f2 := HN8.out.2.cell 2
      have f3 := HN8.out.2.cell 3
      have f4 := HN8.out.2.cell 4
      simp at d0 d1 d2 d3 d4 f0 f1 f2 f3 f4
      go_wp2_with fail
      refine (dSame_any (SizeOf.sizeOf d + 1) d d (Nat.lt_succ_self _) _ _ _ _ _ _ _ HR8.out.1 (HREP.out.under KS8.out.2) HLIM.out HLIM.out).mono ?_
      rintro e w9 ⟨r, rfl, hr, hb⟩
      obtain rfl : r = true := hr.2 rfl
      have KS9 := Lib.hid (KS8.out.below hb)
      have HR9 := Lib.hid (HR8.out.2.under hb)
      have HN9 := Lib.hid (HN8.out.2.below hb)
      clear hr hb c0 c1 c2 c3 c4 hlw d0 d1 d2 d3 d4 f0 f1 f2 f3 f4 KS8 HR8 HN8
      obtain ⟨c0, c1, c2, c3, c4, hlw⟩ := KS9.out.cells
      have f0 := HN9.out.cell 0
      have f1 := HN9.out.cell 1
      have f2 := HN9.out.cell 2
      have f3 := HN9.out.cell 3
      have f4 := HN9.out.cell 4
      simp at f0 f1 f2 f3 f4
      go_wp2_with fail
      refine (dSame_any (SizeOf.sizeOf d + 1) d d (Nat.lt_succ_self _) _ _ _ _ _ _ _ HR9.out (HREP.out.under KS9.out.2) HLIM.out HLIM.out).mono ?_
      rintro e w10 ⟨r, rfl, hr, hb⟩
      obtain rfl : r = true := hr.2 rfl
      have HB10 := Lib.hid (KS9.out.2.trans (hb.mono KS9.out.2.size))
      clear hr hb c0 c1 c2 c3 c4 hlw f0 f1 f2 f3 f4 KS9 HR9 HN9
      go_wp2_with fail
      refine (awake_any _ (HE.out.below HB10.out) (HM.out.below HB10.out)).mono ?_
      rintro e w11 ⟨rfl, hb⟩
      have HB11 := Lib.hid (HB10.out.trans (hb.mono HB10.out.size))
      clear hb
      go_wp2_with fail
      go_ret
      exact ⟨rfl, HB11.out⟩
end
section
open Go.ChangeShapes Go.WideShapes Go.ChangeAt Go.RowKit

theorem datTy : ∃ f0 f1 f2 f3 f4 g0 g1, DatTy Tryz.prog 26 23 64 24 3 2 9 f0 f1 f2 f3 f4 g0 g1 :=
  ⟨_, _, _, _, _, _, _, ⟨Tryz.underlying26, Tryz.underlying64, Tryz.underlying23, Tryz.underlying24, Tryz.underlying3, Tryz.underlying2, Tryz.underlying9,
    by kernel_rfl, by kernel_rfl, by kernel_rfl, by kernel_rfl, by kernel_rfl, by kernel_rfl, by kernel_rfl, ⟨rfl, rfl, rfl, rfl, rfl, rfl, rfl⟩, ⟨rfl, rfl, rfl, rfl, rfl, rfl, rfl⟩⟩⟩
theorem entTy : ∃ s0 s1 h0 h1, EntTy Tryz.prog 26 3 9 44 40 42 37 s0 s1 h0 h1 :=
  ⟨_, _, _, _, ⟨Tryz.underlying44, Tryz.underlying40, Tryz.underlying42, Tryz.underlying37, Tryz.underlying3, Tryz.underlying9,
    by kernel_rfl, by kernel_rfl, by kernel_rfl, by kernel_rfl, by kernel_rfl, by kernel_rfl, by kernel_rfl, ⟨rfl, rfl, rfl, rfl⟩, ⟨rfl, rfl, rfl, rfl⟩⟩⟩
/-- every slice's element has cells -/
def slicesB (P : Program) : Bool := (List.range P.types.size).all fun t => match P.underlying t with | some (.slice e) => decide (0 < P.cellsOf e) | _ => true
theorem seat_slices : slicesB Tryz.prog = true := by kernel_rfl
theorem reads_one {P : Program} {H : Type} {enc : TypeId × Value → H} {W : World} (hl : laidOutB P = true) (hm : mapsRowed P = true) (hz : slicesB P = true)
    {t : TypeId} (ht : t < P.types.size) {v : Value} {d : DataW H} {p : List MemPlace} (h : DataW.Trod enc P W 0 (fun _ => true) true t v d p) {W' : World} (hb : Below W.heap.size W W') :
    DataW.Trod enc P W' 0 (fun b => decide (b < W.heap.size)) true t v d p := reads_on hl hm (by unfold slicesB at hz; exact hz) ht h hb
theorem seat_laid : laidOutB Tryz.prog = true := by kernel_rfl
theorem seat_maps : mapsRowed Tryz.prog = true := by kernel_rfl
theorem seat_dat : 26 < Tryz.prog.types.size := of_decide_eq_true (by kernel_rfl)
theorem seat_ents : 37 < Tryz.prog.types.size := of_decide_eq_true (by kernel_rfl)
set_option maxRecDepth 100000 in
theorem data_open {H : Type} {enc : TypeId × Value → H} {W : World} {base : Nat} {v : Value} {d : DataW H} {p : List MemPlace} (hok : Value.okWide Tryz.prog W .any base 26 v)
    (h : DataW.Trod enc Tryz.prog W 0 (fun _ => true) true 26 v d p) : ∃ x vi vm, v = .agg #[.int .i64 x.k, .int .i64 x.n, .string (S x.s), vi, vm] ∧ Rep W (fun _ => True) x vi vm ∧ ∀ W', Below W.heap.size W W' → DataW.Trod enc Tryz.prog W' 0 (fun b => decide (b < W.heap.size)) true 26 v d p := by
  have hr := fun W' hb => reads_one seat_laid seat_maps seat_slices seat_dat h (W' := W') hb
  obtain ⟨cs, rfl, -⟩ := okWide_struct Tryz.underlying26 hok
  obtain ⟨n, hn⟩ := h
  obtain ⟨f0, f1, f2, f3, f4, g0, g1, T⟩ := datTy
  obtain ⟨x, vi, vm, hc, hx⟩ := dat_cells T n _ _ hn
  refine ⟨x, vi, vm, ?_, hx, hr⟩
  have e : cs.toList = [.int .i64 x.k, .int .i64 x.n, .string (S x.s), vi, vm] := by simpa [Value.cells] using hc
  obtain ⟨cs⟩ := cs
  simp only at e
  rw [e]
set_option maxRecDepth 100000 in
theorem list_open {H : Type} {enc : TypeId × Value → H} {W : World} {base : Nat} {v : Value} {d : DataW H} {p : List MemPlace} (hok : Value.okWide Tryz.prog W .any base 37 v)
    (h : DataW.Trod enc Tryz.prog W 0 (fun _ => true) true 37 v d p) : ∃ L, EntR W (fun _ => True) v L ∧ L.length ≤ maxLen ∧ (∀ e ∈ L, e.1.length ≤ maxLen) ∧ ∀ W', Below W.heap.size W W' → DataW.Trod enc Tryz.prog W' 0 (fun b => decide (b < W.heap.size)) true 37 v d p := by
  have hr := fun W' hb => reads_one seat_laid seat_maps seat_slices seat_ents h (W' := W') hb
  obtain ⟨a0, len0, cap0, rfl⟩ := okWide_slice Tryz.underlying37 hok
  obtain ⟨n, hn⟩ := h
  obtain ⟨f0, f1, f2, f3, f4, g0, g1, T⟩ := datTy
  obtain ⟨s0, s1, h0, h1, T2⟩ := entTy
  have hn' : DataW.trod enc Tryz.prog W 0 (fun _ => true) true n 37 [.slice a0 len0 cap0] = some (d, p) := by simpa [Value.cells] using hn
  obtain ⟨L, h1, h2, h3⟩ := ents_open T T2 n _ _ hn'
  exact ⟨L, h1, h2, h3, hr⟩
end
end Go.Proofs.YtoahmganodehkaaGreatDoor
