/- The law of the lines: its walk. -/
import Derived.Test.YtoahmganodehkaaGreatDoorM11
import Derived.ProofKit
import Derived.OpenShut
import Derived.ShutString
import Derived.ChangeOld
import Derived.ChangeStays
import Derived.ReadAgain
import Derived.Test.YtoahmganodehkaaGreatDoorM02
import Derived.Test.YtoahmganodehkaaGreatDoorCards
import Derived.Test.YtoahmganodehkaaGreatDoorTie
import Derived.Test.YtoahmganodehkaaGreatDoorM05
import Derived.Deep.DeepHandedRow
import Derived.Stop.LaidErr
import Derived.Lib.LaidTab
import Derived.Test.YtoahmganodehkaaGreatDoorM03
import Derived.LoopTactic
import Derived.Outline
import Derived.Test.YtoahmganodehkaaGreatDoorM01
namespace Go.Proofs.YtoahmganodehkaaGreatDoor
set_option linter.unusedSimpArgs false
set_option linter.unusedVariables false
section
open Go.RowKit

set_option maxRecDepth 100000 in
set_option maxHeartbeats 4000000 in
theorem lawPropertiesLines (l : List UInt8) (w : World) (hO : StOk w ∧ MaxOk w) : Calls Tryz.prog 3 #[.string (S l)] w fun e w' => e = .returned (.bool true) ∧ Below w.heap.size w w' := by
  have HE := Lib.hid hO.1
  have HM := Lib.hid hO.2
  clear hO
  by_cases hbig : 600 < l.length
  · have b1 : (600 : Int) < (l.length : Int) := by omega
    have b2 : decide ((600 : Int) < (l.length : Int)) = true := decide_eq_true b1
    go_enter Tryz.func3, Tryz.ntmps3
    go_wp2_with fail
    refine (awake_any _ HE.out HM.out).mono ?_
    rintro e w1 ⟨rfl, hb⟩
    have HB := Lib.hid hb
    clear hb
    go_wp2_with fail
    go_ret
    exact ⟨rfl, HB.out⟩
  have b1 : ¬ ((600 : Int) < (l.length : Int)) := by omega
  have b2 : decide ((600 : Int) < (l.length : Int)) = false := decide_eq_false b1
  by_cases hz : (parseD parseP l).2.1 = 0
  · obtain ⟨a, t, h1, h2, h3, h4, h5, h6, h7, h8⟩ := lines_all (by omega) hz
    have H1 := Lib.hid h1
    have H2 := Lib.hid (show parseD parseP (ct (ct [47, 47, 32, 102, 105, 114, 115, 116, 32, 61, 32, 49, 10, 10] l) [10, 47, 47, 10]) = (a, 0, 0) from h2)
    have H3 := Lib.hid h3
    have H4 := Lib.hid h4
    have H6 := Lib.hid h6
    have H7 := Lib.hid h7
    have H8 := Lib.hid h8
    clear hz h1 h2 h3 h4 h6 h7 h8
    go_enter Tryz.func3, Tryz.ntmps3
    go_wp2_with fail
    refine (PParse_any pp_ok pp_len l (by omega) _ HE.out HM.out).mono ?_
    rintro e w1 hp
    rw [H1.out] at hp
    obtain ⟨p, cap, q, caq, rfl, hr, hb⟩ := hp.open
    have hn := two_new w1 #[.int .i64 a.k, .int .i64 a.n, .string (S a.s), .slice p a.its.length cap, .slice q a.mem.length caq] #[.int .i64 0, .int .i64 0] 26 29
    have HB1 := Lib.hid hb
    have HR1 := Lib.hid hr
    clear hb hr hp
    go_upto_region 4 with fail
    generalize (w1.alloc (.cells #[.int .i64 a.k, .int .i64 a.n, .string (S a.s), .slice p a.its.length cap, .slice q a.mem.length caq] 26)).alloc (.cells #[.int .i64 0, .int .i64 0] 29) = w2 at hn ⊢
    have HB2 := Lib.hid (HB1.out.trans (hn.2.2.mono HB1.out.size))
    have HR2 := Lib.hid (HR1.out.under hn.2.2)
    have K2 := Lib.hid (And.intro hn.1 hn.2.1)
    have e0 := hn.2.1.cell 0
    simp at e0
    clear hn HB1 HR1
    go_wp2_with fail
    refine (PParse_any pp_ok pp_len (ct (ct [47, 47, 32, 102, 105, 114, 115, 116, 32, 61, 32, 49, 10, 10] l) [10, 47, 47, 10]) (by unfold ct; simp; omega) _ (HE.out.below HB2.out) (HM.out.below HB2.out)).mono ?_
    rintro e w3 hp
    rw [H2.out] at hp
    obtain ⟨p3, cap3, q3, caq3, rfl, hr, hb⟩ := hp.open
    have hn := two_new w3 #[.int .i64 a.k, .int .i64 a.n, .string (S a.s), .slice p3 a.its.length cap3, .slice q3 a.mem.length caq3] #[.int .i64 0, .int .i64 0] 26 29
    have HB3 := Lib.hid (HB2.out.trans (hb.mono HB2.out.size))
    have HR3 := Lib.hid (And.intro (HR2.out.under hb) hr)
    have K3 := Lib.hid (And.intro (K2.out.1.below hb) (K2.out.2.below hb))
    clear hb hr hp e0 HB2 HR2 K2
    go_upto_region 7 with fail
    generalize (w3.alloc (.cells #[.int .i64 a.k, .int .i64 a.n, .string (S a.s), .slice p3 a.its.length cap3, .slice q3 a.mem.length caq3] 26)).alloc (.cells #[.int .i64 0, .int .i64 0] 29) = w4 at hn ⊢
    have HB4 := Lib.hid (HB3.out.trans (hn.2.2.mono HB3.out.size))
    have HR4 := Lib.hid (And.intro (HR3.out.1.under hn.2.2) (HR3.out.2.under hn.2.2))
    have K4 := Lib.hid (And.intro (K3.out.1.below hn.2.2) (And.intro hn.1 hn.2.1))
    clear hn HB3 HR3 K3
    have c0 := K4.out.1.cell 0
    have c1 := K4.out.1.cell 1
    have c2 := K4.out.1.cell 2
    have c3 := K4.out.1.cell 3
    have c4 := K4.out.1.cell 4
    simp at c0 c1 c2 c3 c4
    go_wp2_with fail
    refine (PText_any HR4.out.1 H6.out H7.out (HE.out.below HB4.out).num H8.out).mono ?_
    rintro e w5 ⟨rfl, hb⟩
    rw [H3.out]
    have HB5 := Lib.hid (HB4.out.trans (hb.mono HB4.out.size))
    have HR5 := Lib.hid (And.intro (HR4.out.1.under hb) (HR4.out.2.under hb))
    have K5 := Lib.hid (And.intro (K4.out.1.below hb) (And.intro (K4.out.2.1.below hb) (K4.out.2.2.below hb)))
    clear hb HB4 HR4 K4 c0 c1 c2 c3 c4
    go_wp2_with fail
    refine (PParse_any pp_ok pp_len t (by omega) _ (HE.out.below HB5.out) (HM.out.below HB5.out)).mono ?_
    rintro e w6 hp
    rw [H4.out] at hp
    obtain ⟨p6, cap6, q6, caq6, rfl, hr, hb⟩ := hp.open
    have hn := two_new w6 #[.int .i64 a.k, .int .i64 a.n, .string (S a.s), .slice p6 a.its.length cap6, .slice q6 a.mem.length caq6] #[.int .i64 0, .int .i64 0] 26 29
    have HB6 := Lib.hid (HB5.out.trans (hb.mono HB5.out.size))
    have HR6 := Lib.hid (And.intro (HR5.out.1.under hb) (And.intro (HR5.out.2.under hb) hr))
    have K6 := Lib.hid (And.intro (K5.out.1.below hb) (And.intro (K5.out.2.1.below hb) (K5.out.2.2.below hb)))
    clear hb hr hp HB5 HR5 K5
    go_upto_region 9 with fail
    generalize (w6.alloc (.cells #[.int .i64 a.k, .int .i64 a.n, .string (S a.s), .slice p6 a.its.length cap6, .slice q6 a.mem.length caq6] 26)).alloc (.cells #[.int .i64 0, .int .i64 0] 29) = w7 at hn ⊢
    have HB7 := Lib.hid (HB6.out.trans (hn.2.2.mono HB6.out.size))
    have HR7 := Lib.hid (And.intro (HR6.out.1.under hn.2.2) (And.intro (HR6.out.2.1.under hn.2.2) (HR6.out.2.2.under hn.2.2)))
    have K7 := Lib.hid (And.intro (K6.out.1.below hn.2.2) (And.intro (K6.out.2.1.below hn.2.2) (And.intro (K6.out.2.2.below hn.2.2) (And.intro hn.1 hn.2.1))))
    clear hn HB6 HR6 K6
    have c0 := K7.out.1.cell 0
    have c1 := K7.out.1.cell 1
    have c2 := K7.out.1.cell 2
    have c3 := K7.out.1.cell 3
    have c4 := K7.out.1.cell 4
    have d0 := K7.out.2.1.cell 0
    have d1 := K7.out.2.1.cell 1
    have d2 := K7.out.2.1.cell 2
    have d3 := K7.out.2.1.cell 3
    have d4 := K7.out.2.1.cell 4
    have e0 := K7.out.2.2.1.cell 0
    have e1 := K7.out.2.2.1.cell 1
    have f0 := K7.out.2.2.2.1.cell 0
    have f1 := K7.out.2.2.2.1.cell 1
    have f2 := K7.out.2.2.2.1.cell 2
    have f3 := K7.out.2.2.2.1.cell 3
    have f4 := K7.out.2.2.2.1.cell 4
    have g0 := K7.out.2.2.2.2.cell 0
    have g1 := K7.out.2.2.2.2.cell 1
    simp at c0 c1 c2 c3 c4 d0 d1 d2 d3 d4 e0 e1 f0 f1 f2 f3 f4 g0 g1
    go_wp2_with fail
    refine (dSame_any (SizeOf.sizeOf a + 1) a a (Nat.lt_succ_self _) _ _ _ _ _ _ _ HR7.out.1 HR7.out.2.1 H6.out H6.out).mono ?_
    rintro e w8 ⟨r, rfl, hr, hb⟩
    obtain rfl : r = true := hr.2 rfl
    have HB8 := Lib.hid (HB7.out.trans (hb.mono HB7.out.size))
    have HR8 := Lib.hid (And.intro (HR7.out.1.under hb) (HR7.out.2.2.under hb))
    have K8 := Lib.hid (And.intro (K7.out.1.below hb) (K7.out.2.2.2.1.below hb))
    clear hr hb c0 c1 c2 c3 c4 d0 d1 d2 d3 d4 e0 e1 f0 f1 f2 f3 f4 g0 g1 HB7 HR7 K7
    have c0 := K8.out.1.cell 0
    have c1 := K8.out.1.cell 1
    have c2 := K8.out.1.cell 2
    have c3 := K8.out.1.cell 3
    have c4 := K8.out.1.cell 4
    have f0 := K8.out.2.cell 0
    have f1 := K8.out.2.cell 1
    have f2 := K8.out.2.cell 2
    have f3 := K8.out.2.cell 3
    have f4 := K8.out.2.cell 4
    simp at c0 c1 c2 c3 c4 f0 f1 f2 f3 f4
    go_wp2_with fail
    refine (dSame_any (SizeOf.sizeOf a + 1) a a (Nat.lt_succ_self _) _ _ _ _ _ _ _ HR8.out.1 HR8.out.2 H6.out H6.out).mono ?_
    rintro e w9 ⟨r, rfl, hr, hb⟩
    obtain rfl : r = true := hr.2 rfl
    have HB9 := Lib.hid (HB8.out.trans (hb.mono HB8.out.size))
    clear hr hb c0 c1 c2 c3 c4 f0 f1 f2 f3 f4 HB8 HR8 K8
    go_wp2_with fail
    refine (awake_any _ (HE.out.below HB9.out) (HM.out.below HB9.out)).mono ?_
    rintro e w10 ⟨rfl, hb⟩
    have HB10 := Lib.hid (HB9.out.trans (hb.mono HB9.out.size))
    clear hb
    go_wp2_with fail
    go_ret
    exact ⟨rfl, HB10.out⟩
  · have HP := Lib.hid (Prod.ext (parse_zero hz) rfl : parseD parseP l = (dat0, (parseD parseP l).2))
    generalize (parseD parseP l).2 = en at hz HP
    obtain ⟨n, m⟩ := en
    simp only at hz
    have HN := Lib.hid hz
    clear hz
    go_enter Tryz.func3, Tryz.ntmps3
    go_wp2_with fail
    refine (PParse_any pp_ok pp_len l (by omega) _ HE.out HM.out).mono ?_
    rintro e w1 hp
    rw [HP.out] at hp
    obtain ⟨p, cap, q, caq, rfl, hr, hb⟩ := hp.open
    have hn := two_new w1 #[.int .i64 dat0.k, .int .i64 dat0.n, .string (S dat0.s), .slice p dat0.its.length cap, .slice q dat0.mem.length caq] #[.int .i64 (n : Int), .int .i64 (m : Int)] 26 29
    have HB1 := Lib.hid hb
    have HR1 := Lib.hid hr
    clear hb hr hp
    go_upto_region 4 with fail
    generalize (w1.alloc (.cells #[.int .i64 dat0.k, .int .i64 dat0.n, .string (S dat0.s), .slice p dat0.its.length cap, .slice q dat0.mem.length caq] 26)).alloc (.cells #[.int .i64 (n : Int), .int .i64 (m : Int)] 29) = w2 at hn ⊢
    have HB2 := Lib.hid (HB1.out.trans (hn.2.2.mono HB1.out.size))
    have HR2 := Lib.hid (HR1.out.under hn.2.2)
    have e0 := hn.2.1.cell 0
    have c0 := hn.1.cell 0
    have c1 := hn.1.cell 1
    have c2 := hn.1.cell 2
    have c3 := hn.1.cell 3
    have c4 := hn.1.cell 4
    simp at e0 c0 c1 c2 c3 c4
    have t1 : ((n : Int) != 0) = true := by have := HN.out; simp; omega
    have t2 : ((n : Int) == 0) = false := by have := HN.out; simp; omega
    clear hn HB1 HR1
    go_wp2_with fail
    refine (dSame_any (SizeOf.sizeOf dat0 + 1) dat0 dat0 (Nat.lt_succ_self _) _ _ (.slice none 0 0) (.slice none 0 0) _ (fun _ => True) _ HR2.out (rep_leaf _ _ rfl rfl none none 0 0) (by decide) (by decide)).mono ?_
    rintro e w3 ⟨r, rfl, hr, hb⟩
    obtain rfl : r = true := hr.2 rfl
    have HB3 := Lib.hid (HB2.out.trans (hb.mono HB2.out.size))
    clear hr hb c0 c1 c2 c3 c4 e0 HB2 HR2
    go_wp2_with fail
    refine (awake_any _ (HE.out.below HB3.out) (HM.out.below HB3.out)).mono ?_
    rintro e w4 ⟨rfl, hb⟩
    have HB4 := Lib.hid (HB3.out.trans (hb.mono HB3.out.size))
    clear hb
    go_wp2_with fail
    go_ret
    exact ⟨rfl, HB4.out⟩
end
section
open Go.ChangeShapes Go.WideShapes Go.RowKit

section
variable {P : Program} {H : Type} {enc : TypeId × Value → H} {W : World}
/-- what came in reads the same behind a call that only makes memory -/
theorem reads_on (hl : laidOutB P = true) (hm : mapsRowed P = true) (hz : ((List.range P.types.size).all fun t => match P.underlying t with | some (.slice e) => decide (0 < P.cellsOf e) | _ => true) = true)
    {t : TypeId} (ht : t < P.types.size) {v : Value} {d : DataW H} {p : List MemPlace} (h : DataW.Trod enc P W 0 (fun _ => true) true t v d p) {W' : World} (hb : Below W.heap.size W W') :
    DataW.Trod enc P W' 0 (fun b => decide (b < W.heap.size)) true t v d p := by
  obtain ⟨n, hn⟩ := h
  have hlt := DataW.trod_lt n _ _ _ hn
  exact ⟨n, DataW.trod_stays (kids_rows hl hm) (fun ht h => slices_full_of P hz _ _ ht h) (by intro h; cases h) ht hn (fun p hp => hb.same (hlt p hp)) (fun p hp => decide_eq_true (hlt p hp))⟩
/-- the types of data and of members -/
structure DatTy (P : Program) (D SD M SM I L Str : TypeId) (f0 f1 f2 f3 f4 g0 g1 : Field) : Prop where
  uD : P.underlying D = some (.struct #[f0, f1, f2, f3, f4])
  uM : P.underlying M = some (.struct #[g0, g1])
  uSD : P.underlying SD = some (.slice D)
  uSM : P.underlying SM = some (.slice M)
  uI : P.underlying I = some (.int .i64)
  uL : P.underlying L = some (.int .i64)
  uS : P.underlying Str = some .string
  cD : P.cellsOf D = 5
  cM : P.cellsOf M = 6
  cSD : P.cellsOf SD = 1
  cSM : P.cellsOf SM = 1
  cI : P.cellsOf I = 1
  cL : P.cellsOf L = 1
  cS : P.cellsOf Str = 1
  y : f0.type = I ∧ f1.type = L ∧ f2.type = Str ∧ f3.type = SD ∧ f4.type = SM ∧ g0.type = Str ∧ g1.type = D
  o : f0.offset = 0 ∧ f1.offset = 1 ∧ f2.offset = 2 ∧ f3.offset = 3 ∧ f4.offset = 4 ∧ g0.offset = 0 ∧ g1.offset = 1
theorem list_five {α : Type} {cs : List α} (h : cs.length = 5) : ∃ a b c d e, cs = [a, b, c, d, e] := by
  match cs, h with
  | [a, b, c, d, e], _ => exact ⟨a, b, c, d, e, rfl⟩
theorem list_six {α : Type} {cs : List α} (h : cs.length = 6) : ∃ a b c d e f, cs = [a, b, c, d, e, f] := by
  match cs, h with
  | [a, b, c, d, e, f], _ => exact ⟨a, b, c, d, e, f, rfl⟩
theorem plain_add (b o i : Nat) : (⟨b, o, none⟩ : Addr).add i = ⟨b, o + i, none⟩ := by
  unfold Addr.add
  by_cases h : i = 0
  · subst h; rfl
  · rw [if_neg h]
theorem add_at {a : Addr} {i j : Nat} (h : a.spot = none) : (a.add i).add j = ⟨a.block, a.off + i + j, none⟩ := by
  obtain ⟨b, o, s⟩ := a
  have hs : s = none := h
  subst hs
  rw [plain_add, plain_add]
theorem cell_block {w : World} {b o : Nat} {v : Value} (h : w.cell? ⟨b, o, none⟩ = some v) : b < w.heap.size := by
  unfold World.cell? at h
  simp only at h
  split at h
  · rename_i hh; exact (Array.getElem?_eq_some_iff.1 hh).1
  · cases h
variable {D SD M SM I L Str : TypeId} {f0 f1 f2 f3 f4 g0 g1 : Field} {base : Nat} {spare : Nat → Bool} {held : Bool}
/-- five cells that read as data hold data -/
theorem dat_cells (T : DatTy P D SD M SM I L Str f0 f1 f2 f3 f4 g0 g1) : ∀ (n : Nat) (cs : List Value) (x : DataW H × List MemPlace), DataW.trod enc P W base spare held n D cs = some x →
    ∃ d vi vm, cs = [.int .i64 d.k, .int .i64 d.n, .string (S d.s), vi, vm] ∧ Rep W (fun _ => True) d vi vm := by
  intro n
  induction n using Nat.strongRecOn with
  | _ n ih =>
    intro cs x h
    obtain ⟨xs, m, rfl, -, hlen, hxl, hf⟩ := DataW.trod_struct T.uD h
    rw [T.cD] at hlen
    obtain ⟨c0, c1, c2, c3, c4, rfl⟩ := list_five hlen
    obtain ⟨y0, y1, y2, y3, y4, -, -⟩ := T.y
    obtain ⟨o0, o1, o2, o3, o4, -, -⟩ := T.o
    have h0 := hf 0 f0 rfl
    have h1 := hf 1 f1 rfl
    have h2 := hf 2 f2 rfl
    have h3 := hf 3 f3 rfl
    have h4 := hf 4 f4 rfl
    rw [y0, o0, T.cI] at h0
    rw [y1, o1, T.cL] at h1
    rw [y2, o2, T.cS] at h2
    rw [y3, o3, T.cSD] at h3
    rw [y4, o4, T.cSM] at h4
    have hxs : xs.length = 5 := hxl
    obtain ⟨x0, x1, x2, x3, x4, rfl⟩ := list_five hxs
    simp only [List.drop_zero, List.drop_succ_cons, List.take_succ_cons, List.take_zero, List.getElem?_cons_zero, List.getElem?_cons_succ] at h0 h1 h2 h3 h4
    obtain ⟨k, e0, -, -⟩ := DataW.trod_int T.uI h0
    obtain ⟨z, e1, -, -⟩ := DataW.trod_int T.uL h1
    obtain ⟨s, e2, -, -⟩ := DataW.trod_string T.uS h2
    obtain ⟨l, rfl⟩ := S_ex s
    injection e0 with e0 _
    injection e1 with e1 _
    injection e2 with e2 _
    subst e0; subst e1; subst e2
    -- the items
    have hi : ∃ (its : List Dat) (p : Option Addr) (cap B o : Nat) (vi vm : Nat → Value), c3 = .slice p its.length cap ∧ its.length ≤ maxLen ∧ (0 < its.length → p = some ⟨B, o, none⟩ ∧ its.length ≤ cap ∧ B < W.heap.size) ∧
        (∀ (j : Nat) (h : j < its.length), DCell W B (o + j * 5) its[j] (vi j) (vm j)) ∧ ∀ (j : Nat) (h : j < its.length), Rep W (fun _ => True) its[j] (vi j) (vm j) := by
      rcases DataW.trod_slice T.uSD h3 with ⟨hc, -⟩ | ⟨a, len, cap, elems, rest, q, hq, hc, -, hb, hl, hcap, hle, hel, -, -⟩
      · injection hc with hc _
        exact ⟨[], none, 0, 0, 0, fun _ => .nilFunc, fun _ => .nilFunc, hc, Nat.zero_le _, by simp, by simp, by simp⟩
      · injection hc with hc _
        subst hc
        rcases Nat.eq_zero_or_pos len with h0 | h0
        · subst h0
          exact ⟨[], some a, cap, 0, 0, fun _ => .nilFunc, fun _ => .nilFunc, rfl, Nat.zero_le _, by simp, by simp, by simp⟩
        · have key : ∀ i, i < len → ∃ d vi vm, W.cell? ((a.add (i * 5)).add 0) = some (.int .i64 d.k) ∧ W.cell? ((a.add (i * 5)).add 1) = some (.int .i64 d.n) ∧ W.cell? ((a.add (i * 5)).add 2) = some (.string (S d.s)) ∧ W.cell? ((a.add (i * 5)).add 3) = some vi ∧ W.cell? ((a.add (i * 5)).add 4) = some vm ∧ Rep W (fun _ => True) d vi vm := by
            intro i hi
            have he := hel i hi
            rw [T.cD, List.getElem?_eq_getElem (by omega)] at he
            obtain ⟨cs', hcs, htr⟩ := Option.bind_eq_some_iff.1 he
            obtain ⟨d, vi, vm, rfl, hr⟩ := ih q (by omega) cs' _ htr
            obtain ⟨-, -, hat⟩ := World.cells?_some hcs
            exact ⟨d, vi, vm, hat 0 (by omega), hat 1 (by omega), hat 2 (by omega), hat 3 (by omega), hat 4 (by omega), hr⟩
          obtain ⟨d0, _, _, k0, -⟩ := key 0 h0
          have hsp : a.spot = none := by
            have := World.cell?_spot k0
            simpa [Addr.add] using this
          have hB : a.block < W.heap.size := by
            rw [add_at hsp] at k0
            exact cell_block k0
          have key : ∀ i, i < len → ∃ (d : Dat) (vi vm : Value), DCell W a.block (a.off + i * 5) d vi vm ∧ Rep W (fun _ => True) d vi vm := by
            intro i hi
            obtain ⟨d, vi, vm, q0, q1, q2, q3, q4, q5⟩ := key i hi
            rw [add_at hsp] at q0 q1 q2 q3 q4
            exact ⟨d, vi, vm, ⟨q0, q1, q2, q3, q4⟩, q5⟩
          let F : Nat → Dat × Value × Value := fun i => if h : i < len then ⟨(key i h).choose, (key i h).choose_spec.choose, (key i h).choose_spec.choose_spec.choose⟩ else (dat0, .nilFunc, .nilFunc)
          have hF : ∀ i, i < len → DCell W a.block (a.off + i * 5) (F i).1 (F i).2.1 (F i).2.2 ∧ Rep W (fun _ => True) (F i).1 (F i).2.1 (F i).2.2 := by
            intro i hi
            have e : F i = ⟨(key i hi).choose, (key i hi).choose_spec.choose, (key i hi).choose_spec.choose_spec.choose⟩ := dif_pos hi
            rw [e]
            exact (key i hi).choose_spec.choose_spec.choose_spec
          refine ⟨(List.range len).map fun i => (F i).1, some a, cap, a.block, a.off, fun i => (F i).2.1, fun i => (F i).2.2, by simp, by simp; omega, fun _ => ⟨?_, by simpa using hl, hB⟩, ?_, ?_⟩
          · obtain ⟨b, o, sp⟩ := a
            have : sp = none := hsp
            rw [this]
          · intro j hj
            simp only [List.length_map, List.length_range] at hj
            simp only [List.getElem_map, List.getElem_range]
            exact (hF j hj).1
          · intro j hj
            simp only [List.length_map, List.length_range] at hj
            simp only [List.getElem_map, List.getElem_range]
            exact (hF j hj).2
    -- the members
    have hm : ∃ (mem : List (List UInt8 × Dat)) (p : Option Addr) (cap B o : Nat) (vi vm : Nat → Value), c4 = .slice p mem.length cap ∧ mem.length ≤ maxLen ∧ (0 < mem.length → p = some ⟨B, o, none⟩ ∧ mem.length ≤ cap ∧ B < W.heap.size) ∧
        (∀ (j : Nat) (h : j < mem.length), W.cell? ⟨B, o + j * 6, none⟩ = some (.string (S mem[j].1)) ∧ DCell W B (o + j * 6 + 1) mem[j].2 (vi j) (vm j)) ∧ ∀ (j : Nat) (h : j < mem.length), Rep W (fun _ => True) mem[j].2 (vi j) (vm j) := by
      rcases DataW.trod_slice T.uSM h4 with ⟨hc, -⟩ | ⟨a, len, cap, elems, rest, q, hq, hc, -, hb, hl, hcap, hle, hel, -, -⟩
      · injection hc with hc _
        exact ⟨[], none, 0, 0, 0, fun _ => .nilFunc, fun _ => .nilFunc, hc, Nat.zero_le _, by simp, by simp, by simp⟩
      · injection hc with hc _
        subst hc
        rcases Nat.eq_zero_or_pos len with h0 | h0
        · subst h0
          exact ⟨[], some a, cap, 0, 0, fun _ => .nilFunc, fun _ => .nilFunc, rfl, Nat.zero_le _, by simp, by simp, by simp⟩
        · have key : ∀ i, i < len → ∃ (r : List UInt8 × Dat) (vi vm : Value), W.cell? ((a.add (i * 6)).add 0) = some (.string (S r.1)) ∧ W.cell? ((a.add (i * 6)).add 1) = some (.int .i64 r.2.k) ∧ W.cell? ((a.add (i * 6)).add 2) = some (.int .i64 r.2.n) ∧ W.cell? ((a.add (i * 6)).add 3) = some (.string (S r.2.s)) ∧ W.cell? ((a.add (i * 6)).add 4) = some vi ∧ W.cell? ((a.add (i * 6)).add 5) = some vm ∧ Rep W (fun _ => True) r.2 vi vm := by
            intro i hi
            have he := hel i hi
            rw [T.cM, List.getElem?_eq_getElem (by omega)] at he
            obtain ⟨cs', hcs, htr⟩ := Option.bind_eq_some_iff.1 he
            obtain ⟨xs', m', hm', -, hlen', hxs', hf'⟩ := DataW.trod_struct T.uM htr
            rw [T.cM] at hlen'
            obtain ⟨b0, b1, b2, b3, b4, b5, rfl⟩ := list_six hlen'
            obtain ⟨-, -, -, -, -, y5, y6⟩ := T.y
            obtain ⟨-, -, -, -, -, o5, o6⟩ := T.o
            have k0 := hf' 0 g0 rfl
            have k1 := hf' 1 g1 rfl
            rw [y5, o5, T.cS] at k0
            rw [y6, o6, T.cD] at k1
            have hxs2 : xs'.length = 2 := hxs'
            rw [List.getElem?_eq_getElem (by omega)] at k0 k1
            simp only [List.drop_zero, List.drop_succ_cons, List.take_succ_cons, List.take_zero] at k0 k1
            obtain ⟨s', e2, -, -⟩ := DataW.trod_string T.uS k0
            obtain ⟨l', rfl⟩ := S_ex s'
            injection e2 with e2 _
            obtain ⟨d, vi, vm, hcs2, hr⟩ := ih m' (by omega) _ _ k1
            obtain ⟨-, -, hat⟩ := World.cells?_some hcs
            injection hcs2 with j1 hcs2
            injection hcs2 with j2 hcs2
            injection hcs2 with j3 hcs2
            injection hcs2 with j4 hcs2
            injection hcs2 with j5 hcs2
            subst e2; subst j1; subst j2; subst j3; subst j4; subst j5
            exact ⟨(l', d), b4, b5, hat 0 (by omega), hat 1 (by omega), hat 2 (by omega), hat 3 (by omega), hat 4 (by omega), hat 5 (by omega), hr⟩
          obtain ⟨d0, _, _, k0, -⟩ := key 0 h0
          have hsp : a.spot = none := by
            have := World.cell?_spot k0
            simpa [Addr.add] using this
          have hB : a.block < W.heap.size := by
            rw [add_at hsp] at k0
            exact cell_block k0
          have key : ∀ i, i < len → ∃ (r : List UInt8 × Dat) (vi vm : Value), W.cell? ⟨a.block, a.off + i * 6, none⟩ = some (.string (S r.1)) ∧ DCell W a.block (a.off + i * 6 + 1) r.2 vi vm ∧ Rep W (fun _ => True) r.2 vi vm := by
            intro i hi
            obtain ⟨r, vi, vm, q0, q1, q2, q3, q4, q5, q6⟩ := key i hi
            rw [add_at hsp] at q0 q1 q2 q3 q4 q5
            exact ⟨r, vi, vm, q0, ⟨q1, q2, q3, q4, q5⟩, q6⟩
          let F : Nat → (List UInt8 × Dat) × Value × Value := fun i => if h : i < len then ⟨(key i h).choose, (key i h).choose_spec.choose, (key i h).choose_spec.choose_spec.choose⟩ else (([], dat0), .nilFunc, .nilFunc)
          have hF : ∀ i, i < len → W.cell? ⟨a.block, a.off + i * 6, none⟩ = some (.string (S (F i).1.1)) ∧ DCell W a.block (a.off + i * 6 + 1) (F i).1.2 (F i).2.1 (F i).2.2 ∧ Rep W (fun _ => True) (F i).1.2 (F i).2.1 (F i).2.2 := by
            intro i hi
            have e : F i = ⟨(key i hi).choose, (key i hi).choose_spec.choose, (key i hi).choose_spec.choose_spec.choose⟩ := dif_pos hi
            rw [e]
            exact (key i hi).choose_spec.choose_spec.choose_spec
          refine ⟨(List.range len).map fun i => (F i).1, some a, cap, a.block, a.off, fun i => (F i).2.1, fun i => (F i).2.2, by simp, by simp; omega, fun _ => ⟨?_, by simpa using hl, hB⟩, ?_, ?_⟩
          · obtain ⟨b, o, sp⟩ := a
            have : sp = none := hsp
            rw [this]
          · intro j hj
            simp only [List.length_map, List.length_range] at hj
            simp only [List.getElem_map, List.getElem_range]
            exact ⟨(hF j hj).1, (hF j hj).2.1⟩
          · intro j hj
            simp only [List.length_map, List.length_range] at hj
            simp only [List.getElem_map, List.getElem_range]
            exact (hF j hj).2.2
    obtain ⟨its, p, cap, B, o, vi, vm, rfl, a1, a2, a3, a4⟩ := hi
    obtain ⟨mem, q, caq, B', o', ui, um, rfl, b1, b2, b3, b4⟩ := hm
    exact ⟨.mk k z l its mem, _, _, rfl, .mk (d := .mk k z l its mem) p q cap caq B o B' o' vi vm ui um ⟨a1, b1⟩ (fun h => ⟨(a2 h).1, (a2 h).2.1, (a2 h).2.2, trivial⟩) a3 a4 (fun h => ⟨(b2 h).1, (b2 h).2.1, (b2 h).2.2, trivial⟩) b3 b4⟩
end
end
section
open Go.ChangeShapes Go.WideShapes Go.RowKit

section
variable {P : Program} {H : Type} {enc : TypeId × Value → H} {W : World} {D SD M SM I L Str : TypeId} {f0 f1 f2 f3 f4 g0 g1 : Field} {base : Nat} {spare : Nat → Bool} {held : Bool}
/-- the types of steps and entries -/
structure EntTy (P : Program) (D I Str St SSt E SE : TypeId) (s0 s1 h0 h1 : Field) : Prop where
  uSt : P.underlying St = some (.struct #[s0, s1])
  uSSt : P.underlying SSt = some (.slice St)
  uE : P.underlying E = some (.struct #[h0, h1])
  uSE : P.underlying SE = some (.slice E)
  uI : P.underlying I = some (.int .i64)
  uS : P.underlying Str = some .string
  cSt : P.cellsOf St = 2
  cSSt : P.cellsOf SSt = 1
  cE : P.cellsOf E = 6
  cSE : P.cellsOf SE = 1
  cI : P.cellsOf I = 1
  cS : P.cellsOf Str = 1
  cD : P.cellsOf D = 5
  y : s0.type = Str ∧ s1.type = I ∧ h0.type = SSt ∧ h1.type = D
  o : s0.offset = 0 ∧ s1.offset = 1 ∧ h0.offset = 0 ∧ h1.offset = 1
theorem list_two {α : Type} {cs : List α} (h : cs.length = 2) : ∃ a b, cs = [a, b] := by
  match cs, h with
  | [a, b], _ => exact ⟨a, b, rfl⟩
variable {St SSt E SE : TypeId} {s0 s1 h0 h1 : Field}
/-- a cell that reads as a slice of steps holds steps -/
theorem steps_cell (T : EntTy P D I Str St SSt E SE s0 s1 h0 h1) (n : Nat) (c : Value) (x : DataW H × List MemPlace) (h : DataW.trod enc P W base spare held n SSt [c] = some x) :
    ∃ L : List Stp, SlK W (fun _ => True) c L ∧ L.length ≤ maxLen := by
  rcases DataW.trod_slice T.uSSt h with ⟨hc, -⟩ | ⟨a, len, cap, elems, rest, q, hq, hc, -, hb, hl, hcap, hle, hel, -, -⟩
  · injection hc with hc _
    exact ⟨[], ⟨none, 0, 0, 0, hc, by simp, by simp⟩, Nat.zero_le _⟩
  · injection hc with hc _
    subst hc
    rcases Nat.eq_zero_or_pos len with h0 | h0
    · subst h0
      exact ⟨[], ⟨some a, cap, 0, 0, rfl, by simp, by simp⟩, Nat.zero_le _⟩
    · have key : ∀ i, i < len → ∃ s : Stp, W.cell? ((a.add (i * 2)).add 0) = some (.string (S s.lab)) ∧ W.cell? ((a.add (i * 2)).add 1) = some (.int .i64 s.idx) := by
        intro i hi
        have he := hel i hi
        rw [T.cSt, List.getElem?_eq_getElem (by omega)] at he
        obtain ⟨cs', hcs, htr⟩ := Option.bind_eq_some_iff.1 he
        obtain ⟨xs', m', hm', -, hlen', hxs', hf'⟩ := DataW.trod_struct T.uSt htr
        rw [T.cSt] at hlen'
        obtain ⟨b0, b1, rfl⟩ := list_two hlen'
        obtain ⟨y0, y1, -, -⟩ := T.y
        obtain ⟨o0, o1, -, -⟩ := T.o
        have k0 := hf' 0 s0 rfl
        have k1 := hf' 1 s1 rfl
        rw [y0, o0, T.cS] at k0
        rw [y1, o1, T.cI] at k1
        have hxs2 : xs'.length = 2 := hxs'
        rw [List.getElem?_eq_getElem (by omega)] at k0 k1
        simp only [List.drop_zero, List.drop_succ_cons, List.take_succ_cons, List.take_zero] at k0 k1
        obtain ⟨s', e2, -, -⟩ := DataW.trod_string T.uS k0
        obtain ⟨z, e1, -, -⟩ := DataW.trod_int T.uI k1
        obtain ⟨l', rfl⟩ := S_ex s'
        injection e2 with e2 _
        injection e1 with e1 _
        obtain ⟨-, -, hat⟩ := World.cells?_some hcs
        subst e2; subst e1
        exact ⟨⟨l', z⟩, hat 0 (by omega), hat 1 (by omega)⟩
      obtain ⟨d0, k0, -⟩ := key 0 h0
      have hsp : a.spot = none := by
        have := World.cell?_spot k0
        simpa [Addr.add] using this
      have hB : a.block < W.heap.size := by
        rw [add_at hsp] at k0
        exact cell_block k0
      have key : ∀ i, i < len → ∃ s : Stp, W.cell? ⟨a.block, a.off + i * 2, none⟩ = some (.string (S s.lab)) ∧ W.cell? ⟨a.block, a.off + i * 2 + 1, none⟩ = some (.int .i64 s.idx) := by
        intro i hi
        obtain ⟨s, q0, q1⟩ := key i hi
        rw [add_at hsp] at q0 q1
        exact ⟨s, q0, q1⟩
      let F : Nat → Stp := fun i => if h : i < len then (key i h).choose else ⟨[], 0⟩
      have hF : ∀ i, i < len → W.cell? ⟨a.block, a.off + i * 2, none⟩ = some (.string (S (F i).lab)) ∧ W.cell? ⟨a.block, a.off + i * 2 + 1, none⟩ = some (.int .i64 (F i).idx) := by
        intro i hi
        have e : F i = (key i hi).choose := dif_pos hi
        rw [e]
        exact (key i hi).choose_spec
      refine ⟨(List.range len).map F, ⟨some a, cap, a.block, a.off, by simp, fun _ => ⟨?_, by simpa using hl, hB, trivial⟩, ?_⟩, by simp; omega⟩
      · obtain ⟨b, o, sp⟩ := a
        have : sp = none := hsp
        rw [this]
      · intro j hj
        simp only [List.length_map, List.length_range] at hj
        simp only [List.getElem_map, List.getElem_range]
        exact hF j hj
/-- a slice that reads as entries holds entries -/
theorem ents_open (TD : DatTy P D SD M SM I L Str f0 f1 f2 f3 f4 g0 g1) (T : EntTy P D I Str St SSt E SE s0 s1 h0 h1) (n : Nat) (v : Value) (x : DataW H × List MemPlace) (h : DataW.trod enc P W base spare held n SE [v] = some x) :
    ∃ L : List Ent, EntR W (fun _ => True) v L ∧ L.length ≤ maxLen ∧ ∀ e ∈ L, e.1.length ≤ maxLen := by
  rcases DataW.trod_slice T.uSE h with ⟨hc, -⟩ | ⟨a, len, cap, elems, rest, q, hq, hc, -, hb, hl, hcap, hle, hel, -, -⟩
  · injection hc with hc _
    exact ⟨[], ⟨none, 0, 0, 0, hc, by simp, by simp⟩, Nat.zero_le _, by simp⟩
  · injection hc with hc _
    subst hc
    rcases Nat.eq_zero_or_pos len with h0' | h0'
    · subst h0'
      exact ⟨[], ⟨some a, cap, 0, 0, rfl, by simp, by simp⟩, Nat.zero_le _, by simp⟩
    · have key : ∀ i, i < len → ∃ (e : Ent) (pv vi vm : Value), W.cell? ((a.add (i * 6)).add 0) = some pv ∧ W.cell? ((a.add (i * 6)).add 1) = some (.int .i64 e.2.k) ∧ W.cell? ((a.add (i * 6)).add 2) = some (.int .i64 e.2.n) ∧ W.cell? ((a.add (i * 6)).add 3) = some (.string (S e.2.s)) ∧ W.cell? ((a.add (i * 6)).add 4) = some vi ∧ W.cell? ((a.add (i * 6)).add 5) = some vm ∧ SlK W (fun _ => True) pv e.1 ∧ Rep W (fun _ => True) e.2 vi vm ∧ e.1.length ≤ maxLen := by
        intro i hi
        have he := hel i hi
        rw [T.cE, List.getElem?_eq_getElem (by omega)] at he
        obtain ⟨cs', hcs, htr⟩ := Option.bind_eq_some_iff.1 he
        obtain ⟨xs', m', hm', -, hlen', hxs', hf'⟩ := DataW.trod_struct T.uE htr
        rw [T.cE] at hlen'
        obtain ⟨b0, b1, b2, b3, b4, b5, rfl⟩ := list_six hlen'
        obtain ⟨-, -, y0, y1⟩ := T.y
        obtain ⟨-, -, o0, o1⟩ := T.o
        have k0 := hf' 0 h0 rfl
        have k1 := hf' 1 h1 rfl
        rw [y0, o0, T.cSSt] at k0
        rw [y1, o1, T.cD] at k1
        have hxs2 : xs'.length = 2 := hxs'
        rw [List.getElem?_eq_getElem (by omega)] at k0 k1
        simp only [List.drop_zero, List.drop_succ_cons, List.take_succ_cons, List.take_zero] at k0 k1
        obtain ⟨p, hp, hpl⟩ := steps_cell T m' b0 _ k0
        obtain ⟨d, vi, vm, hcs2, hr⟩ := dat_cells TD m' _ _ k1
        obtain ⟨-, -, hat⟩ := World.cells?_some hcs
        injection hcs2 with j1 hcs2
        injection hcs2 with j2 hcs2
        injection hcs2 with j3 hcs2
        injection hcs2 with j4 hcs2
        injection hcs2 with j5 hcs2
        subst j1; subst j2; subst j3; subst j4; subst j5
        exact ⟨(p, d), b0, b4, b5, hat 0 (by omega), hat 1 (by omega), hat 2 (by omega), hat 3 (by omega), hat 4 (by omega), hat 5 (by omega), hp, hr, hpl⟩
      obtain ⟨d0, _, _, _, k0, -⟩ := key 0 h0'
      have hsp : a.spot = none := by
        have := World.cell?_spot k0
        simpa [Addr.add] using this
      have hB : a.block < W.heap.size := by
        rw [add_at hsp] at k0
        exact cell_block k0
      have key : ∀ i, i < len → ∃ (e : Ent) (pv vi vm : Value), W.cell? ⟨a.block, a.off + i * 6, none⟩ = some pv ∧ DCell W a.block (a.off + i * 6 + 1) e.2 vi vm ∧ SlK W (fun _ => True) pv e.1 ∧ Rep W (fun _ => True) e.2 vi vm ∧ e.1.length ≤ maxLen := by
        intro i hi
        obtain ⟨e, pv, vi, vm, q0, q1, q2, q3, q4, q5, q6⟩ := key i hi
        rw [add_at hsp] at q0 q1 q2 q3 q4 q5
        exact ⟨e, pv, vi, vm, q0, ⟨q1, q2, q3, q4, q5⟩, q6⟩
      let F : Nat → Ent := fun i => if h : i < len then (key i h).choose else ([], dat0)
      have hF : ∀ i, i < len → ∃ (pv vi vm : Value), W.cell? ⟨a.block, a.off + i * 6, none⟩ = some pv ∧ DCell W a.block (a.off + i * 6 + 1) (F i).2 vi vm ∧ SlK W (fun _ => True) pv (F i).1 ∧ Rep W (fun _ => True) (F i).2 vi vm ∧ (F i).1.length ≤ maxLen := by
        intro i hi
        have e : F i = (key i hi).choose := dif_pos hi
        rw [e]
        exact (key i hi).choose_spec
      refine ⟨(List.range len).map F, ⟨some a, cap, a.block, a.off, by simp, fun _ => ⟨?_, by simpa using hl, hB, trivial⟩, ?_⟩, by simp; omega, ?_⟩
      · obtain ⟨b, o, sp⟩ := a
        have : sp = none := hsp
        rw [this]
      · intro j hj
        simp only [List.length_map, List.length_range] at hj
        simp only [List.getElem_map, List.getElem_range]
        obtain ⟨pv, vi, vm, h1, h2, h3, h4, -⟩ := hF j hj
        exact ⟨pv, vi, vm, h1, h2, h3, h4⟩
      · intro e he
        obtain ⟨j, hj, rfl⟩ := List.mem_map.1 he
        obtain ⟨pv, vi, vm, -, -, -, -, h5⟩ := hF j (List.mem_range.1 hj)
        exact h5
end
end
section
open Go.ChangeShapes Go.WideShapes Go.ChangeAt Go.RowKit

theorem own : ownKnob Tryz.prog.godebug = none := by kernel_rfl
def laidList : List (String × DataW Unit) := Rows.propertiesLinesRow.laid
theorem cellsErr : Tryz.prog.cellsOf 243 = 1 := by kernel_rfl
theorem cellsStr : Tryz.prog.cellsOf 9 = 1 := by kernel_rfl
theorem starErr : "*" ++ "errors.errorString" = "*errors.errorString" := by decide
theorem rowErr (u : TypeId) (h : Tryz.prog.typeName? 3 u = some "*errors.errorString") : u = 241 :=
  typeName_ptr_named (nm := "errors.errorString") (by rw [starErr]; kernel_rfl) (by kernel_rfl) (by decide) u (by rw [starErr]; exact h)
theorem gES : Tryz.prog.globalNamed "strconv.ErrSyntax" = some 4 := by kernel_rfl
theorem gESType : (Tryz.prog.globals[4]?).map (·.type) = some 146 := by kernel_rfl
theorem gER : Tryz.prog.globalNamed "strconv.ErrRange" = some 5 := by kernel_rfl
theorem gERType : (Tryz.prog.globals[5]?).map (·.type) = some 146 := by kernel_rfl
theorem gTab : Tryz.prog.globalNamed "internal/strconv.uint64pow10" = some 3 := by kernel_rfl
theorem gTabType : (Tryz.prog.globals[3]?).map (·.type) = some 226 := by kernel_rfl
theorem cellsTab : Tryz.prog.cellsOf 226 = 20 := by kernel_rfl
theorem cellsU64 : Tryz.prog.cellsOf 159 = 1 := by kernel_rfl
theorem numOk {W : World} (h : laidMetH Tryz.prog laidList W) : NumOk W := by
  have h1 : laidMet Tryz.prog laidList W := h
  have hP := h1.tail.tail
  have hR := h1.tail.tail.tail.tail
  have hS := h1.tail.tail.tail.tail.tail
  obtain ⟨a0, s0, hv0, -, -, -⟩ := laid_sentinel hS gES gESType Tryz.underlying146 rowErr Tryz.underlying241 Tryz.underlying243 rfl rfl Tryz.underlying9 cellsErr cellsStr
  obtain ⟨a1, s1, hv1, -, -, -⟩ := laid_sentinel hR gER gERType Tryz.underlying146 rowErr Tryz.underlying241 Tryz.underlying243 rfl rfl Tryz.underlying9 cellsErr cellsStr
  exact ⟨Lib.tabIs_of_head gTab gTabType Tryz.underlying226 Tryz.underlying159 cellsU64 cellsTab hP, ⟨_, _, hv0⟩, ⟨_, _, hv1⟩⟩

/-- So many blocks has the settled world. -/
noncomputable def lowB : Nat := (World.holding Tryz.prog default ⟨#[], #[], []⟩).heap.size
/-- A world that holds what is listed. -/
noncomputable def laidWorld (os : Os) : World :=
  let w0 := World.holding Tryz.prog os ⟨#[.cells #[.string ⟨#[118, 97, 108, 117, 101, 32, 111, 117, 116, 32, 111, 102, 32, 114, 97, 110, 103, 101]⟩] 243, .cells #[.string ⟨#[105, 110, 118, 97, 108, 105, 100, 32, 115, 121, 110, 116, 97, 120]⟩] 243], #[], []⟩
  { w0 with heap := (((((((w0.heap.modify 6 fun
      | .cells _ t frozen => .cells #[.int .u8 0, .int .u8 1, .int .u8 28, .int .u8 2, .int .u8 29, .int .u8 14, .int .u8 24, .int .u8 3, .int .u8 30, .int .u8 22, .int .u8 20, .int .u8 15, .int .u8 25, .int .u8 17, .int .u8 4, .int .u8 8, .int .u8 31, .int .u8 27, .int .u8 13, .int .u8 23, .int .u8 21, .int .u8 19, .int .u8 16, .int .u8 7, .int .u8 26, .int .u8 12, .int .u8 18, .int .u8 6, .int .u8 11, .int .u8 5, .int .u8 10, .int .u8 9] t frozen
      | o => o).modify 7 fun
      | .cells _ t frozen => .cells #[.int .u8 0, .int .u8 1, .int .u8 56, .int .u8 2, .int .u8 57, .int .u8 49, .int .u8 28, .int .u8 3, .int .u8 61, .int .u8 58, .int .u8 42, .int .u8 50, .int .u8 38, .int .u8 29, .int .u8 17, .int .u8 4, .int .u8 62, .int .u8 47, .int .u8 59, .int .u8 36, .int .u8 45, .int .u8 43, .int .u8 51, .int .u8 22, .int .u8 53, .int .u8 39, .int .u8 33, .int .u8 30, .int .u8 24, .int .u8 18, .int .u8 12, .int .u8 5, .int .u8 63, .int .u8 55, .int .u8 48, .int .u8 27, .int .u8 60, .int .u8 41, .int .u8 37, .int .u8 16, .int .u8 46, .int .u8 35, .int .u8 44, .int .u8 21, .int .u8 52, .int .u8 32, .int .u8 23, .int .u8 11, .int .u8 54, .int .u8 26, .int .u8 40, .int .u8 15, .int .u8 34, .int .u8 20, .int .u8 31, .int .u8 10, .int .u8 25, .int .u8 14, .int .u8 19, .int .u8 9, .int .u8 13, .int .u8 8, .int .u8 7, .int .u8 6] t frozen
      | o => o).modify 3 fun
      | .cells _ t frozen => .cells #[.int .u64 1, .int .u64 10, .int .u64 100, .int .u64 1000, .int .u64 10000, .int .u64 100000, .int .u64 1000000, .int .u64 10000000, .int .u64 100000000, .int .u64 1000000000, .int .u64 10000000000, .int .u64 100000000000, .int .u64 1000000000000, .int .u64 10000000000000, .int .u64 100000000000000, .int .u64 1000000000000000, .int .u64 10000000000000000, .int .u64 100000000000000000, .int .u64 1000000000000000000, .int .u64 10000000000000000000] t frozen
      | o => o).modify 2 fun
      | .cells _ t frozen => .cells #[.int .u8 128, .int .u8 191, .int .u8 160, .int .u8 191, .int .u8 128, .int .u8 159, .int .u8 144, .int .u8 191, .int .u8 128, .int .u8 143, .int .u8 0, .int .u8 0, .int .u8 0, .int .u8 0, .int .u8 0, .int .u8 0, .int .u8 0, .int .u8 0, .int .u8 0, .int .u8 0, .int .u8 0, .int .u8 0, .int .u8 0, .int .u8 0, .int .u8 0, .int .u8 0, .int .u8 0, .int .u8 0, .int .u8 0, .int .u8 0, .int .u8 0, .int .u8 0] t frozen
      | o => o).modify 5 fun
      | .cells _ t frozen => .cells #[.iface 241 (.pointer (some ⟨lowB + 0, 0, none⟩))] t frozen
      | o => o).modify 4 fun
      | .cells _ t frozen => .cells #[.iface 241 (.pointer (some ⟨lowB + 1, 0, none⟩))] t frozen
      | o => o).modify 1 fun
      | .cells _ t frozen => .cells (Go.Pinned.utf8FirstZ.map fun (n : Nat) => Value.int .u8 (n : Int)).toArray t frozen
      | o => o) }
theorem laid_met (os : Os) (args : Array Value) : laidMet Tryz.prog laidList ((laidWorld os).forCall (fun _ _ => 0) ⟨#[], args, []⟩).memory :=
  laidMet_of_run' 8 (by kernel_rfl) (by kernel_rfl)
/-- A variable of type int holds some int. -/
theorem int_of_shape {P : Program} {w : World} {g : Nat} {t : TypeId} {zero : Array Value} (h : w.ShapedOpen P) (hg : g < P.globals.size)
    (h0 : ((begin P (fun _ _ => 0) default).world.heap[g]?).bind Obj.row? = some (zero, t)) (hz : zero.size = 1)
    (hb : P.buildable t = true) (hc : P.cellTypes P.depth t = some [t]) (hu : P.underlying t = some (.int .i64)) : ∃ m, w.cell? ⟨g, 0, none⟩ = some (.int .i64 m) := by
  obtain ⟨cs, hh, hs, hr⟩ := h.1 g zero t hg h0
  obtain ⟨ts, hts, _, hall⟩ := hr hb
  rw [hc] at hts
  cases hts
  have h1 : 0 < cs.size := by omega
  obtain ⟨u, hu', hok⟩ := hall 0 cs[0] (by simp [h1])
  have : u = t := by simpa using hu'.symm
  subst this
  have hcell : w.cell? ⟨g, 0, none⟩ = some cs[0] := by simp [World.cell?, hh, h1]
  rw [hcell]
  unfold Cell.ok at hok
  rw [hu] at hok
  cases hv : cs[0] <;> rw [hv] at hok <;> simp at hok
  obtain ⟨rfl, -⟩ := hok
  exact ⟨_, rfl⟩
theorem maxOk {W : World} (h : W.ShapedOpen Tryz.prog) : MaxOk W :=
  int_of_shape (g := 0) (t := 3) (zero := #[.int .i64 0]) h (of_decide_eq_true (by kernel_rfl)) (by kernel_rfl) rfl (by kernel_rfl) (by kernel_rfl) Tryz.underlying3
theorem errOk {W : World} (h : laidMetH Tryz.prog laidList W) : ErrOk W := by
  have h1 : laidMet Tryz.prog laidList W := h
  have h2 := h1.tail.tail.tail.tail.tail
  obtain ⟨a0, s0, hv0, -, -, -⟩ := laid_sentinel h2 gES gESType Tryz.underlying146 rowErr Tryz.underlying241 Tryz.underlying243 rfl rfl Tryz.underlying9 cellsErr cellsStr
  exact ⟨_, _, by have h0 := World.var?_cell gES hv0 0; simpa using h0⟩
theorem stMax {W : World} (h : laidMetH Tryz.prog laidList W) (hsh : W.ShapedOpen Tryz.prog) : StOk W ∧ MaxOk W := ⟨⟨numOk h, errOk h⟩, maxOk hsh⟩
end
section
open Go.RowKit

theorem onlyV_no {k : Int} (h : ¬ (1 ≤ k ∧ k ≤ 6)) (n : Int) (s : List UInt8) (a b : Nat) : onlyV k n s a b = false := by
  unfold onlyV
  by_cases h1 : 1 ≤ k
  · rw [decide_eq_false (show ¬ k ≤ 6 by omega)]; simp only [Bool.and_false, Bool.false_and]
  · rw [decide_eq_false h1]; simp only [Bool.false_and]
set_option maxRecDepth 100000 in
set_option maxHeartbeats 2000000 in
theorem plain_none (k n : Int) (s : List UInt8) (p q : Option Addr) (a cap b caq : Nat) (w : World) (h : ¬ (1 ≤ k ∧ k ≤ 6)) : Calls Tryz.prog 117 #[dval k n s p a cap q b caq] w fun e w' => e = .returned (.bool (onlyV k n s a b)) ∧ Below w.heap.size w w' := by
  obtain ⟨r, hr⟩ : ∃ r, onlyV k n s a b = r := ⟨_, rfl⟩
  rw [hr]
  have HR := Lib.hid (hr.symm.trans (onlyV_no h n s a b))
  clear hr
  have h : decide (k < 1) = true ∨ (decide (k < 1) = false ∧ decide (k > 6) = true) := by
    simp only [decide_eq_true_eq, decide_eq_false_iff_not]; omega
  rcases h with h1 | ⟨h1, h2⟩
  all_goals
    go_enter Tryz.func117, Tryz.ntmps117
    go_wp2_with fail
    go_ret
    exact ⟨by rw [HR.out]; rfl, by go_grown⟩
set_option maxRecDepth 100000 in
set_option maxHeartbeats 2000000 in
theorem plain_1 (n : Int) (s : List UInt8) (p q : Option Addr) (a cap b caq : Nat) (w : World) : Calls Tryz.prog 117 #[dval 1 n s p a cap q b caq] w fun e w' => e = .returned (.bool (onlyV 1 n s a b)) ∧ Below w.heap.size w w' := by
  obtain ⟨r, hr⟩ : ∃ r, onlyV 1 n s a b = r := ⟨_, rfl⟩
  rw [hr]
  rw [onlyV_eq _ _ _ _ _ (by omega)] at hr
  have HR := Lib.hid hr
  clear hr
  rcases four_ways (n == 0) s.isEmpty ((a : Int) == 0) ((b : Int) == 0) with t1 | ⟨t1, t2⟩ | ⟨t1, t2, t3⟩ | ⟨t1, t2, t3, t4⟩ | ⟨t1, t2, t3, t4⟩
  all_goals
    (first | (have u1 : (n != 0) = true := by (show (!(n == 0)) = true); rw [t1]; rfl) | (have u1 : (n != 0) = false := by (show (!(n == 0)) = false); rw [t1]; rfl) | skip)
    (first | (have u2 : (!s.isEmpty) = true := by rw [t1]; rfl) | (have u2 : (!s.isEmpty) = true := by rw [t2]; rfl) | (have u2 : (!s.isEmpty) = false := by rw [t1]; rfl) | (have u2 : (!s.isEmpty) = false := by rw [t2]; rfl) | skip)
    go_enter Tryz.func117, Tryz.ntmps117
    go_wp2_with fail
    go_ret
    exact ⟨by rw [← HR.out]; (try rw [t1]); (try rw [t2]); (try rw [t3]); (try rw [t4]); rfl, by go_grown⟩
set_option maxRecDepth 100000 in
set_option maxHeartbeats 2000000 in
theorem plain_2 (n : Int) (s : List UInt8) (p q : Option Addr) (a cap b caq : Nat) (w : World) : Calls Tryz.prog 117 #[dval 2 n s p a cap q b caq] w fun e w' => e = .returned (.bool (onlyV 2 n s a b)) ∧ Below w.heap.size w w' := by
  obtain ⟨r, hr⟩ : ∃ r, onlyV 2 n s a b = r := ⟨_, rfl⟩
  rw [hr]
  rw [onlyV_eq _ _ _ _ _ (by omega)] at hr
  have HR := Lib.hid hr
  clear hr
  rcases three_ways s.isEmpty ((a : Int) == 0) ((b : Int) == 0) with t1 | ⟨t1, t2⟩ | ⟨t1, t2, t3⟩ | ⟨t1, t2, t3⟩
  all_goals
    (first | (have u1 : (n != 0) = true := by (show (!(n == 0)) = true); rw [t1]; rfl) | (have u1 : (n != 0) = false := by (show (!(n == 0)) = false); rw [t1]; rfl) | skip)
    (first | (have u2 : (!s.isEmpty) = true := by rw [t1]; rfl) | (have u2 : (!s.isEmpty) = true := by rw [t2]; rfl) | (have u2 : (!s.isEmpty) = false := by rw [t1]; rfl) | (have u2 : (!s.isEmpty) = false := by rw [t2]; rfl) | skip)
    go_enter Tryz.func117, Tryz.ntmps117
    go_wp2_with fail
    go_ret
    exact ⟨by rw [← HR.out]; (try rw [t1]); (try rw [t2]); (try rw [t3]); (try rw [t4]); rfl, by go_grown⟩
set_option maxRecDepth 100000 in
set_option maxHeartbeats 2000000 in
theorem plain_3 (n : Int) (s : List UInt8) (p q : Option Addr) (a cap b caq : Nat) (w : World) : Calls Tryz.prog 117 #[dval 3 n s p a cap q b caq] w fun e w' => e = .returned (.bool (onlyV 3 n s a b)) ∧ Below w.heap.size w w' := by
  obtain ⟨r, hr⟩ : ∃ r, onlyV 3 n s a b = r := ⟨_, rfl⟩
  rw [hr]
  rw [onlyV_eq _ _ _ _ _ (by omega)] at hr
  have HR := Lib.hid hr
  clear hr
  rcases three_ways s.isEmpty ((a : Int) == 0) ((b : Int) == 0) with t1 | ⟨t1, t2⟩ | ⟨t1, t2, t3⟩ | ⟨t1, t2, t3⟩
  all_goals
    (first | (have u1 : (n != 0) = true := by (show (!(n == 0)) = true); rw [t1]; rfl) | (have u1 : (n != 0) = false := by (show (!(n == 0)) = false); rw [t1]; rfl) | skip)
    (first | (have u2 : (!s.isEmpty) = true := by rw [t1]; rfl) | (have u2 : (!s.isEmpty) = true := by rw [t2]; rfl) | (have u2 : (!s.isEmpty) = false := by rw [t1]; rfl) | (have u2 : (!s.isEmpty) = false := by rw [t2]; rfl) | skip)
    go_enter Tryz.func117, Tryz.ntmps117
    go_wp2_with fail
    go_ret
    exact ⟨by rw [← HR.out]; (try rw [t1]); (try rw [t2]); (try rw [t3]); (try rw [t4]); rfl, by go_grown⟩
set_option maxRecDepth 100000 in
set_option maxHeartbeats 2000000 in
theorem plain_4 (n : Int) (s : List UInt8) (p q : Option Addr) (a cap b caq : Nat) (w : World) : Calls Tryz.prog 117 #[dval 4 n s p a cap q b caq] w fun e w' => e = .returned (.bool (onlyV 4 n s a b)) ∧ Below w.heap.size w w' := by
  obtain ⟨r, hr⟩ : ∃ r, onlyV 4 n s a b = r := ⟨_, rfl⟩
  rw [hr]
  rw [onlyV_eq _ _ _ _ _ (by omega)] at hr
  have HR := Lib.hid hr
  clear hr
  rcases three_ways (n == 0) ((a : Int) == 0) ((b : Int) == 0) with t1 | ⟨t1, t2⟩ | ⟨t1, t2, t3⟩ | ⟨t1, t2, t3⟩
  all_goals
    (first | (have u1 : (n != 0) = true := by (show (!(n == 0)) = true); rw [t1]; rfl) | (have u1 : (n != 0) = false := by (show (!(n == 0)) = false); rw [t1]; rfl) | skip)
    (first | (have u2 : (!s.isEmpty) = true := by rw [t1]; rfl) | (have u2 : (!s.isEmpty) = true := by rw [t2]; rfl) | (have u2 : (!s.isEmpty) = false := by rw [t1]; rfl) | (have u2 : (!s.isEmpty) = false := by rw [t2]; rfl) | skip)
    go_enter Tryz.func117, Tryz.ntmps117
    go_wp2_with fail
    go_ret
    exact ⟨by rw [← HR.out]; (try rw [t1]); (try rw [t2]); (try rw [t3]); (try rw [t4]); rfl, by go_grown⟩
set_option maxRecDepth 100000 in
set_option maxHeartbeats 2000000 in
theorem plain_5 (n : Int) (s : List UInt8) (p q : Option Addr) (a cap b caq : Nat) (w : World) : Calls Tryz.prog 117 #[dval 5 n s p a cap q b caq] w fun e w' => e = .returned (.bool (onlyV 5 n s a b)) ∧ Below w.heap.size w w' := by
  obtain ⟨r, hr⟩ : ∃ r, onlyV 5 n s a b = r := ⟨_, rfl⟩
  rw [hr]
  rw [onlyV_eq _ _ _ _ _ (by omega)] at hr
  have HR := Lib.hid hr
  clear hr
  rcases three_ways (n == 0) s.isEmpty ((b : Int) == 0) with t1 | ⟨t1, t2⟩ | ⟨t1, t2, t3⟩ | ⟨t1, t2, t3⟩
  all_goals
    (first | (have u1 : (n != 0) = true := by (show (!(n == 0)) = true); rw [t1]; rfl) | (have u1 : (n != 0) = false := by (show (!(n == 0)) = false); rw [t1]; rfl) | skip)
    (first | (have u2 : (!s.isEmpty) = true := by rw [t1]; rfl) | (have u2 : (!s.isEmpty) = true := by rw [t2]; rfl) | (have u2 : (!s.isEmpty) = false := by rw [t1]; rfl) | (have u2 : (!s.isEmpty) = false := by rw [t2]; rfl) | skip)
    go_enter Tryz.func117, Tryz.ntmps117
    go_wp2_with fail
    go_ret
    exact ⟨by rw [← HR.out]; (try rw [t1]); (try rw [t2]); (try rw [t3]); (try rw [t4]); rfl, by go_grown⟩
set_option maxRecDepth 100000 in
set_option maxHeartbeats 2000000 in
theorem plain_6 (n : Int) (s : List UInt8) (p q : Option Addr) (a cap b caq : Nat) (w : World) : Calls Tryz.prog 117 #[dval 6 n s p a cap q b caq] w fun e w' => e = .returned (.bool (onlyV 6 n s a b)) ∧ Below w.heap.size w w' := by
  obtain ⟨r, hr⟩ : ∃ r, onlyV 6 n s a b = r := ⟨_, rfl⟩
  rw [hr]
  rw [onlyV_eq _ _ _ _ _ (by omega)] at hr
  have HR := Lib.hid hr
  clear hr
  rcases three_ways (n == 0) s.isEmpty ((a : Int) == 0) with t1 | ⟨t1, t2⟩ | ⟨t1, t2, t3⟩ | ⟨t1, t2, t3⟩
  all_goals
    (first | (have u1 : (n != 0) = true := by (show (!(n == 0)) = true); rw [t1]; rfl) | (have u1 : (n != 0) = false := by (show (!(n == 0)) = false); rw [t1]; rfl) | skip)
    (first | (have u2 : (!s.isEmpty) = true := by rw [t1]; rfl) | (have u2 : (!s.isEmpty) = true := by rw [t2]; rfl) | (have u2 : (!s.isEmpty) = false := by rw [t1]; rfl) | (have u2 : (!s.isEmpty) = false := by rw [t2]; rfl) | skip)
    go_enter Tryz.func117, Tryz.ntmps117
    go_wp2_with fail
    go_ret
    exact ⟨by rw [← HR.out]; (try rw [t1]); (try rw [t2]); (try rw [t3]); (try rw [t4]); rfl, by go_grown⟩
theorem plain_any (k n : Int) (s : List UInt8) (p q : Option Addr) (a cap b caq : Nat) (w : World) : Calls Tryz.prog 117 #[dval k n s p a cap q b caq] w fun e w' => e = .returned (.bool (onlyV k n s a b)) ∧ Below w.heap.size w w' := by
  by_cases h : 1 ≤ k ∧ k ≤ 6
  · rcases (by omega : k = 1 ∨ k = 2 ∨ k = 3 ∨ k = 4 ∨ k = 5 ∨ k = 6) with rfl | rfl | rfl | rfl | rfl | rfl
    · exact plain_1 n s p q a cap b caq w
    · exact plain_2 n s p q a cap b caq w
    · exact plain_3 n s p q a cap b caq w
    · exact plain_4 n s p q a cap b caq w
    · exact plain_5 n s p q a cap b caq w
    · exact plain_6 n s p q a cap b caq w
  · exact plain_none k n s p q a cap b caq w h
end
section
open Go.RowKit

theorem chkI_drop {its : List Dat} {lv i : Nat} (h : i < its.length) : chkI (its.drop i) lv = if chk its[i] lv = 0 then chkI (its.drop (i + 1)) lv else chk its[i] lv := by
  rw [List.drop_eq_getElem_cons h, chkI]
theorem chkI_over {its : List Dat} {lv i : Nat} (h : its.length ≤ i) : chkI (its.drop i) lv = 0 := by
  rw [List.drop_of_length_le h, chkI]
theorem chkM_drop {mem : List (List UInt8 × Dat)} {lv i : Nat} (h : i < mem.length) : chkM (mem.drop i) lv = if chk mem[i].2 lv = 0 then chkM (mem.drop (i + 1)) lv else chk mem[i].2 lv := by
  rw [List.drop_eq_getElem_cons h]
  obtain ⟨l, x⟩ := mem[i]
  rw [chkM]
theorem chkM_over {mem : List (List UInt8 × Dat)} {lv i : Nat} (h : mem.length ≤ i) : chkM (mem.drop i) lv = 0 := by
  rw [List.drop_of_length_le h, chkM]
theorem chk_deep {d : Dat} {lv : Nat} (h : 16 < lv) : chk d lv = 9 := by rw [chk_eq, if_pos h]
theorem chk_kind {d : Dat} {lv : Nat} (h : ¬ 16 < lv) (h1 : plainB d = false) : chk d lv = 11 := by
  rw [chk_eq, if_neg h, show ownE d = 11 by unfold ownE; rw [if_pos h1]]; rfl
theorem chk_range {d : Dat} {lv : Nat} (h : ¬ 16 < lv) (h1 : plainB d = true) (h2 : badNum d = true) : chk d lv = 1 := by
  rw [chk_eq, if_neg h, show ownE d = 1 by unfold ownE; rw [if_neg (by rw [h1]; decide), if_pos h2]]; rfl
theorem chk_twice {d : Dat} {lv : Nat} (h : ¬ 16 < lv) (h1 : plainB d = true) (h2 : badNum d = false) (h3 : ascM d.mem = false) : chk d lv = 6 := by
  rw [chk_eq, if_neg h, show ownE d = 6 by unfold ownE; rw [if_neg (by rw [h1]; decide), if_neg (by rw [h2]; decide), if_pos h3]]; rfl
theorem chk_parts {d : Dat} {lv : Nat} (h : ¬ 16 < lv) (h1 : plainB d = true) (h2 : badNum d = false) (h3 : ascM d.mem = true) : chk d lv = if chkI d.its (lv + 1) = 0 then chkM d.mem (lv + 1) else chkI d.its (lv + 1) := by
  rw [chk_eq, if_neg h, show ownE d = 0 by unfold ownE; rw [if_neg (by rw [h1]; decide), if_neg (by rw [h2]; decide), if_neg (by rw [h3]; decide)], if_pos rfl]
theorem ret_errno {a b : Nat} (h : a = b) : Ending.returned (.int .i64 (a : Int)) = .returned (.int .i64 (b : Int)) := by rw [h]
set_option maxRecDepth 100000 in
set_option maxHeartbeats 4000000 in
theorem refCheck_any (m : Nat) : ∀ (d : Dat), SizeOf.sizeOf d < m → ∀ (lv : Nat), lv ≤ 17 → ∀ (vi vm : Value) (ok : Nat → Prop) (w : World), Rep w ok d vi vm →
    Calls Tryz.prog 76 #[.agg #[.int .i64 d.k, .int .i64 d.n, .string (S d.s), vi, vm], .int .i64 (lv : Int)] w fun e w' => e = .returned (.int .i64 (chk d lv : Int)) ∧ Below w.heap.size w w' := by
  induction m with
  | zero => intro d h; exact absurd h (Nat.not_lt_zero _)
  | succ m ih =>
    intro d hd lv hlv vi vm ok w hr
    obtain ⟨r, hrr⟩ : ∃ r, chk d lv = r := ⟨_, rfl⟩
    rw [hrr]
    have HR := Lib.hid hrr
    clear hrr
    have IH := Lib.hid ih
    clear ih
    obtain ⟨p, cap, rfl, hil, hit⟩ := hr.items
    obtain ⟨q, caq, rfl, hml, hme⟩ := hr.members
    clear hr
    unfold maxLen at hil hml
    have HT := Lib.hid hit
    have HM := Lib.hid hme
    clear hit hme
    have HD := Lib.hid hd
    clear hd
    have hS : CkS w.heap.size w d (.slice p d.its.length cap) (.slice q d.mem.length caq) (w.alloc (.cells #[.int .i64 d.k, .int .i64 d.n, .string (S d.s), .slice p d.its.length cap, .slice q d.mem.length caq] 26)) := CkS.new w d _ _
    by_cases h16 : 16 < lv
    · have HV := Lib.hid ((chk_deep h16).symm.trans HR.out)
      have HS := Lib.hid hS
      clear hS
      go_enter Tryz.func76, Tryz.ntmps76
      go_wp2_with fail
      go_ret
      exact ⟨by rw [← HV.out]; rfl, HS.out.2⟩
    go_enter Tryz.func76, Tryz.ntmps76
    go_upto_region 1 with fail
    generalize w.alloc (.cells #[.int .i64 d.k, .int .i64 d.n, .string (S d.s), .slice p d.its.length cap, .slice q d.mem.length caq] 26) = W at hS ⊢
    obtain ⟨c0, c1, c2, c3, c4, hlw⟩ := hS.cells
    have HS := Lib.hid hS
    clear hS
    have HP := Lib.hid (plain_only d)
    go_upto_region 3 with fail
    go_wp2_with fail
    refine (plain_any d.k d.n d.s p q d.its.length cap d.mem.length caq _).mono ?_
    rintro e w1 ⟨rfl, hb⟩
    have HS1 := Lib.hid (HS.out.below hb)
    rw [← HP.out]
    clear hb HS c0 c1 c2 c3 c4 hlw
    obtain ⟨c0, c1, c2, c3, c4, hlw⟩ := HS1.out.cells
    rcases Bool.eq_false_or_eq_true (plainB d) with hpl | hpl
    case inr =>
      rw [hpl]
      have HV := Lib.hid ((chk_kind h16 hpl).symm.trans HR.out)
      go_wp2_with fail
      go_ret
      exact ⟨by rw [← HV.out]; rfl, HS1.out.2⟩
    rw [hpl]
    have HPL := Lib.hid hpl
    clear hpl
    go_upto_region 5 with fail
    go_cut [38] (fun v wx => v = .bool (badV d.k d.n) ∧ Hid (CkS w.heap.size w d (.slice p d.its.length cap) (.slice q d.mem.length caq) wx))
    case first =>
      rcases bad_ways d.k d.n with ⟨t1, t2, t3, tv⟩ | ⟨t1, t2, t3, t4, tv⟩ | ⟨t1, t2, t3, tv⟩ | ⟨t1, t2, tv⟩ | ⟨t1, t2, tv⟩
      all_goals
        have TV := Lib.hid tv
        clear tv
        go_wp2_with (go_at_call 118; refine (dRefVld_any _ _).mono ?_; rintro e w' ⟨rfl, rfl⟩)
        go_meet
        exact ⟨by rw [TV.out], HS1⟩
    case rest =>
      obtain ⟨rfl, HS2⟩ := hcut
      have HB0 := Lib.hid (badNum_eq d)
      clear c0 c1 c2 c3 c4 hlw HS1
      rcases Bool.eq_false_or_eq_true (badV d.k d.n) with hbv | hbv
      · rw [hbv]
        have HV := Lib.hid ((chk_range h16 HPL.out (HB0.out.trans hbv)).symm.trans HR.out)
        go_wp2_with fail
        go_ret
        exact ⟨by rw [← HV.out]; rfl, HS2.out.2⟩
      rw [hbv]
      have HBV := Lib.hid (HB0.out.trans hbv)
      clear hbv HB0
      obtain ⟨-, -, -, c3, c4, hlw⟩ := HS2.out.cells
      go_wp2_with fail
      go_loopw [5] (fun x wr => ∃ i : Nat, x = .int .i64 ((i + 1 : Nat) : Int) ∧ (i = 0 ∨ i + 1 ≤ d.mem.length) ∧ Hid (CkS w.heap.size w d (.slice p d.its.length cap) (.slice q d.mem.length caq) wr) ∧ Hid (ascM d.mem = ascF d.mem i)) (fun x _ => d.mem.length + 1 - (intOf x).toNat)
      case atStart => exact ⟨0, rfl, .inl rfl, HS2, Lib.hid rfl⟩
      case round =>
        obtain ⟨i, rfl, hi, HC, HV⟩ := hrel
        by_cases hlt : i + 1 < d.mem.length
        · obtain ⟨B, o, xi, xm, hqq, hcap, hB, hlab, -, -⟩ := HM.out i (by omega)
          obtain ⟨B', o', ui, um, hqq', -, -, hlab', -, -⟩ := HM.out (i + 1) hlt
          have hae : B' = B ∧ o' = o := by rw [hqq] at hqq'; injection hqq' with h; injection h with h1 h2; exact ⟨h1.symm, h2.symm⟩
          obtain ⟨rfl, rfl⟩ := hae
          subst hqq
          have k0 := (HC.out.2.cell (p := ⟨B', o' + i * 6, none⟩) hB).trans hlab
          have k1 := (HC.out.2.cell (p := ⟨B', o' + (i + 1) * 6, none⟩) hB).trans hlab'
          have HV1 := Lib.hid (HV.out.trans (ascF_step hlt))
          clear hqq' hlab hlab' HV
          generalize (d.mem[i]'(by omega)).1 = x at k0 HV1
          generalize d.mem[i + 1].1 = y at k1 HV1
          obtain ⟨-, -, -, c3, c4, hlw⟩ := HC.out.cells
          have b0 : (0 : Int) ≤ ((i + 1 : Nat) : Int) - 1 := by omega
          have b1 : ((i + 1 : Nat) : Int) - 1 < (d.mem.length : Int) := by omega
          have b2 : (((i + 1 : Nat) : Int) - 1).toNat = i := by omega
          go_wp2_with fail
          go_quiet (fail)
          have HC2 := Lib.hid (HC.out.drewN nq)
          rcases Bool.eq_false_or_eq_true (Op.bytesLess x y) with hxy | hxy
          · have HV2 := Lib.hid (show ascM d.mem = ascF d.mem (i + 1) by rw [HV1.out, hxy]; rfl)
            rw [hxy, Bool.not_true]
            go_wp2_with fail
            go_roundw
            case rel => exact ⟨i + 1, by go_num, .inr hlt, HC2, HV2⟩
            case measure => simp [intOf]; omega
          · have HV2 := Lib.hid (show ascM d.mem = false by rw [HV1.out, hxy]; rfl)
            rw [hxy, Bool.not_false]
            have HV3 := Lib.hid ((chk_twice h16 HPL.out HBV.out HV2.out).symm.trans HR.out)
            go_wp2_with fail
            go_ret
            exact ⟨by rw [← HV3.out]; rfl, HC2.out.2⟩
        · have HV1 := Lib.hid (HV.out.trans (ascF_end (by omega)))
          clear HV
          have HV2 := Lib.hid ((chk_parts h16 HPL.out HBV.out HV1.out).symm.trans HR.out)
          obtain ⟨-, -, -, c3, c4, hlw⟩ := HC.out.cells
          go_wp2_with fail
          go_loopw [6] (fun x wr => ∃ i : Nat, x = .int .i64 (i : Int) ∧ i ≤ d.its.length ∧ Hid (CkS w.heap.size w d (.slice p d.its.length cap) (.slice q d.mem.length caq) wr) ∧ Hid ((if chkI (d.its.drop i) (lv + 1) = 0 then chkM d.mem (lv + 1) else chkI (d.its.drop i) (lv + 1)) = r)) (fun x _ => d.its.length - (intOf x).toNat)
          case atStart => exact ⟨0, rfl, Nat.zero_le _, HC, HV2⟩
          case round =>
            clear hi hlt HC HV1 HV2 c3 c4 hlw
            obtain ⟨i, rfl, hi, HC, HV⟩ := hrel
            by_cases hlt : i < d.its.length
            · obtain ⟨B, o, xi, xm, rfl, hcap, hB, hc, hx⟩ := HT.out i hlt
              obtain ⟨k0, k1, k2, k3, k4⟩ := hc.below HC.out.2 hB
              have HX := Lib.hid (hx.under HC.out.2)
              have HL := Lib.hid (Nat.lt_of_lt_of_le (dat_it (List.getElem_mem hlt)) (Nat.le_of_lt_succ HD.out))
              have HV1 := HV.out
              rw [chkI_drop hlt] at HV1
              have HV1 := Lib.hid HV1
              obtain ⟨-, -, -, c3, c4, hlw⟩ := HC.out.cells
              clear hc hx HV
              generalize d.its[i] = x at k0 k1 k2 HX HL HV1
              go_wp2_with fail
              refine (IH.out x HL.out (lv + 1) (by omega) xi xm ok _ HX.out).mono ?_
              rintro e w1 ⟨rfl, hb⟩
              have HC1 := Lib.hid (HC.out.below hb)
              clear hb
              rcases Nat.eq_zero_or_pos (chk x (lv + 1)) with hl | hl
              · rw [hl]
                have HV2 := HV1.out
                rw [if_pos hl] at HV2
                have HV2 := Lib.hid HV2
                clear hl
                go_wp2_with fail
                go_roundw
                case rel =>
                  repeat apply Exists.intro
                  refine And.intro ?relA ?relB
                  case relB => rfl
                  case relA => exact ⟨i + 1, by go_num, hlt, HC1, HV2⟩
                case measure => simp [intOf]; omega
              · have HV2 := HV1.out
                rw [if_neg (by omega : ¬ chk x (lv + 1) = 0), if_neg (by omega : ¬ chk x (lv + 1) = 0)] at HV2
                generalize chk x (lv + 1) = z at hl HV2 HV1 ⊢
                subst HV2
                have ez : ((z : Int) == 0) = false := beq_eq_false_iff_ne.2 (by omega)
                have ez' : ((z : Int) != 0) = true := by simpa using (by omega : ¬ z = 0)
                go_wp2_with fail
                go_ret
                exact ⟨rfl, HC1.out.2⟩
            · have HV1 := HV.out
              rw [chkI_over (by omega), if_pos rfl] at HV1
              have HV1 := Lib.hid (show chkM (d.mem.drop 0) (lv + 1) = r from HV1)
              obtain ⟨-, -, -, c3, c4, hlw⟩ := HC.out.cells
              clear HV
              go_wp2_with fail
              go_loopw [8] (fun x wr => ∃ i : Nat, x = .int .i64 (i : Int) ∧ i ≤ d.mem.length ∧ Hid (CkS w.heap.size w d (.slice p d.its.length cap) (.slice q d.mem.length caq) wr) ∧ Hid (chkM (d.mem.drop i) (lv + 1) = r)) (fun x _ => d.mem.length - (intOf x).toNat)
              case atStart => exact ⟨0, rfl, Nat.zero_le _, HC, HV1⟩
              case round =>
                clear hi hlt HC HV1 c3 c4 hlw
                obtain ⟨j, rfl, hj, HC, HV⟩ := hrel
                by_cases hlt : j < d.mem.length
                · obtain ⟨B, o, xi, xm, rfl, hcap, hB, hlab, hc, hx⟩ := HM.out j hlt
                  obtain ⟨k0, k1, k2, k3, k4⟩ := hc.below HC.out.2 hB
                  have HX := Lib.hid (hx.under HC.out.2)
                  have HL := Lib.hid (Nat.lt_of_lt_of_le (dat_mg (List.getElem_mem hlt)) (Nat.le_of_lt_succ HD.out))
                  have HV1 := HV.out
                  rw [chkM_drop hlt] at HV1
                  have HV1 := Lib.hid HV1
                  obtain ⟨-, -, -, c3, c4, hlw⟩ := HC.out.cells
                  clear hc hx HV hlab
                  generalize d.mem[j].2 = x at k0 k1 k2 HX HL HV1
                  go_wp2_with fail
                  refine (IH.out x HL.out (lv + 1) (by omega) xi xm ok _ HX.out).mono ?_
                  rintro e w1 ⟨rfl, hb⟩
                  have HC1 := Lib.hid (HC.out.below hb)
                  clear hb
                  rcases Nat.eq_zero_or_pos (chk x (lv + 1)) with hl | hl
                  · rw [hl]
                    have HV2 := HV1.out
                    rw [if_pos hl] at HV2
                    have HV2 := Lib.hid HV2
                    clear hl
                    go_wp2_with fail
                    go_roundw
                    case rel =>
                      repeat apply Exists.intro
                      refine And.intro ?relA ?relB
                      case relB => rfl
                      case relA => exact ⟨j + 1, by go_num, hlt, HC1, HV2⟩
                    case measure => simp [intOf]; omega
                  · have HV2 := HV1.out
                    rw [if_neg (by omega : ¬ chk x (lv + 1) = 0)] at HV2
                    generalize chk x (lv + 1) = z at hl HV2 HV1 ⊢
                    subst HV2
                    have ez : ((z : Int) == 0) = false := beq_eq_false_iff_ne.2 (by omega)
                    have ez' : ((z : Int) != 0) = true := by simpa using (by omega : ¬ z = 0)
                    go_wp2_with fail
                    go_ret
                    exact ⟨rfl, HC1.out.2⟩
                · have HV1 := Lib.hid (HV.out.symm.trans (chkM_over (by omega)))
                  obtain ⟨-, -, -, c3, c4, hlw⟩ := HC.out.cells
                  clear HV
                  go_wp2_with fail
                  go_ret
                  exact ⟨by rw [HV1.out]; rfl, HC.out.2⟩
end
section
open Go.RowKit

theorem szI_drop {its : List Dat} {m n : Int} {i : Nat} (h : i < its.length) : szI (its.drop i) m n = if n ≤ m then szI (its.drop (i + 1)) m (n + szD its[i] (m - n)) else n := by
  rw [List.drop_eq_getElem_cons h, szI]
theorem szI_over {its : List Dat} {m n : Int} {i : Nat} (h : its.length ≤ i) : szI (its.drop i) m n = n := by
  rw [List.drop_of_length_le h, szI]
theorem szI_stop {its : List Dat} {m n : Int} (h : ¬ n ≤ m) : szI its m n = n := by
  cases its with
  | nil => rw [szI]
  | cons x r => rw [szI, if_neg h]
theorem szM_drop {mem : List (List UInt8 × Dat)} {m n : Int} {i : Nat} (h : i < mem.length) : szM (mem.drop i) m n = if n ≤ m then szM (mem.drop (i + 1)) m (n + szD mem[i].2 (m - n)) else n := by
  rw [List.drop_eq_getElem_cons h]
  obtain ⟨l, x⟩ := mem[i]
  rw [szM]
theorem szM_over {mem : List (List UInt8 × Dat)} {m n : Int} {i : Nat} (h : mem.length ≤ i) : szM (mem.drop i) m n = n := by
  rw [List.drop_of_length_le h, szM]
theorem szM_stop {mem : List (List UInt8 × Dat)} {m n : Int} (h : ¬ n ≤ m) : szM mem m n = n := by
  cases mem with
  | nil => rw [szM]
  | cons x r => obtain ⟨l, x⟩ := x; rw [szM, if_neg h]
theorem szI_in {m : Int} : ∀ (its : List Dat) (n : Int), (∀ x ∈ its, ∀ k : Int, 0 ≤ k → 1 ≤ szD x k ∧ szD x k ≤ k + 1) → 1 ≤ n → n ≤ m + 1 → 1 ≤ szI its m n ∧ szI its m n ≤ m + 1
  | [], n, _, h1, h2 => by rw [szI]; exact ⟨h1, h2⟩
  | x :: r, n, hx, h1, h2 => by
    rw [szI]
    split
    · have := hx x (List.mem_cons_self ..) (m - n) (by omega)
      exact szI_in r _ (fun y hy => hx y (List.mem_cons_of_mem _ hy)) (by omega) (by omega)
    · exact ⟨h1, h2⟩
theorem szM_in {m : Int} : ∀ (mem : List (List UInt8 × Dat)) (n : Int), (∀ x ∈ mem, ∀ k : Int, 0 ≤ k → 1 ≤ szD x.2 k ∧ szD x.2 k ≤ k + 1) → 1 ≤ n → n ≤ m + 1 → 1 ≤ szM mem m n ∧ szM mem m n ≤ m + 1
  | [], n, _, h1, h2 => by rw [szM]; exact ⟨h1, h2⟩
  | (l, x) :: r, n, hx, h1, h2 => by
    rw [szM]
    split
    · have := hx (l, x) (List.mem_cons_self ..) (m - n) (by omega)
      simp only at this
      exact szM_in r _ (fun y hy => hx y (List.mem_cons_of_mem _ hy)) (by omega) (by omega)
    · exact ⟨h1, h2⟩
theorem szD_in (f : Nat) : ∀ (d : Dat), SizeOf.sizeOf d < f → ∀ m : Int, 0 ≤ m → 1 ≤ szD d m ∧ szD d m ≤ m + 1 := by
  induction f with
  | zero => intro d h; exact absurd h (Nat.not_lt_zero _)
  | succ f ih =>
    intro d hd m hm
    rw [szD_eq]
    have h1 := szI_in (m := m) d.its 1 (fun x hx k hk => ih x (by have := dat_it hx; omega) k hk) (by omega) (by omega)
    exact szM_in d.mem _ (fun x hx k hk => ih x.2 (by have := dat_mg hx; omega) k hk) h1.1 h1.2
set_option maxRecDepth 100000 in
set_option maxHeartbeats 4000000 in
theorem refSize_any (f : Nat) : ∀ (d : Dat), SizeOf.sizeOf d < f → ∀ (m : Int), 0 ≤ m → m ≤ 1000000 → ∀ (vi vm : Value) (ok : Nat → Prop) (w : World), Rep w ok d vi vm →
    Calls Tryz.prog 31 #[.agg #[.int .i64 d.k, .int .i64 d.n, .string (S d.s), vi, vm], .int .i64 m] w fun e w' => e = .returned (.int .i64 (szD d m)) ∧ Below w.heap.size w w' := by
  induction f with
  | zero => intro d h; exact absurd h (Nat.not_lt_zero _)
  | succ f ih =>
    intro d hd m hm0 hm vi vm ok w hr
    obtain ⟨r, hrr⟩ : ∃ r, szD d m = r := ⟨_, rfl⟩
    rw [hrr]
    have HR := Lib.hid (show szM d.mem m (szI (d.its.drop 0) m 1) = r from (szD_eq d m).symm.trans hrr)
    clear hrr
    have IH := Lib.hid ih
    clear ih
    obtain ⟨p, cap, rfl, hil, hit⟩ := hr.items
    obtain ⟨q, caq, rfl, hml, hme⟩ := hr.members
    clear hr
    unfold maxLen at hil hml
    have HT := Lib.hid hit
    have HM := Lib.hid hme
    clear hit hme
    have HD := Lib.hid hd
    clear hd
    go_enter Tryz.func31, Tryz.ntmps31
    go_upto_region 1 with fail
    have hS : CkS w.heap.size w d (.slice p d.its.length cap) (.slice q d.mem.length caq) (w.alloc (.cells #[.int .i64 d.k, .int .i64 d.n, .string (S d.s), .slice p d.its.length cap, .slice q d.mem.length caq] 26)) := CkS.new w d _ _
    generalize w.alloc (.cells #[.int .i64 d.k, .int .i64 d.n, .string (S d.s), .slice p d.its.length cap, .slice q d.mem.length caq] 26) = W at hS ⊢
    have HS := Lib.hid hS
    clear hS
    go_wp2_with fail
    go_loopw [5, 6] (fun y x wr => ∃ (n : Int) (i : Nat), y = .int .i64 n ∧ x = .int .i64 (i : Int) ∧ i ≤ d.its.length ∧ 1 ≤ n ∧ n ≤ m + 1 ∧ Hid (CkS w.heap.size w d (.slice p d.its.length cap) (.slice q d.mem.length caq) wr) ∧ Hid (szM d.mem m (szI (d.its.drop i) m n) = r)) (fun _ x _ => d.its.length - (intOf x).toNat)
    case atStart => exact ⟨1, 0, rfl, rfl, Nat.zero_le _, by omega, by omega, HS, HR⟩
    case round =>
      obtain ⟨n, i, rfl, rfl, hi, hn1, hn2, HC, HV⟩ := hrel
      by_cases hlt : i < d.its.length ∧ n ≤ m
      · obtain ⟨hlt, hnm⟩ := hlt
        obtain ⟨B, o, xi, xm, rfl, hcap, hB, hc, hx⟩ := HT.out i hlt
        obtain ⟨k0, k1, k2, k3, k4⟩ := hc.below HC.out.2 hB
        have HX := Lib.hid (hx.under HC.out.2)
        have hsz := Nat.lt_of_lt_of_le (dat_it (List.getElem_mem hlt)) (Nat.le_of_lt_succ HD.out)
        obtain ⟨s1, s2⟩ := szD_in f d.its[i] hsz (m - n) (by omega)
        have HL := Lib.hid hsz
        clear hsz
        have HV1 := HV.out
        rw [szI_drop hlt, if_pos hnm] at HV1
        have HV1 := Lib.hid HV1
        obtain ⟨-, -, -, c3, c4, hlw⟩ := HC.out.cells
        clear hc hx HV
        generalize d.its[i] = x at k0 k1 k2 HX HL HV1 s1 s2
        go_wp2_with fail
        refine (IH.out x HL.out (m - n) (by omega) (by omega) xi xm ok _ HX.out).mono ?_
        rintro e w1 ⟨rfl, hb⟩
        have HC1 := Lib.hid (HC.out.below hb)
        clear hb
        generalize szD x (m - n) = z at HV1 s1 s2 ⊢
        go_wp2_with fail
        go_roundw
        case rel => exact ⟨n + z, i + 1, by go_num, by go_num, hlt, by omega, by omega, HC1, HV1⟩
        case measure => simp [intOf]; omega
      · have HV1 : szM (d.mem.drop 0) m n = r := by
          have h := HV.out
          by_cases h1 : i < d.its.length
          · rw [szI_stop (fun h2 => hlt ⟨h1, h2⟩)] at h; exact h
          · rw [szI_over (by omega)] at h; exact h
        have HV1 := Lib.hid HV1
        obtain ⟨-, -, -, c3, c4, hlw⟩ := HC.out.cells
        clear HV
        have hw : ¬ (i : Int) < (d.its.length : Int) ∨ ((i : Int) < (d.its.length : Int) ∧ ¬ n ≤ m) := by
          omega
        clear hlt
        have HN := Lib.hid (And.intro hn1 hn2)
        rcases hw with t1 | ⟨t1, t2⟩
        all_goals
          go_wp2_with fail
          go_loopw [5, 7] (fun y x wr => ∃ (n : Int) (i : Nat), y = .int .i64 n ∧ x = .int .i64 (i : Int) ∧ i ≤ d.mem.length ∧ 1 ≤ n ∧ n ≤ m + 1 ∧ Hid (CkS w.heap.size w d (.slice p d.its.length cap) (.slice q d.mem.length caq) wr) ∧ Hid (szM (d.mem.drop i) m n = r)) (fun _ x _ => d.mem.length - (intOf x).toNat)
          case atStart => exact ⟨n, 0, rfl, rfl, Nat.zero_le _, HN.out.1, HN.out.2, HC, HV1⟩
          case round =>
            clear hn1 hn2 HN HC HV1 c3 c4 hlw hi
            obtain ⟨n, j, rfl, rfl, hj, hn1, hn2, HC, HV⟩ := hrel
            by_cases hlt : j < d.mem.length ∧ n ≤ m
            · obtain ⟨hlt, hnm⟩ := hlt
              obtain ⟨B, o, xi, xm, rfl, hcap, hB, hlab, hc, hx⟩ := HM.out j hlt
              obtain ⟨k0, k1, k2, k3, k4⟩ := hc.below HC.out.2 hB
              have HX := Lib.hid (hx.under HC.out.2)
              have hsz := Nat.lt_of_lt_of_le (dat_mg (List.getElem_mem hlt)) (Nat.le_of_lt_succ HD.out)
              obtain ⟨s1, s2⟩ := szD_in f d.mem[j].2 hsz (m - n) (by omega)
              have HL := Lib.hid hsz
              clear hsz
              have HV1 := HV.out
              rw [szM_drop hlt, if_pos hnm] at HV1
              have HV1 := Lib.hid HV1
              obtain ⟨-, -, -, c3, c4, hlw⟩ := HC.out.cells
              clear hc hx HV hlab
              generalize d.mem[j].2 = x at k0 k1 k2 HX HL HV1 s1 s2
              go_wp2_with fail
              refine (IH.out x HL.out (m - n) (by omega) (by omega) xi xm ok _ HX.out).mono ?_
              rintro e w1 ⟨rfl, hb⟩
              have HC1 := Lib.hid (HC.out.below hb)
              clear hb
              generalize szD x (m - n) = z at HV1 s1 s2 ⊢
              go_wp2_with fail
              go_roundw
              case rel => exact ⟨n + z, j + 1, by go_num, by go_num, hlt, by omega, by omega, HC1, HV1⟩
              case measure => simp [intOf]; omega
            · have HV1 : n = r := by
                have h := HV.out
                by_cases h1 : j < d.mem.length
                · rw [szM_stop (fun h2 => hlt ⟨h1, h2⟩)] at h; exact h
                · rw [szM_over (by omega)] at h; exact h
              subst HV1
              obtain ⟨-, -, -, c3, c4, hlw⟩ := HC.out.cells
              clear HV
              have hw : ¬ (j : Int) < (d.mem.length : Int) ∨ ((j : Int) < (d.mem.length : Int) ∧ ¬ n ≤ m) := by
                omega
              clear hlt
              rcases hw with t3 | ⟨t3, t4⟩
              all_goals
                go_wp2_with fail
                go_ret
                exact ⟨rfl, HC.out.2⟩
end
section
open Go.RowKit

theorem lbI_drop {its : List Dat} {i : Nat} (h : i < its.length) : lbI (its.drop i) = (lbD its[i] && lbI (its.drop (i + 1))) := by
  rw [List.drop_eq_getElem_cons h, lbI]
theorem lbI_over {its : List Dat} {i : Nat} (h : its.length ≤ i) : lbI (its.drop i) = true := by
  rw [List.drop_of_length_le h, lbI]
theorem lbM_drop {mem : List (List UInt8 × Dat)} {i : Nat} (h : i < mem.length) : lbM (mem.drop i) = (!mem[i].1.isEmpty && lbD mem[i].2 && lbM (mem.drop (i + 1))) := by
  rw [List.drop_eq_getElem_cons h]
  obtain ⟨l, x⟩ := mem[i]
  rw [lbM]
theorem lbM_over {mem : List (List UInt8 × Dat)} {i : Nat} (h : mem.length ≤ i) : lbM (mem.drop i) = true := by
  rw [List.drop_of_length_le h, lbM]
set_option maxRecDepth 100000 in
set_option maxHeartbeats 2000000 in
theorem refLabeled_any (m : Nat) : ∀ (d : Dat), SizeOf.sizeOf d < m → ∀ (vi vm : Value) (ok : Nat → Prop) (w : World), Rep w ok d vi vm →
    Calls Tryz.prog 40 #[.agg #[.int .i64 d.k, .int .i64 d.n, .string (S d.s), vi, vm]] w fun e w' => e = .returned (.bool (lbD d)) ∧ Below w.heap.size w w' := by
  induction m with
  | zero => intro d h; exact absurd h (Nat.not_lt_zero _)
  | succ m ih =>
    intro d hd vi vm ok w hr
    obtain ⟨r, hrr⟩ : ∃ r, lbD d = r := ⟨_, rfl⟩
    rw [hrr]
    have HR := Lib.hid (show (lbI (d.its.drop 0) && lbM d.mem) = r from (lbD_eq d).symm.trans hrr)
    clear hrr
    have IH := Lib.hid ih
    clear ih
    obtain ⟨p, cap, rfl, hil, hit⟩ := hr.items
    obtain ⟨q, caq, rfl, hml, hme⟩ := hr.members
    clear hr
    unfold maxLen at hil hml
    have HT := Lib.hid hit
    have HM := Lib.hid hme
    clear hit hme
    have HD := Lib.hid hd
    clear hd
    go_enter Tryz.func40, Tryz.ntmps40
    go_upto_region 1 with fail
    have hS : CkS w.heap.size w d (.slice p d.its.length cap) (.slice q d.mem.length caq) (w.alloc (.cells #[.int .i64 d.k, .int .i64 d.n, .string (S d.s), .slice p d.its.length cap, .slice q d.mem.length caq] 26)) := CkS.new w d _ _
    generalize w.alloc (.cells #[.int .i64 d.k, .int .i64 d.n, .string (S d.s), .slice p d.its.length cap, .slice q d.mem.length caq] 26) = W at hS ⊢
    have HS := Lib.hid hS
    clear hS
    obtain ⟨N, hN⟩ : ∃ N, N = w.heap.size := ⟨_, rfl⟩
    go_wp2_with fail
    go_loopw [3] (fun x wr => ∃ i : Nat, x = .int .i64 (i : Int) ∧ i ≤ d.its.length ∧ Hid (CkS w.heap.size w d (.slice p d.its.length cap) (.slice q d.mem.length caq) wr) ∧ Hid ((lbI (d.its.drop i) && lbM d.mem) = r)) (fun x _ => d.its.length - (intOf x).toNat)
    case atStart => exact ⟨0, rfl, Nat.zero_le _, HS, HR⟩
    case round =>
      obtain ⟨i, rfl, hi, HC, HV⟩ := hrel
      by_cases hlt : i < d.its.length
      · obtain ⟨B, o, xi, xm, rfl, hcap, hB, hc, hx⟩ := HT.out i hlt
        obtain ⟨k0, k1, k2, k3, k4⟩ := hc.below HC.out.2 hB
        have HX := Lib.hid (hx.under HC.out.2)
        have HL := Lib.hid (Nat.lt_of_lt_of_le (dat_it (List.getElem_mem hlt)) (Nat.le_of_lt_succ HD.out))
        have HV1 := Lib.hid (show (lbD d.its[i] && lbI (d.its.drop (i + 1)) && lbM d.mem) = r by rw [← lbI_drop hlt]; exact HV.out)
        obtain ⟨-, -, -, c3, c4, hlw⟩ := HC.out.cells
        clear hc hx HV
        generalize d.its[i] = x at k0 k1 k2 HX HL HV1
        go_wp2_with fail
        refine (IH.out x HL.out xi xm ok _ HX.out).mono ?_
        rintro e w1 ⟨rfl, hb⟩
        have HC1 := Lib.hid (HC.out.below hb)
        clear hb
        rcases Bool.eq_false_or_eq_true (lbD x) with hl | hl
        · rw [hl]
          have HV2 := Lib.hid (show (lbI (d.its.drop (i + 1)) && lbM d.mem) = r by rw [← HV1.out, hl]; rfl)
          go_wp2_with fail
          go_roundw
          case rel => exact ⟨i + 1, by go_num, hlt, HC1, HV2⟩
          case measure => simp [intOf]; omega
        · rw [hl]
          have HV2 := Lib.hid (show false = r by rw [← HV1.out, hl]; rfl)
          go_wp2_with fail
          go_ret
          exact ⟨by rw [← HV2.out]; rfl, HC1.out.2⟩
      · have HV1 := Lib.hid (show lbM (d.mem.drop 0) = r by rw [← HV.out, lbI_over (by omega)]; rfl)
        obtain ⟨-, -, -, c3, c4, hlw⟩ := HC.out.cells
        clear HV
        go_wp2_with fail
        go_loopw [4] (fun x wr => ∃ i : Nat, x = .int .i64 (i : Int) ∧ i ≤ d.mem.length ∧ Hid (CkS w.heap.size w d (.slice p d.its.length cap) (.slice q d.mem.length caq) wr) ∧ Hid (lbM (d.mem.drop i) = r)) (fun x _ => d.mem.length - (intOf x).toNat)
        case atStart => exact ⟨0, rfl, Nat.zero_le _, HC, HV1⟩
        case round =>
          obtain ⟨j, rfl, hj, HC, HV⟩ := hrel
          by_cases hlt : j < d.mem.length
          · obtain ⟨B, o, xi, xm, rfl, hcap, hB, hlab, hc, hx⟩ := HM.out j hlt
            obtain ⟨k0, k1, k2, k3, k4⟩ := hc.below HC.out.2 hB
            have k5 := (HC.out.2.cell (p := ⟨B, o + j * 6, none⟩) hB).trans hlab
            have HX := Lib.hid (hx.under HC.out.2)
            have HL := Lib.hid (Nat.lt_of_lt_of_le (dat_mg (List.getElem_mem hlt)) (Nat.le_of_lt_succ HD.out))
            have HV1 := Lib.hid ((lbM_drop hlt).symm.trans HV.out)
            obtain ⟨-, -, -, c3, c4, hlw⟩ := HC.out.cells
            clear hc hx HV hlab
            generalize d.mem[j] = y at k0 k1 k2 k5 HX HL HV1
            obtain ⟨l, x⟩ := y
            simp only at k0 k1 k2 k5 HX HL HV1
            rcases Bool.eq_false_or_eq_true l.isEmpty with hl | hl
            · have HV2 := Lib.hid (show false = r by rw [← HV1.out, hl]; rfl)
              go_wp2_with fail
              go_ret
              exact ⟨by rw [← HV2.out]; rfl, HC.out.2⟩
            · go_wp2_with fail
              refine (IH.out x HL.out xi xm ok _ HX.out).mono ?_
              rintro e w1 ⟨rfl, hb⟩
              have HC1 := Lib.hid (HC.out.below hb)
              clear hb
              rcases Bool.eq_false_or_eq_true (lbD x) with hd | hd
              · rw [hd]
                have HV2 := Lib.hid (show lbM (d.mem.drop (j + 1)) = r by rw [← HV1.out, hl, hd]; rfl)
                go_wp2_with fail
                go_roundw
                case rel => exact ⟨j + 1, by go_num, hlt, HC1, HV2⟩
                case measure => simp [intOf]; omega
              · rw [hd]
                have HV2 := Lib.hid (show false = r by rw [← HV1.out, hl, hd]; rfl)
                go_wp2_with fail
                go_ret
                exact ⟨by rw [← HV2.out]; rfl, HC1.out.2⟩
          · have HV1 := Lib.hid (show true = r by rw [← HV.out, lbM_over (by omega)])
            obtain ⟨-, -, -, c3, c4, hlw⟩ := HC.out.cells
            clear HV
            go_wp2_with fail
            go_ret
            exact ⟨by rw [← HV1.out]; rfl, HC.out.2⟩
end
section
open Go.RowKit

theorem shI_drop {its : List Dat} {i : Nat} (h : i < its.length) : shI (its.drop i) = (shD its[i] && shI (its.drop (i + 1))) := by
  rw [List.drop_eq_getElem_cons h, shI]
theorem shI_over {its : List Dat} {i : Nat} (h : its.length ≤ i) : shI (its.drop i) = true := by
  rw [List.drop_of_length_le h, shI]
theorem shM_drop {mem : List (List UInt8 × Dat)} {i : Nat} (h : i < mem.length) : shM (mem.drop i) = (decide (mem[i].1.length ≤ 80) && shD mem[i].2 && shM (mem.drop (i + 1))) := by
  rw [List.drop_eq_getElem_cons h]
  obtain ⟨l, x⟩ := mem[i]
  rw [shM]
theorem shM_over {mem : List (List UInt8 × Dat)} {i : Nat} (h : mem.length ≤ i) : shM (mem.drop i) = true := by
  rw [List.drop_of_length_le h, shM]
set_option maxRecDepth 100000 in
set_option maxHeartbeats 2000000 in
theorem refShort_any (m : Nat) : ∀ (d : Dat), SizeOf.sizeOf d < m → ∀ (vi vm : Value) (ok : Nat → Prop) (w : World), Rep w ok d vi vm →
    Calls Tryz.prog 32 #[.agg #[.int .i64 d.k, .int .i64 d.n, .string (S d.s), vi, vm]] w fun e w' => e = .returned (.bool (shD d)) ∧ Below w.heap.size w w' := by
  induction m with
  | zero => intro d h; exact absurd h (Nat.not_lt_zero _)
  | succ m ih =>
    intro d hd vi vm ok w hr
    obtain ⟨r, hrr⟩ : ∃ r, shD d = r := ⟨_, rfl⟩
    rw [hrr]
    have HR0 := Lib.hid ((shD_eq d).symm.trans hrr)
    clear hrr
    have IH := Lib.hid ih
    clear ih
    obtain ⟨p, cap, rfl, hil, hit⟩ := hr.items
    obtain ⟨q, caq, rfl, hml, hme⟩ := hr.members
    clear hr
    unfold maxLen at hil hml
    have HT := Lib.hid hit
    have HM := Lib.hid hme
    clear hit hme
    have HD := Lib.hid hd
    clear hd
    go_enter Tryz.func32, Tryz.ntmps32
    go_upto_region 1 with fail
    have hS : CkS w.heap.size w d (.slice p d.its.length cap) (.slice q d.mem.length caq) (w.alloc (.cells #[.int .i64 d.k, .int .i64 d.n, .string (S d.s), .slice p d.its.length cap, .slice q d.mem.length caq] 26)) := CkS.new w d _ _
    generalize w.alloc (.cells #[.int .i64 d.k, .int .i64 d.n, .string (S d.s), .slice p d.its.length cap, .slice q d.mem.length caq] 26) = W at hS ⊢
    have HS := Lib.hid hS
    clear hS
    obtain ⟨-, -, c2, -, -, hlw⟩ := HS.out.cells
    by_cases h80 : d.s.length ≤ 80
    case neg =>
      have HV2 := Lib.hid (show false = r by rw [← HR0.out, decide_eq_false h80]; rfl)
      go_wp2_with fail
      go_ret
      exact ⟨by rw [← HV2.out]; rfl, HS.out.2⟩
    have HR := Lib.hid (show (shI (d.its.drop 0) && shM d.mem) = r by rw [← HR0.out, decide_eq_true h80]; rfl)
    clear HR0
    go_wp2_with fail
    clear h80 c2 hlw
    go_loopw [3] (fun x wr => ∃ i : Nat, x = .int .i64 (i : Int) ∧ i ≤ d.its.length ∧ Hid (CkS w.heap.size w d (.slice p d.its.length cap) (.slice q d.mem.length caq) wr) ∧ Hid ((shI (d.its.drop i) && shM d.mem) = r)) (fun x _ => d.its.length - (intOf x).toNat)
    case atStart => exact ⟨0, rfl, Nat.zero_le _, HS, HR⟩
    case round =>
      obtain ⟨i, rfl, hi, HC, HV⟩ := hrel
      by_cases hlt : i < d.its.length
      · obtain ⟨B, o, xi, xm, rfl, hcap, hB, hc, hx⟩ := HT.out i hlt
        obtain ⟨k0, k1, k2, k3, k4⟩ := hc.below HC.out.2 hB
        have HX := Lib.hid (hx.under HC.out.2)
        have HL := Lib.hid (Nat.lt_of_lt_of_le (dat_it (List.getElem_mem hlt)) (Nat.le_of_lt_succ HD.out))
        have HV1 := Lib.hid (show (shD d.its[i] && shI (d.its.drop (i + 1)) && shM d.mem) = r by rw [← shI_drop hlt]; exact HV.out)
        obtain ⟨-, -, -, c3, c4, hlw⟩ := HC.out.cells
        clear hc hx HV
        generalize d.its[i] = x at k0 k1 k2 HX HL HV1
        go_wp2_with fail
        refine (IH.out x HL.out xi xm ok _ HX.out).mono ?_
        rintro e w1 ⟨rfl, hb⟩
        have HC1 := Lib.hid (HC.out.below hb)
        clear hb
        rcases Bool.eq_false_or_eq_true (shD x) with hl | hl
        · rw [hl]
          have HV2 := Lib.hid (show (shI (d.its.drop (i + 1)) && shM d.mem) = r by rw [← HV1.out, hl]; rfl)
          go_wp2_with fail
          go_roundw
          case rel => exact ⟨i + 1, by go_num, hlt, HC1, HV2⟩
          case measure => simp [intOf]; omega
        · rw [hl]
          have HV2 := Lib.hid (show false = r by rw [← HV1.out, hl]; rfl)
          go_wp2_with fail
          go_ret
          exact ⟨by rw [← HV2.out]; rfl, HC1.out.2⟩
      · have HV1 := Lib.hid (show shM (d.mem.drop 0) = r by rw [← HV.out, shI_over (by omega)]; rfl)
        obtain ⟨-, -, -, c3, c4, hlw⟩ := HC.out.cells
        clear HV
        go_wp2_with fail
        go_loopw [4] (fun x wr => ∃ i : Nat, x = .int .i64 (i : Int) ∧ i ≤ d.mem.length ∧ Hid (CkS w.heap.size w d (.slice p d.its.length cap) (.slice q d.mem.length caq) wr) ∧ Hid (shM (d.mem.drop i) = r)) (fun x _ => d.mem.length - (intOf x).toNat)
        case atStart => exact ⟨0, rfl, Nat.zero_le _, HC, HV1⟩
        case round =>
          obtain ⟨j, rfl, hj, HC, HV⟩ := hrel
          by_cases hlt : j < d.mem.length
          · obtain ⟨B, o, xi, xm, rfl, hcap, hB, hlab, hc, hx⟩ := HM.out j hlt
            obtain ⟨k0, k1, k2, k3, k4⟩ := hc.below HC.out.2 hB
            have k5 := (HC.out.2.cell (p := ⟨B, o + j * 6, none⟩) hB).trans hlab
            have HX := Lib.hid (hx.under HC.out.2)
            have HL := Lib.hid (Nat.lt_of_lt_of_le (dat_mg (List.getElem_mem hlt)) (Nat.le_of_lt_succ HD.out))
            have HV1 := Lib.hid ((shM_drop hlt).symm.trans HV.out)
            obtain ⟨-, -, -, c3, c4, hlw⟩ := HC.out.cells
            clear hc hx HV hlab
            generalize d.mem[j] = y at k0 k1 k2 k5 HX HL HV1
            obtain ⟨l, x⟩ := y
            simp only at k0 k1 k2 k5 HX HL HV1
            by_cases hl : l.length ≤ 80
            case neg =>
              have HV2 := Lib.hid (show false = r by rw [← HV1.out, decide_eq_false hl]; rfl)
              go_wp2_with fail
              go_ret
              exact ⟨by rw [← HV2.out]; rfl, HC.out.2⟩
            case pos =>
              go_wp2_with fail
              refine (IH.out x HL.out xi xm ok _ HX.out).mono ?_
              rintro e w1 ⟨rfl, hb⟩
              have HC1 := Lib.hid (HC.out.below hb)
              clear hb
              rcases Bool.eq_false_or_eq_true (shD x) with hd | hd
              · rw [hd]
                have HV2 := Lib.hid (show shM (d.mem.drop (j + 1)) = r by rw [← HV1.out, decide_eq_true hl, hd]; rfl)
                go_wp2_with fail
                go_roundw
                case rel => exact ⟨j + 1, by go_num, hlt, HC1, HV2⟩
                case measure => simp [intOf]; omega
              · rw [hd]
                have HV2 := Lib.hid (show false = r by rw [← HV1.out, decide_eq_true hl, hd]; rfl)
                go_wp2_with fail
                go_ret
                exact ⟨by rw [← HV2.out]; rfl, HC1.out.2⟩
          · have HV1 := Lib.hid (show true = r by rw [← HV.out, shM_over (by omega)])
            obtain ⟨-, -, -, c3, c4, hlw⟩ := HC.out.cells
            clear HV
            go_wp2_with fail
            go_ret
            exact ⟨by rw [← HV1.out]; rfl, HC.out.2⟩
end
section
open Go.RowKit

variable {d : Dat} {vi vm : Value} {ok : Nat → Prop} {w : World}
theorem refChk_any (hr : Rep w ok d vi vm) : Calls Tryz.prog 39 #[.agg #[.int .i64 d.k, .int .i64 d.n, .string (S d.s), vi, vm]] w fun e w' => e = .returned (.int .i64 (chk d 1 : Int)) ∧ Below w.heap.size w w' := by
  have HW := Lib.hid (fun w' (hb : Below w.heap.size w w') => refCheck_any (SizeOf.sizeOf d + 1) d (Nat.lt_succ_self _) 1 (by omega) vi vm ok w' (hr.under hb))
  clear hr
  have e1 : ((1 : Nat) : Int) = 1 := rfl
  simp only [e1] at HW
  generalize chk d 1 = r at HW ⊢
  go_enter Tryz.func39, Tryz.ntmps39
  go_upto_region 1 with fail
  have hS : CkS w.heap.size w d vi vm (w.alloc (.cells #[.int .i64 d.k, .int .i64 d.n, .string (S d.s), vi, vm] 26)) := CkS.new w d _ _
  generalize w.alloc (.cells #[.int .i64 d.k, .int .i64 d.n, .string (S d.s), vi, vm] 26) = W at hS ⊢
  obtain ⟨c0, c1, c2, c3, c4, hlw⟩ := hS.cells
  have HS0 := Lib.hid hS
  clear hS
  go_wp2_with fail
  refine (HW.out _ HS0.out.2).mono ?_
  rintro e w1 ⟨rfl, hb⟩
  have hS := HS0.out.below hb
  clear hb HS0 c0 c1 c2 c3 c4 hlw
  obtain ⟨c0, c1, c2, c3, c4, hlw⟩ := hS.cells
  have HS1 := Lib.hid hS
  have HB := Lib.hid hS.2
  clear hS
  go_wp2_with fail
  go_ret
  exact ⟨rfl, HB.out⟩
theorem refVal_any (hr : Rep w ok d vi vm) : Calls Tryz.prog 77 #[.agg #[.int .i64 d.k, .int .i64 d.n, .string (S d.s), vi, vm]] w fun e w' => e = .returned (.bool (decide (chk d 1 = 0))) ∧ Below w.heap.size w w' := by
  have HW := Lib.hid (fun w' (hb : Below w.heap.size w w') => refChk_any (hr.under hb))
  clear hr
  generalize chk d 1 = r at HW ⊢
  have HE := Lib.hid (show decide (r = 0) = ((r : Int) == 0) by rw [Bool.eq_iff_iff]; simp)
  go_enter Tryz.func77, Tryz.ntmps77
  go_upto_region 1 with fail
  have hS : CkS w.heap.size w d vi vm (w.alloc (.cells #[.int .i64 d.k, .int .i64 d.n, .string (S d.s), vi, vm] 26)) := CkS.new w d _ _
  generalize w.alloc (.cells #[.int .i64 d.k, .int .i64 d.n, .string (S d.s), vi, vm] 26) = W at hS ⊢
  obtain ⟨c0, c1, c2, c3, c4, hlw⟩ := hS.cells
  have HS0 := Lib.hid hS
  clear hS
  go_wp2_with fail
  refine (HW.out _ HS0.out.2).mono ?_
  rintro e w1 ⟨rfl, hb⟩
  have hS := HS0.out.below hb
  clear hb HS0 c0 c1 c2 c3 c4 hlw
  obtain ⟨c0, c1, c2, c3, c4, hlw⟩ := hS.cells
  have HS1 := Lib.hid hS
  have HB := Lib.hid hS.2
  clear hS
  go_wp2_with fail
  go_ret
  exact ⟨by rw [HE.out]; rfl, HB.out⟩
theorem refSmall_any (hr : Rep w ok d vi vm) : Calls Tryz.prog 14 #[.agg #[.int .i64 d.k, .int .i64 d.n, .string (S d.s), vi, vm]] w fun e w' => e = .returned (.bool (smallD d)) ∧ Below w.heap.size w w' := by
  have HW := Lib.hid (fun w' (hb : Below w.heap.size w w') => refSize_any (SizeOf.sizeOf d + 1) d (Nat.lt_succ_self _) 40 (by omega) (by omega) vi vm ok w' (hr.under hb))
  have HV := Lib.hid (fun w' (hb : Below w.heap.size w w') => refShort_any (SizeOf.sizeOf d + 1) d (Nat.lt_succ_self _) vi vm ok w' (hr.under hb))
  clear hr
  have HS := Lib.hid (show smallD d = (decide (szD d 40 ≤ 40) && shD d) from rfl)
  generalize smallD d = r at HS ⊢
  generalize szD d 40 = z at HS HW
  generalize shD d = t at HS HV
  go_enter Tryz.func14, Tryz.ntmps14
  go_upto_region 1 with fail
  have hS : CkS w.heap.size w d vi vm (w.alloc (.cells #[.int .i64 d.k, .int .i64 d.n, .string (S d.s), vi, vm] 26)) := CkS.new w d _ _
  generalize w.alloc (.cells #[.int .i64 d.k, .int .i64 d.n, .string (S d.s), vi, vm] 26) = W at hS ⊢
  obtain ⟨c0, c1, c2, c3, c4, hlw⟩ := hS.cells
  have HS0 := Lib.hid hS
  clear hS
  go_wp2_with fail
  refine (HW.out _ HS0.out.2).mono ?_
  rintro e w1 ⟨rfl, hb⟩
  have hS := HS0.out.below hb
  clear hb HS0 c0 c1 c2 c3 c4 hlw
  obtain ⟨c0, c1, c2, c3, c4, hlw⟩ := hS.cells
  have HS1 := Lib.hid hS
  have HB := Lib.hid hS.2
  clear hS
  by_cases hz : z ≤ 40
  · have HR := Lib.hid (show r = t by rw [HS.out, decide_eq_true hz]; rfl)
    go_wp2_with fail
    refine (HV.out _ HB.out).mono ?_
    rintro e w2 ⟨rfl, hb⟩
    have HB2 := Lib.hid (HB.out.trans (hb.mono HB.out.size))
    clear hb
    go_wp2_with fail
    go_ret
    exact ⟨by rw [HR.out]; rfl, HB2.out⟩
  · have HR := Lib.hid (show r = false by rw [HS.out, decide_eq_false hz]; rfl)
    go_wp2_with fail
    go_ret
    exact ⟨by rw [HR.out]; rfl, HB.out⟩
end
section
open Go.RowKit

theorem remI_tmod (u v : Int) (hv : v ≠ 0) : remI u v = if u.tmod v ≠ 0 ∧ ¬(u < 0 ↔ v < 0) then v + u.tmod v else u.tmod v := by
  unfold remI
  by_cases h0 : 0 ≤ u
  · have e1 : u.tmod v = u % v := Int.tmod_eq_emod_of_nonneg h0
    rw [e1]
    by_cases hp : 0 < v
    · rw [if_pos hp, if_neg (by omega)]
    · rw [if_neg hp]
      have e2 : u % (-v) = u % v := Int.emod_neg u v
      have e3 : (-u) % (-v) = if u % v = 0 then 0 else -v - u % v := by
        have h1 := Int.emod_nonneg u hv
        have h2 := Int.emod_lt_of_pos u (show 0 < -v by omega)
        have h3 := Int.mul_ediv_add_emod u (-v)
        rw [e2] at h2 h3
        split
        · exact Int.emod_eq_zero_of_dvd ⟨-(u / -v), by rw [Int.mul_neg]; omega⟩
        · have h4 : -u = (-v - u % v) + (-v) * (-(u / -v) - 1) := by rw [Int.mul_sub, Int.mul_neg]; omega
          rw [h4, Int.add_mul_emod_self_left]
          exact Int.emod_eq_of_lt (by omega) (by omega)
      rw [e3]
      by_cases hz : u % v = 0
      · simp [hz]
      · rw [if_neg hz]
        split <;> omega
  · have e1 : u.tmod v = -((-u) % v) := by
      rw [show u = -(-u) by omega, Int.neg_tmod, Int.tmod_eq_emod_of_nonneg (by omega)]; simp
    rw [e1]
    by_cases hp : 0 < v
    · rw [if_pos hp]
      have h1 := Int.emod_nonneg (-u) hv
      have h2 := Int.emod_lt_of_pos (-u) hp
      have h3 := Int.mul_ediv_add_emod (-u) v
      by_cases hz : (-u) % v = 0
      · rw [if_neg (by omega), hz]
        exact Int.emod_eq_zero_of_dvd ⟨-((-u) / v), by rw [Int.mul_neg]; omega⟩
      · rw [if_pos (by omega)]
        have h4 : u = (v + -((-u) % v)) + v * (-((-u) / v) - 1) := by rw [Int.mul_sub, Int.mul_neg]; omega
        conv => lhs; rw [h4, Int.add_mul_emod_self_left]
        exact Int.emod_eq_of_lt (by omega) (by omega)
    · rw [if_neg hp, Int.emod_neg, if_neg (by omega)]
theorem floor_tmod (u : Int) : u - u % 10000 = if u.tmod 10000 < 0 then u - (u.tmod 10000 + 10000) else u - u.tmod 10000 := by
  by_cases h0 : 0 ≤ u
  · rw [Int.tmod_eq_emod_of_nonneg h0]; split <;> omega
  · have e1 : u.tmod 10000 = -((-u) % 10000) := by
      rw [show u = -(-u) by omega, Int.neg_tmod, Int.tmod_eq_emod_of_nonneg (by omega)]; simp
    rw [e1]; split <;> omega
end
section
open Go.RowKit

theorem tmod_bound (u v : Int) (hu : vld u = true) : -1000000000000000 ≤ u.tmod v ∧ u.tmod v ≤ 1000000000000000 := by
  rw [vld_iff] at hu
  have h := Int.natAbs_tmod u v
  have h2 := Nat.mod_le u.natAbs v.natAbs
  omega
end
section
open Go.RowKit

def sgn (b : Bool) (n : Nat) : Int := if b then -(n : Int) else n
theorem rat_res (b : Bool) (p d n : Nat) (h0 : p % d = 0) (hn : p / d = n) : rat b p d = resI (sgn b n) := by
  unfold rat resI
  rw [if_pos h0, hn]
  cases b
  · by_cases h : n ≤ 1000000000000000
    · rw [if_pos h, if_pos ((vld_iff _).2 (by simp [sgn]; omega))]; rfl
    · rw [if_neg h, if_neg (by rw [vld_iff]; simp [sgn]; omega)]
  · by_cases h : n ≤ 1000000000000000
    · rw [if_pos h, if_pos ((vld_iff _).2 (by simp [sgn]; omega))]; rfl
    · rw [if_neg h, if_neg (by rw [vld_iff]; simp [sgn]; omega)]
theorem rat_range (b : Bool) (p d : Nat) (h0 : p % d = 0) (hn : 1000000000000000 < p / d) : rat b p d = (0, 1) := by
  unfold rat
  rw [if_pos h0, if_neg (by omega)]
theorem rat_exact (b : Bool) (p d : Nat) (h0 : p % d ≠ 0) : rat b p d = (0, 3) := by
  unfold rat
  rw [if_neg h0]

theorem parts_div {p p1 p2 p3 p4 q4 : Nat} (hl : p = 10000000000000000 * p1 + 100000000 * (p2 + p3) + p4) (h4 : p4 = 10000 * q4) : p % 10000 = 0 ∧ p / 10000 = p1 * 1000000000000 + (p2 + p3) * 10000 + q4 := by
  have e : p = 10000 * (p1 * 1000000000000 + (p2 + p3) * 10000 + q4) := by omega
  rw [e]
  exact ⟨Nat.mul_mod_right _ _, Nat.mul_div_cancel_left _ (by decide)⟩
theorem parts_mod {p p1 p2 p3 p4 : Nat} (hl : p = 10000000000000000 * p1 + 100000000 * (p2 + p3) + p4) : p % 10000 = p4 % 10000 := by
  have e : p = p4 + 10000 * (p1 * 1000000000000 + (p2 + p3) * 10000) := by omega
  rw [e, Nat.add_mul_mod_self_left]

theorem big1 {p1 m q4 : Nat} (h : 1000 < p1) : 1000000000000000 < p1 * 1000000000000 + m * 10000 + q4 := by omega
theorem big2 {p1 m q4 : Nat} (h : 100000000000 < m) : 1000000000000000 < p1 * 1000000000000 + m * 10000 + q4 := by omega
theorem sum_int {p1 p2 p3 q4 n : Nat} (h : n = p1 * 1000000000000 + (p2 + p3) * 10000 + q4) : (p1 : Int) * 1000000000000 + ((p2 : Int) + (p3 : Int)) * 10000 + (q4 : Int) = (n : Int) := by omega
theorem sum_le {p1 p2 p3 q4 n : Nat} (h : n = p1 * 1000000000000 + (p2 + p3) * 10000 + q4) (h1 : ¬ 1000 < p1) (h2 : ¬ 100000000000 < p2 + p3) (h3 : q4 ≤ 1000000000000) : n ≤ 4000000000000000000 := by omega
end
section
open Go.RowKit

theorem abs_at (u : Int) (a : Nat) (h : vld u = true) (ha : Hid (u.natAbs = a)) (w : World) : Calls Tryz.prog 164 #[.int .i64 u] w fun e w' => e = .returned (.int .i64 (a : Int)) ∧ w = w' :=
  (abs_any u h w).mono fun e w' ⟨he, hw⟩ => ⟨by rw [he, ha.out], hw⟩
theorem long_low (r b d k : Nat) (hb : 0 < b) (hr : r < b) (hd : d < 10 ^ k) : d * 10 + r * 10 / b < 10 ^ (k + 1) := by
  have h1 : r * 10 / b < 10 := (Nat.div_lt_iff_lt_mul hb).2 (by rw [Nat.mul_comm 10 b]; omega)
  rw [Nat.pow_succ]
  omega
/-- what the division reads after k digits -/
structure Longs (a b : Nat) (k d r : Nat) : Prop where
  le : k ≤ 4
  eq : d * b + r = a % b * 10 ^ k
  lt : r < b
  low : d < 10 ^ k
theorem Longs.next {a b k d r : Nat} (hb : 0 < b) (h : Longs a b k d r) (hk : k < 4) : Longs a b (k + 1) (d * 10 + r * 10 / b) (r * 10 % b) :=
  ⟨by omega, by rw [long_step r b d _ h.eq, Nat.pow_succ, Nat.mul_assoc], Nat.mod_lt _ hb, long_low r b d k hb h.lt h.low⟩
theorem Longs.last {a b d r : Nat} (hb : 0 < b) (h : Longs a b 4 d r) : (a * 10000) / b = a / b * 10000 + d ∧ (a * 10000) % b = r := by
  have hl := long_div a b hb
  have he : a % b * 10000 = r + b * d := by have := h.eq; simp only [Nat.reducePow] at this; rw [← this, Nat.mul_comm d b]; omega
  have h1 : a % b * 10000 / b = d := by rw [he, Nat.add_mul_div_left _ _ hb, Nat.div_eq_of_lt h.lt, Nat.zero_add]
  have h2 : a % b * 10000 % b = r := by rw [he, Nat.add_mul_mod_self_left, Nat.mod_eq_of_lt h.lt]
  rw [hl.1, hl.2, h1, h2]; exact ⟨rfl, rfl⟩
theorem low4 {k d : Nat} (h : d < 10 ^ k) (hk : k ≤ 4) : d < 10000 := Nat.lt_of_lt_of_le h (Nat.pow_le_pow_right (by decide) hk : 10 ^ k ≤ 10 ^ 4)

def OkPr (x : Int × Int) (w : World) (e : Ending) (w' : World) : Prop := e = .returned (pr x) ∧ ∃ n, w' = w.drewN n
end
end Go.Proofs.YtoahmganodehkaaGreatDoor
