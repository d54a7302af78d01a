import Derived.Test.YtdalfkklkeblaaaGreatDoorN07
import Derived.ProofKit
import Derived.OpenShut
import Derived.ShutString
import Derived.ChangeOld
import Derived.ChangeStays
import Derived.ReadAgain
namespace Go.Proofs.YtdalfkklkeblaaaGreatDoor
set_option linter.unusedSimpArgs false
set_option linter.unusedVariables false
section
open Go.RowKit
theorem shI_drop {its : List Dat} {i : Nat} (h : i < its.length) : shI (its.drop i) = (shD its[i] && shI (its.drop (i + 1))) := by
 rw [List.drop_eq_getElem_cons h, shI]
theorem shI_over {its : List Dat} {i : Nat} (h : its.length ≤ i) : shI (its.drop i) = true := by
 rw [List.drop_of_length_le h, shI]
theorem shM_drop {mem : List (List UInt8 × Dat)} {i : Nat} (h : i < mem.length) : shM (mem.drop i) = (decide (mem[i].1.length ≤ 80) && shD mem[i].2 && shM (mem.drop (i + 1))) := by
 rw [List.drop_eq_getElem_cons h]
 obtain ⟨l, x⟩ := mem[i]
 rw [shM]
theorem shM_over {mem : List (List UInt8 × Dat)} {i : Nat} (h : mem.length ≤ i) : shM (mem.drop i) = true := by
 rw [List.drop_of_length_le h, shM]
set_option maxRecDepth 100000 in
set_option maxHeartbeats 2000000 in
theorem refShort_any (m : Nat) : ∀ (d : Dat), SizeOf.sizeOf d < m → ∀ (vi vm : Value) (ok : Nat → Prop) (w : World), Rep w ok d vi vm →
   Calls Tryz.prog 49 #[.agg #[.int .i64 d.k, .int .i64 d.n, .string (S d.s), vi, vm]] w fun e w' => e = .returned (.bool (shD d)) ∧ Below w.heap.size w w' := by
 induction m with
 | zero => intro d h; exact absurd h (Nat.not_lt_zero _)
 | succ m ih =>
   intro d hd vi vm ok w hr
   obtain ⟨r, hrr⟩ : ∃ r, shD d = r := ⟨_, rfl⟩
   rw [hrr]
   have HR0 := Lib.hid ((shD_eq d).symm.trans hrr)
   clear hrr
   have IH := Lib.hid ih
   clear ih
   obtain ⟨p, cap, rfl, hil, hit⟩ := hr.items
   obtain ⟨q, caq, rfl, hml, hme⟩ := hr.members
   clear hr
   unfold maxLen at hil hml
   have HT := Lib.hid hit
   have HM := Lib.hid hme
   clear hit hme
   have HD := Lib.hid hd
   clear hd
   go_enter Tryz.func49, Tryz.ntmps49
   go_upto_region 1 with fail
   have hS : CkS w.heap.size w d (.slice p d.its.length cap) (.slice q d.mem.length caq) (w.alloc (.cells #[.int .i64 d.k, .int .i64 d.n, .string (S d.s), .slice p d.its.length cap, .slice q d.mem.length caq] 25)) := CkS.new w d _ _
   generalize w.alloc (.cells #[.int .i64 d.k, .int .i64 d.n, .string (S d.s), .slice p d.its.length cap, .slice q d.mem.length caq] 25) = W at hS ⊢
   have HS := Lib.hid hS
   clear hS
   obtain ⟨-, -, c2, -, -, hlw⟩ := HS.out.cells
   by_cases h80 : d.s.length ≤ 80
   case neg =>
     have HV2 := Lib.hid (show false = r by rw [← HR0.out, decide_eq_false h80]; rfl)
     go_wp2_with fail
     go_ret
     exact ⟨by rw [← HV2.out]; rfl, HS.out.2⟩
   have HR := Lib.hid (show (shI (d.its.drop 0) && shM d.mem) = r by rw [← HR0.out, decide_eq_true h80]; rfl)
   clear HR0
   go_wp2_with fail
   clear h80 c2 hlw
   go_loopw [3] (fun x wr => ∃ i : Nat, x = .int .i64 (i : Int) ∧ i ≤ d.its.length ∧ Hid (CkS w.heap.size w d (.slice p d.its.length cap) (.slice q d.mem.length caq) wr) ∧ Hid ((shI (d.its.drop i) && shM d.mem) = r)) (fun x _ => d.its.length - (intOf x).toNat)
   case atStart => exact ⟨0, rfl, Nat.zero_le _, HS, HR⟩
   case round =>
     obtain ⟨i, rfl, hi, HC, HV⟩ := hrel
     by_cases hlt : i < d.its.length
     · obtain ⟨B, o, xi, xm, rfl, hcap, hB, hc, hx⟩ := HT.out i hlt
       obtain ⟨k0, k1, k2, k3, k4⟩ := hc.below HC.out.2 hB
       have HX := Lib.hid (hx.under HC.out.2)
       have HL := Lib.hid (Nat.lt_of_lt_of_le (dat_it (List.getElem_mem hlt)) (Nat.le_of_lt_succ HD.out))
       have HV1 := Lib.hid (show (shD d.its[i] && shI (d.its.drop (i + 1)) && shM d.mem) = r by rw [← shI_drop hlt]; exact HV.out)
       obtain ⟨-, -, -, c3, c4, hlw⟩ := HC.out.cells
       clear hc hx HV
       generalize d.its[i] = x at k0 k1 k2 HX HL HV1
       go_wp2_with fail
       refine (IH.out x HL.out xi xm ok _ HX.out).mono ?_
       rintro e w1 ⟨rfl, hb⟩
       have HC1 := Lib.hid (HC.out.below hb)
       clear hb
       rcases Bool.eq_false_or_eq_true (shD x) with hl | hl
       · rw [hl]
         have HV2 := Lib.hid (show (shI (d.its.drop (i + 1)) && shM d.mem) = r by rw [← HV1.out, hl]; rfl)
         go_wp2_with fail
         go_roundw
         case rel => exact ⟨i + 1, by go_num, hlt, HC1, HV2⟩
         case measure => simp [intOf]; omega
       · rw [hl]
         have HV2 := Lib.hid (show false = r by rw [← HV1.out, hl]; rfl)
         go_wp2_with fail
         go_ret
         exact ⟨by rw [← HV2.out]; rfl, HC1.out.2⟩
     · have HV1 := Lib.hid (show shM (d.mem.drop 0) = r by rw [← HV.out, shI_over (by omega)]; rfl)
       obtain ⟨-, -, -, c3, c4, hlw⟩ := HC.out.cells
       clear HV
       go_wp2_with fail
       go_loopw [4] (fun x wr => ∃ i : Nat, x = .int .i64 (i : Int) ∧ i ≤ d.mem.length ∧ Hid (CkS w.heap.size w d (.slice p d.its.length cap) (.slice q d.mem.length caq) wr) ∧ Hid (shM (d.mem.drop i) = r)) (fun x _ => d.mem.length - (intOf x).toNat)
       case atStart => exact ⟨0, rfl, Nat.zero_le _, HC, HV1⟩
       case round =>
         obtain ⟨j, rfl, hj, HC, HV⟩ := hrel
         by_cases hlt : j < d.mem.length
         · obtain ⟨B, o, xi, xm, rfl, hcap, hB, hlab, hc, hx⟩ := HM.out j hlt
           obtain ⟨k0, k1, k2, k3, k4⟩ := hc.below HC.out.2 hB
           have k5 := (HC.out.2.cell (p := ⟨B, o + j * 6, none⟩) hB).trans hlab
           have HX := Lib.hid (hx.under HC.out.2)
           have HL := Lib.hid (Nat.lt_of_lt_of_le (dat_mg (List.getElem_mem hlt)) (Nat.le_of_lt_succ HD.out))
           have HV1 := Lib.hid ((shM_drop hlt).symm.trans HV.out)
           obtain ⟨-, -, -, c3, c4, hlw⟩ := HC.out.cells
           clear hc hx HV hlab
           generalize d.mem[j] = y at k0 k1 k2 k5 HX HL HV1
           obtain ⟨l, x⟩ := y
           simp only at k0 k1 k2 k5 HX HL HV1
           by_cases hl : l.length ≤ 80
           case neg =>
             have HV2 := Lib.hid (show false = r by rw [← HV1.out, decide_eq_false hl]; rfl)
             go_wp2_with fail
             go_ret
             exact ⟨by rw [← HV2.out]; rfl, HC.out.2⟩
           case pos =>
             go_wp2_with fail
             refine (IH.out x HL.out xi xm ok _ HX.out).mono ?_
             rintro e w1 ⟨rfl, hb⟩
             have HC1 := Lib.hid (HC.out.below hb)
             clear hb
             rcases Bool.eq_false_or_eq_true (shD x) with hd | hd
             · rw [hd]
               have HV2 := Lib.hid (show shM (d.mem.drop (j + 1)) = r by rw [← HV1.out, decide_eq_true hl, hd]; rfl)
               go_wp2_with fail
               go_roundw
               case rel => exact ⟨j + 1, by go_num, hlt, HC1, HV2⟩
               case measure => simp [intOf]; omega
             · rw [hd]
               have HV2 := Lib.hid (show false = r by rw [← HV1.out, decide_eq_true hl, hd]; rfl)
               go_wp2_with fail
               go_ret
               exact ⟨by rw [← HV2.out]; rfl, HC1.out.2⟩
         · have HV1 := Lib.hid (show true = r by rw [← HV.out, shM_over (by omega)])
           obtain ⟨-, -, -, c3, c4, hlw⟩ := HC.out.cells
           clear HV
           go_wp2_with fail
           go_ret
           exact ⟨by rw [← HV1.out]; rfl, HC.out.2⟩
end
section
open Go.RowKit
variable {d : Dat} {vi vm : Value} {ok : Nat → Prop} {w : World}
theorem refChk_any (hr : Rep w ok d vi vm) : Calls Tryz.prog 21 #[.agg #[.int .i64 d.k, .int .i64 d.n, .string (S d.s), vi, vm]] w fun e w' => e = .returned (.int .i64 (chk d 1 : Int)) ∧ Below w.heap.size w w' := by
 have HW := Lib.hid (fun w' (hb : Below w.heap.size w w') => refCheck_any (SizeOf.sizeOf d + 1) d (Nat.lt_succ_self _) 1 (by omega) vi vm ok w' (hr.under hb))
 clear hr
 have e1 : ((1 : Nat) : Int) = 1 := rfl
 simp only [e1] at HW
 generalize chk d 1 = r at HW ⊢
 go_enter Tryz.func21, Tryz.ntmps21
 go_upto_region 1 with fail
 have hS : CkS w.heap.size w d vi vm (w.alloc (.cells #[.int .i64 d.k, .int .i64 d.n, .string (S d.s), vi, vm] 25)) := CkS.new w d _ _
 generalize w.alloc (.cells #[.int .i64 d.k, .int .i64 d.n, .string (S d.s), vi, vm] 25) = W at hS ⊢
 obtain ⟨c0, c1, c2, c3, c4, hlw⟩ := hS.cells
 have HS0 := Lib.hid hS
 clear hS
 go_wp2_with fail
 refine (HW.out _ HS0.out.2).mono ?_
 rintro e w1 ⟨rfl, hb⟩
 have hS := HS0.out.below hb
 clear hb HS0 c0 c1 c2 c3 c4 hlw
 obtain ⟨c0, c1, c2, c3, c4, hlw⟩ := hS.cells
 have HS1 := Lib.hid hS
 have HB := Lib.hid hS.2
 clear hS
 go_wp2_with fail
 go_ret
 exact ⟨rfl, HB.out⟩
theorem refSmall_any (hr : Rep w ok d vi vm) : Calls Tryz.prog 28 #[.agg #[.int .i64 d.k, .int .i64 d.n, .string (S d.s), vi, vm]] w fun e w' => e = .returned (.bool (smallD d)) ∧ Below w.heap.size w w' := by
 have HW := Lib.hid (fun w' (hb : Below w.heap.size w w') => refSize_any (SizeOf.sizeOf d + 1) d (Nat.lt_succ_self _) 40 (by omega) (by omega) vi vm ok w' (hr.under hb))
 have HV := Lib.hid (fun w' (hb : Below w.heap.size w w') => refShort_any (SizeOf.sizeOf d + 1) d (Nat.lt_succ_self _) vi vm ok w' (hr.under hb))
 clear hr
 have HS := Lib.hid (show smallD d = (decide (szD d 40 ≤ 40) && shD d) from rfl)
 generalize smallD d = r at HS ⊢
 generalize szD d 40 = z at HS HW
 generalize shD d = t at HS HV
 go_enter Tryz.func28, Tryz.ntmps28
 go_upto_region 1 with fail
 have hS : CkS w.heap.size w d vi vm (w.alloc (.cells #[.int .i64 d.k, .int .i64 d.n, .string (S d.s), vi, vm] 25)) := CkS.new w d _ _
 generalize w.alloc (.cells #[.int .i64 d.k, .int .i64 d.n, .string (S d.s), vi, vm] 25) = W at hS ⊢
 obtain ⟨c0, c1, c2, c3, c4, hlw⟩ := hS.cells
 have HS0 := Lib.hid hS
 clear hS
 go_wp2_with fail
 refine (HW.out _ HS0.out.2).mono ?_
 rintro e w1 ⟨rfl, hb⟩
 have hS := HS0.out.below hb
 clear hb HS0 c0 c1 c2 c3 c4 hlw
 obtain ⟨c0, c1, c2, c3, c4, hlw⟩ := hS.cells
 have HS1 := Lib.hid hS
 have HB := Lib.hid hS.2
 clear hS
 by_cases hz : z ≤ 40
 · have HR := Lib.hid (show r = t by rw [HS.out, decide_eq_true hz]; rfl)
   go_wp2_with fail
   refine (HV.out _ HB.out).mono ?_
   rintro e w2 ⟨rfl, hb⟩
   have HB2 := Lib.hid (HB.out.trans (hb.mono HB.out.size))
   clear hb
   go_wp2_with fail
   go_ret
   exact ⟨by rw [HR.out]; rfl, HB2.out⟩
 · have HR := Lib.hid (show r = false by rw [HS.out, decide_eq_false hz]; rfl)
   go_wp2_with fail
   go_ret
   exact ⟨by rw [HR.out]; rfl, HB.out⟩
end
section
open Go.RowKit
end
section
open Go.ChangeShapes Go.WideShapes Go.RowKit
section
variable {P : Program} {H : Type} {enc : TypeId × Value → H} {W : World}
theorem reads_on (hl : laidOutB P = true) (hm : mapsRowed P = true) (hz : ((List.range P.types.size).all fun t => match P.underlying t with | some (.slice e) => decide (0 < P.cellsOf e) | _ => true) = true)
   {t : TypeId} (ht : t < P.types.size) {v : Value} {d : DataW H} {p : List MemPlace} (h : DataW.Trod enc P W 0 (fun _ => true) true t v d p) {W' : World} (hb : Below W.heap.size W W') :
   DataW.Trod enc P W' 0 (fun b => decide (b < W.heap.size)) true t v d p := by
 obtain ⟨n, hn⟩ := h
 have hlt := DataW.trod_lt n _ _ _ hn
 exact ⟨n, DataW.trod_stays (kids_rows hl hm) (fun ht h => slices_full_of P hz _ _ ht h) (by intro h; cases h) ht hn (fun p hp => hb.same (hlt p hp)) (fun p hp => decide_eq_true (hlt p hp))⟩
structure DatTy (P : Program) (D SD M SM I L Str : TypeId) (f0 f1 f2 f3 f4 g0 g1 : Field) : Prop where
 uD : P.underlying D = some (.struct #[f0, f1, f2, f3, f4])
 uM : P.underlying M = some (.struct #[g0, g1])
 uSD : P.underlying SD = some (.slice D)
 uSM : P.underlying SM = some (.slice M)
 uI : P.underlying I = some (.int .i64)
 uL : P.underlying L = some (.int .i64)
 uS : P.underlying Str = some .string
 cD : P.cellsOf D = 5
 cM : P.cellsOf M = 6
 cSD : P.cellsOf SD = 1
 cSM : P.cellsOf SM = 1
 cI : P.cellsOf I = 1
 cL : P.cellsOf L = 1
 cS : P.cellsOf Str = 1
 y : f0.type = I ∧ f1.type = L ∧ f2.type = Str ∧ f3.type = SD ∧ f4.type = SM ∧ g0.type = Str ∧ g1.type = D
 o : f0.offset = 0 ∧ f1.offset = 1 ∧ f2.offset = 2 ∧ f3.offset = 3 ∧ f4.offset = 4 ∧ g0.offset = 0 ∧ g1.offset = 1
theorem list_five {α : Type} {cs : List α} (h : cs.length = 5) : ∃ a b c d e, cs = [a, b, c, d, e] := by
 match cs, h with
 | [a, b, c, d, e], _ => exact ⟨a, b, c, d, e, rfl⟩
theorem list_six {α : Type} {cs : List α} (h : cs.length = 6) : ∃ a b c d e f, cs = [a, b, c, d, e, f] := by
 match cs, h with
 | [a, b, c, d, e, f], _ => exact ⟨a, b, c, d, e, f, rfl⟩
theorem plain_add (b o i : Nat) : (⟨b, o, none⟩ : Addr).add i = ⟨b, o + i, none⟩ := by
 unfold Addr.add
 by_cases h : i = 0
 · subst h; rfl
 · rw [if_neg h]
theorem add_at {a : Addr} {i j : Nat} (h : a.spot = none) : (a.add i).add j = ⟨a.block, a.off + i + j, none⟩ := by
 obtain ⟨b, o, s⟩ := a
 have hs : s = none := h
 subst hs
 rw [plain_add, plain_add]
theorem cell_block {w : World} {b o : Nat} {v : Value} (h : w.cell? ⟨b, o, none⟩ = some v) : b < w.heap.size := by
 unfold World.cell? at h
 simp only at h
 split at h
 · rename_i hh; exact (Array.getElem?_eq_some_iff.1 hh).1
 · cases h
variable {D SD M SM I L Str : TypeId} {f0 f1 f2 f3 f4 g0 g1 : Field} {base : Nat} {spare : Nat → Bool} {held : Bool}
theorem dat_cells (T : DatTy P D SD M SM I L Str f0 f1 f2 f3 f4 g0 g1) : ∀ (n : Nat) (cs : List Value) (x : DataW H × List MemPlace), DataW.trod enc P W base spare held n D cs = some x →
   ∃ d vi vm, cs = [.int .i64 d.k, .int .i64 d.n, .string (S d.s), vi, vm] ∧ Rep W (fun _ => True) d vi vm := by
 intro n
 induction n using Nat.strongRecOn with
 | _ n ih =>
   intro cs x h
   obtain ⟨xs, m, rfl, -, hlen, hxl, hf⟩ := DataW.trod_struct T.uD h
   rw [T.cD] at hlen
   obtain ⟨c0, c1, c2, c3, c4, rfl⟩ := list_five hlen
   obtain ⟨y0, y1, y2, y3, y4, -, -⟩ := T.y
   obtain ⟨o0, o1, o2, o3, o4, -, -⟩ := T.o
   have h0 := hf 0 f0 rfl
   have h1 := hf 1 f1 rfl
   have h2 := hf 2 f2 rfl
   have h3 := hf 3 f3 rfl
   have h4 := hf 4 f4 rfl
   rw [y0, o0, T.cI] at h0
   rw [y1, o1, T.cL] at h1
   rw [y2, o2, T.cS] at h2
   rw [y3, o3, T.cSD] at h3
   rw [y4, o4, T.cSM] at h4
   have hxs : xs.length = 5 := hxl
   obtain ⟨x0, x1, x2, x3, x4, rfl⟩ := list_five hxs
   simp only [List.drop_zero, List.drop_succ_cons, List.take_succ_cons, List.take_zero, List.getElem?_cons_zero, List.getElem?_cons_succ] at h0 h1 h2 h3 h4
   obtain ⟨k, e0, -, -⟩ := DataW.trod_int T.uI h0
   obtain ⟨z, e1, -, -⟩ := DataW.trod_int T.uL h1
   obtain ⟨s, e2, -, -⟩ := DataW.trod_string T.uS h2
   obtain ⟨l, rfl⟩ := S_ex s
   injection e0 with e0 _
   injection e1 with e1 _
   injection e2 with e2 _
   subst e0; subst e1; subst e2
   -- the items
   have hi : ∃ (its : List Dat) (p : Option Addr) (cap B o : Nat) (vi vm : Nat → Value), c3 = .slice p its.length cap ∧ its.length ≤ maxLen ∧ (0 < its.length → p = some ⟨B, o, none⟩ ∧ its.length ≤ cap ∧ B < W.heap.size) ∧
       (∀ (j : Nat) (h : j < its.length), DCell W B (o + j * 5) its[j] (vi j) (vm j)) ∧ ∀ (j : Nat) (h : j < its.length), Rep W (fun _ => True) its[j] (vi j) (vm j) := by
     rcases DataW.trod_slice T.uSD h3 with ⟨hc, -⟩ | ⟨a, len, cap, elems, rest, q, hq, hc, -, hb, hl, hcap, hle, hel, -, -⟩
     · injection hc with hc _
       exact ⟨[], none, 0, 0, 0, fun _ => .nilFunc, fun _ => .nilFunc, hc, Nat.zero_le _, by simp, by simp, by simp⟩
     · injection hc with hc _
       subst hc
       rcases Nat.eq_zero_or_pos len with h0 | h0
       · subst h0
         exact ⟨[], some a, cap, 0, 0, fun _ => .nilFunc, fun _ => .nilFunc, rfl, Nat.zero_le _, by simp, by simp, by simp⟩
       · have key : ∀ i, i < len → ∃ d vi vm, W.cell? ((a.add (i * 5)).add 0) = some (.int .i64 d.k) ∧ W.cell? ((a.add (i * 5)).add 1) = some (.int .i64 d.n) ∧ W.cell? ((a.add (i * 5)).add 2) = some (.string (S d.s)) ∧ W.cell? ((a.add (i * 5)).add 3) = some vi ∧ W.cell? ((a.add (i * 5)).add 4) = some vm ∧ Rep W (fun _ => True) d vi vm := by
           intro i hi
           have he := hel i hi
           rw [T.cD, List.getElem?_eq_getElem (by omega)] at he
           obtain ⟨cs', hcs, htr⟩ := Option.bind_eq_some_iff.1 he
           obtain ⟨d, vi, vm, rfl, hr⟩ := ih q (by omega) cs' _ htr
           obtain ⟨-, -, hat⟩ := World.cells?_some hcs
           exact ⟨d, vi, vm, hat 0 (by omega), hat 1 (by omega), hat 2 (by omega), hat 3 (by omega), hat 4 (by omega), hr⟩
         obtain ⟨d0, _, _, k0, -⟩ := key 0 h0
         have hsp : a.spot = none := by
           have := World.cell?_spot k0
           simpa [Addr.add] using this
         have hB : a.block < W.heap.size := by
           rw [add_at hsp] at k0
           exact cell_block k0
         have key : ∀ i, i < len → ∃ (d : Dat) (vi vm : Value), DCell W a.block (a.off + i * 5) d vi vm ∧ Rep W (fun _ => True) d vi vm := by
           intro i hi
           obtain ⟨d, vi, vm, q0, q1, q2, q3, q4, q5⟩ := key i hi
           rw [add_at hsp] at q0 q1 q2 q3 q4
           exact ⟨d, vi, vm, ⟨q0, q1, q2, q3, q4⟩, q5⟩
         let F : Nat → Dat × Value × Value := fun i => if h : i < len then ⟨(key i h).choose, (key i h).choose_spec.choose, (key i h).choose_spec.choose_spec.choose⟩ else (dat0, .nilFunc, .nilFunc)
         have hF : ∀ i, i < len → DCell W a.block (a.off + i * 5) (F i).1 (F i).2.1 (F i).2.2 ∧ Rep W (fun _ => True) (F i).1 (F i).2.1 (F i).2.2 := by
           intro i hi
           have e : F i = ⟨(key i hi).choose, (key i hi).choose_spec.choose, (key i hi).choose_spec.choose_spec.choose⟩ := dif_pos hi
           rw [e]
           exact (key i hi).choose_spec.choose_spec.choose_spec
         refine ⟨(List.range len).map fun i => (F i).1, some a, cap, a.block, a.off, fun i => (F i).2.1, fun i => (F i).2.2, by simp, by simp; omega, fun _ => ⟨?_, by simpa using hl, hB⟩, ?_, ?_⟩
         · obtain ⟨b, o, sp⟩ := a
           have : sp = none := hsp
           rw [this]
         · intro j hj
           simp only [List.length_map, List.length_range] at hj
           simp only [List.getElem_map, List.getElem_range]
           exact (hF j hj).1
         · intro j hj
           simp only [List.length_map, List.length_range] at hj
           simp only [List.getElem_map, List.getElem_range]
           exact (hF j hj).2
   -- the members
   have hm : ∃ (mem : List (List UInt8 × Dat)) (p : Option Addr) (cap B o : Nat) (vi vm : Nat → Value), c4 = .slice p mem.length cap ∧ mem.length ≤ maxLen ∧ (0 < mem.length → p = some ⟨B, o, none⟩ ∧ mem.length ≤ cap ∧ B < W.heap.size) ∧
       (∀ (j : Nat) (h : j < mem.length), W.cell? ⟨B, o + j * 6, none⟩ = some (.string (S mem[j].1)) ∧ DCell W B (o + j * 6 + 1) mem[j].2 (vi j) (vm j)) ∧ ∀ (j : Nat) (h : j < mem.length), Rep W (fun _ => True) mem[j].2 (vi j) (vm j) := by
     rcases DataW.trod_slice T.uSM h4 with ⟨hc, -⟩ | ⟨a, len, cap, elems, rest, q, hq, hc, -, hb, hl, hcap, hle, hel, -, -⟩
     · injection hc with hc _
       exact ⟨[], none, 0, 0, 0, fun _ => .nilFunc, fun _ => .nilFunc, hc, Nat.zero_le _, by simp, by simp, by simp⟩
     · injection hc with hc _
       subst hc
       rcases Nat.eq_zero_or_pos len with h0 | h0
       · subst h0
         exact ⟨[], some a, cap, 0, 0, fun _ => .nilFunc, fun _ => .nilFunc, rfl, Nat.zero_le _, by simp, by simp, by simp⟩
       · have key : ∀ i, i < len → ∃ (r : List UInt8 × Dat) (vi vm : Value), W.cell? ((a.add (i * 6)).add 0) = some (.string (S r.1)) ∧ W.cell? ((a.add (i * 6)).add 1) = some (.int .i64 r.2.k) ∧ W.cell? ((a.add (i * 6)).add 2) = some (.int .i64 r.2.n) ∧ W.cell? ((a.add (i * 6)).add 3) = some (.string (S r.2.s)) ∧ W.cell? ((a.add (i * 6)).add 4) = some vi ∧ W.cell? ((a.add (i * 6)).add 5) = some vm ∧ Rep W (fun _ => True) r.2 vi vm := by
           intro i hi
           have he := hel i hi
           rw [T.cM, List.getElem?_eq_getElem (by omega)] at he
           obtain ⟨cs', hcs, htr⟩ := Option.bind_eq_some_iff.1 he
           obtain ⟨xs', m', hm', -, hlen', hxs', hf'⟩ := DataW.trod_struct T.uM htr
           rw [T.cM] at hlen'
           obtain ⟨b0, b1, b2, b3, b4, b5, rfl⟩ := list_six hlen'
           obtain ⟨-, -, -, -, -, y5, y6⟩ := T.y
           obtain ⟨-, -, -, -, -, o5, o6⟩ := T.o
           have k0 := hf' 0 g0 rfl
           have k1 := hf' 1 g1 rfl
           rw [y5, o5, T.cS] at k0
           rw [y6, o6, T.cD] at k1
           have hxs2 : xs'.length = 2 := hxs'
           rw [List.getElem?_eq_getElem (by omega)] at k0 k1
           simp only [List.drop_zero, List.drop_succ_cons, List.take_succ_cons, List.take_zero] at k0 k1
           obtain ⟨s', e2, -, -⟩ := DataW.trod_string T.uS k0
           obtain ⟨l', rfl⟩ := S_ex s'
           injection e2 with e2 _
           obtain ⟨d, vi, vm, hcs2, hr⟩ := ih m' (by omega) _ _ k1
           obtain ⟨-, -, hat⟩ := World.cells?_some hcs
           injection hcs2 with j1 hcs2
           injection hcs2 with j2 hcs2
           injection hcs2 with j3 hcs2
           injection hcs2 with j4 hcs2
           injection hcs2 with j5 hcs2
           subst e2; subst j1; subst j2; subst j3; subst j4; subst j5
           exact ⟨(l', d), b4, b5, hat 0 (by omega), hat 1 (by omega), hat 2 (by omega), hat 3 (by omega), hat 4 (by omega), hat 5 (by omega), hr⟩
         obtain ⟨d0, _, _, k0, -⟩ := key 0 h0
         have hsp : a.spot = none := by
           have := World.cell?_spot k0
           simpa [Addr.add] using this
         have hB : a.block < W.heap.size := by
           rw [add_at hsp] at k0
           exact cell_block k0
         have key : ∀ i, i < len → ∃ (r : List UInt8 × Dat) (vi vm : Value), W.cell? ⟨a.block, a.off + i * 6, none⟩ = some (.string (S r.1)) ∧ DCell W a.block (a.off + i * 6 + 1) r.2 vi vm ∧ Rep W (fun _ => True) r.2 vi vm := by
           intro i hi
           obtain ⟨r, vi, vm, q0, q1, q2, q3, q4, q5, q6⟩ := key i hi
           rw [add_at hsp] at q0 q1 q2 q3 q4 q5
           exact ⟨r, vi, vm, q0, ⟨q1, q2, q3, q4, q5⟩, q6⟩
         let F : Nat → (List UInt8 × Dat) × Value × Value := fun i => if h : i < len then ⟨(key i h).choose, (key i h).choose_spec.choose, (key i h).choose_spec.choose_spec.choose⟩ else (([], dat0), .nilFunc, .nilFunc)
         have hF : ∀ i, i < len → W.cell? ⟨a.block, a.off + i * 6, none⟩ = some (.string (S (F i).1.1)) ∧ DCell W a.block (a.off + i * 6 + 1) (F i).1.2 (F i).2.1 (F i).2.2 ∧ Rep W (fun _ => True) (F i).1.2 (F i).2.1 (F i).2.2 := by
           intro i hi
           have e : F i = ⟨(key i hi).choose, (key i hi).choose_spec.choose, (key i hi).choose_spec.choose_spec.choose⟩ := dif_pos hi
           rw [e]
           exact (key i hi).choose_spec.choose_spec.choose_spec
         refine ⟨(List.range len).map fun i => (F i).1, some a, cap, a.block, a.off, fun i => (F i).2.1, fun i => (F i).2.2, by simp, by simp; omega, fun _ => ⟨?_, by simpa using hl, hB⟩, ?_, ?_⟩
         · obtain ⟨b, o, sp⟩ := a
           have : sp = none := hsp
           rw [this]
         · intro j hj
           simp only [List.length_map, List.length_range] at hj
           simp only [List.getElem_map, List.getElem_range]
           exact ⟨(hF j hj).1, (hF j hj).2.1⟩
         · intro j hj
           simp only [List.length_map, List.length_range] at hj
           simp only [List.getElem_map, List.getElem_range]
           exact (hF j hj).2.2
   obtain ⟨its, p, cap, B, o, vi, vm, rfl, a1, a2, a3, a4⟩ := hi
   obtain ⟨mem, q, caq, B', o', ui, um, rfl, b1, b2, b3, b4⟩ := hm
   exact ⟨.mk k z l its mem, _, _, rfl, .mk (d := .mk k z l its mem) p q cap caq B o B' o' vi vm ui um ⟨a1, b1⟩ (fun h => ⟨(a2 h).1, (a2 h).2.1, (a2 h).2.2, trivial⟩) a3 a4 (fun h => ⟨(b2 h).1, (b2 h).2.1, (b2 h).2.2, trivial⟩) b3 b4⟩
end
end
end Go.Proofs.YtdalfkklkeblaaaGreatDoor
