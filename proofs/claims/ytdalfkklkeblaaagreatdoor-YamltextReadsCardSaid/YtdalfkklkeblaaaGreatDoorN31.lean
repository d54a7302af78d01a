import Derived.Test.YtdalfkklkeblaaaGreatDoorN01
import Derived.Test.YtdalfkklkeblaaaGreatDoorN16
import Derived.Test.YtdalfkklkeblaaaGreatDoorN11
import Derived.Test.YtdalfkklkeblaaaGreatDoorN15
import Derived.Test.YtdalfkklkeblaaaGreatDoorN17
import Derived.Test.YtdalfkklkeblaaaGreatDoorN08
import Derived.Test.YtdalfkklkeblaaaGreatDoorN13
import Derived.Deep.RegionHeld3
import Derived.Test.YtdalfkklkeblaaaGreatDoorN30
import Derived.Test.YtdalfkklkeblaaaGreatDoorN02
import Derived.Deep.CutBlock
import Derived.Deep.QuietTactic
import Derived.Deep.DeepCutAuto
namespace Go.Proofs.YtdalfkklkeblaaaGreatDoor
set_option linter.unusedSimpArgs false
set_option linter.unusedVariables false
section
open Go.RowKit
theorem parse_limY {l : List UInt8} (hl : l.length ≤ 65536) : limD (parseY l).1 = true := by
 obtain ⟨n1, n2, n3⟩ := lines_facts hl
 unfold parseY
 rw [if_neg (by omega)]
 split
 · rfl
 · rename_i d hd
   have hg := all_good hd (by omega) (fun x hx => by have := (n3 x hx).2.1; omega)
   split
   · rename_i hc
     show limD (srtD d) = true
     rw [← (make_srt hg.1).2 hc]
     exact lim_cln 16 d hg.2
   · rfl
theorem small_any {d : Dat} {vi vm : Value} {ok : Nat → Prop} {w : World} (hr : Rep w ok d vi vm) : Calls Tryz.prog 12 #[.agg #[.int .i64 d.k, .int .i64 d.n, .string (S d.s), vi, vm]] w fun e w' => e = .returned (.bool (smallD d)) ∧ Below w.heap.size w w' := by
 obtain ⟨p, cap, rfl, -, -⟩ := id hr.items
 obtain ⟨q, caq, rfl, -, -⟩ := id hr.members
 have hS : CkS w.heap.size w d (.slice p d.its.length cap) (.slice q d.mem.length caq) (w.alloc (.cells #[.int .i64 d.k, .int .i64 d.n, .string (S d.s), .slice p d.its.length cap, .slice q d.mem.length caq] 25)) := CkS.new w d _ _
 have HSM := Lib.hid (fun w' (hb : Below w.heap.size w w') => refSmall_any (hr.under hb))
 generalize smallD d = sm at HSM
 clear hr
 go_enter Tryz.func12, Tryz.ntmps12
 go_upto_region 1 with fail
 generalize w.alloc (.cells #[.int .i64 d.k, .int .i64 d.n, .string (S d.s), .slice p d.its.length cap, .slice q d.mem.length caq] 25) = W at hS ⊢
 obtain ⟨c0, c1, c2, c3, c4, hlw⟩ := hS.cells
 have HS := Lib.hid hS
 clear hS
 go_wp2_with fail
 refine (HSM.out _ HS.out.2).mono ?_
 rintro e w1 ⟨rfl, hb⟩
 have HB1 := Lib.hid (HS.out.2.trans (hb.mono HS.out.2.size))
 clear hb c0 c1 c2 c3 c4 hlw HS HSM
 go_wp2_with fail
 go_ret
 exact ⟨rfl, HB1.out⟩
theorem str38_any (l : List UInt8) (w : World) : Calls Tryz.prog 25 #[.string (S l)] w fun e w' => e = .returned (.agg #[.int .i64 4, .int .i64 0, .string (S l), .slice none 0 0, .slice none 0 0]) ∧ Below w.heap.size w w' := by
 go_enter Tryz.func25, Tryz.ntmps25
 go_wp2
 exact bodyPost_ret (v := .agg #[.int .i64 4, .int .i64 0, .string (S l), .slice none 0 0, .slice none 0 0]) (by simp [results, Tryz.results25, go_sem]) rfl ⟨rfl, by go_grown⟩
theorem number_one (w : World) : Calls Tryz.prog 29 #[.int .i64 1] w fun e w' => e = .returned (.agg #[.int .i64 3, .int .i64 10000, .string ⟨#[]⟩, .slice none 0 0, .slice none 0 0]) ∧ Below w.heap.size w w' := by
 go_enter Tryz.func29, Tryz.ntmps29
 go_wp2
 exact bodyPost_ret (v := .agg #[.int .i64 3, .int .i64 10000, .string ⟨#[]⟩, .slice none 0 0, .slice none 0 0]) (by simp [results, Tryz.results29, go_sem]) rfl ⟨rfl, by go_grown⟩
def ParseAt (w : World) (l : List UInt8) : Prop := ∀ w', Below w.heap.size w w' → Calls Tryz.prog 18 #[.string (S l)] w' (PrsP w' (parseY l))
set_option maxRecDepth 100000 in
set_option maxHeartbeats 4000000 in
theorem fails_of {l : List UInt8} {e p : Nat} {ei pi : Int} (h : parseY l = (dat0, e, p)) (he : ei = (e : Int)) (hp : pi = (p : Int)) {w : World} (hP : ParseAt w l) (X : World) (hX : Below w.heap.size w X) :
   Calls Tryz.prog 24 #[.string (S l), .int .i64 ei, .int .i64 pi] X fun en w' => en = .returned (.bool true) ∧ Below X.heap.size X w' := by
 subst he; subst hp
 have HP := Lib.hid (hP X hX)
 rw [h] at HP
 clear hP hX h
 go_enter Tryz.func24, Tryz.ntmps24
 go_wp2_with fail
 refine HP.out.mono ?_
 rintro en w1 hp
 obtain ⟨p1, cap, q, caq, rfl, hr, hb⟩ := hp.open
 have hn := val_two w1 #[.int .i64 dat0.k, .int .i64 dat0.n, .string (S dat0.s), .slice p1 dat0.its.length cap, .slice q dat0.mem.length caq] #[.int .i64 (e : Int), .int .i64 (p : Int)] 25 33
 have HB1 := Lib.hid hb
 clear hb hr hp HP
 go_upto_region 2 with fail
 generalize (w1.alloc (.cells #[.int .i64 dat0.k, .int .i64 dat0.n, .string (S dat0.s), .slice p1 dat0.its.length cap, .slice q dat0.mem.length caq] 25)).alloc (.cells #[.int .i64 (e : Int), .int .i64 (p : Int)] 33) = w2 at hn ⊢
 have HB2 := Lib.hid (HB1.out.trans (hn.2.2.mono HB1.out.size))
 have c0 : w2.cell? ⟨w1.heap.size, 0, none⟩ = some (.int .i64 0) := hn.1.cell 0
 have e0 := hn.2.1.cell 0
 have e1 := hn.2.1.cell 1
 simp at e0 e1
 clear hn HB1
 have t1 : ((e : Int) == (e : Int)) = true := beq_self_eq_true _
 have t2 : ((p : Int) == (p : Int)) = true := beq_self_eq_true _
 go_wp2_with fail
 go_ret
 exact ⟨rfl, HB2.out⟩
theorem rep_one {W : World} {ok ok' : Nat → Prop} {B : Nat} {l : List UInt8} {x : Dat} {p q : Option Addr} {cap caq : Nat} {t : TypeId} (h : Blk W B #[.string (S l), .int .i64 x.k, .int .i64 x.n, .string (S x.s), .slice p x.its.length cap, .slice q x.mem.length caq] t) (hk : ok' B) (hr : Rep W ok x (.slice p x.its.length cap) (.slice q x.mem.length caq)) (ho : ∀ B, ok B → ok' B) : Rep W ok' (oneM (l, x)) (.slice none 0 0) (.slice (some ⟨B, 0, none⟩) 1 1) := by
 refine Rep.mk (d := oneM (l, x)) none (some ⟨B, 0, none⟩) 0 1 0 0 B 0 (fun _ => .nilFunc) (fun _ => .nilFunc) (fun _ => .slice p x.its.length cap) (fun _ => .slice q x.mem.length caq) ⟨Nat.zero_le _, show 1 ≤ maxLen by unfold maxLen; omega⟩ (fun h0 => absurd h0 (Nat.lt_irrefl 0)) (fun j hj => absurd hj (Nat.not_lt_zero j)) (fun j hj => absurd hj (Nat.not_lt_zero j)) (fun _ => ⟨rfl, Nat.le_refl _, h.lt, hk⟩) (fun j hj => ?_) (fun j hj => ?_)
 · have hj0 : j = 0 := Nat.lt_one_iff.1 hj
   subst hj0
   exact ⟨h.cell 0, ⟨h.cell 1, h.cell 2, h.cell 3, h.cell 4, h.cell 5⟩⟩
 · have hj0 : j = 0 := Nat.lt_one_iff.1 hj
   subst hj0
   exact hr.mono fun B _ hB => ho B hB
set_option maxRecDepth 100000 in
set_option maxHeartbeats 4000000 in
theorem one_any {x : Dat} {vi vm : Value} {ok : Nat → Prop} {w : World} (hr : Rep w ok x vi vm) (lab : List UInt8) (hlim : limD (oneM (lab, x)) = true) (hlen : chk (oneM (lab, x)) 1 = 0 → (joinLn (docLn (oneM (lab, x)))).length ≤ 1000000) (hE : NumOk w) :
   Calls Tryz.prog 23 #[.agg #[.string (S lab), .int .i64 x.k, .int .i64 x.n, .string (S x.s), vi, vm]] w fun e w' => e = .returned (.string (S (textY (oneM (lab, x))).1)) ∧ Below w.heap.size w w' := by
 obtain ⟨p, cap, rfl, -, -⟩ := id hr.items
 obtain ⟨q, caq, rfl, -, -⟩ := id hr.members
 have hN := Blk.new w #[.string (S lab), .int .i64 x.k, .int .i64 x.n, .string (S x.s), .slice p x.its.length cap, .slice q x.mem.length caq] 43
 have hb := (Below.refl w.heap.size w).alloc (Nat.le_refl _) (.cells #[.string (S lab), .int .i64 x.k, .int .i64 x.n, .string (S x.s), .slice p x.its.length cap, .slice q x.mem.length caq] 43)
 have HR := Lib.hid (hr.under hb)
 have HE := Lib.hid (hE.below hb)
 have HLIM := Lib.hid hlim
 have HLEN := Lib.hid hlen
 clear hr hE hlim hlen
 go_enter Tryz.func23, Tryz.ntmps23
 go_upto_region 1 with fail
 generalize w.alloc (.cells #[.string (S lab), .int .i64 x.k, .int .i64 x.n, .string (S x.s), .slice p x.its.length cap, .slice q x.mem.length caq] 43) = W at hN hb HR HE ⊢
 have c0 := hN.cell 0
 have c1 := hN.cell 1
 have c2 := hN.cell 2
 have c3 := hN.cell 3
 have c4 := hN.cell 4
 have c5 := hN.cell 5
 simp at c0 c1 c2 c3 c4 c5
 have hlw := hN.lt
 have hM := Blk.new W #[.string (S lab), .int .i64 x.k, .int .i64 x.n, .string (S x.s), .slice p x.its.length cap, .slice q x.mem.length caq] 43
 have hb2 := (Below.refl W.heap.size W).alloc (Nat.le_refl _) (.cells #[.string (S lab), .int .i64 x.k, .int .i64 x.n, .string (S x.s), .slice p x.its.length cap, .slice q x.mem.length caq] 43)
 have HB := Lib.hid (hb.trans (hb2.mono hb.size))
 have HTX := Lib.hid (show Calls Tryz.prog 14 #[.agg #[.int .i64 6, .int .i64 0, .string ⟨#[]⟩, .slice none 0 0, .slice (some ⟨W.heap.size, 0, none⟩) 1 1]] (W.alloc (.cells #[.string (S lab), .int .i64 x.k, .int .i64 x.n, .string (S x.s), .slice p x.its.length cap, .slice q x.mem.length caq] 43)) (fun e w' => e = .returned (textV2 (oneM (lab, x))) ∧ Below (W.alloc (.cells #[.string (S lab), .int .i64 x.k, .int .i64 x.n, .string (S x.s), .slice p x.its.length cap, .slice q x.mem.length caq] 43)).heap.size (W.alloc (.cells #[.string (S lab), .int .i64 x.k, .int .i64 x.n, .string (S x.s), .slice p x.its.length cap, .slice q x.mem.length caq] 43)) w') from text_anyY (d := oneM (lab, x)) (rep_one (ok' := fun _ => True) hM trivial (HR.out.under hb2) fun _ _ => trivial) HLIM.out HLEN.out (HE.out.below hb2))
 clear hN hb HR HE HLIM HLEN hM hb2
 generalize htx : textY (oneM (lab, x)) = tx
 have HTE := Lib.hid htx
 obtain ⟨tl, te⟩ := tx
 clear htx
 go_wp2_with fail
 refine HTX.out.mono ?_
 rintro e w3 ⟨rfl, hb3⟩
 have HB3 := Lib.hid (HB.out.trans (hb3.mono HB.out.size))
 unfold textV2
 rw [HTE.out]
 clear hb3 c0 c1 c2 c3 c4 c5 hlw HTX
 go_wp2_with fail
 go_ret
 exact ⟨by rw [HTE.out]; rfl, HB3.out⟩
end
section
open Go.RowKit
def exL : Dat := .mk 5 0 [] [.mk 3 10000 [] [] [], .mk 4 0 [120] [] []] []
def exY : Dat := oneM ([97], exL)
theorem exY_text : textY exY = ([97, 58, 10, 32, 32, 45, 32, 49, 10, 32, 32, 45, 32, 120, 10], 0) := by kernel_rfl
theorem exY_parse : parseY [35, 32, 99, 10, 97, 58, 10, 10, 32, 32, 45, 32, 49, 10, 32, 32, 32, 35, 32, 100, 10, 32, 32, 45, 32, 120] = (exY, 0, 0) := by kernel_rfl
theorem exY_lim : limD exY = true := by kernel_rfl
theorem exY_doc : (joinLn (docLn exY)).length ≤ 1000000 := by
 have : (joinLn (docLn exY)).length = 15 := by kernel_rfl
 omega
theorem exY_scalar : scalarY exY = [63] := by kernel_rfl
theorem rep_exL {W : World} {ok : Nat → Prop} {B : Nat} (h : Blk W B #[.int .i64 3, .int .i64 10000, .string ⟨#[]⟩, .slice none 0 0, .slice none 0 0, .int .i64 4, .int .i64 0, .string (S [120]), .slice none 0 0, .slice none 0 0] 25) (hk : ok B) : Rep W ok exL (.slice (some ⟨B, 0, none⟩) 2 2) (.slice none 0 0) := by
 refine Rep.mk (d := exL) (some ⟨B, 0, none⟩) none 2 0 B 0 0 0 (fun _ => .slice none 0 0) (fun _ => .slice none 0 0) (fun _ => .nilFunc) (fun _ => .nilFunc) ⟨show 2 ≤ maxLen by unfold maxLen; omega, Nat.zero_le _⟩ (fun _ => ⟨rfl, Nat.le_refl _, h.lt, hk⟩) (fun j hj => ?_) (fun j hj => ?_) (fun h0 => absurd h0 (Nat.lt_irrefl 0)) (fun j hj => absurd hj (Nat.not_lt_zero j)) (fun j hj => absurd hj (Nat.not_lt_zero j))
 · have hj2 : j < 2 := hj
   rcases (show j = 0 ∨ j = 1 by omega) with rfl | rfl
   · exact ⟨h.cell 0, h.cell 1, h.cell 2, h.cell 3, h.cell 4⟩
   · exact ⟨h.cell 5, h.cell 6, h.cell 7, h.cell 8, h.cell 9⟩
 · have hj2 : j < 2 := hj
   rcases (show j = 0 ∨ j = 1 by omega) with rfl | rfl
   · exact rep_leaf W ok (d := .mk 3 10000 [] [] []) rfl rfl none none 0 0
   · exact rep_leaf W ok (d := .mk 4 0 [120] [] []) rfl rfl none none 0 0
set_option maxRecDepth 100000 in
set_option maxHeartbeats 16000000 in
theorem alive_of (w : World) (hE : StOk w) (hP : ∀ l : List UInt8, l.length ≤ 1000000 → ParseAt w l) : Calls Tryz.prog 13 #[] w fun e w' => e = .returned (.bool true) ∧ Below w.heap.size w w' := by
 have HN := Lib.hid hE.num
 have HPA := Lib.hid hP
 clear hE hP
 go_enter Tryz.func13, Tryz.ntmps13
 go_wp2_with fail
 refine (number_one _).mono ?_
 rintro e w1 ⟨rfl, hb⟩
 have HB1 := Lib.hid hb
 clear hb
 go_wp2_with fail
 refine (str38_any [120] _).mono ?_
 rintro e w2 ⟨rfl, hb⟩
 have HB2 := Lib.hid (HB1.out.trans (hb.mono HB1.out.size))
 clear hb HB1
 have h3 := three_new w2 #[.int .i64 3, .int .i64 10000, .string ⟨#[]⟩, .slice none 0 0, .slice none 0 0, .int .i64 4, .int .i64 0, .string (S [120]), .slice none 0 0, .slice none 0 0] #[.string ⟨#[97]⟩, .int .i64 5, .int .i64 0, .string ⟨#[]⟩, .slice (some ⟨w2.heap.size, 0, none⟩) 2 2, .slice none 0 0] #[.int .i64 6, .int .i64 0, .string ⟨#[]⟩, .slice none 0 0, .slice (some ⟨w2.heap.size + 1, 0, none⟩) 1 1] 25 43 25
 go_upto_region 2 with fail
 generalize ((w2.alloc (.cells #[.int .i64 3, .int .i64 10000, .string ⟨#[]⟩, .slice none 0 0, .slice none 0 0, .int .i64 4, .int .i64 0, .string (S [120]), .slice none 0 0, .slice none 0 0] 25)).alloc (.cells #[.string ⟨#[97]⟩, .int .i64 5, .int .i64 0, .string ⟨#[]⟩, .slice (some ⟨w2.heap.size, 0, none⟩) 2 2, .slice none 0 0] 43)).alloc (.cells #[.int .i64 6, .int .i64 0, .string ⟨#[]⟩, .slice none 0 0, .slice (some ⟨w2.heap.size + 1, 0, none⟩) 1 1] 25) = w3 at h3 ⊢
 have HR3 := Lib.hid (show Rep w3 (fun _ => True) exY (.slice none 0 0) (.slice (some ⟨w2.heap.size + 1, 0, none⟩) 1 1) from rep_one (x := exL) (l := [97]) h3.2.1 trivial (rep_exL (ok := fun _ => True) h3.1 trivial) fun _ _ => trivial)
 have HK3 := Lib.hid h3.2.2.1
 have HB3 := Lib.hid (HB2.out.trans (h3.2.2.2.mono HB2.out.size))
 clear h3 HB2
 have a0 := HK3.out.cell 0
 have a1 := HK3.out.cell 1
 have a2 := HK3.out.cell 2
 have a3 := HK3.out.cell 3
 have a4 := HK3.out.cell 4
 simp at a0 a1 a2 a3 a4
 have hal := HK3.out.lt
 have HTX := Lib.hid (show Calls Tryz.prog 14 #[.agg #[.int .i64 6, .int .i64 0, .string ⟨#[]⟩, .slice none 0 0, .slice (some ⟨w2.heap.size + 1, 0, none⟩) 1 1]] w3 (fun e w' => e = .returned (.tuple #[.string (S [97, 58, 10, 32, 32, 45, 32, 49, 10, 32, 32, 45, 32, 120, 10]), .int .i64 0]) ∧ Below w3.heap.size w3 w') from by
   have h := text_anyY (d := exY) HR3.out exY_lim (fun _ => exY_doc) (HN.out.below HB3.out)
   unfold textV2 at h
   rw [exY_text] at h
   exact h)
 go_wp2_with fail
 refine HTX.out.mono ?_
 rintro e w4 ⟨rfl, hb⟩
 have HB4 := Lib.hid (HB3.out.trans (hb.mono HB3.out.size))
 have HR4 := Lib.hid (HR3.out.under hb)
 have HK4 := Lib.hid (HK3.out.below hb)
 clear hb HB3 HR3 HK3 HTX a0 a1 a2 a3 a4 hal
 have HPX := Lib.hid (show Calls Tryz.prog 18 #[.string (S [35, 32, 99, 10, 97, 58, 10, 10, 32, 32, 45, 32, 49, 10, 32, 32, 32, 35, 32, 100, 10, 32, 32, 45, 32, 120])] w4 (PrsP w4 (exY, 0, 0)) from by
   have h := HPA.out [35, 32, 99, 10, 97, 58, 10, 10, 32, 32, 45, 32, 49, 10, 32, 32, 32, 35, 32, 100, 10, 32, 32, 45, 32, 120] (by decide) w4 HB4.out
   rwa [exY_parse] at h)
 go_wp2_with fail
 refine HPX.out.mono ?_
 rintro e w5 hp
 obtain ⟨p, cap, q, caq, rfl, hr, hb⟩ := hp.open
 have hn := val_two w5 #[.int .i64 exY.k, .int .i64 exY.n, .string (S exY.s), .slice p exY.its.length cap, .slice q exY.mem.length caq] #[.int .i64 0, .int .i64 0] 25 33
 have HB5 := Lib.hid (HB4.out.trans (hb.mono HB4.out.size))
 have HR5 := Lib.hid (And.intro (HR4.out.under hb) hr)
 have HK5 := Lib.hid (HK4.out.below hb)
 clear hb hr hp HB4 HR4 HK4 HPX
 go_upto_region 4 with fail
 generalize (w5.alloc (.cells #[.int .i64 exY.k, .int .i64 exY.n, .string (S exY.s), .slice p exY.its.length cap, .slice q exY.mem.length caq] 25)).alloc (.cells #[.int .i64 0, .int .i64 0] 33) = w6 at hn ⊢
 have HB6 := Lib.hid (HB5.out.trans (hn.2.2.mono HB5.out.size))
 have HR6 := Lib.hid (And.intro (HR5.out.1.under hn.2.2) (HR5.out.2.under hn.2.2))
 have HK6 := Lib.hid (And.intro (HK5.out.below hn.2.2) (And.intro hn.1 hn.2.1))
 clear hn HB5 HR5 HK5
 have a0 := HK6.out.1.cell 0
 have a1 := HK6.out.1.cell 1
 have a2 := HK6.out.1.cell 2
 have a3 := HK6.out.1.cell 3
 have a4 := HK6.out.1.cell 4
 have b0 := HK6.out.2.1.cell 0
 have b1 := HK6.out.2.1.cell 1
 have b2 := HK6.out.2.1.cell 2
 have b3 := HK6.out.2.1.cell 3
 have b4 := HK6.out.2.1.cell 4
 simp at a0 a1 a2 a3 a4 b0 b1 b2 b3 b4
 have hal := HK6.out.1.lt
 have hbl := HK6.out.2.1.lt
 go_wp2_with fail
 refine (dSame_any (SizeOf.sizeOf exY + 1) exY exY (Nat.lt_succ_self _) _ _ _ _ _ _ _ HR6.out.2 HR6.out.1 exY_lim exY_lim).mono ?_
 rintro e w7 ⟨r, rfl, hr, hb⟩
 obtain rfl : r = true := hr.2 rfl
 have HB7 := Lib.hid (HB6.out.trans (hb.mono HB6.out.size))
 have HR7 := Lib.hid (HR6.out.1.under hb)
 have HK7 := Lib.hid (And.intro (HK6.out.1.below hb) (HK6.out.2.2.below hb))
 clear hr hb HB6 HR6 HK6 a0 a1 a2 a3 a4 b0 b1 b2 b3 b4 hal hbl
 have c0 := HK7.out.2.cell 0
 simp at c0
 have hcl := HK7.out.2.lt
 go_upto_region 6 with fail
 clear c0 hcl
 have HW7 := HB7
 have HN7 := Lib.hid (HN.out.below HW7.out)
 have HPA7 := Lib.hid (fun l hl => (show ParseAt w7 l from fun w' hb => HPA.out l hl w' (HW7.out.trans (hb.mono HW7.out.size))))
 clear HB7 HPA
 have HB7 := Lib.hid (Below.refl w7.heap.size w7)
 go_wp2_with fail
 refine (str38_any [78, 111] _).mono ?_
 rintro e w8 ⟨rfl, hb⟩
 have HB8 := Lib.hid (HB7.out.trans (hb.mono HB7.out.size))
 clear hb HB7
 go_wp2_with fail
 refine (scalar_any (d := strD [78, 111]) (ok := fun _ => True) (rep_leaf w8 _ (d := strD [78, 111]) rfl rfl none none 0 0) (by rfl) (HN7.out.below HB8.out)).mono ?_
 rintro e w9 ⟨rfl, hb⟩
 rw [show scalarY (strD [78, 111]) = [34, 78, 111, 34] by kernel_rfl]
 have HB9 := Lib.hid (HB8.out.trans (hb.mono HB8.out.size))
 clear hb HB8
 go_wp2_with fail
 refine (str38_any [35, 100] _).mono ?_
 rintro e w10 ⟨rfl, hb⟩
 have HB10 := Lib.hid (HB9.out.trans (hb.mono HB9.out.size))
 clear hb HB9
 go_wp2_with fail
 refine (scalar_any (d := strD [35, 100]) (ok := fun _ => True) (rep_leaf w10 _ (d := strD [35, 100]) rfl rfl none none 0 0) (by rfl) (HN7.out.below HB10.out)).mono ?_
 rintro e w11 ⟨rfl, hb⟩
 rw [show scalarY (strD [35, 100]) = [34, 35, 100, 34] by kernel_rfl]
 have HB11 := Lib.hid (HB10.out.trans (hb.mono HB10.out.size))
 clear hb HB10
 go_wp2_with fail
 refine (str38_any [95, 104] _).mono ?_
 rintro e w12 ⟨rfl, hb⟩
 have HB12 := Lib.hid (HB11.out.trans (hb.mono HB11.out.size))
 clear hb HB11
 go_wp2_with fail
 refine (scalar_any (d := strD [95, 104]) (ok := fun _ => True) (rep_leaf w12 _ (d := strD [95, 104]) rfl rfl none none 0 0) (by rfl) (HN7.out.below HB12.out)).mono ?_
 rintro e w13 ⟨rfl, hb⟩
 rw [show scalarY (strD [95, 104]) = [95, 104] by kernel_rfl]
 have HB13 := Lib.hid (HB12.out.trans (hb.mono HB12.out.size))
 clear hb HB12
 have a0 := (HK7.out.1.below HB13.out).cell 0
 have a1 := (HK7.out.1.below HB13.out).cell 1
 have a2 := (HK7.out.1.below HB13.out).cell 2
 have a3 := (HK7.out.1.below HB13.out).cell 3
 have a4 := (HK7.out.1.below HB13.out).cell 4
 simp at a0 a1 a2 a3 a4
 have hal := (HK7.out.1.below HB13.out).lt
 have HSC := Lib.hid (show Calls Tryz.prog 16 #[.agg #[.int .i64 6, .int .i64 0, .string ⟨#[]⟩, .slice none 0 0, .slice (some ⟨w2.heap.size + 1, 0, none⟩) 1 1]] w13 (fun e w' => e = .returned (.string (S [63])) ∧ Below w13.heap.size w13 w') from by
   have h := scalar_any (d := exY) (HR7.out.under HB13.out) exY_lim (HN7.out.below HB13.out)
   rw [exY_scalar] at h
   exact h)
 go_wp2_with fail
 refine HSC.out.mono ?_
 rintro e w14 ⟨rfl, hb⟩
 have HB14 := Lib.hid (HB13.out.trans (hb.mono HB13.out.size))
 clear hb HB13 HSC a0 a1 a2 a3 a4 hal
 go_wp2_with fail
 refine (fails_of (l := [97, 58, 32, 49, 10, 97, 58, 32, 50]) (e := 6) (p := 2) (by kernel_rfl) rfl rfl (HPA7.out [97, 58, 32, 49, 10, 97, 58, 32, 50] (by decide)) w14 HB14.out).mono ?_
 rintro e w15 ⟨rfl, hb⟩
 have HB15 := Lib.hid (HB14.out.trans (hb.mono HB14.out.size))
 clear hb HB14
 go_wp2_with fail
 refine (fails_of (l := [97, 58]) (e := 19) (p := 2) (by kernel_rfl) rfl rfl (HPA7.out [97, 58] (by decide)) w15 HB15.out).mono ?_
 rintro e w16 ⟨rfl, hb⟩
 have HB16 := Lib.hid (HB15.out.trans (hb.mono HB15.out.size))
 clear hb HB15
 go_wp2_with fail
 refine (fails_of (l := [97, 58, 32, 49, 10, 32, 32, 98, 58, 32, 50]) (e := 19) (p := 2) (by kernel_rfl) rfl rfl (HPA7.out [97, 58, 32, 49, 10, 32, 32, 98, 58, 32, 50] (by decide)) w16 HB16.out).mono ?_
 rintro e w17 ⟨rfl, hb⟩
 have HB17 := Lib.hid (HB16.out.trans (hb.mono HB16.out.size))
 clear hb HB16
 go_wp2_with fail
 refine (fails_of (l := []) (e := 19) (p := 1) (by kernel_rfl) rfl rfl (HPA7.out [] (by decide)) w17 HB17.out).mono ?_
 rintro e w18 ⟨rfl, hb⟩
 have HB18 := Lib.hid (HB17.out.trans (hb.mono HB17.out.size))
 clear hb HB17
 go_wp2_with fail
 go_ret
 exact ⟨rfl, HW7.out.trans (HB18.out.mono HW7.out.size)⟩
end
section
open Go.RowKit
set_option maxRecDepth 100000 in
set_option maxHeartbeats 8000000 in
theorem lawYamltextWrites_of (d : Dat) (vi vm : Value) (ok : Nat → Prop) (w : World) (hr : Rep w ok d vi vm) (hE : StOk w) (hP : ∀ l : List UInt8, l.length ≤ 1000000 → ParseAt w l) :
   Calls Tryz.prog 3 #[.agg #[.int .i64 d.k, .int .i64 d.n, .string (S d.s), vi, vm]] w fun e w' => e = .returned (.bool true) ∧ Below w.heap.size w w' := by
 have HE := Lib.hid hE
 have HAL := Lib.hid (fun X (hb : Below w.heap.size w X) => alive_of X (hE.below hb) (fun l hl w' hb' => hP l hl w' (hb.trans (hb'.mono hb.size))))
 have HP := Lib.hid hP
 have HREP := Lib.hid hr
 obtain ⟨p, cap, rfl, -, -⟩ := id hr.items
 obtain ⟨q, caq, rfl, -, -⟩ := id hr.members
 clear hE hP hr
 obtain ⟨sm, hsm⟩ : ∃ sm, smallD d = sm := ⟨_, rfl⟩
 have HSM := Lib.hid hsm
 have HSW := Lib.hid (fun w' (hb : Below w.heap.size w w') => small_any (HREP.out.under hb))
 have HCW := Lib.hid (fun w' (hb : Below w.heap.size w w') => refChk_any (HREP.out.under hb))
 rw [hsm] at HSW
 clear hsm
 have hS : CkS w.heap.size w d (.slice p d.its.length cap) (.slice q d.mem.length caq) (w.alloc (.cells #[.int .i64 d.k, .int .i64 d.n, .string (S d.s), .slice p d.its.length cap, .slice q d.mem.length caq] 25)) := CkS.new w d _ _
 rcases Bool.eq_false_or_eq_true sm with rfl | rfl
 case inr =>
   go_enter Tryz.func3, Tryz.ntmps3
   go_upto_region 1 with fail
   generalize w.alloc (.cells #[.int .i64 d.k, .int .i64 d.n, .string (S d.s), .slice p d.its.length cap, .slice q d.mem.length caq] 25) = W at hS ⊢
   have HS0 := Lib.hid hS
   clear hS
   obtain ⟨c0, c1, c2, c3, c4, hlw⟩ := HS0.out.cells
   go_wp2_with fail
   refine (HSW.out _ HS0.out.2).mono ?_
   rintro e w1 ⟨rfl, hb⟩
   have HS1 := Lib.hid (HS0.out.below hb)
   clear hb c0 c1 c2 c3 c4 hlw HS0
   obtain ⟨c0, c1, c2, c3, c4, hlw⟩ := HS1.out.cells
   go_wp2_with fail
   refine (HAL.out _ HS1.out.2).mono ?_
   rintro e w2 ⟨rfl, hb⟩
   have HB9 := Lib.hid (HS1.out.2.trans (hb.mono HS1.out.2.size))
   clear hb c0 c1 c2 c3 c4 hlw HS1
   go_wp2_with fail
   go_ret
   exact ⟨rfl, HB9.out⟩
 have hlim := small_lim HSM.out
 have HTX := Lib.hid (fun w' (hb : Below w.heap.size w w') => text_anyY (HREP.out.under hb) hlim (fun h => by have := doc_len h HSM.out; omega) (HE.out.num.below hb))
 have HRX := Lib.hid (fun w' (hb : Below w.heap.size w w') => refText_anyY (HREP.out.under hb) hlim (fun h => by have := doc_len h HSM.out; omega))
 have HSA := Lib.hid (fun w' (hb : Below w.heap.size w w') => scalar_any (HREP.out.under hb) hlim (HE.out.num.below hb))
 have HSB := Lib.hid (fun w' (hb : Below w.heap.size w w') => refScalar_any (HREP.out.under hb) (lim_len hlim).2.2)
 unfold textV2 at HTX HRX
 generalize textY d = r at HTX HRX
 generalize scalarY d = sc at HSA HSB
 obtain ⟨tl, te⟩ := r
 simp only at HTX HRX
 clear hlim
 go_enter Tryz.func3, Tryz.ntmps3
 go_upto_region 1 with fail
 generalize w.alloc (.cells #[.int .i64 d.k, .int .i64 d.n, .string (S d.s), .slice p d.its.length cap, .slice q d.mem.length caq] 25) = W at hS ⊢
 have HS0 := Lib.hid hS
 clear hS
 obtain ⟨c0, c1, c2, c3, c4, hlw⟩ := HS0.out.cells
 go_wp2_with fail
 refine (HSW.out _ HS0.out.2).mono ?_
 rintro e w1 ⟨rfl, hb⟩
 have HS1 := Lib.hid (HS0.out.below hb)
 clear hb c0 c1 c2 c3 c4 hlw HS0
 obtain ⟨c0, c1, c2, c3, c4, hlw⟩ := HS1.out.cells
 go_wp2_with fail
 refine (HTX.out _ HS1.out.2).mono ?_
 rintro e w2 ⟨rfl, hb⟩
 have HS2 := Lib.hid (HS1.out.below hb)
 clear hb c0 c1 c2 c3 c4 hlw HS1
 obtain ⟨c0, c1, c2, c3, c4, hlw⟩ := HS2.out.cells
 go_wp2_with fail
 refine (HRX.out _ HS2.out.2).mono ?_
 rintro e w3 ⟨rfl, hb⟩
 have HS3 := Lib.hid (HS2.out.below hb)
 clear hb c0 c1 c2 c3 c4 hlw HS2
 obtain ⟨c0, c1, c2, c3, c4, hlw⟩ := HS3.out.cells
 have t1 : (tl == tl) = true := beq_self_eq_true _
 have t2 : ((te : Int) == (te : Int)) = true := beq_self_eq_true _
 have t3 : (sc == sc) = true := beq_self_eq_true _
 go_upto_region 5 with fail
 have HKE := Lib.hid (fun w' (hb : Below w3.heap.size w3 w') => (show _ ∧ _ ∧ _ ∧ _ ∧ _ from ⟨(hb.cell (p := ⟨w.heap.size, 0, none⟩) hlw).trans c0, (hb.cell (p := ⟨w.heap.size, 1, none⟩) hlw).trans c1, (hb.cell (p := ⟨w.heap.size, 2, none⟩) hlw).trans c2, (hb.cell (p := ⟨w.heap.size, 3, none⟩) hlw).trans c3, (hb.cell (p := ⟨w.heap.size, 4, none⟩) hlw).trans c4⟩))
 have HBW := Lib.hid (fun w' (hb : Below w3.heap.size w3 w') => HS3.out.2.trans (hb.mono (Nat.le_of_lt HS3.out.1.lt)))
 have HB0 := Lib.hid (below_drew (Below.refl w3.heap.size w3))
 clear c0 c1 c2 c3 c4 hlw HS3
 go_region_held3 (fun w' => w'.cell? ⟨w.heap.size, 0, none⟩ = some (.int .i64 d.k) ∧ w'.cell? ⟨w.heap.size, 1, none⟩ = some (.int .i64 d.n) ∧ w'.cell? ⟨w.heap.size, 2, none⟩ = some (.string (S d.s)) ∧ w'.cell? ⟨w.heap.size, 3, none⟩ = some (.slice p d.its.length cap) ∧ w'.cell? ⟨w.heap.size, 4, none⟩ = some (.slice q d.mem.length caq))
   (first
     | with_reducible exact HKE.out _ HB0.out
     | with_reducible exact HKE.out _ HB1.out
     | with_reducible exact HKE.out _ HB2.out
     | with_reducible exact HKE.out _ HB3.out
     | go_keep)
   (first
     | (go_at_call 16; refine (HSA.out _ (HBW.out _ HB0.out)).mono ?_; rintro e x1 ⟨rfl, hb⟩; have HB1 := Lib.hid (HB0.out.trans (hb.mono HB0.out.size)); clear hb)
     | (go_at_call 17; refine (HSB.out _ (HBW.out _ HB1.out)).mono ?_; rintro e x2 ⟨rfl, hb⟩; have HB2 := Lib.hid (HB1.out.trans (hb.mono HB1.out.size)); clear hb)
     | (go_at_call 13; refine (HAL.out _ (HBW.out _ HB2.out)).mono ?_; rintro e x3 ⟨rfl, hb⟩; have HB3 := Lib.hid (HB2.out.trans (hb.mono HB2.out.size)); clear hb))
 all_goals
   go_wp2_with fail
   go_ret
   exact ⟨rfl, HBW.out _ HB3.out⟩
end
section
open Go.RowKit
set_option maxRecDepth 100000 in
set_option maxHeartbeats 8000000 in
theorem lawYamltextBack_of (d : Dat) (vi vm : Value) (ok : Nat → Prop) (w : World) (hr : Rep w ok d vi vm) (hE : StOk w) (hP : ∀ l : List UInt8, l.length ≤ 1000000 → ParseAt w l) :
   Calls Tryz.prog 5 #[.agg #[.int .i64 d.k, .int .i64 d.n, .string (S d.s), vi, vm]] w fun e w' => e = .returned (.bool true) ∧ Below w.heap.size w w' := by
 have HE := Lib.hid hE
 have HAL := Lib.hid (fun X (hb : Below w.heap.size w X) => alive_of X (hE.below hb) (fun l hl w' hb' => hP l hl w' (hb.trans (hb'.mono hb.size))))
 have HP := Lib.hid hP
 have HREP := Lib.hid hr
 obtain ⟨p, cap, rfl, -, -⟩ := id hr.items
 obtain ⟨q, caq, rfl, -, -⟩ := id hr.members
 clear hE hP hr
 obtain ⟨sm, hsm⟩ : ∃ sm, smallD d = sm := ⟨_, rfl⟩
 have HSM := Lib.hid hsm
 have HSW := Lib.hid (fun w' (hb : Below w.heap.size w w') => small_any (HREP.out.under hb))
 have HCW := Lib.hid (fun w' (hb : Below w.heap.size w w') => refChk_any (HREP.out.under hb))
 rw [hsm] at HSW
 clear hsm
 have hS : CkS w.heap.size w d (.slice p d.its.length cap) (.slice q d.mem.length caq) (w.alloc (.cells #[.int .i64 d.k, .int .i64 d.n, .string (S d.s), .slice p d.its.length cap, .slice q d.mem.length caq] 25)) := CkS.new w d _ _
 rcases Bool.eq_false_or_eq_true sm with rfl | rfl
 case inr =>
   go_enter Tryz.func5, Tryz.ntmps5
   go_upto_region 1 with fail
   generalize w.alloc (.cells #[.int .i64 d.k, .int .i64 d.n, .string (S d.s), .slice p d.its.length cap, .slice q d.mem.length caq] 25) = W at hS ⊢
   have HS0 := Lib.hid hS
   clear hS
   obtain ⟨c0, c1, c2, c3, c4, hlw⟩ := HS0.out.cells
   go_wp2_with fail
   refine (HSW.out _ HS0.out.2).mono ?_
   rintro e w1 ⟨rfl, hb⟩
   have HS1 := Lib.hid (HS0.out.below hb)
   clear hb c0 c1 c2 c3 c4 hlw HS0
   obtain ⟨c0, c1, c2, c3, c4, hlw⟩ := HS1.out.cells
   go_wp2_with fail
   refine (HAL.out _ HS1.out.2).mono ?_
   rintro e w2 ⟨rfl, hb⟩
   have HB9 := Lib.hid (HS1.out.2.trans (hb.mono HS1.out.2.size))
   clear hb c0 c1 c2 c3 c4 hlw HS1
   go_wp2_with fail
   go_ret
   exact ⟨rfl, HB9.out⟩
 have hlim := small_lim HSM.out
 have HLIM := Lib.hid hlim
 have HTX := Lib.hid (fun w' (hb : Below w.heap.size w w') => text_anyY (HREP.out.under hb) hlim (fun h => by have := doc_len h HSM.out; omega) (HE.out.num.below hb))
 by_cases hc : chk d 1 = 0
 · have hte := text_doc d hc
   have hpt := parse_text hc HSM.out
   have hdl := doc_len hc HSM.out
   unfold textV2 at HTX
   rw [hte] at HTX hpt
   generalize joinLn (docLn d) = tl at HTX hpt hdl
   obtain ⟨en, hen⟩ : ∃ n : Nat, n = 0 := ⟨_, rfl⟩
   obtain ⟨ep, hep⟩ : ∃ n : Nat, n = 0 := ⟨_, rfl⟩
   have HPX := Lib.hid (fun w' (hb : Below w.heap.size w w') => (show Calls Tryz.prog 18 #[.string (S tl)] w' (PrsP w' (d, en, ep)) from by
     have h := HP.out tl (by omega) w' hb
     rw [hen, hep]
     simp only at hpt
     rwa [hpt] at h))
   have e0 : ((en : Int) == 0) = true := by rw [hen]; rfl
   have e1 : ((en : Int) != 0) = false := by rw [hen]; rfl
   simp only at HTX
   clear hlim hc hte hpt hdl hen hep
   go_enter Tryz.func5, Tryz.ntmps5
   go_upto_region 1 with fail
   generalize w.alloc (.cells #[.int .i64 d.k, .int .i64 d.n, .string (S d.s), .slice p d.its.length cap, .slice q d.mem.length caq] 25) = W at hS ⊢
   have HS0 := Lib.hid hS
   clear hS
   obtain ⟨c0, c1, c2, c3, c4, hlw⟩ := HS0.out.cells
   go_wp2_with fail
   refine (HSW.out _ HS0.out.2).mono ?_
   rintro e w1 ⟨rfl, hb⟩
   have HS1 := Lib.hid (HS0.out.below hb)
   clear hb c0 c1 c2 c3 c4 hlw HS0
   obtain ⟨c0, c1, c2, c3, c4, hlw⟩ := HS1.out.cells
   go_wp2_with fail
   refine (HTX.out _ HS1.out.2).mono ?_
   rintro e w2 ⟨rfl, hb⟩
   have HS2 := Lib.hid (HS1.out.below hb)
   clear hb c0 c1 c2 c3 c4 hlw HS1
   obtain ⟨c0, c1, c2, c3, c4, hlw⟩ := HS2.out.cells
   go_wp2_with fail
   refine (HPX.out _ HS2.out.2).mono ?_
   rintro e v3 hp
   obtain ⟨xp, xc, yp, yc, rfl, hr, hb⟩ := hp.open
   simp only at hr ⊢
   have hn := val_two v3 #[.int .i64 d.k, .int .i64 d.n, .string (S d.s), .slice xp d.its.length xc, .slice yp d.mem.length yc] #[.int .i64 (en : Int), .int .i64 (ep : Int)] 25 33
   have hS5 := (HS2.out.below hb).below hn.2.2
   have hx5 := hr.under hn.2.2
   clear hr hp hb c0 c1 c2 c3 c4 hlw HS2 HPX
   go_upto_region 7 with fail
   generalize (v3.alloc (.cells #[.int .i64 d.k, .int .i64 d.n, .string (S d.s), .slice xp d.its.length xc, .slice yp d.mem.length yc] 25)).alloc (.cells #[.int .i64 (en : Int), .int .i64 (ep : Int)] 33) = w3 at hn hS5 hx5 ⊢
   have HS3 := Lib.hid hS5
   have HX5 := Lib.hid hx5
   have HF5 := Lib.hid (And.intro hn.1 hn.2.1)
   clear hS5 hx5 hn
   obtain ⟨c0, c1, c2, c3, c4, hlw⟩ := HS3.out.cells
   have b0 := HF5.out.1.cell 0
   have b1 := HF5.out.1.cell 1
   have b2 := HF5.out.1.cell 2
   have b3 := HF5.out.1.cell 3
   have b4 := HF5.out.1.cell 4
   have f0 := HF5.out.2.cell 0
   have f1 := HF5.out.2.cell 1
   simp at b0 b1 b2 b3 b4 f0 f1
   have hbl := HF5.out.1.lt
   have hfl := HF5.out.2.lt
   go_wp2_with fail
   refine (dSame_any (SizeOf.sizeOf d + 1) d d (Nat.lt_succ_self _) _ _ _ _ _ _ _ HX5.out (HREP.out.under HS3.out.2) HLIM.out HLIM.out).mono ?_
   rintro e w4 ⟨r, rfl, hr, hb⟩
   obtain rfl : r = true := hr.2 rfl
   have HS4 := Lib.hid (HS3.out.below hb)
   clear hr hb c0 c1 c2 c3 c4 hlw b0 b1 b2 b3 b4 f0 f1 hbl hfl HS3
   obtain ⟨c0, c1, c2, c3, c4, hlw⟩ := HS4.out.cells
   go_wp2_with fail
   refine (HAL.out _ HS4.out.2).mono ?_
   rintro e w5 ⟨rfl, hb⟩
   have HB9 := Lib.hid (HS4.out.2.trans (hb.mono HS4.out.2.size))
   clear hb c0 c1 c2 c3 c4 hlw HS4
   go_wp2_with fail
   go_ret
   exact ⟨rfl, HB9.out⟩
 · have hte : textY d = ([], chk d 1) := by unfold textY; rw [if_neg hc]
   unfold textV2 at HTX
   rw [hte] at HTX
   generalize hck : chk d 1 = ck at HTX HCW hc
   have t0 : ((ck : Int) != 0) = true := by simp; omega
   have t1 : ((ck : Int) == 0) = false := by simp; omega
   have t2 : ((ck : Int) == (ck : Int)) = true := beq_self_eq_true _
   simp only at HTX
   clear hlim hte hck hc
   go_enter Tryz.func5, Tryz.ntmps5
   go_upto_region 1 with fail
   generalize w.alloc (.cells #[.int .i64 d.k, .int .i64 d.n, .string (S d.s), .slice p d.its.length cap, .slice q d.mem.length caq] 25) = W at hS ⊢
   have HS0 := Lib.hid hS
   clear hS
   obtain ⟨c0, c1, c2, c3, c4, hlw⟩ := HS0.out.cells
   go_wp2_with fail
   refine (HSW.out _ HS0.out.2).mono ?_
   rintro e w1 ⟨rfl, hb⟩
   have HS1 := Lib.hid (HS0.out.below hb)
   clear hb c0 c1 c2 c3 c4 hlw HS0
   obtain ⟨c0, c1, c2, c3, c4, hlw⟩ := HS1.out.cells
   go_wp2_with fail
   refine (HTX.out _ HS1.out.2).mono ?_
   rintro e w2 ⟨rfl, hb⟩
   have HS2 := Lib.hid (HS1.out.below hb)
   clear hb c0 c1 c2 c3 c4 hlw HS1
   obtain ⟨c0, c1, c2, c3, c4, hlw⟩ := HS2.out.cells
   go_wp2_with fail
   refine (HCW.out _ HS2.out.2).mono ?_
   rintro e w3 ⟨rfl, hb⟩
   have HS3 := Lib.hid (HS2.out.below hb)
   clear hb c0 c1 c2 c3 c4 hlw HS2
   obtain ⟨c0, c1, c2, c3, c4, hlw⟩ := HS3.out.cells
   go_wp2_with fail
   refine (HAL.out _ HS3.out.2).mono ?_
   rintro e w4 ⟨rfl, hb⟩
   have HB9 := Lib.hid (HS3.out.2.trans (hb.mono HS3.out.2.size))
   clear hb c0 c1 c2 c3 c4 hlw HS3
   go_wp2_with fail
   go_ret
   exact ⟨rfl, HB9.out⟩
end
section
open Go.RowKit
def vk1 : Nat → Int | 0 => 1 | 1 => 2 | 2 => 2 | 3 => 5 | _ => 6
def vk2 : Nat → Int | 2 => 1 | _ => 0
def vtx : Nat → List UInt8 | 0 => [110, 117, 108, 108] | 1 => [102, 97, 108, 115, 101] | 2 => [116, 114, 117, 101] | 3 => [91, 93] | _ => [123, 125]
def vd (i : Nat) : Dat := .mk (vk1 i) (vk2 i) [] [] []
theorem five {i : Nat} (h : i < 5) : i = 0 ∨ i = 1 ∨ i = 2 ∨ i = 3 ∨ i = 4 := by omega
theorem vd_own {i : Nat} (h : i < 5) : ownE (vd i) = 0 := by rcases five h with rfl | rfl | rfl | rfl | rfl <;> rfl
theorem vd_lim {i : Nat} (h : i < 5) : limD (vd i) = true := by rcases five h with rfl | rfl | rfl | rfl | rfl <;> rfl
theorem vd_short {i : Nat} (h : i < 5) : shortY (vd i) = some (vtx i) := by rcases five h with rfl | rfl | rfl | rfl | rfl <;> kernel_rfl
theorem vd_val {i : Nat} (h : i < 5) : valR (vtx i) = some (vd i) := by rcases five h with rfl | rfl | rfl | rfl | rfl <;> rfl
theorem val_last {l : List UInt8} (h : ∀ j, j < 5 → l ≠ vtx j) : valR l = if (parseI l).2 = 0 then some (.mk 3 (parseI l).1 [] [] []) else (textR l).map fun v => .mk 4 0 v [] [] := by
 unfold valR
 rw [if_neg (show l ≠ [110, 117, 108, 108] from h 0 (by omega)), if_neg (show l ≠ [102, 97, 108, 115, 101] from h 1 (by omega)), if_neg (show l ≠ [116, 114, 117, 101] from h 2 (by omega)), if_neg (show l ≠ [91, 93] from h 3 (by omega)), if_neg (show l ≠ [123, 125] from h 4 (by omega))]
def c25 : Array Value := #[.int .i64 1, .int .i64 0, .string ⟨#[]⟩, .slice none 0 0, .slice none 0 0, .int .i64 2, .int .i64 0, .string ⟨#[]⟩, .slice none 0 0, .slice none 0 0, .int .i64 2, .int .i64 1, .string ⟨#[]⟩, .slice none 0 0, .slice none 0 0, .int .i64 5, .int .i64 0, .string ⟨#[]⟩, .slice none 0 0, .slice none 0 0, .int .i64 6, .int .i64 0, .string ⟨#[]⟩, .slice none 0 0, .slice none 0 0]
theorem val_cells {W : World} {B : Nat} {t : TypeId} (h : Blk W B c25 t) {i : Nat} (hi : i < 5) :
   W.cell? ⟨B, i * 5, none⟩ = some (.int .i64 (vk1 i)) ∧ W.cell? ⟨B, i * 5 + 1, none⟩ = some (.int .i64 (vk2 i)) ∧ W.cell? ⟨B, i * 5 + 2, none⟩ = some (.string ⟨#[]⟩) ∧ W.cell? ⟨B, i * 5 + 3, none⟩ = some (.slice none 0 0) ∧ W.cell? ⟨B, i * 5 + 4, none⟩ = some (.slice none 0 0) := by
 rcases five hi with rfl | rfl | rfl | rfl | rfl
 · exact ⟨h.cell 0, h.cell 1, h.cell 2, h.cell 3, h.cell 4⟩
 · exact ⟨h.cell 5, h.cell 6, h.cell 7, h.cell 8, h.cell 9⟩
 · exact ⟨h.cell 10, h.cell 11, h.cell 12, h.cell 13, h.cell 14⟩
 · exact ⟨h.cell 15, h.cell 16, h.cell 17, h.cell 18, h.cell 19⟩
 · exact ⟨h.cell 20, h.cell 21, h.cell 22, h.cell 23, h.cell 24⟩
set_option maxRecDepth 100000 in
set_option maxHeartbeats 8000000 in
theorem rvalue_any (l : List UInt8) (hl : l.length ≤ 1000000) (w : World) : Calls Tryz.prog 66 #[.string (S l)] w (ValP w (valueY l)) := by
 rw [value_ref]
 have h2 : Blk ((w.alloc (.cells #[.int .i64 0, .int .i64 0, .string ⟨#[]⟩, .slice none 0 0, .slice none 0 0] 25)).alloc (.cells c25 25)) w.heap.size #[.int .i64 0, .int .i64 0, .string ⟨#[]⟩, .slice none 0 0, .slice none 0 0] 25 ∧ _ := val_two w #[.int .i64 0, .int .i64 0, .string ⟨#[]⟩, .slice none 0 0, .slice none 0 0] c25 25 25
 have HI := Lib.hid (fun i (h : i < 5) (e : vtx i = l) => (show valR l = some (vd i) by rw [← e]; exact vd_val h))
 have HLAST := Lib.hid (fun (h : ∀ j, j < 5 → l ≠ vtx j) => val_last h)
 have HPA := Lib.hid (fun w' => fxRefParse_any l w' hl)
 have HTX := Lib.hid (fun w' => rtext_any l hl w')
 generalize valR l = r at HI HLAST ⊢
 go_enter Tryz.func66, Tryz.ntmps66
 go_upto_region 2 with fail
 unfold c25 at h2
 generalize (w.alloc (.cells #[.int .i64 0, .int .i64 0, .string ⟨#[]⟩, .slice none 0 0, .slice none 0 0] 25)).alloc _ = W at h2 ⊢
 have HZ := Lib.hid h2.1
 have HC := Lib.hid (show Blk W (w.heap.size + 1) c25 25 from h2.2.1)
 have HB := Lib.hid h2.2.2
 clear h2
 go_loopw [19] (fun x wr => ∃ i : Nat, x = .int .i64 (i : Int) ∧ i ≤ 5 ∧ Hid (∀ j, j < i → l ≠ vtx j) ∧ Hid (Below W.heap.size W wr)) (fun x _ => 5 - (intOf x).toNat)
 case atStart => exact ⟨0, rfl, Nat.zero_le _, Lib.hid (fun j h => absurd h (Nat.not_lt_zero _)), Lib.hid (Below.refl _ _)⟩
 case round =>
   obtain ⟨i, rfl, hi, HJ, HW⟩ := hrel
   by_cases hlt : i < 5
   · obtain ⟨a0, a1, a2, a3, a4⟩ := val_cells (HC.out.below HW.out) hlt
     have hBl : w.heap.size + 1 < wr.heap.size := (HC.out.below HW.out).lt
     have hN := Blk.new wr #[.int .i64 (vk1 i), .int .i64 (vk2 i), .string ⟨#[]⟩, .slice none 0 0, .slice none 0 0] 25
     have hbN := alloc_below wr (.cells #[.int .i64 (vk1 i), .int .i64 (vk2 i), .string ⟨#[]⟩, .slice none 0 0, .slice none 0 0] 25)
     have HSH := Lib.hid (fun w' => show Calls Tryz.prog 33 #[.agg #[.int .i64 (vk1 i), .int .i64 (vk2 i), .string ⟨#[]⟩, .slice none 0 0, .slice none 0 0]] w' (RShP w' (vd i)) from refShort_yaml (d := vd i) (rep_leaf w' (fun _ => True) (d := vd i) rfl rfl none none 0 0) (vd_own hlt) (vd_lim hlt))
     have HVS := Lib.hid (vd_short hlt)
     have HRI := Lib.hid (HI.out i hlt)
     have HRD := Lib.hid (show vd i = .mk (vk1 i) (vk2 i) [] [] [] from rfl)
     have HV5 := Lib.hid (fun (h : l ≠ vtx i) j (hj : j < i + 1) => (show l ≠ vtx j from by
       rcases Nat.lt_or_ge j i with h1 | h1
       · exact HJ.out j h1
       · obtain rfl : j = i := by omega
         exact h))
     generalize vd i = d at HSH HVS HRI HRD
     generalize vtx i = t at HVS HRI HV5
     generalize vk1 i = k at a0 hN hbN HSH HRD
     generalize vk2 i = n at a1 hN hbN HSH HRD
     go_upto_region 4 with fail
     generalize wr.alloc (.cells #[.int .i64 k, .int .i64 n, .string ⟨#[]⟩, .slice none 0 0, .slice none 0 0] 25) = W4 at hN hbN ⊢
     have n0 := hN.cell 0
     have n1 := hN.cell 1
     have n2 := hN.cell 2
     have n3 := hN.cell 3
     have n4 := hN.cell 4
     simp at n0 n1 n2 n3 n4
     have hnl := hN.lt
     have HN4 := Lib.hid hN
     have HW4 := Lib.hid (HW.out.trans (hbN.mono HW.out.size))
     clear a0 a1 a2 a3 a4 hBl hN hbN HJ
     go_wp2_with fail
     refine (HSH.out _).mono ?_
     rintro e w5 ⟨s, b, rfl, hsh, hb⟩
     rw [HVS.out] at hsh
     obtain ⟨rfl, rfl⟩ : b = true ∧ s = t := by
       cases b with
       | true => exact ⟨rfl, by injection hsh with h; exact h.symm⟩
       | false => cases hsh
     have HN5 := Lib.hid (HN4.out.below hb)
     have HW5 := Lib.hid (HW4.out.trans (hb.mono HW4.out.size))
     clear n0 n1 n2 n3 n4 hnl hsh hb HSH HVS HN4
     by_cases he : s = l
     · have HR := Lib.hid (HRI.out he)
       have t1 : (s == l) = true := by simpa using he
       have n0 := HN5.out.cell 0
       have n1 := HN5.out.cell 1
       have n2 := HN5.out.cell 2
       have n3 := HN5.out.cell 3
       have n4 := HN5.out.cell 4
       simp at n0 n1 n2 n3 n4
       have hnl := HN5.out.lt
       obtain ⟨⟨z0, z1, z2, z3, z4⟩, ⟨y0, y1, y2, y3, y4⟩, hlw⟩ := zero_cells (HZ.out.below HW5.out)
       have HB5 := Lib.hid (HB.out.trans (HW5.out.mono HB.out.size))
       clear he HRI HV5
       go_wp2_with fail
       refine bodyPost_ret (v := .tuple #[.agg #[.int .i64 k, .int .i64 n, .string ⟨#[]⟩, .slice none 0 0, .slice none 0 0], .bool true]) (by simp [results, Tryz.results66, go_sem, z0, z1, z2, z3, z4, y0, y1, y2, y3, y4, hlw]) rfl ?_
       rw [HR.out]
       refine ⟨k, n, [], rfl, fun d' h => ?_, ?_⟩
       · injection h with h; rw [← h]; exact HRD.out
       · have hbw := HB5.out
         go_grown
         all_goals exact hbw
     · have t1 : (s == l) = false := by simpa using he
       have HV6 := Lib.hid (HV5.out (fun e => he e.symm))
       clear he HRI HV5
       go_wp2_with fail
       go_roundw
       case rel => exact ⟨i + 1, by go_num, hlt, HV6, HW5⟩
       case measure => simp [intOf]; omega
   · obtain rfl : i = 5 := by omega
     have HR := Lib.hid (HLAST.out HJ.out)
     have HZ5 := Lib.hid (HZ.out.below HW.out)
     have HB5 := Lib.hid (HB.out.trans (HW.out.mono HB.out.size))
     clear HJ HLAST HI
     go_wp2_with fail
     refine (HPA.out _).mono ?_
     rintro e w6 ⟨rfl, hb⟩
     have HZ6 := Lib.hid (HZ5.out.below hb)
     have HB6 := Lib.hid (HB5.out.trans (hb.mono HB5.out.size))
     generalize parseI l = p at HR ⊢
     obtain ⟨u, pe⟩ := p
     simp only [pr] at HR ⊢
     clear hb HZ5 HB5 HPA
     by_cases h0 : pe = 0
     · have HR2 := Lib.hid (HR.out.trans (if_pos h0))
       have a1 : (pe == 0) = true := by simpa using h0
       obtain ⟨⟨z0, z1, z2, z3, z4⟩, ⟨y0, y1, y2, y3, y4⟩, hlw⟩ := zero_cells HZ6.out
       clear HR h0
       go_wp2_with fail
       refine bodyPost_ret (v := .tuple #[.agg #[.int .i64 3, .int .i64 u, .string ⟨#[]⟩, .slice none 0 0, .slice none 0 0], .bool true]) (by simp [results, Tryz.results66, go_sem, z0, z1, z2, z3, z4, y0, y1, y2, y3, y4, hlw]) rfl ?_
       rw [HR2.out]
       refine ⟨3, u, [], rfl, fun d' h => by injection h with h; exact h.symm, ?_⟩
       have hbw := HB6.out
       go_grown
       all_goals exact hbw
     · have HR2 := Lib.hid (HR.out.trans (if_neg h0))
       have a1 : (pe == 0) = false := by simpa using h0
       clear HR h0
       go_wp2_with fail
       refine (HTX.out _).mono ?_
       rintro e w7 ⟨rfl, hb⟩
       obtain ⟨⟨z0, z1, z2, z3, z4⟩, ⟨y0, y1, y2, y3, y4⟩, hlw⟩ := zero_cells (HZ6.out.below hb)
       have HB7 := Lib.hid (HB6.out.trans (hb.mono HB6.out.size))
       clear hb HTX
       generalize textR l = q at HR2 ⊢
       cases q with
       | none =>
         simp only [txV, Option.isSome_none, Option.getD_none]
         go_wp2_with fail
         refine bodyPost_ret (v := .tuple #[.agg #[.int .i64 0, .int .i64 0, .string ⟨#[]⟩, .slice none 0 0, .slice none 0 0], .bool false]) (by simp [results, Tryz.results66, go_sem, z0, z1, z2, z3, z4, y0, y1, y2, y3, y4, hlw]) rfl ?_
         rw [HR2.out]
         refine ⟨0, 0, [], rfl, (fun d' h => by cases h), ?_⟩
         have hbw := HB7.out
         go_grown
         all_goals exact hbw
       | some v =>
         simp only [txV, Option.isSome_some, Option.getD_some]
         go_wp2_with fail
         refine bodyPost_ret (v := .tuple #[.agg #[.int .i64 4, .int .i64 0, .string (S v), .slice none 0 0, .slice none 0 0], .bool true]) (by simp [results, Tryz.results66, go_sem, z0, z1, z2, z3, z4, y0, y1, y2, y3, y4, hlw]) rfl ?_
         rw [HR2.out]
         refine ⟨4, 0, v, rfl, fun d' h => by injection h with h; exact h.symm, ?_⟩
         have hbw := HB7.out
         go_grown
         all_goals exact hbw
end
section
open Go.RowKit
theorem flat6_length (T : List (List UInt8 × Dat × Value × Value)) : (flat6 T).length = T.length * 6 := by
 induction T with
 | nil => rfl
 | cons t r ih => unfold flat6 at *; rw [List.flatMap_cons, List.length_append, ih]; simp [cells6, cells5]; omega
theorem flat6_split (T : List (List UInt8 × Dat × Value × Value)) (k : Nat) : flat6 T = flat6 (T.take k) ++ flat6 (T.drop k) := by
 unfold flat6
 rw [← List.flatMap_append, List.take_append_drop]
theorem flat6_one {T : List (List UInt8 × Dat × Value × Value)} (h : ∀ t ∈ T, t.2.2.1.oneCell' = true ∧ t.2.2.2.oneCell' = true) : ∀ u ∈ flat6 T, u.oneCell' = true := by
 intro u hu
 obtain ⟨t, ht, hu⟩ := List.mem_flatMap.1 hu
 obtain ⟨h1, h2⟩ := h t ht
 simp only [cells6, cells5, List.mem_cons, List.not_mem_nil, or_false] at hu
 rcases hu with rfl | rfl | rfl | rfl | rfl | rfl
 · rfl
 · rfl
 · rfl
 · rfl
 · exact h1
 · exact h2
theorem src6_take {W : World} {base uc : Nat} {up : Option Addr} {M : List (List UInt8 × Dat × Value × Value)} {e : TypeId} (h : W.ownsRow base e 6 (.slice up M.length uc) M.length (flat6 M)) (h1 : ∀ u ∈ flat6 M, u.oneCell' = true) {k : Nat} (hk : k ≤ M.length) : Src W 6 up k (flat6 (M.take k)) := by
 refine ⟨by rw [flat6_length, List.length_take, Nat.min_eq_left hk], ?_, ?_, fun u hu => h1 u (by rw [flat6_split M k]; exact List.mem_append_left _ hu)⟩
 · intro hu
   rcases own_head h with ⟨-, h0⟩ | ⟨g, cap, e0, -⟩
   · omega
   · injection e0 with e0 _ _; rw [hu] at e0; cases e0
 · intro a ha j u hu
   subst ha
   rcases own_head h with ⟨e0, -⟩ | ⟨g, cap, e0, -⟩
   · injection e0 with e0 _ _; cases e0
   · injection e0 with e0 _ e2
     injection e0 with e0
     subst e0
     refine h.cells (g := g) rfl j u ?_
     rw [flat6_split M k, List.getElem?_append_left (List.getElem?_eq_some_iff.1 hu).1]
     exact hu
theorem src6_drop {W : World} {base uc B : Nat} {M : List (List UInt8 × Dat × Value × Value)} {e : TypeId} (h : W.ownsRow base e 6 (.slice (some ⟨B, 0, none⟩) M.length uc) M.length (flat6 M)) (h1 : ∀ u ∈ flat6 M, u.oneCell' = true) {k : Nat} (hk : k < M.length) : Src W 6 (some ⟨B, k * 6, none⟩) (M.length - k) (flat6 (M.drop k)) := by
 refine ⟨by rw [flat6_length, List.length_drop], by simp, ?_, fun u hu => h1 u (by rw [flat6_split M k]; exact List.mem_append_right _ hu)⟩
 intro a ha j u hu
 injection ha with ha
 subst ha
 have hl : (flat6 (M.take k)).length = k * 6 := by rw [flat6_length, List.length_take, Nat.min_eq_left (by omega)]
 have hc := h.cells (g := B) rfl (k * 6 + j) u (by
   rw [flat6_split M k, List.getElem?_append_right (by omega), hl, Nat.add_sub_cancel_left]
   exact hu)
 rw [Lib.add_plain, Nat.zero_add] at hc
 rw [Lib.add_plain]
 exact hc
theorem src6_none {W : World} (p : Option Addr) : Src W 6 p 0 [] := ⟨rfl, fun _ => rfl, fun a _ j u hu => by simp at hu, by simp⟩
theorem own6_lab {W : World} {base uc : Nat} {up : Option Addr} {M : List (List UInt8 × Dat × Value × Value)} {e : TypeId} (h : W.ownsRow base e 6 (.slice up M.length uc) M.length (flat6 M)) : M.length ≤ uc ∧ ∃ B, ∀ (k : Nat) (hk : k < M.length), up = some ⟨B, 0, none⟩ ∧ B < W.heap.size ∧ (∀ i, i < 6 → W.cell? ⟨B, k * 6 + i, none⟩ = (cells6 M[k])[i]?) := by
 rcases own_head h with ⟨e0, h0⟩ | ⟨g, cap, e0, -, hc, hg, -⟩
 · exact ⟨by omega, 0, fun k hk => by omega⟩
 · injection e0 with e0 _ e2
   subst e0; subst e2
   refine ⟨hc, g, fun k hk => ⟨rfl, hg, fun i hi => ?_⟩⟩
   have h6 := flat6_get M k hk i hi
   have hlt : i < (cells6 M[k]).length := by simpa [cells6, cells5] using hi
   rw [List.getElem?_eq_getElem hlt] at h6 ⊢
   have := h.cells (g := g) rfl (k * 6 + i) _ h6
   rw [Lib.add_plain, Nat.zero_add] at this
   exact this
set_option maxRecDepth 100000 in
set_option maxHeartbeats 4000000 in
theorem rdecl_any {W : World} {base : Nat} {vm : Value} {M : List (List UInt8 × Dat × Value × Value)} (hsl : ∀ t ∈ M, ∃ p n c q m k, t.2.2.1 = .slice p n c ∧ t.2.2.2 = .slice q m k) (hown : W.ownsRow base 43 6 vm M.length (flat6 M)) (hM : M.length ≤ 1000000) (lab : List UInt8) :
   Calls Tryz.prog 100 #[vm, .string (S lab)] W fun e w' => e = .returned (.bool (decide (lab ∈ M.map fun t => t.1))) ∧ Below W.heap.size W w' := by
 obtain ⟨up, uc, rfl⟩ := own_form5 hown
 obtain ⟨huc, B, hc⟩ := own6_lab hown
 have HC := Lib.hid hc
 have HSL := Lib.hid hsl
 clear hc hown hsl
 go_enter Tryz.func100, Tryz.ntmps100
 go_wp2_with fail
 go_loopw [9] (fun x wr => ∃ i : Nat, x = .int .i64 (i : Int) ∧ i ≤ M.length ∧ Hid (lab ∉ (M.take i).map fun t => t.1) ∧ Hid (Below W.heap.size W wr)) (fun x _ => M.length - (intOf x).toNat)
 case atStart => exact ⟨0, rfl, Nat.zero_le _, Lib.hid (by simp), Lib.hid (Below.refl _ _)⟩
 case round =>
   obtain ⟨i, rfl, hi, HN, HW⟩ := hrel
   by_cases hlt : i < M.length
   · obtain ⟨rfl, hB, hcs⟩ := HC.out i hlt
     have HTK := Lib.hid (show (M.take (i + 1)).map (fun t => t.1) = (M.take i).map (fun t => t.1) ++ [M[i].1] by rw [List.take_succ_eq_append_getElem hlt, List.map_append]; rfl)
     have HIN := Lib.hid (show M[i].1 ∈ M.map fun t => t.1 from List.mem_map.2 ⟨_, List.getElem_mem hlt, rfl⟩)
     have m0 := (HW.out.cell (p := ⟨B, i * 6 + 0, none⟩) hB).trans (hcs 0 (by omega))
     have m1 := (HW.out.cell (p := ⟨B, i * 6 + 1, none⟩) hB).trans (hcs 1 (by omega))
     have m2 := (HW.out.cell (p := ⟨B, i * 6 + 2, none⟩) hB).trans (hcs 2 (by omega))
     have m3 := (HW.out.cell (p := ⟨B, i * 6 + 3, none⟩) hB).trans (hcs 3 (by omega))
     have m4 := (HW.out.cell (p := ⟨B, i * 6 + 4, none⟩) hB).trans (hcs 4 (by omega))
     have m5 := (HW.out.cell (p := ⟨B, i * 6 + 5, none⟩) hB).trans (hcs 5 (by omega))
     obtain ⟨s1, s2, s3, s4, s5, s6, hs1, hs2⟩ := HSL.out _ (List.getElem_mem hlt)
     generalize M[i] = t at m0 m1 m2 m3 m4 m5 HTK HIN hs1 hs2
     obtain ⟨tl, td, ti, tm⟩ := t
     simp only at hs1 hs2
     subst hs1; subst hs2
     simp [cells6, cells5] at m0 m1 m2 m3 m4 m5
     simp only at HTK HIN
     have z3 : i < uc := by omega
     have hBl : B < wr.heap.size := Nat.lt_of_lt_of_le hB HW.out.size
     have hN := Blk.new wr #[.string (S tl), .int .i64 td.k, .int .i64 td.n, .string (S td.s), .slice s1 s2 s3, .slice s4 s5 s6] 43
     have hbN := alloc_below wr (.cells #[.string (S tl), .int .i64 td.k, .int .i64 td.n, .string (S td.s), .slice s1 s2 s3, .slice s4 s5 s6] 43)
     clear hcs
     go_upto_region 4 with fail
     generalize wr.alloc (.cells #[.string (S tl), .int .i64 td.k, .int .i64 td.n, .string (S td.s), .slice s1 s2 s3, .slice s4 s5 s6] 43) = W4 at hN hbN ⊢
     have n0 := hN.cell 0
     simp at n0
     have hnl := hN.lt
     have HW4 := Lib.hid (HW.out.trans (hbN.mono HW.out.size))
     clear hN hbN m0 m1 m2 m3 m4 m5
     by_cases he : tl = lab
     · have HR := Lib.hid (show decide (lab ∈ M.map fun t => t.1) = true from decide_eq_true (by rw [← he]; exact HIN.out))
       have t1 : (tl == lab) = true := by simpa using he
       clear he HTK HIN
       go_wp2_with fail
       go_ret
       exact ⟨by rw [HR.out]; rfl, HW4.out⟩
     · have t1 : (tl == lab) = false := by simpa using he
       have HN1 := Lib.hid (show lab ∉ (M.take (i + 1)).map fun t => t.1 by
         rw [HTK.out]
         intro h
         rcases List.mem_append.1 h with h | h
         · exact HN.out h
         · exact he (List.mem_singleton.1 h).symm)
       clear he HTK HIN
       go_wp2_with fail
       go_roundw
       case rel => exact ⟨i + 1, by go_num, hlt, HN1, HW4⟩
       case measure => simp [intOf]; omega
   · have HR := Lib.hid (show decide (lab ∈ M.map fun t => t.1) = false from decide_eq_false (by have h := HN.out; rwa [List.take_of_length_le (by omega)] at h))
     go_wp2_with fail
     go_ret
     exact ⟨by rw [HR.out]; rfl, HW.out⟩
def MbrP (W : World) (M : List (List UInt8 × Dat × Value × Value)) (t : List UInt8 × Dat × Value × Value) (e : Ending) (w' : World) : Prop :=
 ∃ vp vc k, e = .returned (.slice vp (M.length + 1) vc) ∧ k ≤ M.length ∧ (k = 0 ∨ ∃ p, M[k - 1]? = some p ∧ Op.bytesLess t.1 p.1 = false) ∧ (∀ p ∈ M.drop k, Op.bytesLess t.1 p.1 = true) ∧
   w'.ownsRow W.heap.size 43 6 (.slice vp (M.length + 1) vc) (M.length + 1) (flat6 (M.take k ++ t :: M.drop k)) ∧ Below W.heap.size W w'
theorem mbr_cells (M : List (List UInt8 × Dat × Value × Value)) (t : List UInt8 × Dat × Value × Value) (k : Nat) : flat6 (M.take k) ++ cells6 t ++ flat6 (M.drop k) = flat6 (M.take k ++ t :: M.drop k) := by
 simp [flat6]
theorem mbr_end (M : List (List UInt8 × Dat × Value × Value)) (t : List UInt8 × Dat × Value × Value) : flat6 (M.take M.length) ++ cells6 t = flat6 (M.take M.length ++ t :: M.drop M.length) := by
 simp [flat6]
theorem own_lower {W : World} {b b' : Nat} {e : TypeId} {s n : Nat} {v : Value} {xs : List Value} (h : W.ownsRow b e s v n xs) (hb : b' ≤ b) : W.ownsRow b' e s v n xs := by
 refine ⟨h.1, ?_⟩
 rcases h.2 with h | ⟨g, cap, cur, rfl, hbg, hg, hr⟩
 · exact .inl h
 · exact .inr ⟨g, cap, cur, rfl, Nat.le_trans hb hbg, hg, hr⟩
set_option maxRecDepth 100000 in
set_option maxHeartbeats 8000000 in
theorem rmember_any {W : World} {base : Nat} {vm : Value} {M : List (List UInt8 × Dat × Value × Value)} (hown : W.ownsRow base 43 6 vm M.length (flat6 M)) (h1 : ∀ u ∈ flat6 M, u.oneCell' = true) (hM : M.length ≤ 1000000) (lab : List UInt8) (d : Dat) (p q : Option Addr) (cap caq : Nat) :
   Calls Tryz.prog 101 #[vm, .agg #[.string (S lab), .int .i64 d.k, .int .i64 d.n, .string (S d.s), .slice p d.its.length cap, .slice q d.mem.length caq]] W (MbrP W M (lab, d, .slice p d.its.length cap, .slice q d.mem.length caq)) := by
 obtain ⟨i0, hi, hz0, hz1, hz2⟩ := info_parts infoMem
 obtain ⟨up, uc, rfl⟩ := own_form5 hown
 obtain ⟨huc, B, hc⟩ := own6_lab hown
 have HC := Lib.hid hc
 have hN := Blk.new W #[.string (S lab), .int .i64 d.k, .int .i64 d.n, .string (S d.s), .slice p d.its.length cap, .slice q d.mem.length caq] 43
 have hbN := alloc_below W (.cells #[.string (S lab), .int .i64 d.k, .int .i64 d.n, .string (S d.s), .slice p d.its.length cap, .slice q d.mem.length caq] 43)
 have HOW := Lib.hid (fun w' (hb : Below W.heap.size W w') => own_under hown hb)
 have HONE := Lib.hid h1
 clear hc hown h1
 go_enter Tryz.func101, Tryz.ntmps101
 go_upto_region 1 with fail
 generalize W.alloc (.cells #[.string (S lab), .int .i64 d.k, .int .i64 d.n, .string (S d.s), .slice p d.its.length cap, .slice q d.mem.length caq] 43) = W1 at hN hbN ⊢
 have HN := Lib.hid hN
 have HW1 := Lib.hid hbN
 clear hN hbN
 go_upto_block 0 with fail
 go_cut [5] (fun v wx => ∃ k : Nat, v = .int .i64 (k : Int) ∧ k ≤ M.length ∧ Hid (k = 0 ∨ ∃ p, M[k - 1]? = some p ∧ Op.bytesLess lab p.1 = false) ∧ Hid (∀ p ∈ M.drop k, Op.bytesLess lab p.1 = true) ∧ Hid (∃ n, wx = W1.drewN n))
 case first =>
   have b0 := HN.out.cell 0
   simp at b0
   have hbl := HN.out.lt
   go_wp2_with fail
   go_loopw [5] (fun x wr => ∃ k : Nat, x = .int .i64 (k : Int) ∧ k ≤ M.length ∧ Hid (∀ p ∈ M.drop k, Op.bytesLess lab p.1 = true) ∧ Hid (∃ n, wr = W1.drewN n)) (fun x _ => (intOf x).toNat)
   case atStart => exact ⟨M.length, rfl, Nat.le_refl _, Lib.hid (by simp), Lib.hid ⟨0, rfl⟩⟩
   case round =>
     obtain ⟨k, rfl, hk, HD, HW⟩ := hrel
     obtain ⟨n0, rfl⟩ := HW.out
     rcases Nat.eq_zero_or_pos k with h0 | h0
     · subst h0
       go_wp2_with fail
       go_quiet (fail)
       go_wp2_with fail
       go_meet
       exact ⟨0, rfl, Nat.zero_le _, Lib.hid (.inl rfl), HD, Lib.hid ⟨n0 + nq, by simp [World.drewN, Nat.add_assoc]⟩⟩
     · obtain ⟨k, rfl⟩ : ∃ j, k = j + 1 := ⟨k - 1, by omega⟩
       obtain ⟨rfl, hB, hcs⟩ := HC.out k (by omega)
       have m0 := (HW1.out.cell (p := ⟨B, k * 6 + 0, none⟩) hB).trans (hcs 0 (by omega))
       have HDR := Lib.hid (show M.drop k = M[k] :: M.drop (k + 1) from List.drop_eq_getElem_cons (by omega))
       have HGE := Lib.hid (show M[k + 1 - 1]? = some M[k] from List.getElem?_eq_getElem (by omega))
       generalize M[k] = t at m0 HDR HGE
       obtain ⟨tl, td, ti, tm⟩ := t
       simp [cells6, cells5] at m0
       have hBl : B < W1.heap.size := Nat.lt_of_lt_of_le hB HW1.out.size
       have z3 : k < uc := by omega
       have z4 : k < M.length := by omega
       clear hcs
       rcases Bool.eq_false_or_eq_true (Op.bytesLess lab tl) with hxy | hxy
       · have HD1 := Lib.hid (show ∀ p ∈ M.drop k, Op.bytesLess lab p.1 = true from by
           rw [HDR.out]
           intro p hp
           rcases List.mem_cons.1 hp with rfl | hp
           · exact hxy
           · exact HD.out p hp)
         go_wp2_with fail
         go_quiet (fail)
         go_wp2_with fail
         go_roundw
         case rel => exact ⟨k, by go_num, by omega, HD1, Lib.hid ⟨n0 + nq, by simp [World.drewN, Nat.add_assoc]⟩⟩
         case measure => simp [intOf]
       · have HE1 := Lib.hid (show ∃ p, M[k + 1 - 1]? = some p ∧ Op.bytesLess lab p.1 = false from ⟨_, HGE.out, hxy⟩)
         go_wp2_with fail
         go_quiet (fail)
         go_wp2_with fail
         go_meet
         exact ⟨k + 1, rfl, hk, Lib.hid (.inr HE1.out), HD, Lib.hid ⟨n0 + nq, by simp [World.drewN, Nat.add_assoc]⟩⟩
 case rest =>
   obtain ⟨k, rfl, hk, HK, HD, HW⟩ := hcut
   obtain ⟨n0, hwc⟩ := HW.out
   have hbc : Below W1.heap.size W1 wc := by rw [hwc]; exact below_drewN (Below.refl _ _) n0
   have hBc := HW1.out.trans (hbc.mono HW1.out.size)
   have hOw := HOW.out _ hBc
   have hNc := HN.out.below hbc
   have b0 := hNc.cell 0
   have b1 := hNc.cell 1
   have b2 := hNc.cell 2
   have b3 := hNc.cell 3
   have b4 := hNc.cell 4
   have b5 := hNc.cell 5
   simp at b0 b1 b2 b3 b4 b5
   have hbl := hNc.lt
   have HBC := Lib.hid hBc
   have HS0 := Lib.hid (src6_take hOw HONE.out hk)
   have HSD := Lib.hid (fun (h : k < M.length) => (show ∃ B', up = some ⟨B', 0, none⟩ ∧ B' < wc.heap.size ∧ Src wc 6 (some ⟨B', k * 6, none⟩) (M.length - k) (flat6 (M.drop k)) from by
     obtain ⟨rfl, hB, -⟩ := HC.out k h
     exact ⟨B, rfl, Nat.lt_of_lt_of_le hB hBc.size, src6_drop hOw HONE.out h⟩))
   have HE0 := Lib.hid (own_empty wc (t := 43) (size := 6))
   have HB0 := Lib.hid (alloc_below wc (.cells #[] 43))
   have HBD1 := Lib.hid (And.intro (show 0 + k ≤ maxLen by unfold maxLen; omega) (show (0 + k) * 96 ≤ 140737488355328 by omega))
   have HBD2 := Lib.hid (And.intro (show k + 1 ≤ maxLen by unfold maxLen; omega) (show (k + 1) * 96 ≤ 140737488355328 by omega))
   have HBD3 := Lib.hid (And.intro (show k + 1 + (M.length - k) ≤ maxLen by unfold maxLen; omega) (show (k + 1 + (M.length - k)) * 96 ≤ 140737488355328 by omega))
   have HS1 := Lib.hid (HS0.out.below HB0.out (fun a ha h0 => by
     rcases Nat.lt_or_ge 0 k with h | h
     · obtain ⟨rfl, hB, -⟩ := HC.out 0 (by omega)
       injection ha with ha
       subst ha
       exact Nat.lt_of_lt_of_le hB hBc.size
     · have : k = 0 := by omega
       subst this
       simp [flat6] at h0))
   clear hbc hBc hOw hNc hwc HW HN HW1 HOW HS0 HC
   have hkuc : k ≤ uc := by omega
   by_cases hkl : k < M.length
   · obtain ⟨B', rfl, hB', hsd⟩ := HSD.out hkl
     have HS3 := Lib.hid hsd
     clear hsd HSD
     go_upto_region 5 with (at_builtin; refine wpList_app _ (by rfl) _ _ 23 (by rfl) wc.heap.size 43 i0 (.agg #[.string ⟨#[]⟩, .int .i64 0, .int .i64 0, .string ⟨#[]⟩, .slice none 0 0, .slice none 0 0]) 6 96 Tryz.underlying23 hi hz0 hz1 hz2 rfl (by decide) (.slice (some ⟨wc.heap.size, 0, none⟩) 0 0) 0 ([]) (by rfl) HE0.out _ _ _ _ (by rfl) HS1.out HBD1.out.1 HBD1.out.2 HB0.out.size ?_; intro v1 x1 hown1 hgrow1 hat1; rw [Nat.zero_add, List.nil_append] at hown1; obtain ⟨u1p, u1c, rfl⟩ := own_form5 hown1; have HO1 := Lib.hid hown1; have HB1 := Lib.hid (below_own HB0.out HE0.out hgrow1 (Nat.le_refl _) HB0.out.size); clear hown1 hgrow1 hat1)
     replace b0 := (HB1.out.cell (p := ⟨W.heap.size, 0, none⟩) hbl).trans b0
     replace b1 := (HB1.out.cell (p := ⟨W.heap.size, 1, none⟩) hbl).trans b1
     replace b2 := (HB1.out.cell (p := ⟨W.heap.size, 2, none⟩) hbl).trans b2
     replace b3 := (HB1.out.cell (p := ⟨W.heap.size, 3, none⟩) hbl).trans b3
     replace b4 := (HB1.out.cell (p := ⟨W.heap.size, 4, none⟩) hbl).trans b4
     replace b5 := (HB1.out.cell (p := ⟨W.heap.size, 5, none⟩) hbl).trans b5
     have hbl2 := Nat.lt_of_lt_of_le hbl HB1.out.size
     go_upto_region 6 with (at_builtin; refine wpList_app _ (by rfl) _ _ 23 (by rfl) wc.heap.size 43 i0 (.agg #[.string ⟨#[]⟩, .int .i64 0, .int .i64 0, .string ⟨#[]⟩, .slice none 0 0, .slice none 0 0]) 6 96 Tryz.underlying23 hi hz0 hz1 hz2 rfl (by decide) (.slice u1p k u1c) k (flat6 (M.take k)) (by rfl) (HO1.out.alloc _) (some ⟨x1.heap.size, 0, none⟩) 1 1 [.string (S lab), .int .i64 d.k, .int .i64 d.n, .string (S d.s), .slice p d.its.length cap, .slice q d.mem.length caq] (by rfl) (new_srcN x1 _ _) HBD2.out.1 HBD2.out.2 (HB1.out.alloc HB1.out.size _).size ?_; intro v2 x2 hown2 hgrow2 hat2; obtain ⟨u2p, u2c, rfl⟩ := own_form5 hown2; have HO2 := Lib.hid hown2; have HB2 := Lib.hid (below_own (HB1.out.alloc HB1.out.size _) (HO1.out.alloc _) hgrow2 (Nat.le_refl _) (HB1.out.alloc HB1.out.size _).size); clear hown2 hgrow2 hat2)
     clear b0 b1 b2 b3 b4 b5 hbl hbl2
     have HS4 := Lib.hid (HS3.out.below HB2.out (fun a ha _ => by injection ha with ha; subst ha; exact hB'))
     go_wp2_with (at_builtin; refine wpList_app _ (by rfl) _ _ 23 (by rfl) wc.heap.size 43 i0 (.agg #[.string ⟨#[]⟩, .int .i64 0, .int .i64 0, .string ⟨#[]⟩, .slice none 0 0, .slice none 0 0]) 6 96 Tryz.underlying23 hi hz0 hz1 hz2 rfl (by decide) (.slice u2p (k + 1) u2c) (k + 1) (flat6 (M.take k) ++ [.string (S lab), .int .i64 d.k, .int .i64 d.n, .string (S d.s), .slice p d.its.length cap, .slice q d.mem.length caq]) (by rfl) HO2.out _ _ _ _ (by rfl) HS4.out HBD3.out.1 HBD3.out.2 HB2.out.size ?_; intro v3 x3 hown3 hgrow3 hat3; obtain ⟨u3p, u3c, rfl⟩ := own_form5 hown3; have HO3 := Lib.hid hown3; have HB3 := Lib.hid (below_own HB2.out HO2.out hgrow3 (Nat.le_refl _) HB2.out.size); clear hown3 hgrow3 hat3)
     go_ret
     exact ⟨u3p, u3c, k, by rw [show k + 1 + (M.length - k) = M.length + 1 by omega]; rfl, hk, HK.out, HD.out, by have h := HO3.out; rw [show k + 1 + (M.length - k) = M.length + 1 by omega] at h; rw [← mbr_cells]; exact own_lower h HBC.out.size, HBC.out.trans (HB3.out.mono HBC.out.size)⟩
   · obtain rfl : k = M.length := by omega
     clear hkl HSD
     go_upto_region 5 with (at_builtin; refine wpList_app _ (by rfl) _ _ 23 (by rfl) wc.heap.size 43 i0 (.agg #[.string ⟨#[]⟩, .int .i64 0, .int .i64 0, .string ⟨#[]⟩, .slice none 0 0, .slice none 0 0]) 6 96 Tryz.underlying23 hi hz0 hz1 hz2 rfl (by decide) (.slice (some ⟨wc.heap.size, 0, none⟩) 0 0) 0 ([]) (by rfl) HE0.out _ _ _ _ (by rfl) HS1.out HBD1.out.1 HBD1.out.2 HB0.out.size ?_; intro v1 x1 hown1 hgrow1 hat1; rw [Nat.zero_add, List.nil_append] at hown1; obtain ⟨u1p, u1c, rfl⟩ := own_form5 hown1; have HO1 := Lib.hid hown1; have HB1 := Lib.hid (below_own HB0.out HE0.out hgrow1 (Nat.le_refl _) HB0.out.size); clear hown1 hgrow1 hat1)
     replace b0 := (HB1.out.cell (p := ⟨W.heap.size, 0, none⟩) hbl).trans b0
     replace b1 := (HB1.out.cell (p := ⟨W.heap.size, 1, none⟩) hbl).trans b1
     replace b2 := (HB1.out.cell (p := ⟨W.heap.size, 2, none⟩) hbl).trans b2
     replace b3 := (HB1.out.cell (p := ⟨W.heap.size, 3, none⟩) hbl).trans b3
     replace b4 := (HB1.out.cell (p := ⟨W.heap.size, 4, none⟩) hbl).trans b4
     replace b5 := (HB1.out.cell (p := ⟨W.heap.size, 5, none⟩) hbl).trans b5
     have hbl2 := Nat.lt_of_lt_of_le hbl HB1.out.size
     go_upto_region 6 with (at_builtin; refine wpList_app _ (by rfl) _ _ 23 (by rfl) wc.heap.size 43 i0 (.agg #[.string ⟨#[]⟩, .int .i64 0, .int .i64 0, .string ⟨#[]⟩, .slice none 0 0, .slice none 0 0]) 6 96 Tryz.underlying23 hi hz0 hz1 hz2 rfl (by decide) (.slice u1p M.length u1c) M.length (flat6 (M.take M.length)) (by rfl) (HO1.out.alloc _) (some ⟨x1.heap.size, 0, none⟩) 1 1 [.string (S lab), .int .i64 d.k, .int .i64 d.n, .string (S d.s), .slice p d.its.length cap, .slice q d.mem.length caq] (by rfl) (new_srcN x1 _ _) HBD2.out.1 HBD2.out.2 (HB1.out.alloc HB1.out.size _).size ?_; intro v2 x2 hown2 hgrow2 hat2; obtain ⟨u2p, u2c, rfl⟩ := own_form5 hown2; have HO2 := Lib.hid hown2; have HB2 := Lib.hid (below_own (HB1.out.alloc HB1.out.size _) (HO1.out.alloc _) hgrow2 (Nat.le_refl _) (HB1.out.alloc HB1.out.size _).size); clear hown2 hgrow2 hat2)
     clear b0 b1 b2 b3 b4 b5 hbl hbl2
     have HBD4 := Lib.hid (And.intro (show M.length + 1 + 0 ≤ maxLen by unfold maxLen; omega) (show (M.length + 1 + 0) * 96 ≤ 140737488355328 by omega))
     have FIN : Hid (∀ (u3p : Option Addr) (u3c : Nat) (x3 : World), Hid (x3.ownsRow wc.heap.size 43 6 (.slice u3p (M.length + 1) u3c) (M.length + 1) (flat6 (M.take M.length) ++ [.string (S lab), .int .i64 d.k, .int .i64 d.n, .string (S d.s), .slice p d.its.length cap, .slice q d.mem.length caq])) → Hid (Below wc.heap.size wc x3) → MbrP W M (lab, d, .slice p d.its.length cap, .slice q d.mem.length caq) (.returned (.slice u3p (M.length + 1) u3c)) x3) :=
       Lib.hid fun u3p u3c x3 ho hb => ⟨u3p, u3c, M.length, rfl, Nat.le_refl _, HK.out, HD.out, by rw [← mbr_end]; exact own_lower ho.out HBC.out.size, HBC.out.trans (hb.out.mono HBC.out.size)⟩
     rcases Nat.lt_or_ge M.length uc with hu | hu
     · have hu1 : ¬ (M.length = uc) := by omega
       have hu2 : ¬ (uc = M.length) := by omega
       clear huc hkuc
       go_wp2_with (at_builtin; refine wpList_app _ (by rfl) _ _ 23 (by rfl) wc.heap.size 43 i0 (.agg #[.string ⟨#[]⟩, .int .i64 0, .int .i64 0, .string ⟨#[]⟩, .slice none 0 0, .slice none 0 0]) 6 96 Tryz.underlying23 hi hz0 hz1 hz2 rfl (by decide) (.slice u2p (M.length + 1) u2c) (M.length + 1) (flat6 (M.take M.length) ++ [.string (S lab), .int .i64 d.k, .int .i64 d.n, .string (S d.s), .slice p d.its.length cap, .slice q d.mem.length caq]) (by rfl) HO2.out _ 0 _ [] (by rfl) (src6_none _) HBD4.out.1 HBD4.out.2 HB2.out.size ?_; intro v3 x3 hown3 hgrow3 hat3; rw [Nat.add_zero, List.append_nil] at hown3; obtain ⟨u3p, u3c, rfl⟩ := own_form5 hown3; have HO3 := Lib.hid hown3; have HB3 := Lib.hid (below_own HB2.out HO2.out hgrow3 (Nat.le_refl _) HB2.out.size); clear hown3 hgrow3 hat3)
       go_ret
       exact FIN.out _ _ _ HO3 HB3
     · obtain rfl : uc = M.length := by omega
       clear huc hkuc hu
       go_wp2_with (at_builtin; refine wpList_app _ (by rfl) _ _ 23 (by rfl) wc.heap.size 43 i0 (.agg #[.string ⟨#[]⟩, .int .i64 0, .int .i64 0, .string ⟨#[]⟩, .slice none 0 0, .slice none 0 0]) 6 96 Tryz.underlying23 hi hz0 hz1 hz2 rfl (by decide) (.slice u2p (M.length + 1) u2c) (M.length + 1) (flat6 (M.take M.length) ++ [.string (S lab), .int .i64 d.k, .int .i64 d.n, .string (S d.s), .slice p d.its.length cap, .slice q d.mem.length caq]) (by rfl) HO2.out _ 0 _ [] (by rfl) (src6_none _) HBD4.out.1 HBD4.out.2 HB2.out.size ?_; intro v3 x3 hown3 hgrow3 hat3; rw [Nat.add_zero, List.append_nil] at hown3; obtain ⟨u3p, u3c, rfl⟩ := own_form5 hown3; have HO3 := Lib.hid hown3; have HB3 := Lib.hid (below_own HB2.out HO2.out hgrow3 (Nat.le_refl _) HB2.out.size); clear hown3 hgrow3 hat3)
       go_ret
       exact FIN.out _ _ _ HO3 HB3
end
section
open Go.RowKit
def cellsF (x : Ln) : List Value := [.int .i64 (x.no : Int), .int .i64 (x.ind : Int), .string (S x.txt)]
def flatF (L : List Ln) : List Value := L.flatMap cellsF
theorem flatF_snoc (L : List Ln) (x : Ln) : flatF (L ++ [x]) = flatF L ++ cellsF x := by unfold flatF; simp
theorem flatF_get : ∀ (L : List Ln) (j : Nat) (x : Ln), L[j]? = some x → (flatF L)[j * 3]? = some (.int .i64 (x.no : Int)) ∧ (flatF L)[j * 3 + 1]? = some (.int .i64 (x.ind : Int)) ∧ (flatF L)[j * 3 + 2]? = some (.string (S x.txt))
 | [], j, x, h => by simp at h
 | y :: r, 0, x, h => by simp at h; subst h; exact ⟨rfl, rfl, rfl⟩
 | y :: r, j + 1, x, h => by
   have := flatF_get r j x (by simpa using h)
   have e : flatF (y :: r) = cellsF y ++ flatF r := by unfold flatF; simp
   have h3 : (cellsF y).length = 3 := rfl
   rw [e, List.getElem?_append_right (by omega), List.getElem?_append_right (by omega), List.getElem?_append_right (by omega), h3, show (j + 1) * 3 - 3 = j * 3 by omega, show (j + 1) * 3 + 1 - 3 = j * 3 + 1 by omega, show (j + 1) * 3 + 2 - 3 = j * 3 + 2 by omega]
   exact this
def LnF (W : World) (v : Value) (L : List Ln) : Prop :=
 ∃ p cap B, v = .slice p L.length cap ∧ ∀ (j : Nat) (h : j < L.length), p = some ⟨B, 0, none⟩ ∧ L.length ≤ cap ∧ B < W.heap.size ∧ W.cell? ⟨B, j * 3, none⟩ = some (.int .i64 (L[j].no : Int)) ∧ W.cell? ⟨B, j * 3 + 1, none⟩ = some (.int .i64 (L[j].ind : Int)) ∧ W.cell? ⟨B, j * 3 + 2, none⟩ = some (.string (S L[j].txt))
theorem own_LnF {W : World} {base : Nat} {e : TypeId} {v : Value} {L : List Ln} (h : W.ownsRow base e 3 v L.length (flatF L)) : LnF W v L := by
 rcases own_head h with ⟨rfl, h0⟩ | ⟨g, cap, rfl, hb, hc, hg, -⟩
 · exact ⟨none, 0, 0, by rw [h0], fun j h => by omega⟩
 · refine ⟨_, cap, g, rfl, fun j h' => ⟨rfl, hc, hg, ?_⟩⟩
   obtain ⟨h1, h2, h3⟩ := flatF_get L j L[j] (List.getElem?_eq_getElem h')
   have c0 := h.cells (g := g) rfl _ _ h1
   have c1 := h.cells (g := g) rfl _ _ h2
   have c2 := h.cells (g := g) rfl _ _ h3
   rw [Lib.add_plain, Nat.zero_add] at c0 c1 c2
   exact ⟨c0, c1, c2⟩
theorem LnF.under {W W' : World} {v : Value} {L : List Ln} (h : LnF W v L) (hb : Below W.heap.size W W') : LnF W' v L := by
 obtain ⟨p, cap, B, rfl, hc⟩ := h
 refine ⟨p, cap, B, rfl, fun j h => ?_⟩
 obtain ⟨h1, h0, h3, h4, h5, h6⟩ := hc j h
 exact ⟨h1, h0, Nat.lt_of_lt_of_le h3 hb.size, (hb.cell (p := ⟨B, j * 3, none⟩) h3).trans h4, (hb.cell (p := ⟨B, j * 3 + 1, none⟩) h3).trans h5, (hb.cell (p := ⟨B, j * 3 + 2, none⟩) h3).trans h6⟩
def RpP (w : World) (n : Nat) (r : Except (Nat × Nat) (Dat × List Ln)) (e : Ending) (w' : World) : Prop :=
 Below w.heap.size w w' ∧
 match r with
 | .error q => e = .returned (.tuple #[.agg #[.int .i64 0, .int .i64 0, .string ⟨#[]⟩, .slice none 0 0, .slice none 0 0], .int .i64 0, .agg #[.int .i64 (q.1 : Int), .int .i64 (q.2 : Int)]])
 | .ok (d, rest) => ∃ vi vm, e = .returned (.tuple #[dv (srtD d) vi vm, .int .i64 ((n - rest.length : Nat) : Int), .agg #[.int .i64 0, .int .i64 0]]) ∧ Rep w' (fun B => w.heap.size ≤ B) (srtD d) vi vm
def bodR (many : Nat) (x : Ln) (more : List UInt8) (r : List Ln) : Except (Nat × Nat) (Dat × List Ln) :=
 match tailY more with
 | none => .error (19, x.no)
 | some w => orY w r (blkR many (x.ind + 2) 0 [] [] r)
theorem blk_err (many : Nat) : ∀ (n : Nat) (ls : List Ln), ls.length < n → ∀ (i : Nat) (k : Int) (its : List Dat) (mem : List (List UInt8 × Dat)) (q : Nat × Nat), blkR many i k its mem ls = .error q → q.1 ≠ 0
 | 0, ls, h => absurd h (Nat.not_lt_zero _)
 | n + 1, ls, hn => by
   intro i k its mem q h
   cases ls with
   | nil =>
     rw [blkR_nil] at h
     split at h
     · injection h with h; rw [← h]; simp
     · cases h
   | cons x r =>
     rw [List.length_cons] at hn
     rw [blkR_cons] at h
     split at h
     · cases h
     · split at h
       · injection h with h; rw [← h]; simp
       · split at h
         · injection h with h; rw [← h]; simp
         · rename_i item l w hdv
           split at h
           · injection h with h; rw [← h]; simp
           · split at h
             · injection h with h; rw [← h]; simp
             · split at h
               · rename_i e he
                 injection h with h
                 subst h
                 cases w with
                 | some d => cases he
                 | none => exact blk_err many n r (by omega) _ _ _ _ _ he
               · rename_i d' r' hw
                 have hl : r'.length ≤ r.length := by
                   cases w with
                   | some d => simp only [orY] at hw; injection hw with hw; injection hw with _ hw; rw [← hw]; exact Nat.le_refl _
                   | none => exact (blkR_end hw).length_le
                 split at h
                 · exact blk_err many n r' (by omega) _ _ _ _ _ h
                 · exact blk_err many n r' (by omega) _ _ _ _ _ h
theorem blkR_err {many i : Nat} {k : Int} {its : List Dat} {mem : List (List UInt8 × Dat)} {ls : List Ln} {q : Nat × Nat} (h : blkR many i k its mem ls = .error q) : q.1 ≠ 0 := blk_err many _ ls (Nat.lt_succ_self _) i k its mem q h
theorem srt_leaf (k n : Int) (s : List UInt8) : srtD (.mk k n s [] []) = .mk k n s [] [] := by rw [srtD_eq]; rfl
theorem bod_none {many : Nat} {x : Ln} {more : List UInt8} {r : List Ln} (h : valueY (more.drop 1) = none) (hm : more ≠ []) : bodR many x more r = .error (19, x.no) := by
 unfold bodR tailY
 rw [if_neg hm, h]
theorem bod_bad {many : Nat} {x : Ln} {more : List UInt8} {r : List Ln} (h : byt more 0 ≠ 32) (hm : more ≠ []) : bodR many x more r = .error (19, x.no) := by
 unfold bodR tailY
 rw [if_neg hm]
 cases valueY (more.drop 1) with
 | none => rfl
 | some d => simp only; rw [if_neg h]
theorem bod_some {many : Nat} {x : Ln} {more : List UInt8} {r : List Ln} {d : Dat} (h : valueY (more.drop 1) = some d) (hb : byt more 0 = 32) (hm : more ≠ []) : bodR many x more r = .ok (d, r) := by
 unfold bodR tailY
 rw [if_neg hm, h]
 simp only
 rw [if_pos hb]
 rfl
set_option maxRecDepth 100000 in
set_option maxHeartbeats 8000000 in
theorem rbody_of {L : List Ln} {v : Value} {many en : Nat} {w : World} (hln : LnF w v L) {i : Nat} (hi : i < L.length) (hL : L.length ≤ 1000000) (hx : L[i].ind ≤ 1000000) (more : List UInt8) (hm : more.length ≤ 1000000)
   (ihp : more = [] → ∀ w', Below w.heap.size w w' → Calls Tryz.prog 67 #[v, .int .i64 ((i : Int) + 1), .int .i64 ((L[i].ind : Int) + 2), .int .i64 (en : Int)] w' (RpP w' L.length (blkR many (L[i].ind + 2) 0 [] [] (L.drop (i + 1))))) :
   Calls Tryz.prog 99 #[v, .int .i64 (i : Int), .int .i64 (en : Int), .string (S more)] w (RpP w L.length (bodR many L[i] more (L.drop (i + 1)))) := by
 have hN : Blk ((w.alloc (.cells #[.int .i64 0, .int .i64 0, .string ⟨#[]⟩, .slice none 0 0, .slice none 0 0] 25)).alloc (.cells #[.int .i64 0, .int .i64 0] 33)) w.heap.size #[.int .i64 0, .int .i64 0, .string ⟨#[]⟩, .slice none 0 0, .slice none 0 0] 25 ∧ Blk ((w.alloc (.cells #[.int .i64 0, .int .i64 0, .string ⟨#[]⟩, .slice none 0 0, .slice none 0 0] 25)).alloc (.cells #[.int .i64 0, .int .i64 0] 33)) (w.heap.size + 1) #[.int .i64 0, .int .i64 0] 33 ∧ Below w.heap.size w ((w.alloc (.cells #[.int .i64 0, .int .i64 0, .string ⟨#[]⟩, .slice none 0 0, .slice none 0 0] 25)).alloc (.cells #[.int .i64 0, .int .i64 0] 33)) := val_two w _ _ _ _
 obtain ⟨lp, lc, B, rfl, hc⟩ := id hln
 obtain ⟨rfl, hcap, hB, c0, c1, -⟩ := hc i hi
 have HIH := Lib.hid ihp
 have hdl : (L.drop (i + 1)).length = L.length - (i + 1) := List.length_drop
 clear hc hln ihp
 generalize L[i] = x at c0 c1 hx HIH ⊢
 have z3 : i < lc := by omega
 by_cases hm0 : more = []
 · have HCL := Lib.hid (HIH.out hm0)
   subst hm0
   have HR := Lib.hid (show bodR many x [] (L.drop (i + 1)) = blkR many (x.ind + 2) 0 [] [] (L.drop (i + 1)) from rfl)
   generalize bodR many x [] (L.drop (i + 1)) = r at HR ⊢
   generalize blkR many (x.ind + 2) 0 [] [] (L.drop (i + 1)) = q5 at HR HCL
   go_enter Tryz.func99, Tryz.ntmps99
   go_upto_region 1 with fail
   generalize (w.alloc (.cells #[.int .i64 0, .int .i64 0, .string ⟨#[]⟩, .slice none 0 0, .slice none 0 0] 25)).alloc (.cells #[.int .i64 0, .int .i64 0] 33) = W at hN ⊢
   have HN := Lib.hid hN
   replace c0 := (HN.out.2.2.cell (p := ⟨B, i * 3, none⟩) hB).trans c0
   replace c1 := (HN.out.2.2.cell (p := ⟨B, i * 3 + 1, none⟩) hB).trans c1
   have hBW := Nat.lt_of_lt_of_le hB HN.out.2.2.size
   have t0 : (S [] == ByteArray.mk #[]) = true := (S_eqb [] []).trans (by decide)
   clear hN HIH hdl
   go_wp2_with fail
   refine (HCL.out _ HN.out.2.2).mono ?_
   rintro e w6 ⟨hb, h6⟩
   have HB6 := Lib.hid (HN.out.2.2.trans (hb.mono HN.out.2.2.size))
   obtain ⟨⟨z0, z1, z2, z3, z4⟩, ⟨y0, y1, y2, y3, y4⟩, hlw⟩ := zero_cells (HN.out.1.below hb)
   have x0 := (HN.out.2.1.below hb).cell 0
   have x1 := (HN.out.2.1.below hb).cell 1
   have v0 := (HN.out.2.1.below hb).frozen 0
   have v1 := (HN.out.2.1.below hb).frozen 1
   simp at x0 x1
   have hlx := (HN.out.2.1.below hb).lt
   clear HCL c0 c1 hBW
   cases q5 with
   | error q =>
     obtain ⟨q1, q2⟩ := q
     subst h6
     clear hb
     go_wp2_with fail
     refine bodyPost_ret (v := .tuple #[.agg #[.int .i64 0, .int .i64 0, .string ⟨#[]⟩, .slice none 0 0, .slice none 0 0], .int .i64 0, .agg #[.int .i64 (q1 : Int), .int .i64 (q2 : Int)]]) (by simp [results, Tryz.results99, go_sem, z0, z1, z2, z3, z4, y0, y1, y2, y3, y4, hlw, x0, x1, v0, v1, hlx]) rfl ?_
     rw [HR.out]
     refine ⟨?_, rfl⟩
     have hbw := HB6.out
     go_grown
     all_goals exact hbw
   | ok q =>
     obtain ⟨d, r'⟩ := q
     obtain ⟨xi, xm, rfl, hx6⟩ := h6
     obtain ⟨xp, xc, rfl, -, -⟩ := hx6.items
     obtain ⟨yp, yc, rfl, -, -⟩ := hx6.members
     have HX6 := Lib.hid (hx6.mono (ok' := fun B => w.heap.size + 2 ≤ B) fun B _ hB => by have := HN.out.2.1.lt; omega)
     clear hb hx6
     generalize hnx : L.length - r'.length = nx
     have HNX := Lib.hid hnx
     clear hnx
     unfold dv
     go_wp2_with fail
     refine bodyPost_ret (v := .tuple #[.agg #[.int .i64 (srtD d).k, .int .i64 (srtD d).n, .string (S (srtD d).s), .slice xp (srtD d).its.length xc, .slice yp (srtD d).mem.length yc], .int .i64 (nx : Int), .agg #[.int .i64 0, .int .i64 0]]) (by simp [results, Tryz.results99, go_sem, z0, z1, z2, z3, z4, y0, y1, y2, y3, y4, hlw, x0, x1, v0, v1, hlx]) rfl ?_
     rw [HR.out]
     have hnx := HNX.out
     subst hnx
     refine ⟨?_, _, _, rfl, ?_⟩
     · have hbw := HB6.out
       go_grown
       all_goals exact hbw
     · exact (((set5_rep HX6.out w.heap.size (fun C hC => by omega) _ _ _ _ _).set ⟨w.heap.size + 1, 0, none⟩ _ (fun C hC => by show w.heap.size + 1 ≠ C; omega)).set ⟨w.heap.size + 1, 1, none⟩ _ (fun C hC => by show w.heap.size + 1 ≠ C; omega)).mono fun B _ hB => by omega
 · have he : more.isEmpty = false := by simpa using hm0
   have hne : ¬ (more = []) := hm0
   have hpos : 0 < more.length := List.length_pos_iff.2 hm0
   have hpos' : (0 : Int) < (more.length : Int) := by omega
   have e1 : sl more 1 more.length = more.drop 1 := sl_rest more 1
   have HVA := Lib.hid (fun w' => rvalue_any (sl more 1 more.length) (by rw [e1, List.length_drop]; omega) w')
   have HBN := Lib.hid (fun (h : valueY (sl more 1 more.length) = none) => bod_none (many := many) (x := x) (r := L.drop (i + 1)) (by rw [← e1]; exact h) hm0)
   have HBB := Lib.hid (fun (h : byt more 0 ≠ 32) => bod_bad (many := many) (x := x) (r := L.drop (i + 1)) h hm0)
   have HBS := Lib.hid (fun d (h : valueY (sl more 1 more.length) = some d) (hb : byt more 0 = 32) => bod_some (many := many) (x := x) (r := L.drop (i + 1)) (by rw [← e1]; exact h) hb hm0)
   have HDL := Lib.hid hdl
   generalize hvv : valueY (sl more 1 more.length) = vv at HVA HBN HBS
   generalize hrr : bodR many x more (L.drop (i + 1)) = r at HBN HBB HBS ⊢
   clear hrr hvv e1 hm0 HIH hdl
   go_enter Tryz.func99, Tryz.ntmps99
   go_upto_region 1 with fail
   generalize (w.alloc (.cells #[.int .i64 0, .int .i64 0, .string ⟨#[]⟩, .slice none 0 0, .slice none 0 0] 25)).alloc (.cells #[.int .i64 0, .int .i64 0] 33) = W at hN ⊢
   have HN := Lib.hid hN
   replace c0 := (HN.out.2.2.cell (p := ⟨B, i * 3, none⟩) hB).trans c0
   have hBW := Nat.lt_of_lt_of_le hB HN.out.2.2.size
   clear hN c1
   go_wp2_with fail
   refine (HVA.out _).mono ?_
   rintro e w3 ⟨k, n, s, rfl, hd, hb⟩
   have hN3 := Blk.new w3 #[.int .i64 k, .int .i64 n, .string (S s), .slice none 0 0, .slice none 0 0] 25
   have hb3 := hb.trans ((alloc_below w3 (.cells #[.int .i64 k, .int .i64 n, .string (S s), .slice none 0 0, .slice none 0 0] 25)).mono hb.size)
   replace c0 := (hb3.cell (p := ⟨B, i * 3, none⟩) hBW).trans c0
   have hBW3 := Nat.lt_of_lt_of_le hBW hb3.size
   clear hb HVA hBW
   go_upto_region 4 with fail
   generalize w3.alloc (.cells #[.int .i64 k, .int .i64 n, .string (S s), .slice none 0 0, .slice none 0 0] 25) = W4 at hN3 hb3 c0 hBW3 ⊢
   have HN4 := Lib.hid hN3
   have HZ4 := Lib.hid (And.intro (HN.out.1.below hb3) (And.intro (HN.out.2.1.below hb3) (HN.out.2.2.trans (hb3.mono HN.out.2.2.size))))
   clear hN3 hb3 HN
   by_cases h32 : byt more 0 = 32
   · have T1 : (((byt more 0).toNat : Int) == 32) = true := by rw [h32]; rfl
     have T2 : (((byt more 0).toNat : Int) != 32) = false := by rw [h32]; rfl
     cases vv with
     | none =>
       have HR := Lib.hid (HBN.out rfl)
       simp only [Option.isSome_none]
       clear HBN HBB HBS hd h32
       go_wp2_with fail
       refine (rfault_any 19 (x.no : Int) _).mono ?_
       rintro e w5 ⟨rfl, hb⟩
       obtain ⟨⟨z0, z1, z2, z3, z4⟩, ⟨y0, y1, y2, y3, y4⟩, hlw⟩ := zero_cells (HZ4.out.1.below hb)
       have x0 := (HZ4.out.2.1.below hb).cell 0
       have x1 := (HZ4.out.2.1.below hb).cell 1
       have v0 := (HZ4.out.2.1.below hb).frozen 0
       have v1 := (HZ4.out.2.1.below hb).frozen 1
       simp at x0 x1
       have hlx := (HZ4.out.2.1.below hb).lt
       have HB5 := Lib.hid (HZ4.out.2.2.trans (hb.mono HZ4.out.2.2.size))
       clear hb c0 hBW3
       go_wp2_with fail
       refine bodyPost_ret (v := .tuple #[.agg #[.int .i64 0, .int .i64 0, .string ⟨#[]⟩, .slice none 0 0, .slice none 0 0], .int .i64 0, .agg #[.int .i64 19, .int .i64 (x.no : Int)]]) (by simp [results, Tryz.results99, go_sem, z0, z1, z2, z3, z4, y0, y1, y2, y3, y4, hlw, x0, x1, v0, v1, hlx]) rfl ?_
       rw [HR.out]
       refine ⟨?_, rfl⟩
       have hbw := HB5.out
       go_grown
       all_goals exact hbw
     | some d =>
       have HR := Lib.hid (HBS.out d rfl h32)
       obtain rfl := hd d rfl
       simp only [Option.isSome_some]
       have o0 := HN4.out.cell 0
       have o1 := HN4.out.cell 1
       have o2 := HN4.out.cell 2
       have o3 := HN4.out.cell 3
       have o4 := HN4.out.cell 4
       simp at o0 o1 o2 o3 o4
       have hol := HN4.out.lt
       obtain ⟨⟨z0, z1, z2, z3, z4⟩, ⟨y0, y1, y2, y3, y4⟩, hlw⟩ := zero_cells HZ4.out.1
       have x0 := HZ4.out.2.1.cell 0
       have x1 := HZ4.out.2.1.cell 1
       have v0 := HZ4.out.2.1.frozen 0
       have v1 := HZ4.out.2.1.frozen 1
       simp at x0 x1
       have hlx := HZ4.out.2.1.lt
       have HB5 := Lib.hid HZ4.out.2.2
       clear HBN HBB HBS hd h32 c0 hBW3
       go_wp2_with fail
       refine bodyPost_ret (v := .tuple #[.agg #[.int .i64 k, .int .i64 n, .string (S s), .slice none 0 0, .slice none 0 0], .int .i64 ((i : Int) + 1), .agg #[.int .i64 0, .int .i64 0]]) (by simp [results, Tryz.results99, go_sem, z0, z1, z2, z3, z4, y0, y1, y2, y3, y4, hlw, x0, x1, v0, v1, hlx]) rfl ?_
       rw [HR.out]
       refine ⟨?_, .slice none 0 0, .slice none 0 0, ?_, ?_⟩
       · have hbw := HB5.out
         go_grown
         all_goals exact hbw
       · rw [srt_leaf, show L.length - (L.drop (i + 1)).length = i + 1 by rw [HDL.out]; omega]
         rfl
       · rw [srt_leaf]; exact rep_leaf _ _ (d := .mk k n s [] []) rfl rfl none none 0 0
   · have T1 : (((byt more 0).toNat : Int) == 32) = false := u8_ne h32
     have T2 : (((byt more 0).toNat : Int) != 32) = true := by
       show (!(((byt more 0).toNat : Int) == 32)) = true
       rw [T1]; rfl
     have HR := Lib.hid (HBB.out h32)
     clear HBN HBB HBS hd h32
     go_wp2_with fail
     refine (rfault_any 19 (x.no : Int) _).mono ?_
     rintro e w5 ⟨rfl, hb⟩
     obtain ⟨⟨z0, z1, z2, z3, z4⟩, ⟨y0, y1, y2, y3, y4⟩, hlw⟩ := zero_cells (HZ4.out.1.below hb)
     have x0 := (HZ4.out.2.1.below hb).cell 0
     have x1 := (HZ4.out.2.1.below hb).cell 1
     have v0 := (HZ4.out.2.1.below hb).frozen 0
     have v1 := (HZ4.out.2.1.below hb).frozen 1
     simp at x0 x1
     have hlx := (HZ4.out.2.1.below hb).lt
     have HB5 := Lib.hid (HZ4.out.2.2.trans (hb.mono HZ4.out.2.2.size))
     clear hb c0 hBW3
     go_wp2_with fail
     refine bodyPost_ret (v := .tuple #[.agg #[.int .i64 0, .int .i64 0, .string ⟨#[]⟩, .slice none 0 0, .slice none 0 0], .int .i64 0, .agg #[.int .i64 19, .int .i64 (x.no : Int)]]) (by simp [results, Tryz.results99, go_sem, z0, z1, z2, z3, z4, y0, y1, y2, y3, y4, hlw, x0, x1, v0, v1, hlx]) rfl ?_
     rw [HR.out]
     refine ⟨?_, rfl⟩
     have hbw := HB5.out
     go_grown
     all_goals exact hbw
end
end Go.Proofs.YtdalfkklkeblaaaGreatDoor
