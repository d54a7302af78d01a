import Derived.Test.YtdalfkklkeblaaaGreatDoorN31
namespace Go.Proofs.YtdalfkklkeblaaaGreatDoor
set_option linter.unusedSimpArgs false
set_option linter.unusedVariables false
open Go.RowKit
set_option maxRecDepth 100000 in
set_option maxHeartbeats 8000000 in
theorem lawYamltextReads_of (l : List UInt8) (w : World) (hE : StOk w) (hP : ∀ l : List UInt8, l.length ≤ 1000000 → ParseAt w l) (hQ : ∀ l : List UInt8, l.length ≤ 1000000 → ∀ w', Calls Tryz.prog 19 #[.string (S l)] w' (PrsP w' (parseY l))) :
   Calls Tryz.prog 4 #[.string (S l)] w fun e w' => e = .returned (.bool true) ∧ Below w.heap.size w w' := by
 have HAL := Lib.hid (fun X (hb : Below w.heap.size w X) => alive_of X (hE.below hb) (fun l hl w' hb' => hP l hl w' (hb.trans (hb'.mono hb.size))))
 by_cases hbig : 2000 < l.length
 · have b1 : (2000 : Int) < (l.length : Int) := by omega
   have b2 : decide ((2000 : Int) < (l.length : Int)) = true := decide_eq_true b1
   clear hP hQ hE
   go_enter Tryz.func4, Tryz.ntmps4
   go_wp2_with fail
   refine (HAL.out _ (Below.refl _ _)).mono ?_
   rintro e w1 ⟨rfl, hb⟩
   have HB := Lib.hid hb
   clear hb
   go_wp2_with fail
   go_ret
   exact ⟨rfl, HB.out⟩
 have b1 : ¬ ((2000 : Int) < (l.length : Int)) := by omega
 have b2 : decide ((2000 : Int) < (l.length : Int)) = false := decide_eq_false b1
 have HPP := Lib.hid (hP l (by omega) w (Below.refl _ _))
 have HPR := Lib.hid (hQ l (by omega))
 have HLR := Lib.hid (parse_limY (l := l) (by omega))
 generalize parseY l = r at HPP HPR HLR
 obtain ⟨d, en, ep⟩ := r
 simp only at HLR
 clear hP hQ hE hbig
 go_enter Tryz.func4, Tryz.ntmps4
 go_wp2_with fail
 refine HPP.out.mono ?_
 rintro e w1 hp
 obtain ⟨p, cap, q, caq, rfl, hr, hb⟩ := hp.open
 simp only at hr ⊢
 have hn := val_two w1 #[.int .i64 d.k, .int .i64 d.n, .string (S d.s), .slice p d.its.length cap, .slice q d.mem.length caq] #[.int .i64 (en : Int), .int .i64 (ep : Int)] 25 33
 have HB1 := Lib.hid hb
 have HR1 := Lib.hid hr
 clear hb hr hp HPP
 go_upto_region 4 with fail
 generalize (w1.alloc (.cells #[.int .i64 d.k, .int .i64 d.n, .string (S d.s), .slice p d.its.length cap, .slice q d.mem.length caq] 25)).alloc (.cells #[.int .i64 (en : Int), .int .i64 (ep : Int)] 33) = w2 at hn ⊢
 have HB2 := Lib.hid (HB1.out.trans (hn.2.2.mono HB1.out.size))
 have HR2 := Lib.hid (HR1.out.under hn.2.2)
 have K2 := Lib.hid (And.intro hn.1 hn.2.1)
 clear hn HB1 HR1
 go_wp2_with fail
 refine (HPR.out _).mono ?_
 rintro e w3 hp
 obtain ⟨p3, cap3, q3, caq3, rfl, hr, hb⟩ := hp.open
 simp only at hr ⊢
 have hn := val_two w3 #[.int .i64 d.k, .int .i64 d.n, .string (S d.s), .slice p3 d.its.length cap3, .slice q3 d.mem.length caq3] #[.int .i64 (en : Int), .int .i64 (ep : Int)] 25 33
 have HB3 := Lib.hid (HB2.out.trans (hb.mono HB2.out.size))
 have HR3 := Lib.hid (And.intro (HR2.out.under hb) hr)
 have K3 := Lib.hid (And.intro (K2.out.1.below hb) (K2.out.2.below hb))
 clear hb hr hp HB2 HR2 K2 HPR
 go_upto_region 5 with fail
 generalize (w3.alloc (.cells #[.int .i64 d.k, .int .i64 d.n, .string (S d.s), .slice p3 d.its.length cap3, .slice q3 d.mem.length caq3] 25)).alloc (.cells #[.int .i64 (en : Int), .int .i64 (ep : Int)] 33) = w4 at hn ⊢
 have HB4 := Lib.hid (HB3.out.trans (hn.2.2.mono HB3.out.size))
 have HR4 := Lib.hid (And.intro (HR3.out.1.under hn.2.2) (HR3.out.2.under hn.2.2))
 have HF4 := Lib.hid (And.intro (K3.out.2.below hn.2.2) hn.2.1)
 have hA := K3.out.1.below hn.2.2
 have c0 := hA.cell 0
 have c1 := hA.cell 1
 have c2 := hA.cell 2
 have c3 := hA.cell 3
 have c4 := hA.cell 4
 have d0 := hn.1.cell 0
 have d1 := hn.1.cell 1
 have d2 := hn.1.cell 2
 have d3 := hn.1.cell 3
 have d4 := hn.1.cell 4
 simp at c0 c1 c2 c3 c4 d0 d1 d2 d3 d4
 have hal := hA.lt
 have hdl := hn.1.lt
 clear hn hA HB3 HR3 K3
 have t1 : ((en : Int) == (en : Int)) = true := beq_self_eq_true _
 have t2 : ((ep : Int) == (ep : Int)) = true := beq_self_eq_true _
 go_wp2_with fail
 refine (dSame_any (SizeOf.sizeOf d + 1) d d (Nat.lt_succ_self _) _ _ _ _ _ _ _ HR4.out.1 HR4.out.2 HLR.out HLR.out).mono ?_
 rintro e w6 ⟨r, rfl, hr, hb⟩
 obtain rfl : r = true := hr.2 rfl
 have HB6 := Lib.hid (HB4.out.trans (hb.mono HB4.out.size))
 have e0 := (HF4.out.1.below hb).cell 0
 have e1 := (HF4.out.1.below hb).cell 1
 have g0 := (HF4.out.2.below hb).cell 0
 have g1 := (HF4.out.2.below hb).cell 1
 simp at e0 e1 g0 g1
 have hel := (HF4.out.1.below hb).lt
 have hgl := (HF4.out.2.below hb).lt
 clear hr hb HB4 HR4 HF4 c0 c1 c2 c3 c4 d0 d1 d2 d3 d4 hal hdl
 go_wp2_with fail
 refine (HAL.out _ HB6.out).mono ?_
 rintro e w7 ⟨rfl, hb⟩
 have HB7 := Lib.hid (HB6.out.trans (hb.mono HB6.out.size))
 clear hb HB6 e0 e1 g0 g1 hel hgl
 go_wp2_with fail
 go_ret
 exact ⟨rfl, HB7.out⟩
end Go.Proofs.YtdalfkklkeblaaaGreatDoor
