import Derived.Test.YtdalfkklkeblaaaGreatDoorN25
namespace Go.Proofs.YtdalfkklkeblaaaGreatDoor
set_option linter.unusedSimpArgs false
set_option linter.unusedVariables false
open Go.RowKit
theorem clean_any : ∀ f, f ≤ 16 → ClnIH f
 | 0, _ => by
   intro d vi vm ok w hr hn hl
   obtain ⟨p, cap, rfl, -, -⟩ := hr.items
   obtain ⟨q, caq, rfl, -, -⟩ := hr.members
   exact cleanY_0 d.k d.n d.s p q _ _ cap caq 17 (by decide) w
 | f + 1, hf => by
   intro d vi vm ok w hr hn hl
   obtain ⟨p, cap, rfl, -, -⟩ := hr.items
   obtain ⟨q, caq, rfl, -, -⟩ := hr.members
   have ih := clean_any f (by omega)
   obtain ⟨⟨h1, h6⟩, h2, h4, h5, h7⟩ := plain_iff.1 hn.plain
   have hi := hn.its
   have hm := hn.mem
   have hnd := hn.nodup
   obtain ⟨k, n, s, its, mem⟩ := d
   simp only [Dat.k, Dat.n, Dat.s, Dat.its, Dat.mem] at *
   have hlv : 17 - (f + 1) ≤ 16 := by omega
   have hk : k = 1 ∨ k = 2 ∨ k = 3 ∨ k = 4 ∨ k = 5 ∨ k = 6 := by omega
   rcases hk with rfl | rfl | rfl | rfl | rfl | rfl
   · obtain rfl : n = 0 := by omega
     obtain rfl : s = [] := by simpa using h4
     exact cleanY_1 p q _ _ cap caq _ hlv w
   · obtain rfl : s = [] := by simpa using h4
     exact cleanY_2 n p q _ _ cap caq _ hlv w
   · obtain rfl : s = [] := by simpa using h4
     exact cleanY_3 n p q _ _ cap caq _ hlv w
   · obtain rfl : n = 0 := by omega
     exact cleanY_4 s p q _ _ cap caq _ hlv w
   · obtain rfl : n = 0 := by omega
     obtain rfl : s = [] := by simpa using h4
     obtain rfl : mem = [] := by simpa using h7
     exact clean_list (by omega) ih its p q cap caq hr hi hl
   · obtain rfl : n = 0 := by omega
     obtain rfl : s = [] := by simpa using h4
     obtain rfl : its = [] := by simpa using h5
     exact clean_struct (by omega) ih mem p q cap caq hr hm hnd hl
def makeY (d : Dat) : Dat × Nat := if chk (srtD d) 1 = 0 then (srtD d, 0) else (dat0, chk (srtD d) 1)
def MkP (w : World) (r : Dat × Nat) (e : Ending) (w' : World) : Prop := ∃ vi vm, e = .returned (.tuple #[dv r.1 vi vm, .int .i64 (r.2 : Int)]) ∧ Rep w' (fun B => w.heap.size ≤ B) r.1 vi vm ∧ Below w.heap.size w w'
set_option maxRecDepth 100000 in
set_option maxHeartbeats 4000000 in
theorem make_any {d : Dat} {vi vm : Value} {ok : Nat → Prop} {w : World} (hr : Rep w ok d vi vm) (hn : Neat d) (hl : limD d = true) :
   Calls Tryz.prog 39 #[.agg #[.int .i64 d.k, .int .i64 d.n, .string (S d.s), vi, vm]] w (MkP w (makeY d)) := by
 obtain ⟨m1, m2⟩ := make_srt hn
 have hlc := lim_cln 16 d hl
 have HCL := Lib.hid (fun w' (hb : Below w.heap.size w w') => show Calls Tryz.prog 65 #[.agg #[.int .i64 d.k, .int .i64 d.n, .string (S d.s), vi, vm], .int .i64 1] w' (ClY w' (clnF 16 d)) from clean_any 16 (Nat.le_refl _) d vi vm ok w' (hr.under hb) hn hl)
 have HMK := Lib.hid (show makeY d = if chk (clnF 16 d) 1 = 0 then (clnF 16 d, 0) else (dat0, chk (clnF 16 d) 1) by
   unfold makeY
   rw [m1]
   by_cases h0 : chk (srtD d) 1 = 0
   · rw [if_pos h0, if_pos h0, m2 h0]
   · rw [if_neg h0, if_neg h0])
 obtain ⟨p, cap, rfl, -, -⟩ := hr.items
 obtain ⟨q, caq, rfl, -, -⟩ := hr.members
 clear m1 m2 hr hn hl
 generalize makeY d = r at HMK ⊢
 generalize clnF 16 d = c at HCL HMK hlc
 have HLC := Lib.hid hlc
 clear hlc
 go_enter Tryz.func39, Tryz.ntmps39
 have h2 := val_two w #[.int .i64 d.k, .int .i64 d.n, .string (S d.s), .slice p d.its.length cap, .slice q d.mem.length caq] #[.int .i64 0, .int .i64 0, .string ⟨#[]⟩, .slice none 0 0, .slice none 0 0] 25 25
 go_upto_region 1 with fail
 generalize (w.alloc (.cells #[.int .i64 d.k, .int .i64 d.n, .string (S d.s), .slice p d.its.length cap, .slice q d.mem.length caq] 25)).alloc (.cells #[.int .i64 0, .int .i64 0, .string ⟨#[]⟩, .slice none 0 0, .slice none 0 0] 25) = W at h2 ⊢
 have b0 := h2.1.cell 0
 have b1 := h2.1.cell 1
 have b2 := h2.1.cell 2
 have b3 := h2.1.cell 3
 have b4 := h2.1.cell 4
 simp at b0 b1 b2 b3 b4
 have H2 := Lib.hid h2
 clear h2
 go_wp2_with fail
 refine (HCL.out _ H2.out.2.2).mono ?_
 rintro e w1 ⟨xi, xm, rfl, hrep, hb⟩
 have HCK := Lib.hid (fun w' (hb : Below w1.heap.size w1 w') => Check_any (hrep.under hb) HLC.out)
 obtain ⟨xp, xc, rfl, -, -⟩ := hrep.items
 obtain ⟨yp, yc, rfl, -, -⟩ := hrep.members
 have hN := Blk.new w1 #[.int .i64 c.k, .int .i64 c.n, .string (S c.s), .slice xp c.its.length xc, .slice yp c.mem.length yc] 25
 have hbN := (Below.refl w1.heap.size w1).alloc (Nat.le_refl _) (.cells #[.int .i64 c.k, .int .i64 c.n, .string (S c.s), .slice xp c.its.length xc, .slice yp c.mem.length yc] 25)
 have HR1 := Lib.hid ((H2.out.2.1.below hb).below hbN)
 have hb1 := H2.out.2.2.trans (hb.mono H2.out.2.2.size)
 have HB1 := Lib.hid (hb1.trans (hbN.mono hb1.size))
 have HX1 := Lib.hid (hrep.under hbN)
 have HWW := Lib.hid H2.out.2.1.lt
 clear b0 b1 b2 b3 b4 hrep hb H2 HCL hb1
 unfold dv
 go_upto_region 2 with fail
 generalize w1.alloc (.cells #[.int .i64 c.k, .int .i64 c.n, .string (S c.s), .slice xp c.its.length xc, .slice yp c.mem.length yc] 25) = W1 at hN hbN HR1 HB1 HX1 ⊢
 have n0 := hN.cell 0
 have n1 := hN.cell 1
 have n2 := hN.cell 2
 have n3 := hN.cell 3
 have n4 := hN.cell 4
 simp at n0 n1 n2 n3 n4
 have HN := Lib.hid hN
 have HBN := Lib.hid hbN
 clear hN hbN
 go_wp2_with fail
 refine (HCK.out _ HBN.out).mono ?_
 rintro e w2 ⟨rfl, hb⟩
 have hN2 := HN.out.below hb
 have hR2 := HR1.out.below hb
 have HB2 := Lib.hid (HB1.out.trans (hb.mono HB1.out.size))
 have HX2 := Lib.hid (HX1.out.under hb)
 clear n0 n1 n2 n3 n4 hb
 have n0 := hN2.cell 0
 have n1 := hN2.cell 1
 have n2 := hN2.cell 2
 have n3 := hN2.cell 3
 have n4 := hN2.cell 4
 have z0 := hR2.cell 0
 have z1 := hR2.cell 1
 have z2 := hR2.cell 2
 have z3 := hR2.cell 3
 have z4 := hR2.cell 4
 have y0 := hR2.frozen 0
 have y1 := hR2.frozen 1
 have y2 := hR2.frozen 2
 have y3 := hR2.frozen 3
 have y4 := hR2.frozen 4
 simp at n0 n1 n2 n3 n4 z0 z1 z2 z3 z4
 have hlw := hR2.lt
 clear hN2 hR2
 generalize hck : chk c 1 = ck at HMK ⊢
 clear hck
 by_cases h0 : ck = 0
 · subst h0
   have HR := Lib.hid (show r = (c, 0) by rw [HMK.out, if_pos rfl])
   go_wp2_with fail
   refine bodyPost_ret (v := .tuple #[dv c (.slice xp c.its.length xc) (.slice yp c.mem.length yc), .int .i64 0]) (by simp [results, Tryz.results39, go_sem, dv, z0, z1, z2, z3, z4, y0, y1, y2, y3, y4, hlw]) rfl ?_
   rw [HR.out]
   refine ⟨_, _, rfl, ?_, ?_⟩
   · have hw := HWW.out
     refine Rep.mono (fun B _ hB => ?_) (((((HX2.out.set _ _ fun B hB => ?_).set _ _ fun B hB => ?_).set _ _ fun B hB => ?_).set _ _ fun B hB => ?_).set _ _ fun B hB => ?_)
     · omega
     all_goals (show w.heap.size + 1 ≠ B; omega)
   · have hbw := HB2.out
     go_grown
     all_goals exact hbw
 · have HR := Lib.hid (show r = (dat0, ck) by rw [HMK.out, if_neg h0])
   have t1 : ((ck : Int) != 0) = true := by simp; omega
   have t2 : ((ck : Int) == 0) = false := by simp; omega
   have t3 : ¬ ((ck : Int) = 0) := by omega
   clear h0
   go_wp2_with fail
   refine bodyPost_ret (v := .tuple #[dv dat0 (.slice none 0 0) (.slice none 0 0), .int .i64 (ck : Int)]) (by simp [results, Tryz.results39, go_sem, dv, dat0, Dat.k, Dat.n, Dat.s, show S [] = ⟨#[]⟩ from rfl, z0, z1, z2, z3, z4, y0, y1, y2, y3, y4, hlw]) rfl ?_
   rw [HR.out]
   refine ⟨_, _, rfl, rep_leaf _ _ rfl rfl none none 0 0, ?_⟩
   have hbw := HB2.out
   go_grown
   all_goals exact hbw
end Go.Proofs.YtdalfkklkeblaaaGreatDoor
