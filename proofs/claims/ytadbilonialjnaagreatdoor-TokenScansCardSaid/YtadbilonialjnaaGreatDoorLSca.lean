/- Walk of the specification's Scan: the tokens of a text, or the first fault. -/
import Derived.Test.YtadbilonialjnaaGreatDoorTkZ
import Derived.Test.YtadbilonialjnaaGreatDoorTkJ
import Derived.Test.YtadbilonialjnaaGreatDoorTkM
import Derived.Test.YtadbilonialjnaaGreatDoorTkS
namespace Go.Proofs.YtadbilonialjnaaGreatDoor
section
open Go.RowKit

/-- the blocks of the specification's Scan: the fault, the tokens -/
structure RsS (N : Nat) (w W : World) (v : Value) (L : List Tok) : Prop where
  ft : Blk W N #[.int .i64 0, .int .i64 0] 26
  oo : W.ownsRow (N + 1) 32 4 v L.length (flatT L)
  bel : Below N w W
theorem RsS.lt {N : Nat} {w W : World} {v : Value} {L : List Tok} (h : RsS N w W v L) : N < W.heap.size := h.ft.lt
theorem RsS.step {N : Nat} {w W W' : World} {v : Value} {L : List Tok} (h : RsS N w W v L) (hb : Below W.heap.size W W') : RsS N w W' v L :=
  ⟨h.ft.below hb, own_under h.oo hb, h.bel.trans (hb.mono (Nat.le_of_lt h.lt))⟩
theorem RsS.alloc {N : Nat} {w W : World} {v : Value} {L : List Tok} (h : RsS N w W v L) (o : Obj) : RsS N w (W.alloc o) v L :=
  h.step ((Below.refl _ _).alloc (Nat.le_refl _) _)
theorem RsS.app {N : Nat} {w W : World} {v : Value} {L : List Tok} {o : Obj} {v' : Value} {w1 : World} (h : RsS N w W v L) (x : Tok) (hg : (W.alloc o).grownBy w1 v.ownBlock)
    (ho : w1.ownsRow (N + 1) 32 4 v' (L.length + 1) (flatT L ++ cellsT x)) : RsS N w w1 v' (L ++ [x]) :=
  ⟨(h.ft.alloc _).kept hg (own_ne h.oo (Nat.lt_succ_self _)), by rw [flatT_snoc, List.length_append]; exact ho, own_below2 h.bel h.oo (Nat.le_succ _) hg (Nat.le_of_lt h.lt)⟩
theorem RsS.start (w : World) : RsS w.heap.size w (w.alloc (.cells #[.int .i64 0, .int .i64 0] 26)) (.slice none 0 0) [] :=
  ⟨Blk.new w _ _, ⟨rfl, .inl ⟨rfl, rfl⟩⟩, (Below.refl _ _).alloc (Nat.le_refl _) _⟩
theorem own_lt {W : World} {b : Nat} {e : TypeId} {s : Nat} {v : Value} {k : Nat} {xs : List Value} (h : W.ownsRow b e s v k xs) (j : Nat) (ej : v.ownBlock = some j) : j < W.heap.size := by
  obtain ⟨-, cur, hc⟩ := own_base h j ej
  exact (Array.getElem?_eq_some_iff.1 hc).1
theorem tok_kept {W w3 : World} {cs : Array Value} {t : TypeId} {o : Obj} {b : Nat} {e : TypeId} {s : Nat} {v : Value} {k : Nat} {xs : List Value} (hg : ((W.alloc (.cells cs t)).alloc o).grownBy w3 v.ownBlock) (h : W.ownsRow b e s v k xs) : Blk w3 W.heap.size cs t :=
  ((Blk.new W cs t).alloc o).kept hg (fun e => absurd (own_lt h _ e.symm) (Nat.lt_irrefl _))
theorem cells_new1 (w : World) (A : Obj) (vs : List Value) (t : TypeId) : ∀ j u, vs[j]? = some u → ((w.alloc A).alloc (.cells vs.toArray t)).cell? ((⟨w.heap.size + 1, 0, none⟩ : Addr).add j) = some u := by
  have h := cells_new (w.alloc A) vs t
  rw [World.size_alloc] at h
  exact h
def scanEnd : Except Nat (List Tok) → List Tok × Nat × Nat
  | .ok l => (l, 0, 0)
  | .error i => ([], 8, i)
theorem scanT_end {nb : List UInt8 → Bool} {s : List UInt8} (h : s.length ≤ 65536) : scanT nb s = scanEnd (tkScan nb s.length s 0 false []) := by
  unfold scanT
  rw [if_neg (by omega)]
  cases tkScan nb s.length s 0 false [] <;> rfl
set_option maxRecDepth 100000 in
set_option maxHeartbeats 4000000 in
theorem refScan_any (s : List UInt8) (hl : s.length ≤ 60000) (w : World) : Calls Tryz.prog 6 #[.string (S s)] w (ScanR s w) := by
  obtain ⟨i0, hi, hz0, hz1, hz2⟩ := info_parts infoTok
  have hq := scanT_end (nb := nbOk) (s := s) (by omega)
  obtain ⟨Q, hQ⟩ : ∃ Q, tkScan nbOk s.length s 0 false [] = Q := ⟨_, rfl⟩
  rw [hQ] at hq
  have HT := Lib.hid hq
  have HQ0 := Lib.hid (show Q = tkScan nbOk s.length (s.drop 0) 0 false [] from hQ.symm)
  clear hq hQ
  have hbig : decide ((65536 : Int) < (s.length : Int)) = false := decide_eq_false (by omega)
  go_enter Tryz.func6, Tryz.ntmps6
  go_wp2_with fail
  clear hbig
  have HI := Lib.hid (RsS.start w)
  generalize w.alloc (.cells #[.int .i64 0, .int .i64 0] 26) = w0 at *
  obtain ⟨N, hN⟩ : ∃ N, w.heap.size = N := ⟨_, rfl⟩
  rw [hN] at HI ⊢
  have HN := Lib.hid hN
  clear hN
  go_loopw [4, 5] (fun v z wr => ∃ (a f : Nat) (L : List Tok) (ln : Bool), z = .int .i64 (a : Int) ∧ a ≤ s.length ∧ L.length ≤ a ∧ Hid (RsS N w wr v L ∧ LnIs s a L ln ∧ Q = tkScan nbOk f (s.drop a) a ln L ∧ s.length - a ≤ f)) (fun _ z _ => s.length - (intOf z).toNat)
  case atStart => exact ⟨0, s.length, [], false, rfl, by omega, by simp, Lib.hid ⟨HI.out, ln_start s, HQ0.out, by omega⟩⟩
  case round =>
    clear HI HQ0 w0
    obtain ⟨a, f, L, ln, rfl, ha, hLa, HR⟩ := hrel
    obtain ⟨hS, hln, hq, hf⟩ := HR.out
    clear HR
    have HS := Lib.hid hS
    have HQ := Lib.hid hq
    have HL := Lib.hid hln
    have d0 := hS.ft.cell 0
    have d1 := hS.ft.cell 1
    have g0 := hS.ft.frozen 0
    have g1 := hS.ft.frozen 1
    have hsz := hS.lt
    clear hq hln hS
    by_cases hlt : a < s.length
    · obtain ⟨g, rfl⟩ : ∃ g, f = g + 1 := ⟨f - 1, by omega⟩
      have b0 : (0 : Int) ≤ (a : Int) := by omega
      have b1 : (a : Int) < (s.length : Int) := by omega
      by_cases hbl : byt s a = 32 ∨ byt s a = 9 ∨ byt s a = 13
      · have h10 : ¬ byt s a = 10 := by rcases hbl with h | h | h <;> rw [h] <;> decide
        have HN2 := Lib.hid (HQ.out.trans (tkScan_blank (L := L) (f := g) (nb := nbOk) hlt (fun h => h10 h.1) (.inr hbl)))
        have HL2 := Lib.hid (ln_blank HL.out hlt h10)
        have hw : (((byt s a).toNat : Int) == 32) = true ∨ ((((byt s a).toNat : Int) == 32) = false ∧ (((byt s a).toNat : Int) == 9) = true) ∨ ((((byt s a).toNat : Int) == 32) = false ∧ (((byt s a).toNat : Int) == 9) = false ∧ (((byt s a).toNat : Int) == 13) = true) := by
          rcases hbl with h | h | h <;> rw [h]
          · exact .inl rfl
          · exact .inr (.inl ⟨rfl, rfl⟩)
          · exact .inr (.inr ⟨rfl, rfl, rfl⟩)
        clear hbl h10
        rcases hw with T1 | ⟨T1, T2⟩ | ⟨T1, T2, T3⟩
        all_goals
          go_wp2_with fail
          go_roundw
          case rel => exact ⟨a + 1, g, L, ln, by go_num, by omega, by omega, Lib.hid ⟨HS.out, HL2.out, HN2.out, by omega⟩⟩
          case measure => simp [intOf]; omega
      · have T1 : (((byt s a).toNat : Int) == 32) = false := u8_ne (d := 32) fun h => hbl (.inl h)
        have T2 : (((byt s a).toNat : Int) == 9) = false := u8_ne (d := 9) fun h => hbl (.inr (.inl h))
        have T3 : (((byt s a).toNat : Int) == 13) = false := u8_ne (d := 13) fun h => hbl (.inr (.inr h))
        by_cases h10 : byt s a = 10
        · have T4 : (((byt s a).toNat : Int) == 10) = true := byte_test (d := 10) h10
          have HV := Lib.hid (own_SlT HS.out.oo)
          cases ln with
          | true =>
            have HN2 := Lib.hid (HQ.out.trans (tkScan_line (L := L) (f := g) (nb := nbOk) hlt h10))
            have HL2 := Lib.hid (ln_line HL.out)
            clear hbl h10
            go_wp2_with fail
            refine (rline_any s _ L a _ (by omega) (by omega) HV.out (by omega) HL.out.2).mono ?_
            rintro e w1 ⟨rfl, hb1⟩
            rw [HL.out.1]
            have HS1 := Lib.hid (HS.out.step hb1)
            clear hb1 d0 d1 g0 g1 hsz
            have hsz := HS1.out.lt
            go_wp2_with (at_builtin; refine wpList_append_own _ rfl _ _ 23 rfl (N + 1) 32 i0 (.agg #[.int .i64 0, .string ⟨#[]⟩, .int .i64 0, .int .i64 0]) 4 40 Tryz.underlying23 hi hz0 hz1 hz2 rfl (by decide) _ _ _ rfl (HS1.out.alloc _).oo ⟨w1.heap.size, 0, none⟩ 1 1 [.int .i64 7, .string ⟨#[10]⟩, .int .i64 (a : Int), .int .i64 ((a : Int) + 1)] rfl rfl (cells_new w1 _ _) (by simp [Value.oneCell']) (by unfold maxLen; omega) (by omega) (by simp; omega) ?_; intro v' w3 hown' hgrow _; have HS3 := Lib.hid (HS1.out.app ⟨7, [10], a, a + 1⟩ hgrow hown'); clear hgrow hown')
            go_roundw
            case rel => exact ⟨a + 1, g, _, false, by go_num, by omega, by simp; omega, Lib.hid ⟨HS3.out, HL2.out, HN2.out, by omega⟩⟩
            case measure => simp [intOf]; omega
          | false =>
            have HN2 := Lib.hid (HQ.out.trans (tkScan_blank (L := L) (f := g) (nb := nbOk) hlt (fun h => by simp at h) (.inl h10)))
            have HL2 := Lib.hid (ln_skip HL.out)
            clear hbl h10
            go_wp2_with fail
            refine (rline_any s _ L a _ (by omega) (by omega) HV.out (by omega) HL.out.2).mono ?_
            rintro e w1 ⟨rfl, hb1⟩
            rw [HL.out.1]
            have HS1 := Lib.hid (HS.out.step hb1)
            clear hb1 d0 d1 g0 g1 hsz
            go_wp2_with fail
            go_roundw
            case rel => exact ⟨a + 1, g, _, false, by go_num, by omega, by omega, Lib.hid ⟨HS1.out, HL2.out, HN2.out, by omega⟩⟩
            case measure => simp [intOf]; omega
        · have T4 : (((byt s a).toNat : Int) == 10) = false := u8_ne (d := 10) h10
          have hq := HQ.out.trans (tkScan_next (L := L) (f := g) (ln := ln) (nb := nbOk) hlt (fun h => h.elim h10 hbl))
          have HX := Lib.hid (rnext_any s hl a hlt)
          have hlen := fun k n x => tkNext_len (nb := nbOk) (m := s.drop a) (by rw [List.length_drop]; omega) (k := k) (n := n) (x := x)
          have hll := fun k n x => ln_next (nb := nbOk) HL.out (k := k) (n := n) (x := x)
          unfold RNx at HX
          obtain ⟨o, ho⟩ : ∃ o, tkNext nbOk (s.drop a) = o := ⟨_, rfl⟩
          rw [ho] at hq HX hlen hll
          clear ho hbl h10
          cases o with
          | none =>
            have HN2 := Lib.hid (show scanT nbOk s = ([], 8, a) by rw [HT.out, hq]; rfl)
            clear hq hlen hll
            go_wp2_with fail
            refine (HX.out _).mono ?_
            rintro e w1 ⟨⟨k, x, p, q, rfl⟩, hb1⟩
            have HS0 := Lib.hid (HS.out.step hb1)
            clear hb1 d0 d1 g0 g1 hsz
            have hsz := HS0.out.lt
            unfold tokV
            go_upto_region 13 with fail
            have HS1 := Lib.hid (HS0.out.alloc (.cells #[.int .i64 (k : Int), .string (S x), .int .i64 (p : Int), .int .i64 (q : Int)] 32))
            clear hsz
            generalize w1.alloc (.cells #[.int .i64 (k : Int), .string (S x), .int .i64 (p : Int), .int .i64 (q : Int)] 32) = W5 at *
            have hsz := HS1.out.lt
            have d0 := HS1.out.ft.cell 0
            have d1 := HS1.out.ft.cell 1
            have g0 := HS1.out.ft.frozen 0
            have g1 := HS1.out.ft.frozen 1
            go_wp2_with fail
            exact bodyPost_ret (v := .tuple #[.slice none 0 0, .agg #[.int .i64 8, .int .i64 (a : Int)]]) (by simp [results, Tryz.results6, go_sem, d0, d1]) rfl (scan_ret HN2.out (by have h := HS1.out.bel; rw [HN.out]; go_grown) (own_none _ _))
          | some o =>
            obtain ⟨k, x, n⟩ := o
            simp only at hq HX
            obtain ⟨hn1, hn2⟩ := hlen k n x rfl
            rw [List.length_drop] at hn2
            have HN2 := Lib.hid hq
            have HL2 := Lib.hid (hll k n x rfl)
            clear hq hlen hll
            go_wp2_with fail
            refine (HX.out _).mono ?_
            rintro e w1 ⟨rfl, hb1⟩
            have HS1 := Lib.hid (HS.out.step hb1)
            clear hb1 d0 d1 g0 g1 hsz
            have hsz := HS1.out.lt
            unfold tokV
            go_wp2_with (at_builtin; refine wpList_append_own _ rfl _ _ 23 rfl (N + 1) 32 i0 (.agg #[.int .i64 0, .string ⟨#[]⟩, .int .i64 0, .int .i64 0]) 4 40 Tryz.underlying23 hi hz0 hz1 hz2 rfl (by decide) _ _ _ rfl ((HS1.out.alloc _).alloc _).oo ⟨w1.heap.size + 1, 0, none⟩ 1 1 [.int .i64 (k : Int), .string (S x), .int .i64 (a : Int), .int .i64 ((a + n : Nat) : Int)] rfl rfl (cells_new1 w1 _ _ _) (by simp [Value.oneCell']) (by unfold maxLen; omega) (by omega) (by simp; omega) ?_; intro v' w3 hown' hgrow _; have HS3 := Lib.hid ((HS1.out.alloc _).app ⟨k, x, a, a + n⟩ hgrow hown'); have x3 := (tok_kept hgrow HS1.out.oo).cell 3; clear hgrow hown')
            go_roundw
            case rel => exact ⟨a + n, g, _, tkLn k x ln, rfl, by omega, by simp; omega, Lib.hid ⟨HS3.out, HL2.out, HN2.out, by omega⟩⟩
            case measure => simp [intOf]; omega
    · have has : a = s.length := by omega
      subst has
      have HN2 := Lib.hid (show scanT nbOk s = (L ++ [⟨0, [], s.length, s.length⟩], 0, 0) by rw [HT.out, HQ.out, tkScan_end (Nat.le_refl _)]; rfl)
      go_wp2_with (at_builtin; refine wpList_append_own _ rfl _ _ 23 rfl (N + 1) 32 i0 (.agg #[.int .i64 0, .string ⟨#[]⟩, .int .i64 0, .int .i64 0]) 4 40 Tryz.underlying23 hi hz0 hz1 hz2 rfl (by decide) _ _ _ rfl (HS.out.alloc _).oo ⟨wr.heap.size, 0, none⟩ 1 1 [.int .i64 0, .string ⟨#[]⟩, .int .i64 (s.length : Int), .int .i64 (s.length : Int)] rfl rfl (cells_new wr _ _) (by simp [Value.oneCell']) (by unfold maxLen; omega) (by omega) (by simp; omega) ?_; intro v2 w2 hown' hgrow _; have HS2 := Lib.hid (HS.out.app ⟨0, [], s.length, s.length⟩ hgrow hown'); clear hgrow hown' d0 d1 g0 g1 hsz; have hsz := HS2.out.lt; have d0 := HS2.out.ft.cell 0; have d1 := HS2.out.ft.cell 1; have g0 := HS2.out.ft.frozen 0; have g1 := HS2.out.ft.frozen 1)
      exact bodyPost_ret (v := .tuple #[v2, .agg #[.int .i64 0, .int .i64 0]]) (by simp [results, Tryz.results6, go_sem, d0, d1]) rfl (scan_ret HN2.out (by have h := HS2.out.bel; rw [HN.out]; go_grown) (own_lower (ownsRow_setCell_other (ownsRow_setCell_other HS2.out.oo (own_not HS2.out.oo HS2.out.ft (by decide)) (.int .i64 0) (a := ⟨N, 0, none⟩)) (own_not HS2.out.oo HS2.out.ft (by decide)) (.int .i64 0) (a := ⟨N, 1, none⟩)) (by rw [HN.out]; omega)))
end
section
open Go.RowKit

theorem refScan_at {s : List UInt8} {L : List Tok} {a b : Nat} (h : scanT nbOk s = (L, a, b)) (hl : s.length ≤ 60000) (w : World) : Calls Tryz.prog 6 #[.string (S s)] w fun e w' =>
    ∃ p cap, e = .returned (.tuple #[.slice p L.length cap, .agg #[.int .i64 (a : Int), .int .i64 (b : Int)]]) ∧ SlT w' (.slice p L.length cap) L ∧ Below w.heap.size w w' := by
  refine (refScan_any s hl w).mono ?_
  rintro e w' ⟨hb, v, he, ho⟩
  have hv := own_SlT ho
  rw [h] at he hv
  obtain ⟨p, cap, rfl⟩ := hv.form
  exact ⟨p, cap, he, hv, hb⟩
theorem scanT_len {s : List UInt8} {L : List Tok} {a b : Nat} (h : scanT nbOk s = (L, a, b)) (hl : s.length ≤ 60000) : L.length ≤ s.length + 1 := by
  rcases scanT_gap nbOk s (by omega) with ⟨q, hs, hq⟩ | ⟨L', hs, hne, hg⟩
  · rw [hs] at h; injection h with h; subst h; simp
  · rw [hs] at h; injection h with h; subst h
    have := (gap_len s L' 0 (Nat.zero_le _) hg).1
    omega
set_option maxRecDepth 100000 in
set_option maxHeartbeats 4000000 in
theorem lawTokenScans (s : List UInt8) (w : World) (hE : TkOk w) : Calls Tryz.prog 3 #[.string (S s)] w fun e w' => e = .returned (.bool true) ∧ Below w.heap.size w w' := by
  have HE := Lib.hid hE
  clear hE
  by_cases hl : 400 < s.length
  · go_enter Tryz.func3, Tryz.ntmps3
    go_wp2_with fail
    refine (example_any _ HE.out).mono ?_
    rintro e w1 ⟨rfl, hb1⟩
    go_wp2_with fail
    go_ret
    exact ⟨rfl, hb1⟩
  have hl2 : s.length ≤ 400 := by omega
  clear hl
  obtain ⟨⟨L, a, b⟩, hI⟩ : ∃ r, scanT nbOk s = r := ⟨_, rfl⟩
  have hLl := scanT_len hI (by omega)
  have HP := Lib.hid (Scan_at hI (by omega))
  have HR := Lib.hid (refScan_at hI (by omega))
  clear hI
  go_enter Tryz.func3, Tryz.ntmps3
  go_wp2_with fail
  refine (HP.out _ HE.out).mono ?_
  rintro e w1 ⟨vp, vc, rfl, hv1, hb1⟩
  have HB1 := Lib.hid hb1
  clear hb1
  go_upto_region 4 with fail
  obtain ⟨g1, g2⟩ := one_below w1 #[.int .i64 (a : Int), .int .i64 (b : Int)] 26
  have HB2 := Lib.hid (keepV HB1.out g2)
  have HV := Lib.hid (hv1.below g2)
  clear g2 hv1 HB1
  obtain ⟨F, hF⟩ : ∃ F, F = w1.heap.size := ⟨_, rfl⟩
  rw [← hF] at g1 ⊢
  have G1 := Lib.hid g1
  generalize w1.alloc (.cells #[.int .i64 (a : Int), .int .i64 (b : Int)] 26) = W2 at *
  clear g1 hF
  go_wp2_with fail
  refine (HR.out _).mono ?_
  rintro e w3 ⟨up, uc, rfl, hu1, hb3⟩
  have HB3 := Lib.hid (keepV HB2.out hb3)
  have HV3 := Lib.hid (HV.out.below hb3)
  have G3 := Lib.hid (G1.out.below hb3)
  clear hb3 HV G1 HB2
  go_upto_region 5 with fail
  obtain ⟨g1, g2⟩ := one_below w3 #[.int .i64 (a : Int), .int .i64 (b : Int)] 26
  have HB4 := Lib.hid (keepV HB3.out g2)
  have HV4 := Lib.hid (HV3.out.below g2)
  have HU4 := Lib.hid (hu1.below g2)
  have G4 := Lib.hid (G3.out.below g2)
  clear g2 hu1 HB3 HV3 G3
  obtain ⟨F2, hF⟩ : ∃ F2, F2 = w3.heap.size := ⟨_, rfl⟩
  rw [← hF] at g1 ⊢
  generalize w3.alloc (.cells #[.int .i64 (a : Int), .int .i64 (b : Int)] 26) = W4 at *
  clear hF
  obtain ⟨x0, x1⟩ := fcells G4.out
  obtain ⟨y0, y1⟩ := fcells g1
  clear g1
  go_wp2_with fail
  refine (Same_eq _ _ _ _ HV4.out HU4.out (by omega)).mono ?_
  rintro e w5 ⟨rfl, hb5⟩
  have HB5 := Lib.hid (keepV HB4.out hb5)
  clear hb5 x0 x1 y0 y1
  go_wp2_with fail
  refine (example_any _ (HE.out.below HB5.out)).mono ?_
  rintro e w9 ⟨rfl, hb9⟩
  have HB9 := Lib.hid (keepV HB5.out hb9)
  go_wp2_with fail
  go_ret
  exact ⟨rfl, HB9.out⟩
end
end Go.Proofs.YtadbilonialjnaaGreatDoor
