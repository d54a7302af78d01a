/- The law of the size: a text of n letters. -/
import Derived.OpenShut
import Derived.Laws.MakeOwn
import Derived.Test.YtadbilonialjnaaDoorTkM
import Derived.Test.YtadbilonialjnaaDoorTkS
namespace Go.Proofs.YtadbilonialjnaaDoor
open Go.RowKit

/-- block g is a row of the bytes l -/
def BRow (w : World) (g : Nat) (l : List UInt8) : Prop := w.heap[g]? = some (.cells (bcells l).toArray 5 (0, 0))
theorem BRow.lt {w : World} {g : Nat} {l : List UInt8} (h : BRow w g l) : g < w.heap.size := (Array.getElem?_eq_some_iff.1 h).1
theorem bcells_get (l : List UInt8) (j : Nat) (h : j < l.length) : (bcells l)[j]? = some (.int .u8 ((byt l j).toNat : Int)) := by
  rw [byt_get l j h]; simp [bcells, List.getElem?_eq_getElem h]
theorem BRow.cell {w : World} {g : Nat} {l : List UInt8} (h : BRow w g l) (j : Nat) (hj : j < l.length) : w.cell? ⟨g, j, none⟩ = some (.int .u8 ((byt l j).toNat : Int)) := by
  simp only [World.cell?, show w.heap[g]? = _ from h]
  simpa using bcells_get l j hj
theorem BRow.frozen {w : World} {g : Nat} {l : List UInt8} (h : BRow w g l) (j : Nat) : w.frozen? ⟨g, j, none⟩ = false := by
  simp [World.frozen?, show w.heap[g]? = _ from h]
theorem BRow.set {w : World} {g : Nat} {l : List UInt8} (h : BRow w g l) (j : Nat) (x : UInt8) : BRow (w.setCell ⟨g, j, none⟩ (.int .u8 (x.toNat : Int))) g (l.set j x) := by
  unfold BRow at h ⊢
  simp [World.setCell, Array.getElem?_modify, h, bcells, List.map_set]
theorem BRow.below {w w' : World} {g : Nat} {l : List UInt8} (h : BRow w g l) (hb : Below w.heap.size w w') : BRow w' g l := (hb.block g h.lt).trans h
theorem made_cells (n : Nat) : madeCells #[.int .u8 0] n = (bcells (List.replicate n 0)).toArray := by
  apply Array.ext (by simp [madeCells, bcells])
  intro i h1 h2
  simp [madeCells, bcells, Nat.mod_one]
theorem made_row (w : World) (n : Nat) : BRow (w.alloc (.cells (madeCells #[.int .u8 0] n) 5)) w.heap.size (List.replicate n 0) := by
  refine (heap_alloc_new w _).trans ?_
  rw [made_cells]
theorem rep_set (n k : Nat) (c : UInt8) (h : k < n) : (List.replicate k c ++ List.replicate (n - k) (0 : UInt8)).set k c = List.replicate (k + 1) c ++ List.replicate (n - (k + 1)) 0 := by
  rw [List.set_append_right _ _ (by simp), List.length_replicate, Nat.sub_self, show n - k = (n - (k + 1)) + 1 by omega, List.replicate_succ, List.set_cons_zero, List.replicate_succ', List.append_assoc]; rfl
theorem bytes_conv_at {w : World} {g : Nat} {p l q : List UInt8} (h : BRow w g (p ++ (l ++ q))) (cap : Nat) : (convert 43 9 (.slice (some ⟨g, p.length, none⟩) l.length cap)).run Tryd.prog w = .ok (.string (S l)) w :=
  conv_at w _ _ 5 _ cap l Tryd.underlying43 Tryd.underlying5 Tryd.underlying9 (fun j u hj => by
    have hl : j < l.length := by have := (List.getElem?_eq_some_iff.1 hj).1; rwa [bcells_len] at this
    rw [bcells_get l j hl] at hj
    cases hj
    have hc := h.cell (p.length + j) (by simp; omega)
    rw [show byt (p ++ (l ++ q)) (p.length + j) = byt l j by unfold byt; rw [List.getD_eq_getElem?_getD, List.getD_eq_getElem?_getD, List.getElem?_append_right (by omega), Nat.add_sub_cancel_left, List.getElem?_append_left hl]] at hc
    by_cases hj0 : j = 0
    · subst hj0; simpa [Addr.add] using hc
    · simpa [Addr.add, hj0] using hc)
theorem bytes_conv {w : World} {g : Nat} {l : List UInt8} (h : BRow w g l) (cap : Nat) : (convert 43 9 (.slice (some ⟨g, 0, none⟩) l.length cap)).run Tryd.prog w = .ok (.string (S l)) w :=
  bytes_conv_at (p := []) (q := []) (by simpa using h) cap

theorem two_cells {W : World} {p : Option Addr} {cap : Nat} {x y : Tok} (h : SlT W (.slice p 2 cap) [x, y]) : ∃ B, p = some ⟨B, 0, none⟩ ∧ (2 : Int) ≤ (cap : Int) ∧ B < W.heap.size ∧ W.cell? ⟨B, 0, none⟩ = some (.int .i64 (x.k : Int)) ∧ W.cell? ⟨B, 3, none⟩ = some (.int .i64 (x.e : Int)) := by
  rcases h with ⟨h1, h2⟩ | ⟨B, cap', h1, h2, h3, h4⟩
  · cases h2
  · injection h1 with e1 e2 e3
    subst e1; subst e3
    have a0 := h4 0 _ rfl
    simp only [List.length_cons, List.length_nil] at h2
    exact ⟨B, rfl, by omega, h3, a0.1, a0.2.2.2⟩
set_option maxRecDepth 100000 in
set_option maxHeartbeats 4000000 in
theorem lawTokenSizes (n : Int) (w : World) (hE : TkOk w) : Calls Tryd.prog 7 #[.int .i64 n] w fun e w' => e = .returned (.bool true) ∧ Below w.heap.size w w' := by
  have HE := Lib.hid hE; clear hE
  by_cases hout : n < 65531 ∨ 65541 < n
  · have h1 : decide (n < 65531) = true ∨ (decide (n < 65531) = false ∧ decide (65541 < n) = true) := by
      by_cases a1 : n < 65531
      · left; simp [a1]
      · right; simp [a1]; omega
    clear hout
    rcases h1 with h1 | ⟨h1, h2⟩
    all_goals
      go_enter Tryd.func7, Tryd.ntmps7
      go_wp2_with fail
      refine (example_any _ HE.out).mono ?_
      rintro e w1 ⟨rfl, hb1⟩
      go_wp2_with fail
      go_ret
      exact ⟨rfl, hb1⟩
  obtain ⟨N, rfl⟩ : ∃ N : Nat, n = (N : Int) := ⟨n.toNat, by omega⟩
  have n1 : decide ((N : Int) < 65531) = false := by simp; omega
  have n2 : decide ((65541 : Int) < (N : Int)) = false := by simp; omega
  have hNb : 65531 ≤ N ∧ N ≤ 65541 := by omega
  clear hout
  have hmk : ∀ W : World, (Instr.makeSlice 43 (.int .i64 (N : Int)) (.int .i64 (N : Int))).run Tryd.prog W = .ok (.slice (some ⟨W.heap.size, 0, none⟩) N N) (W.alloc (.cells (madeCells #[.int .u8 0] N) 5)) := fun W => by
    obtain ⟨i, hi, hz, hs, hb⟩ : ∃ i, Tryd.prog.info? 5 = some i ∧ i.zero = some (.int .u8 0) ∧ i.size = 1 ∧ i.bytes = 1 := ⟨_, rfl, rfl, rfl, rfl⟩
    have := run_make (P := Tryd.prog) W 43 5 i (.int .u8 0) Tryd.underlying43 hi hz .i64 .i64 (N : Int) (N : Int) (by omega) (by omega) (by rw [hb]; omega) (by omega)
    rw [hs, Int.toNat_natCast, Nat.mul_one] at this
    exact this
  have HM := Lib.hid (made_row w N)
  have hB1 : Below w.heap.size w (w.alloc (.cells (madeCells #[.int .u8 0] N) 5)) := (Below.refl _ _).alloc (Nat.le_refl _) _
  go_enter Tryd.func7, Tryd.ntmps7
  go_wp2_with fail
  obtain ⟨w1, hw1⟩ : ∃ w1, w1 = w.alloc (.cells (madeCells #[.int .u8 0] N) 5) := ⟨_, rfl⟩
  rw [← hw1] at HM hB1 ⊢
  clear hw1 hmk
  go_loopw [4] (fun i wr => ∃ k : Nat, k ≤ N ∧ i = .int .i64 k ∧ Hid (BRow wr w.heap.size (List.replicate k 97 ++ List.replicate (N - k) 0)) ∧ Below w.heap.size w wr) (fun i _ => N - (intOf i).toNat)
  case atStart => exact ⟨0, by omega, rfl, Lib.hid (by simpa using HM.out), hB1⟩
  case round =>
    obtain ⟨k, hk, rfl, HR, hBw⟩ := hrel
    have hgl := HR.out.lt
    by_cases hlt : k < N
    · have hfz := HR.out.frozen k
      have hcl := HR.out.cell k (by simp; omega)
      have hset := HR.out.set k 97
      rw [rep_set _ _ _ hlt, show ((97 : UInt8).toNat : Int) = 97 from rfl] at hset
      have HS := Lib.hid hset; clear hset HR
      have hb2 : Below w.heap.size w (wr.setCell ⟨w.heap.size, k, none⟩ (.int .u8 97)) := hBw.setCell (Nat.le_refl _) _
      go_wp2_with fail
      go_round
      case rel => exact ⟨k + 1, by omega, by go_num, HS, hb2⟩
      case measure => simp [intOf]; omega
    · have hkN : k = N := by omega
      rw [hkN] at HR
      have h0 : BRow wr w.heap.size (List.replicate N 97) := by simpa using HR.out
      clear HR hk hlt
      obtain ⟨lit, hlit⟩ : ∃ lit : List UInt8, List.replicate N 97 = lit := ⟨_, rfl⟩
      have hlen : lit.length = N := by rw [← hlit, List.length_replicate]
      rw [hlit] at h0
      have hcv := fun cap => bytes_conv h0 cap
      rw [hlen] at hcv
      have HB := Lib.hid hBw
      subst hkN
      by_cases hpos : 65536 < k
      · have HP := Lib.hid (Scan_at (scanT_many nbOk lit (by omega)) (by omega))
        have p1 : decide ((65536 : Int) < (k : Int)) = true := by simp; omega
        clear h0 hBw
        go_wp2_with fail
        refine (HP.out _ (HE.out.below HB.out)).mono ?_
        rintro e w2 ⟨vp, vc, rfl, -, hb2⟩
        have HB2 := Lib.hid (keepV HB.out hb2)
        clear hb2 hcv
        go_upto_region 9 with fail
        obtain ⟨g1, g2⟩ := one_below w2 #[.int .i64 2, .int .i64 0] 26
        have HB3 := Lib.hid (keepV HB2.out g2)
        clear g2
        generalize w2.alloc (.cells #[.int .i64 2, .int .i64 0] 26) = W3 at *
        obtain ⟨x0, x1⟩ := fcells g1
        go_wp2_with fail
        refine (example_any _ (HE.out.below HB3.out)).mono ?_
        rintro e w3 ⟨rfl, hb3⟩
        go_wp2_with fail
        go_ret
        exact ⟨rfl, keepV HB3.out hb3⟩
      · have HP := Lib.hid (Scan_at (show scanT nbOk lit = ([⟨1, lit, 0, k⟩, ⟨0, [], k, k⟩], 0, 0) by rw [← hlit]; exact scanT_letters nbOk k (by omega) (by omega)) (by omega))
        have p1 : decide ((65536 : Int) < (k : Int)) = false := by simp; omega
        clear h0 hBw
        go_wp2_with fail
        refine (HP.out _ (HE.out.below HB.out)).mono ?_
        rintro e w2 ⟨vp, vc, rfl, hv2, hb2⟩
        rw [show ([⟨1, lit, 0, k⟩, ⟨0, [], k, k⟩] : List Tok).length = 2 from rfl] at hv2 ⊢
        have HB2 := Lib.hid (keepV HB.out hb2)
        clear hb2 hcv
        go_upto_region 9 with fail
        obtain ⟨g1, g2⟩ := one_below w2 #[.int .i64 0, .int .i64 0] 26
        have HB3 := Lib.hid (keepV HB2.out g2)
        have hv3 := hv2.below g2
        clear g2 hv2
        generalize w2.alloc (.cells #[.int .i64 0, .int .i64 0] 26) = W3 at *
        obtain ⟨x0, x1⟩ := fcells g1
        obtain ⟨B, rfl, hc2, hlB, c0, c3⟩ := two_cells hv3
        clear hv3
        go_wp2_with fail
        refine (example_any _ (HE.out.below HB3.out)).mono ?_
        rintro e w3 ⟨rfl, hb3⟩
        go_wp2_with fail
        go_ret
        exact ⟨rfl, keepV HB3.out hb3⟩
end Go.Proofs.YtadbilonialjnaaDoor
