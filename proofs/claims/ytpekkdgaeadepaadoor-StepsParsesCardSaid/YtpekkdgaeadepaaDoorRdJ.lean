/- The reference's Reader: path. -/
import Derived.Test.YtpekkdgaeadepaaDoorRdH
import Derived.Test.YtpekkdgaeadepaaDoorRdI
import Derived.Test.YtpekkdgaeadepaaDoorRdN
import Derived.Test.YtpekkdgaeadepaaDoorStR
namespace Go.Proofs.YtpekkdgaeadepaaDoor
open Go.RowKit

theorem ridx_le (s : List UInt8) : ∀ f a n d, a ≤ s.length → n ≤ 1000000 → a ≤ (ridx s f a n d).2.1 ∧ (ridx s f a n d).2.1 ≤ s.length ∧ (ridx s f a n d).1 ≤ 1000000
  | 0, a, n, d, h, hn => by rw [ridx]; exact ⟨Nat.le_refl _, h, hn⟩
  | f + 1, a, n, d, h, hn => by
    rw [ridx]
    split
    · rename_i h1
      split
      · exact ⟨Nat.le_refl _, h, by simp⟩
      · rename_i h2
        have := ridx_le s f (a + 1) (n * 10 + ((byt s a).toNat - 48)) (d + 1) (by omega) (by omega)
        exact ⟨by omega, this.2⟩
    · split
      · exact ⟨Nat.le_refl _, h, hn⟩
      · split
        · rename_i h1; exact ⟨by simp only; omega, by simp only; omega, hn⟩
        · exact ⟨Nat.le_refl _, h, hn⟩
theorem rlab_le (s : List UInt8) (hs : s.length ≤ 65536) (b : Nat) (hb : b ≤ s.length) : b ≤ (rlab s b).2.1 ∧ (rlab s b).2.1 ≤ s.length ∧ ((rlab s b).2.2 = false → b + 1 ≤ (rlab s b).2.1) := by
  have hle := labP_le (sl s b s.length)
  have hl := sl_len s b s.length hb (Nat.le_refl _)
  rw [hl] at hle
  rcases lab_both s hs b hb with ⟨k1, k2, k3⟩ | ⟨k1, k2, k3⟩ | ⟨k1, k2, k3, k4, k5⟩
  · have := hle.2 k1
    rw [k2]; exact ⟨by simp only; omega, by simp only; omega, fun _ => by simp only; omega⟩
  · obtain ⟨⟨x, n, ok⟩, hx⟩ : ∃ y, labP (sl s b s.length) = y := ⟨_, rfl⟩
    rw [hx] at k1 k3
    simp only at k1 k3
    subst k1
    have := lab_no hx
    rw [k3, k2]; exact ⟨by omega, by omega, fun h => by cases h⟩
  · refine ⟨by omega, by omega, fun _ => ?_⟩
    rcases Nat.eq_zero_or_pos (labP (sl s b s.length)).2.1 with h0 | h0
    · exfalso
      -- the label is not empty: '#' at its head is no end
      rw [k3, h0, Nat.add_zero] at k4 k5
      have hq : ¬ (b < s.length ∧ byt s b = 34) := by rw [k5]; exact fun h => absurd h.2 (by decide)
      have hr : rlab s b = (if s.length ≤ rhd s b then (([] : List UInt8), rhd s b, true) else if letterB (byt s (rhd s b)) = false then ([], rhd s b, true) else ridn s b (rrun s b (s.length + 1) (rhd s b))) := by unfold rlab; rw [if_neg hq]
      have hh : rhd s b = b + 1 := by unfold rhd; rw [if_pos ⟨k4, .inr k5⟩]
      rw [hh] at hr
      by_cases h1 : s.length ≤ b + 1
      · rw [if_pos h1] at hr; rw [hr] at k2; cases k2
      · rw [if_neg h1] at hr
        rcases bool_two (letterB (byt s (b + 1))) with h2 | h2
        · rw [if_pos h2] at hr; rw [hr] at k2; cases k2
        · rw [if_neg (by rw [h2]; decide)] at hr
          obtain ⟨e, j1, j2, j3, j4, j5⟩ := rrun_spec s b (s.length + 1) (b + 1) (by omega) (by omega) (by omega) (by omega)
          have h21 : (rlab s b).2.1 = e := by
            rw [hr]
            rcases j5 with ⟨j5, _⟩ | ⟨j5, _⟩ <;> rw [j5] <;> unfold ridn
            · rw [if_neg (by simp)]; split <;> rfl
            · rw [if_pos rfl]
          omega
    · omega
theorem own_kept {W W' : World} {B base : Nat} {e : TypeId} {size : Nat} {v : Value} {k : Nat} {xs : List Value} (h : W.ownsRow base e size v k xs) (hg : W.grownBy W' (some B)) (hB : B < base) : W'.ownsRow base e size v k xs := by
  refine ⟨h.1, ?_⟩
  rcases h.2 with hn | ⟨g, cap, cur, rfl, hb0, hg0, hr⟩
  · exact .inl hn
  · exact .inr ⟨g, cap, cur, rfl, hb0, (hg.block g (Array.getElem?_eq_some_iff.1 hg0).1 (by intro h; injection h; omega)).trans hg0, hr⟩
theorem RdG.grow {s : List UInt8} {B : Nat} {w W W' : World} {a : Nat} {F : Bool} (h : RdG s B w W a F) {row : Option Nat} (hg : W.grownBy W' row) (hr : ∀ j, row = some j → w.heap.size ≤ j) (hB : B < w.heap.size) : RdG s B w W' a F := by
  refine ⟨⟨hg.os.trans h.1.os, hg.tape.trans h.1.tape, hg.output.trans h.1.output, Nat.le_trans h.1.size hg.size, fun k hk hn => ?_⟩, h.2.kept hg (fun e => by have := hr B e.symm; omega)⟩
  exact (hg.block k (Nat.lt_of_lt_of_le hk h.1.size) (fun e => by have := hr k e.symm; omega)).trans (h.1.block k hk hn)
/-- what path hands back: the list and the reader's state -/
def PathR (s : List UInt8) (B : Nat) (w : World) (r : List Stp × Nat × Nat) (e : Ending) (w' : World) : Prop :=
  ∃ v a F, e = .returned v ∧ (∃ p n c, v = .slice p n c) ∧ RdG s B w w' a F ∧ ((F = true ∧ r = ([], 8, a)) ∨ (F = false ∧ ∃ L, r = (L, 0, 0) ∧ w'.ownsRow w.heap.size 37 2 v L.length (flatC L)))
theorem PathR.bad {s : List UInt8} {B : Nat} {w W : World} {r : List Stp × Nat × Nat} {a : Nat} (h : r = ([], 8, a)) (g : RdG s B w W a true) (p : Option Addr) (n c : Nat) : PathR s B w r (.returned (.slice p n c)) W :=
  ⟨_, a, true, rfl, ⟨p, n, c, rfl⟩, g, .inl ⟨rfl, h⟩⟩
set_option maxRecDepth 100000 in
set_option maxHeartbeats 16000000 in
theorem path_ref (s : List UInt8) (hs : s.length ≤ 65536) (B : Nat) (w : World) (hR : RdAt w B s 0 false) : Calls Tryd.prog 32 #[.pointer (some ⟨B, 0, none⟩)] w (PathR s B w (rgo s (s.length + 2) 0 [])) := by
  have hl : s.length ≤ 100000 := by omega
  have hB : B < w.heap.size := Blk.lt hR
  have G0 := Lib.hid (RdG.refl hR)
  clear hR
  obtain ⟨r, hr⟩ : ∃ r, rgo s (s.length + 2) 0 [] = r := ⟨_, rfl⟩
  rw [hr]
  have HR0 := Lib.hid hr
  clear hr
  obtain ⟨i0, hi, hz0, hz1, hz2⟩ := info_parts infoStp
  go_enter Tryd.func32, Tryd.ntmps32
  go_wp2_with fail
  go_loopg [3] (s.length + 2) (fun f v wr => ∃ (a : Nat) (L : List Stp) (F : Bool), a ≤ s.length ∧ L.length ≤ s.length + 1 ∧ wr.ownsRow w.heap.size 37 2 v L.length (flatC L) ∧ Hid (((F = false ∧ rgo s f a L = r ∧ s.length + 2 ≤ f + a ∧ L.length ≤ a) ∨ (F = true ∧ r = ([], 8, a))) ∧ RdG s B w wr a F))
  case atStart => exact ⟨0, [], false, Nat.zero_le _, by simp, World.ownsRow_nil _ _ _ _, Lib.hid ⟨.inl ⟨rfl, HR0.out, by omega, by simp⟩, G0.out⟩⟩
  case round =>
    clear G0 HR0
    obtain ⟨a, L, F, ha, hLs, hown, H⟩ := hrel
    obtain ⟨vp, vc, rfl⟩ := own_form hown
    have HI := Lib.hid (rdG H.out.2.drew)
    have own0 := Lib.hid (own_under hown (below_drew (Below.refl wr.heap.size wr)))
    clear hown
    have a0 : (0 : Int) ≤ (a : Int) := by omega
    rcases (bool_two F).symm with rfl | rfl
    · have HV : Hid (r = ([], 8, a)) := Lib.hid (by
        rcases H.out.1 with ⟨h, _⟩ | ⟨_, h⟩
        · cases h
        · exact h)
      clear H
      go_upto_region 2 with fail
      refine wp_region_noPanic ?_
      refine wp_region_held_drew (S := fun w' => w'.cell? ⟨B, 0, none⟩ = some (.string (S s)) ∧ w'.cell? ⟨B, 1, none⟩ = some (.int .i64 (a : Int)) ∧ w'.cell? ⟨B, 2, none⟩ = some (.bool true) ∧ RdG s B w w' a true) (by kernel_rfl) (HI.out) (fun hS => ?_)
      generalize hV0 : wr.drew = V0 at hS ⊢
      refine wpAnyH_take (i := 0) (v := ?va_0) rfl (by kernel_rfl) (by kernel_rfl) (by kernel_rfl) (fun _ _ _ h => h) (Or.inl ⟨by rfl, ?ha_0⟩) hS ?_
      case ha_0 => (intro v hSw; (try dsimp only at hSw); try simp only [List.getElem_toArray, List.getElem_cons_zero, List.getElem_cons_succ]; go_simp; (try with_reducible rfl))
      try simp only [List.getElem_toArray, List.getElem_cons_zero, List.getElem_cons_succ]
      try simp only [Act.put, List.setIfInBounds_toArray, List.set_cons_zero, List.set_cons_succ]
      refine wpAnyH_take (i := 1) (v := ?va_1) rfl (by kernel_rfl) (by kernel_rfl) (by kernel_rfl) (fun _ _ _ h => h) (Or.inl ⟨by rfl, ?ha_1⟩) hS ?_
      case ha_1 => (intro v hSw; (try dsimp only at hSw); try simp only [List.getElem_toArray, List.getElem_cons_zero, List.getElem_cons_succ]; go_simp; (try with_reducible rfl))
      try simp only [List.getElem_toArray, List.getElem_cons_zero, List.getElem_cons_succ]
      try simp only [Act.put, List.setIfInBounds_toArray, List.set_cons_zero, List.set_cons_succ]
      refine wpAnyH_take (i := 2) (v := ?va_2) rfl (by kernel_rfl) (by kernel_rfl) (by kernel_rfl) (fun _ _ _ h => h) (Or.inl ⟨by rfl, ?ha_2⟩) hS ?_
      case ha_2 => (intro v hSw; (try dsimp only at hSw); try simp only [List.getElem_toArray, List.getElem_cons_zero, List.getElem_cons_succ]; go_simp; (try with_reducible rfl))
      try simp only [List.getElem_toArray, List.getElem_cons_zero, List.getElem_cons_succ]
      try simp only [Act.put, List.setIfInBounds_toArray, List.set_cons_zero, List.set_cons_succ]
      refine wpAnyH_take (i := 3) (v := ?va_3) rfl (by kernel_rfl) (by kernel_rfl) (by kernel_rfl) (fun _ _ _ h => h) (Or.inl ⟨by rfl, ?ha_3⟩) hS ?_
      case ha_3 => (intro v hSw; (try dsimp only at hSw); try simp only [List.getElem_toArray, List.getElem_cons_zero, List.getElem_cons_succ]; go_simp; (try with_reducible rfl))
      try simp only [List.getElem_toArray, List.getElem_cons_zero, List.getElem_cons_succ]
      try simp only [Act.put, List.setIfInBounds_toArray, List.set_cons_zero, List.set_cons_succ]
      refine wpAnyH_take (i := 4) (v := ?va_4) rfl (by kernel_rfl) (by kernel_rfl) (by kernel_rfl) (fun _ _ _ h => h) (Or.inl ⟨by rfl, ?ha_4⟩) hS ?_
      case ha_4 => (intro v hSw; (try dsimp only at hSw); try simp only [List.getElem_toArray, List.getElem_cons_zero, List.getElem_cons_succ]; go_simp; (try with_reducible rfl))
      try simp only [List.getElem_toArray, List.getElem_cons_zero, List.getElem_cons_succ]
      try simp only [Act.put, List.setIfInBounds_toArray, List.set_cons_zero, List.set_cons_succ]
      refine wpAnyH_take (i := 5) (v := ?va_5) rfl (by kernel_rfl) (by kernel_rfl) (by kernel_rfl) (fun _ _ _ h => h) (Or.inl ⟨by rfl, ?ha_5⟩) hS ?_
      case ha_5 => (intro v hSw; (try dsimp only at hSw); try simp only [List.getElem_toArray, List.getElem_cons_zero, List.getElem_cons_succ]; go_simp; (try with_reducible rfl))
      try simp only [List.getElem_toArray, List.getElem_cons_zero, List.getElem_cons_succ]
      try simp only [Act.put, List.setIfInBounds_toArray, List.set_cons_zero, List.set_cons_succ]
      refine wpAnyH_take (i := 6) rfl (by kernel_rfl) (by kernel_rfl) (by kernel_rfl) (fun _ _ _ h => h) (Or.inr ⟨by rfl, rfl⟩) hS ?_
      try simp only [List.getElem_toArray, List.getElem_cons_zero, List.getElem_cons_succ]
      try simp only [Act.put, List.setIfInBounds_toArray, List.set_cons_zero, List.set_cons_succ]
      refine wpAnyH_take (i := 7) rfl (by kernel_rfl) (by kernel_rfl) (by kernel_rfl) (fun _ _ _ h => h) (Or.inr ⟨by rfl, rfl⟩) hS ?_
      try simp only [List.getElem_toArray, List.getElem_cons_zero, List.getElem_cons_succ]
      try simp only [Act.put, List.setIfInBounds_toArray, List.set_cons_zero, List.set_cons_succ]
      refine wpAnyH_take (i := 8) rfl (by kernel_rfl) (by kernel_rfl) (by kernel_rfl) (fun _ _ _ h => h) (Or.inr ⟨by rfl, rfl⟩) hS ?_
      try simp only [List.getElem_toArray, List.getElem_cons_zero, List.getElem_cons_succ]
      try simp only [Act.put, List.setIfInBounds_toArray, List.set_cons_zero, List.set_cons_succ]
      refine wpAnyH_take (i := 9) rfl (by kernel_rfl) (by kernel_rfl) (by kernel_rfl) (fun _ _ _ h => h) (Or.inr ⟨by rfl, rfl⟩) hS ?_
      try simp only [List.getElem_toArray, List.getElem_cons_zero, List.getElem_cons_succ]
      try simp only [Act.put, List.setIfInBounds_toArray, List.set_cons_zero, List.set_cons_succ]
      refine wpAnyH_take (i := 10) rfl (by kernel_rfl) (by kernel_rfl) (by kernel_rfl) (fun _ _ _ h => h) (Or.inr ⟨by rfl, rfl⟩) hS ?_
      try simp only [List.getElem_toArray, List.getElem_cons_zero, List.getElem_cons_succ]
      try simp only [Act.put, List.setIfInBounds_toArray, List.set_cons_zero, List.set_cons_succ]
      refine wpAnyH_take (i := 11) rfl (by kernel_rfl) (by kernel_rfl) (by kernel_rfl) (fun _ _ _ h => h) (Or.inr ⟨by rfl, rfl⟩) hS ?_
      try simp only [List.getElem_toArray, List.getElem_cons_zero, List.getElem_cons_succ]
      try simp only [Act.put, List.setIfInBounds_toArray, List.set_cons_zero, List.set_cons_succ]
      refine wpAnyH_take (i := 12) rfl (by kernel_rfl) (by kernel_rfl) (by kernel_rfl) (fun _ _ _ h => h) (Or.inr ⟨by rfl, rfl⟩) hS ?_
      try simp only [List.getElem_toArray, List.getElem_cons_zero, List.getElem_cons_succ]
      try simp only [Act.put, List.setIfInBounds_toArray, List.set_cons_zero, List.set_cons_succ]
      refine wpAnyH_take (i := 13) rfl (by kernel_rfl) (by kernel_rfl) (by kernel_rfl) (fun _ _ _ h => h) (Or.inr ⟨by rfl, rfl⟩) hS ?_
      try simp only [List.getElem_toArray, List.getElem_cons_zero, List.getElem_cons_succ]
      try simp only [Act.put, List.setIfInBounds_toArray, List.set_cons_zero, List.set_cons_succ]
      refine wpAnyH_take (i := 14) rfl (by kernel_rfl) (by kernel_rfl) (by kernel_rfl) (fun _ _ _ h => h) (Or.inr ⟨by rfl, rfl⟩) hS ?_
      try simp only [List.getElem_toArray, List.getElem_cons_zero, List.getElem_cons_succ]
      try simp only [Act.put, List.setIfInBounds_toArray, List.set_cons_zero, List.set_cons_succ]
      refine wpAnyH_take (i := 15) rfl (by kernel_rfl) (by kernel_rfl) (by kernel_rfl) (fun _ _ _ h => h) (Or.inr ⟨by rfl, rfl⟩) hS ?_
      try simp only [List.getElem_toArray, List.getElem_cons_zero, List.getElem_cons_succ]
      try simp only [Act.put, List.setIfInBounds_toArray, List.set_cons_zero, List.set_cons_succ]
      refine wpAnyH_take (i := 16) rfl (by kernel_rfl) (by kernel_rfl) (by kernel_rfl) (fun _ _ _ h => h) (Or.inr ⟨by rfl, rfl⟩) hS ?_
      try simp only [List.getElem_toArray, List.getElem_cons_zero, List.getElem_cons_succ]
      try simp only [Act.put, List.setIfInBounds_toArray, List.set_cons_zero, List.set_cons_succ]
      refine wpAnyH_take (i := 17) rfl (by kernel_rfl) (by kernel_rfl) (by kernel_rfl) (fun _ _ _ h => h) (Or.inr ⟨by rfl, rfl⟩) hS ?_
      try simp only [List.getElem_toArray, List.getElem_cons_zero, List.getElem_cons_succ]
      try simp only [Act.put, List.setIfInBounds_toArray, List.set_cons_zero, List.set_cons_succ]
      refine wpAnyH_take (i := 18) rfl (by kernel_rfl) (by kernel_rfl) (by kernel_rfl) (fun _ _ _ h => h) (Or.inr ⟨by rfl, rfl⟩) hS ?_
      try simp only [List.getElem_toArray, List.getElem_cons_zero, List.getElem_cons_succ]
      try simp only [Act.put, List.setIfInBounds_toArray, List.set_cons_zero, List.set_cons_succ]
      refine wpAnyH_take (i := 19) rfl (by kernel_rfl) (by kernel_rfl) (by kernel_rfl) (fun _ _ _ h => h) (Or.inr ⟨by rfl, rfl⟩) hS ?_
      try simp only [List.getElem_toArray, List.getElem_cons_zero, List.getElem_cons_succ]
      try simp only [Act.put, List.setIfInBounds_toArray, List.set_cons_zero, List.set_cons_succ]
      refine wpAnyH_take (i := 20) rfl (by kernel_rfl) (by kernel_rfl) (by kernel_rfl) (fun _ _ _ h => h) (Or.inr ⟨by rfl, rfl⟩) hS ?_
      try simp only [List.getElem_toArray, List.getElem_cons_zero, List.getElem_cons_succ]
      try simp only [Act.put, List.setIfInBounds_toArray, List.set_cons_zero, List.set_cons_succ]
      refine wpAnyH_take (i := 21) (v := ?va_21) rfl (by kernel_rfl) (by kernel_rfl) (by kernel_rfl) (fun _ _ _ h => h) (Or.inl ⟨by rfl, ?ha_21⟩) hS ?_
      case ha_21 => (intro v hSw; (try dsimp only at hSw); try simp only [List.getElem_toArray, List.getElem_cons_zero, List.getElem_cons_succ]; go_simp; (try with_reducible rfl))
      try simp only [List.getElem_toArray, List.getElem_cons_zero, List.getElem_cons_succ]
      try simp only [Act.put, List.setIfInBounds_toArray, List.set_cons_zero, List.set_cons_succ]
      refine wpAnyH_done (by kernel_rfl) ?_ _
      refine NoPanic.normal ?_
      have G2 := Lib.hid hS.2.2.2
      clear hS HI
      go_wp2_with fail
      go_ret
      exact PathR.bad HV.out G2.out _ _ _
    · have hq : rgo s gk a L = r ∧ s.length + 2 ≤ gk + a ∧ L.length ≤ a := by
        rcases H.out.1 with ⟨_, h⟩ | ⟨h, _⟩
        · exact h
        · cases h
      clear H
      obtain ⟨hq, hfu, hLa⟩ := hq
      obtain ⟨f, hf⟩ : ∃ f, gk = f + 1 := ⟨gk - 1, by omega⟩
      rw [hf, rgo] at hq
      have HQ := Lib.hid hq
      clear hq
      have hway : ((a : Int) < (s.length : Int) ∧ Hid (a < s.length)) ∨ (decide (a < s.length) = false ∧ Hid (s.length ≤ a) ∧ ((L.length : Int) == 0) = true ∧ Hid (L = [])) ∨ (decide (a < s.length) = false ∧ ((L.length : Int) == 0) = false ∧ Hid (r = (L, 0, 0))) := by
        by_cases hlt : a < s.length
        · exact .inl ⟨by omega, Lib.hid hlt⟩
        · by_cases hL : L = []
          · exact .inr (.inl ⟨decide_eq_false (by omega), Lib.hid (by omega), by rw [hL]; rfl, Lib.hid hL⟩)
          · have hlp := List.length_pos_iff.2 hL
            have hq := HQ.out
            rw [if_pos ⟨by omega, by cases L with
              | nil => exact absurd rfl hL
              | cons => rfl⟩] at hq
            exact .inr (.inr ⟨decide_eq_false (by omega), by rw [beq_eq_false_iff_ne]; omega, Lib.hid hq.symm⟩)
      rcases hway with ⟨b1, HLT⟩ | ⟨b1, HLE, b2, HL⟩ | ⟨b1, b2, HV⟩
      focus
        go_upto_region 2 with fail
        refine wp_region_noPanic ?_
        refine wp_region_held_drew (S := fun w' => w'.cell? ⟨B, 0, none⟩ = some (.string (S s)) ∧ w'.cell? ⟨B, 1, none⟩ = some (.int .i64 (a : Int)) ∧ w'.cell? ⟨B, 2, none⟩ = some (.bool false) ∧ RdG s B w w' a false) (by kernel_rfl) (HI.out) (fun hS => ?_)
        generalize hV0 : wr.drew = V0 at hS ⊢
        refine wpAnyH_take (i := 0) (v := ?vb_0) rfl (by kernel_rfl) (by kernel_rfl) (by kernel_rfl) (fun _ _ _ h => h) (Or.inl ⟨by rfl, ?hb_0⟩) hS ?_
        case hb_0 => (intro v hSw; (try dsimp only at hSw); try simp only [List.getElem_toArray, List.getElem_cons_zero, List.getElem_cons_succ]; go_simp; (try with_reducible rfl))
        try simp only [List.getElem_toArray, List.getElem_cons_zero, List.getElem_cons_succ]
        try simp only [Act.put, List.setIfInBounds_toArray, List.set_cons_zero, List.set_cons_succ]
        refine wpAnyH_take (i := 1) (v := ?vb_1) rfl (by kernel_rfl) (by kernel_rfl) (by kernel_rfl) (fun _ _ _ h => h) (Or.inl ⟨by rfl, ?hb_1⟩) hS ?_
        case hb_1 => (intro v hSw; (try dsimp only at hSw); try simp only [List.getElem_toArray, List.getElem_cons_zero, List.getElem_cons_succ]; go_simp; (try with_reducible rfl))
        try simp only [List.getElem_toArray, List.getElem_cons_zero, List.getElem_cons_succ]
        try simp only [Act.put, List.setIfInBounds_toArray, List.set_cons_zero, List.set_cons_succ]
        refine wpAnyH_take (i := 2) (v := ?vb_2) rfl (by kernel_rfl) (by kernel_rfl) (by kernel_rfl) (fun _ _ _ h => h) (Or.inl ⟨by rfl, ?hb_2⟩) hS ?_
        case hb_2 => (intro v hSw; (try dsimp only at hSw); try simp only [List.getElem_toArray, List.getElem_cons_zero, List.getElem_cons_succ]; go_simp; (try with_reducible rfl))
        try simp only [List.getElem_toArray, List.getElem_cons_zero, List.getElem_cons_succ]
        try simp only [Act.put, List.setIfInBounds_toArray, List.set_cons_zero, List.set_cons_succ]
        refine wpAnyH_take (i := 3) (v := ?vb_3) rfl (by kernel_rfl) (by kernel_rfl) (by kernel_rfl) (fun _ _ _ h => h) (Or.inl ⟨by rfl, ?hb_3⟩) hS ?_
        case hb_3 => (intro v hSw; (try dsimp only at hSw); try simp only [List.getElem_toArray, List.getElem_cons_zero, List.getElem_cons_succ]; go_simp; (try with_reducible rfl))
        try simp only [List.getElem_toArray, List.getElem_cons_zero, List.getElem_cons_succ]
        try simp only [Act.put, List.setIfInBounds_toArray, List.set_cons_zero, List.set_cons_succ]
        refine wpAnyH_take (i := 4) (v := ?vb_4) rfl (by kernel_rfl) (by kernel_rfl) (by kernel_rfl) (fun _ _ _ h => h) (Or.inl ⟨by rfl, ?hb_4⟩) hS ?_
        case hb_4 => (intro v hSw; (try dsimp only at hSw); try simp only [List.getElem_toArray, List.getElem_cons_zero, List.getElem_cons_succ]; go_simp; (try with_reducible rfl))
        try simp only [List.getElem_toArray, List.getElem_cons_zero, List.getElem_cons_succ]
        try simp only [Act.put, List.setIfInBounds_toArray, List.set_cons_zero, List.set_cons_succ]
        refine wpAnyH_take (i := 5) (v := ?vb_5) rfl (by kernel_rfl) (by kernel_rfl) (by kernel_rfl) (fun _ _ _ h => h) (Or.inl ⟨by rfl, ?hb_5⟩) hS ?_
        case hb_5 => (intro v hSw; (try dsimp only at hSw); try simp only [List.getElem_toArray, List.getElem_cons_zero, List.getElem_cons_succ]; go_simp; (try with_reducible rfl))
        try simp only [List.getElem_toArray, List.getElem_cons_zero, List.getElem_cons_succ]
        try simp only [Act.put, List.setIfInBounds_toArray, List.set_cons_zero, List.set_cons_succ]
        refine wpAnyH_take (i := 6) (v := ?vb_6) rfl (by kernel_rfl) (by kernel_rfl) (by kernel_rfl) (fun _ _ _ h => h) (Or.inl ⟨by rfl, ?hb_6⟩) hS ?_
        case hb_6 => (intro v hSw; (try dsimp only at hSw); try simp only [List.getElem_toArray, List.getElem_cons_zero, List.getElem_cons_succ]; go_simp; (try with_reducible rfl))
        try simp only [List.getElem_toArray, List.getElem_cons_zero, List.getElem_cons_succ]
        try simp only [Act.put, List.setIfInBounds_toArray, List.set_cons_zero, List.set_cons_succ]
        refine wpAnyH_take (i := 7) (v := ?vb_7) rfl (by kernel_rfl) (by kernel_rfl) (by kernel_rfl) (fun _ _ _ h => h) (Or.inl ⟨by rfl, ?hb_7⟩) hS ?_
        case hb_7 => (intro v hSw; (try dsimp only at hSw); try simp only [List.getElem_toArray, List.getElem_cons_zero, List.getElem_cons_succ]; go_simp; (try with_reducible rfl))
        try simp only [List.getElem_toArray, List.getElem_cons_zero, List.getElem_cons_succ]
        try simp only [Act.put, List.setIfInBounds_toArray, List.set_cons_zero, List.set_cons_succ]
        refine wpAnyH_take (i := 8) (v := ?vb_8) rfl (by kernel_rfl) (by kernel_rfl) (by kernel_rfl) (fun _ _ _ h => h) (Or.inl ⟨by rfl, ?hb_8⟩) hS ?_
        case hb_8 => (intro v hSw; (try dsimp only at hSw); try simp only [List.getElem_toArray, List.getElem_cons_zero, List.getElem_cons_succ]; go_simp; (try with_reducible rfl))
        try simp only [List.getElem_toArray, List.getElem_cons_zero, List.getElem_cons_succ]
        try simp only [Act.put, List.setIfInBounds_toArray, List.set_cons_zero, List.set_cons_succ]
        refine wpAnyH_take (i := 9) (v := ?vb_9) rfl (by kernel_rfl) (by kernel_rfl) (by kernel_rfl) (fun _ _ _ h => h) (Or.inl ⟨by rfl, ?hb_9⟩) hS ?_
        case hb_9 => (intro v hSw; (try dsimp only at hSw); try simp only [List.getElem_toArray, List.getElem_cons_zero, List.getElem_cons_succ]; go_simp; (try with_reducible rfl))
        try simp only [List.getElem_toArray, List.getElem_cons_zero, List.getElem_cons_succ]
        try simp only [Act.put, List.setIfInBounds_toArray, List.set_cons_zero, List.set_cons_succ]
        refine wpAnyH_take (i := 10) (v := ?vb_10) rfl (by kernel_rfl) (by kernel_rfl) (by kernel_rfl) (fun _ _ _ h => h) (Or.inl ⟨by rfl, ?hb_10⟩) hS ?_
        case hb_10 => (intro v hSw; (try dsimp only at hSw); try simp only [List.getElem_toArray, List.getElem_cons_zero, List.getElem_cons_succ]; go_simp; (try with_reducible rfl))
        try simp only [List.getElem_toArray, List.getElem_cons_zero, List.getElem_cons_succ]
        try simp only [Act.put, List.setIfInBounds_toArray, List.set_cons_zero, List.set_cons_succ]
        refine wpAnyH_take (i := 11) (v := ?vb_11) rfl (by kernel_rfl) (by kernel_rfl) (by kernel_rfl) (fun _ _ _ h => h) (Or.inl ⟨by rfl, ?hb_11⟩) hS ?_
        case hb_11 => (intro v hSw; (try dsimp only at hSw); try simp only [List.getElem_toArray, List.getElem_cons_zero, List.getElem_cons_succ]; go_simp; (try with_reducible rfl))
        try simp only [List.getElem_toArray, List.getElem_cons_zero, List.getElem_cons_succ]
        try simp only [Act.put, List.setIfInBounds_toArray, List.set_cons_zero, List.set_cons_succ]
        refine wpAnyH_take (i := 12) (v := ?vb_12) rfl (by kernel_rfl) (by kernel_rfl) (by kernel_rfl) (fun _ _ _ h => h) (Or.inl ⟨by rfl, ?hb_12⟩) hS ?_
        case hb_12 => (intro v hSw; (try dsimp only at hSw); try simp only [List.getElem_toArray, List.getElem_cons_zero, List.getElem_cons_succ]; go_simp; (try with_reducible rfl))
        try simp only [List.getElem_toArray, List.getElem_cons_zero, List.getElem_cons_succ]
        try simp only [Act.put, List.setIfInBounds_toArray, List.set_cons_zero, List.set_cons_succ]
        refine wpAnyH_take (i := 13) (v := ?vb_13) rfl (by kernel_rfl) (by kernel_rfl) (by kernel_rfl) (fun _ _ _ h => h) (Or.inl ⟨by rfl, ?hb_13⟩) hS ?_
        case hb_13 => (intro v hSw; (try dsimp only at hSw); try simp only [List.getElem_toArray, List.getElem_cons_zero, List.getElem_cons_succ]; go_simp; (try with_reducible rfl))
        try simp only [List.getElem_toArray, List.getElem_cons_zero, List.getElem_cons_succ]
        try simp only [Act.put, List.setIfInBounds_toArray, List.set_cons_zero, List.set_cons_succ]
        refine wpAnyH_take (i := 14) (v := ?vb_14) rfl (by kernel_rfl) (by kernel_rfl) (by kernel_rfl) (fun _ _ _ h => h) (Or.inl ⟨by rfl, ?hb_14⟩) hS ?_
        case hb_14 => (intro v hSw; (try dsimp only at hSw); try simp only [List.getElem_toArray, List.getElem_cons_zero, List.getElem_cons_succ]; go_simp; (try with_reducible rfl))
        try simp only [List.getElem_toArray, List.getElem_cons_zero, List.getElem_cons_succ]
        try simp only [Act.put, List.setIfInBounds_toArray, List.set_cons_zero, List.set_cons_succ]
        refine wpAnyH_take (i := 15) (v := ?vb_15) rfl (by kernel_rfl) (by kernel_rfl) (by kernel_rfl) (fun _ _ _ h => h) (Or.inl ⟨by rfl, ?hb_15⟩) hS ?_
        case hb_15 => (intro v hSw; (try dsimp only at hSw); try simp only [List.getElem_toArray, List.getElem_cons_zero, List.getElem_cons_succ]; go_simp; (try with_reducible rfl))
        try simp only [List.getElem_toArray, List.getElem_cons_zero, List.getElem_cons_succ]
        try simp only [Act.put, List.setIfInBounds_toArray, List.set_cons_zero, List.set_cons_succ]
        refine wpAnyH_take (i := 16) (v := ?vb_16) rfl (by kernel_rfl) (by kernel_rfl) (by kernel_rfl) (fun _ _ _ h => h) (Or.inl ⟨by rfl, ?hb_16⟩) hS ?_
        case hb_16 => (intro v hSw; (try dsimp only at hSw); try simp only [List.getElem_toArray, List.getElem_cons_zero, List.getElem_cons_succ]; go_simp; (try with_reducible rfl))
        try simp only [List.getElem_toArray, List.getElem_cons_zero, List.getElem_cons_succ]
        try simp only [Act.put, List.setIfInBounds_toArray, List.set_cons_zero, List.set_cons_succ]
        refine wpAnyH_take (i := 17) rfl (by kernel_rfl) (by kernel_rfl) (by kernel_rfl) (fun _ _ _ h => h) (Or.inr ⟨by rfl, rfl⟩) hS ?_
        try simp only [List.getElem_toArray, List.getElem_cons_zero, List.getElem_cons_succ]
        try simp only [Act.put, List.setIfInBounds_toArray, List.set_cons_zero, List.set_cons_succ]
        refine wpAnyH_take (i := 18) rfl (by kernel_rfl) (by kernel_rfl) (by kernel_rfl) (fun _ _ _ h => h) (Or.inr ⟨by rfl, rfl⟩) hS ?_
        try simp only [List.getElem_toArray, List.getElem_cons_zero, List.getElem_cons_succ]
        try simp only [Act.put, List.setIfInBounds_toArray, List.set_cons_zero, List.set_cons_succ]
        refine wpAnyH_take (i := 19) rfl (by kernel_rfl) (by kernel_rfl) (by kernel_rfl) (fun _ _ _ h => h) (Or.inr ⟨by rfl, rfl⟩) hS ?_
        try simp only [List.getElem_toArray, List.getElem_cons_zero, List.getElem_cons_succ]
        try simp only [Act.put, List.setIfInBounds_toArray, List.set_cons_zero, List.set_cons_succ]
        refine wpAnyH_take (i := 20) (v := ?vb_20) rfl (by kernel_rfl) (by kernel_rfl) (by kernel_rfl) (fun _ _ _ h => h) (Or.inl ⟨by rfl, ?hb_20⟩) hS ?_
        case hb_20 => (intro v hSw; (try dsimp only at hSw); try simp only [List.getElem_toArray, List.getElem_cons_zero, List.getElem_cons_succ]; go_simp; (try with_reducible rfl))
        try simp only [List.getElem_toArray, List.getElem_cons_zero, List.getElem_cons_succ]
        try simp only [Act.put, List.setIfInBounds_toArray, List.set_cons_zero, List.set_cons_succ]
        refine wpAnyH_take (i := 21) (v := ?vb_21) rfl (by kernel_rfl) (by kernel_rfl) (by kernel_rfl) (fun _ _ _ h => h) (Or.inl ⟨by rfl, ?hb_21⟩) hS ?_
        case hb_21 => (intro v hSw; (try dsimp only at hSw); try simp only [List.getElem_toArray, List.getElem_cons_zero, List.getElem_cons_succ]; go_simp; (try with_reducible rfl))
        try simp only [List.getElem_toArray, List.getElem_cons_zero, List.getElem_cons_succ]
        try simp only [Act.put, List.setIfInBounds_toArray, List.set_cons_zero, List.set_cons_succ]
        refine wpAnyH_done (by kernel_rfl) ?_ _
        refine NoPanic.normal ?_
        have G2 := Lib.hid hS.2.2.2
        have HNE : Hid (L = [] ∨ a < s.length) := Lib.hid (.inr HLT.out)
        have own1 : Hid (V0.ownsRow w.heap.size 37 2 (.slice vp L.length vc) L.length (flatC L)) := Lib.hid (by rw [← hV0]; exact own0.out)
        clear hS HI b1 HLT own0 hV0
      rotate_left
      focus
        go_upto_region 2 with fail
        refine wp_region_noPanic ?_
        refine wp_region_held_drew (S := fun w' => w'.cell? ⟨B, 0, none⟩ = some (.string (S s)) ∧ w'.cell? ⟨B, 1, none⟩ = some (.int .i64 (a : Int)) ∧ w'.cell? ⟨B, 2, none⟩ = some (.bool false) ∧ RdG s B w w' a false) (by kernel_rfl) (HI.out) (fun hS => ?_)
        generalize hV0 : wr.drew = V0 at hS ⊢
        refine wpAnyH_take (i := 0) (v := ?vc_0) rfl (by kernel_rfl) (by kernel_rfl) (by kernel_rfl) (fun _ _ _ h => h) (Or.inl ⟨by rfl, ?hc_0⟩) hS ?_
        case hc_0 => (intro v hSw; (try dsimp only at hSw); try simp only [List.getElem_toArray, List.getElem_cons_zero, List.getElem_cons_succ]; go_simp; (try with_reducible rfl))
        try simp only [List.getElem_toArray, List.getElem_cons_zero, List.getElem_cons_succ]
        try simp only [Act.put, List.setIfInBounds_toArray, List.set_cons_zero, List.set_cons_succ]
        refine wpAnyH_take (i := 1) (v := ?vc_1) rfl (by kernel_rfl) (by kernel_rfl) (by kernel_rfl) (fun _ _ _ h => h) (Or.inl ⟨by rfl, ?hc_1⟩) hS ?_
        case hc_1 => (intro v hSw; (try dsimp only at hSw); try simp only [List.getElem_toArray, List.getElem_cons_zero, List.getElem_cons_succ]; go_simp; (try with_reducible rfl))
        try simp only [List.getElem_toArray, List.getElem_cons_zero, List.getElem_cons_succ]
        try simp only [Act.put, List.setIfInBounds_toArray, List.set_cons_zero, List.set_cons_succ]
        refine wpAnyH_take (i := 2) (v := ?vc_2) rfl (by kernel_rfl) (by kernel_rfl) (by kernel_rfl) (fun _ _ _ h => h) (Or.inl ⟨by rfl, ?hc_2⟩) hS ?_
        case hc_2 => (intro v hSw; (try dsimp only at hSw); try simp only [List.getElem_toArray, List.getElem_cons_zero, List.getElem_cons_succ]; go_simp; (try with_reducible rfl))
        try simp only [List.getElem_toArray, List.getElem_cons_zero, List.getElem_cons_succ]
        try simp only [Act.put, List.setIfInBounds_toArray, List.set_cons_zero, List.set_cons_succ]
        refine wpAnyH_take (i := 3) (v := ?vc_3) rfl (by kernel_rfl) (by kernel_rfl) (by kernel_rfl) (fun _ _ _ h => h) (Or.inl ⟨by rfl, ?hc_3⟩) hS ?_
        case hc_3 => (intro v hSw; (try dsimp only at hSw); try simp only [List.getElem_toArray, List.getElem_cons_zero, List.getElem_cons_succ]; go_simp; (try with_reducible rfl))
        try simp only [List.getElem_toArray, List.getElem_cons_zero, List.getElem_cons_succ]
        try simp only [Act.put, List.setIfInBounds_toArray, List.set_cons_zero, List.set_cons_succ]
        refine wpAnyH_take (i := 4) (v := ?vc_4) rfl (by kernel_rfl) (by kernel_rfl) (by kernel_rfl) (fun _ _ _ h => h) (Or.inl ⟨by rfl, ?hc_4⟩) hS ?_
        case hc_4 => (intro v hSw; (try dsimp only at hSw); try simp only [List.getElem_toArray, List.getElem_cons_zero, List.getElem_cons_succ]; go_simp; (try with_reducible rfl))
        try simp only [List.getElem_toArray, List.getElem_cons_zero, List.getElem_cons_succ]
        try simp only [Act.put, List.setIfInBounds_toArray, List.set_cons_zero, List.set_cons_succ]
        refine wpAnyH_take (i := 5) (v := ?vc_5) rfl (by kernel_rfl) (by kernel_rfl) (by kernel_rfl) (fun _ _ _ h => h) (Or.inl ⟨by rfl, ?hc_5⟩) hS ?_
        case hc_5 => (intro v hSw; (try dsimp only at hSw); try simp only [List.getElem_toArray, List.getElem_cons_zero, List.getElem_cons_succ]; go_simp; (try with_reducible rfl))
        try simp only [List.getElem_toArray, List.getElem_cons_zero, List.getElem_cons_succ]
        try simp only [Act.put, List.setIfInBounds_toArray, List.set_cons_zero, List.set_cons_succ]
        refine wpAnyH_take (i := 6) (v := ?vc_6) rfl (by kernel_rfl) (by kernel_rfl) (by kernel_rfl) (fun _ _ _ h => h) (Or.inl ⟨by rfl, ?hc_6⟩) hS ?_
        case hc_6 => (intro v hSw; (try dsimp only at hSw); try simp only [List.getElem_toArray, List.getElem_cons_zero, List.getElem_cons_succ]; go_simp; (try with_reducible rfl))
        try simp only [List.getElem_toArray, List.getElem_cons_zero, List.getElem_cons_succ]
        try simp only [Act.put, List.setIfInBounds_toArray, List.set_cons_zero, List.set_cons_succ]
        refine wpAnyH_take (i := 7) (v := ?vc_7) rfl (by kernel_rfl) (by kernel_rfl) (by kernel_rfl) (fun _ _ _ h => h) (Or.inl ⟨by rfl, ?hc_7⟩) hS ?_
        case hc_7 => (intro v hSw; (try dsimp only at hSw); try simp only [List.getElem_toArray, List.getElem_cons_zero, List.getElem_cons_succ]; go_simp; (try with_reducible rfl))
        try simp only [List.getElem_toArray, List.getElem_cons_zero, List.getElem_cons_succ]
        try simp only [Act.put, List.setIfInBounds_toArray, List.set_cons_zero, List.set_cons_succ]
        refine wpAnyH_take (i := 8) (v := ?vc_8) rfl (by kernel_rfl) (by kernel_rfl) (by kernel_rfl) (fun _ _ _ h => h) (Or.inl ⟨by rfl, ?hc_8⟩) hS ?_
        case hc_8 => (intro v hSw; (try dsimp only at hSw); try simp only [List.getElem_toArray, List.getElem_cons_zero, List.getElem_cons_succ]; go_simp; (try with_reducible rfl))
        try simp only [List.getElem_toArray, List.getElem_cons_zero, List.getElem_cons_succ]
        try simp only [Act.put, List.setIfInBounds_toArray, List.set_cons_zero, List.set_cons_succ]
        refine wpAnyH_take (i := 9) (v := ?vc_9) rfl (by kernel_rfl) (by kernel_rfl) (by kernel_rfl) (fun _ _ _ h => h) (Or.inl ⟨by rfl, ?hc_9⟩) hS ?_
        case hc_9 => (intro v hSw; (try dsimp only at hSw); try simp only [List.getElem_toArray, List.getElem_cons_zero, List.getElem_cons_succ]; go_simp; (try with_reducible rfl))
        try simp only [List.getElem_toArray, List.getElem_cons_zero, List.getElem_cons_succ]
        try simp only [Act.put, List.setIfInBounds_toArray, List.set_cons_zero, List.set_cons_succ]
        refine wpAnyH_take (i := 10) (v := ?vc_10) rfl (by kernel_rfl) (by kernel_rfl) (by kernel_rfl) (fun _ _ _ h => h) (Or.inl ⟨by rfl, ?hc_10⟩) hS ?_
        case hc_10 => (intro v hSw; (try dsimp only at hSw); try simp only [List.getElem_toArray, List.getElem_cons_zero, List.getElem_cons_succ]; go_simp; (try with_reducible rfl))
        try simp only [List.getElem_toArray, List.getElem_cons_zero, List.getElem_cons_succ]
        try simp only [Act.put, List.setIfInBounds_toArray, List.set_cons_zero, List.set_cons_succ]
        refine wpAnyH_take (i := 11) (v := ?vc_11) rfl (by kernel_rfl) (by kernel_rfl) (by kernel_rfl) (fun _ _ _ h => h) (Or.inl ⟨by rfl, ?hc_11⟩) hS ?_
        case hc_11 => (intro v hSw; (try dsimp only at hSw); try simp only [List.getElem_toArray, List.getElem_cons_zero, List.getElem_cons_succ]; go_simp; (try with_reducible rfl))
        try simp only [List.getElem_toArray, List.getElem_cons_zero, List.getElem_cons_succ]
        try simp only [Act.put, List.setIfInBounds_toArray, List.set_cons_zero, List.set_cons_succ]
        refine wpAnyH_take (i := 12) (v := ?vc_12) rfl (by kernel_rfl) (by kernel_rfl) (by kernel_rfl) (fun _ _ _ h => h) (Or.inl ⟨by rfl, ?hc_12⟩) hS ?_
        case hc_12 => (intro v hSw; (try dsimp only at hSw); try simp only [List.getElem_toArray, List.getElem_cons_zero, List.getElem_cons_succ]; go_simp; (try with_reducible rfl))
        try simp only [List.getElem_toArray, List.getElem_cons_zero, List.getElem_cons_succ]
        try simp only [Act.put, List.setIfInBounds_toArray, List.set_cons_zero, List.set_cons_succ]
        refine wpAnyH_take (i := 13) (v := ?vc_13) rfl (by kernel_rfl) (by kernel_rfl) (by kernel_rfl) (fun _ _ _ h => h) (Or.inl ⟨by rfl, ?hc_13⟩) hS ?_
        case hc_13 => (intro v hSw; (try dsimp only at hSw); try simp only [List.getElem_toArray, List.getElem_cons_zero, List.getElem_cons_succ]; go_simp; (try with_reducible rfl))
        try simp only [List.getElem_toArray, List.getElem_cons_zero, List.getElem_cons_succ]
        try simp only [Act.put, List.setIfInBounds_toArray, List.set_cons_zero, List.set_cons_succ]
        refine wpAnyH_take (i := 14) (v := ?vc_14) rfl (by kernel_rfl) (by kernel_rfl) (by kernel_rfl) (fun _ _ _ h => h) (Or.inl ⟨by rfl, ?hc_14⟩) hS ?_
        case hc_14 => (intro v hSw; (try dsimp only at hSw); try simp only [List.getElem_toArray, List.getElem_cons_zero, List.getElem_cons_succ]; go_simp; (try with_reducible rfl))
        try simp only [List.getElem_toArray, List.getElem_cons_zero, List.getElem_cons_succ]
        try simp only [Act.put, List.setIfInBounds_toArray, List.set_cons_zero, List.set_cons_succ]
        refine wpAnyH_take (i := 15) (v := ?vc_15) rfl (by kernel_rfl) (by kernel_rfl) (by kernel_rfl) (fun _ _ _ h => h) (Or.inl ⟨by rfl, ?hc_15⟩) hS ?_
        case hc_15 => (intro v hSw; (try dsimp only at hSw); try simp only [List.getElem_toArray, List.getElem_cons_zero, List.getElem_cons_succ]; go_simp; (try with_reducible rfl))
        try simp only [List.getElem_toArray, List.getElem_cons_zero, List.getElem_cons_succ]
        try simp only [Act.put, List.setIfInBounds_toArray, List.set_cons_zero, List.set_cons_succ]
        refine wpAnyH_take (i := 16) (v := ?vc_16) rfl (by kernel_rfl) (by kernel_rfl) (by kernel_rfl) (fun _ _ _ h => h) (Or.inl ⟨by rfl, ?hc_16⟩) hS ?_
        case hc_16 => (intro v hSw; (try dsimp only at hSw); try simp only [List.getElem_toArray, List.getElem_cons_zero, List.getElem_cons_succ]; go_simp; (try with_reducible rfl))
        try simp only [List.getElem_toArray, List.getElem_cons_zero, List.getElem_cons_succ]
        try simp only [Act.put, List.setIfInBounds_toArray, List.set_cons_zero, List.set_cons_succ]
        refine wpAnyH_take (i := 17) (v := ?vc_17) rfl (by kernel_rfl) (by kernel_rfl) (by kernel_rfl) (fun _ _ _ h => h) (Or.inl ⟨by rfl, ?hc_17⟩) hS ?_
        case hc_17 => (intro v hSw; (try dsimp only at hSw); try simp only [List.getElem_toArray, List.getElem_cons_zero, List.getElem_cons_succ]; go_simp; (try with_reducible rfl))
        try simp only [List.getElem_toArray, List.getElem_cons_zero, List.getElem_cons_succ]
        try simp only [Act.put, List.setIfInBounds_toArray, List.set_cons_zero, List.set_cons_succ]
        refine wpAnyH_take (i := 18) (v := ?vc_18) rfl (by kernel_rfl) (by kernel_rfl) (by kernel_rfl) (fun _ _ _ h => h) (Or.inl ⟨by rfl, ?hc_18⟩) hS ?_
        case hc_18 => (intro v hSw; (try dsimp only at hSw); try simp only [List.getElem_toArray, List.getElem_cons_zero, List.getElem_cons_succ]; go_simp; (try with_reducible rfl))
        try simp only [List.getElem_toArray, List.getElem_cons_zero, List.getElem_cons_succ]
        try simp only [Act.put, List.setIfInBounds_toArray, List.set_cons_zero, List.set_cons_succ]
        refine wpAnyH_take (i := 19) (v := ?vc_19) rfl (by kernel_rfl) (by kernel_rfl) (by kernel_rfl) (fun _ _ _ h => h) (Or.inl ⟨by rfl, ?hc_19⟩) hS ?_
        case hc_19 => (intro v hSw; (try dsimp only at hSw); try simp only [List.getElem_toArray, List.getElem_cons_zero, List.getElem_cons_succ]; go_simp; (try with_reducible rfl))
        try simp only [List.getElem_toArray, List.getElem_cons_zero, List.getElem_cons_succ]
        try simp only [Act.put, List.setIfInBounds_toArray, List.set_cons_zero, List.set_cons_succ]
        refine wpAnyH_take (i := 20) (v := ?vc_20) rfl (by kernel_rfl) (by kernel_rfl) (by kernel_rfl) (fun _ _ _ h => h) (Or.inl ⟨by rfl, ?hc_20⟩) hS ?_
        case hc_20 => (intro v hSw; (try dsimp only at hSw); try simp only [List.getElem_toArray, List.getElem_cons_zero, List.getElem_cons_succ]; go_simp; (try with_reducible rfl))
        try simp only [List.getElem_toArray, List.getElem_cons_zero, List.getElem_cons_succ]
        try simp only [Act.put, List.setIfInBounds_toArray, List.set_cons_zero, List.set_cons_succ]
        refine wpAnyH_take (i := 21) (v := ?vc_21) rfl (by kernel_rfl) (by kernel_rfl) (by kernel_rfl) (fun _ _ _ h => h) (Or.inl ⟨by rfl, ?hc_21⟩) hS ?_
        case hc_21 => (intro v hSw; (try dsimp only at hSw); try simp only [List.getElem_toArray, List.getElem_cons_zero, List.getElem_cons_succ]; go_simp; (try with_reducible rfl))
        try simp only [List.getElem_toArray, List.getElem_cons_zero, List.getElem_cons_succ]
        try simp only [Act.put, List.setIfInBounds_toArray, List.set_cons_zero, List.set_cons_succ]
        refine wpAnyH_done (by kernel_rfl) ?_ _
        refine NoPanic.normal ?_
        have G2 := Lib.hid hS.2.2.2
        have HNE : Hid (L = [] ∨ a < s.length) := Lib.hid (.inl HL.out)
        have own1 : Hid (V0.ownsRow w.heap.size 37 2 (.slice vp L.length vc) L.length (flatC L)) := Lib.hid (by rw [← hV0]; exact own0.out)
        clear hS HI b1 b2 HLE HL own0 hV0
      rotate_left
      focus
        go_upto_region 2 with fail
        refine wp_region_noPanic ?_
        refine wp_region_held_drew (S := fun w' => w'.cell? ⟨B, 0, none⟩ = some (.string (S s)) ∧ w'.cell? ⟨B, 1, none⟩ = some (.int .i64 (a : Int)) ∧ w'.cell? ⟨B, 2, none⟩ = some (.bool false) ∧ RdG s B w w' a false) (by kernel_rfl) (HI.out) (fun hS => ?_)
        generalize hV0 : wr.drew = V0 at hS ⊢
        refine wpAnyH_take (i := 0) (v := ?vd_0) rfl (by kernel_rfl) (by kernel_rfl) (by kernel_rfl) (fun _ _ _ h => h) (Or.inl ⟨by rfl, ?hd_0⟩) hS ?_
        case hd_0 => (intro v hSw; (try dsimp only at hSw); try simp only [List.getElem_toArray, List.getElem_cons_zero, List.getElem_cons_succ]; go_simp; (try with_reducible rfl))
        try simp only [List.getElem_toArray, List.getElem_cons_zero, List.getElem_cons_succ]
        try simp only [Act.put, List.setIfInBounds_toArray, List.set_cons_zero, List.set_cons_succ]
        refine wpAnyH_take (i := 1) (v := ?vd_1) rfl (by kernel_rfl) (by kernel_rfl) (by kernel_rfl) (fun _ _ _ h => h) (Or.inl ⟨by rfl, ?hd_1⟩) hS ?_
        case hd_1 => (intro v hSw; (try dsimp only at hSw); try simp only [List.getElem_toArray, List.getElem_cons_zero, List.getElem_cons_succ]; go_simp; (try with_reducible rfl))
        try simp only [List.getElem_toArray, List.getElem_cons_zero, List.getElem_cons_succ]
        try simp only [Act.put, List.setIfInBounds_toArray, List.set_cons_zero, List.set_cons_succ]
        refine wpAnyH_take (i := 2) (v := ?vd_2) rfl (by kernel_rfl) (by kernel_rfl) (by kernel_rfl) (fun _ _ _ h => h) (Or.inl ⟨by rfl, ?hd_2⟩) hS ?_
        case hd_2 => (intro v hSw; (try dsimp only at hSw); try simp only [List.getElem_toArray, List.getElem_cons_zero, List.getElem_cons_succ]; go_simp; (try with_reducible rfl))
        try simp only [List.getElem_toArray, List.getElem_cons_zero, List.getElem_cons_succ]
        try simp only [Act.put, List.setIfInBounds_toArray, List.set_cons_zero, List.set_cons_succ]
        refine wpAnyH_take (i := 3) (v := ?vd_3) rfl (by kernel_rfl) (by kernel_rfl) (by kernel_rfl) (fun _ _ _ h => h) (Or.inl ⟨by rfl, ?hd_3⟩) hS ?_
        case hd_3 => (intro v hSw; (try dsimp only at hSw); try simp only [List.getElem_toArray, List.getElem_cons_zero, List.getElem_cons_succ]; go_simp; (try with_reducible rfl))
        try simp only [List.getElem_toArray, List.getElem_cons_zero, List.getElem_cons_succ]
        try simp only [Act.put, List.setIfInBounds_toArray, List.set_cons_zero, List.set_cons_succ]
        refine wpAnyH_take (i := 4) (v := ?vd_4) rfl (by kernel_rfl) (by kernel_rfl) (by kernel_rfl) (fun _ _ _ h => h) (Or.inl ⟨by rfl, ?hd_4⟩) hS ?_
        case hd_4 => (intro v hSw; (try dsimp only at hSw); try simp only [List.getElem_toArray, List.getElem_cons_zero, List.getElem_cons_succ]; go_simp; (try with_reducible rfl))
        try simp only [List.getElem_toArray, List.getElem_cons_zero, List.getElem_cons_succ]
        try simp only [Act.put, List.setIfInBounds_toArray, List.set_cons_zero, List.set_cons_succ]
        refine wpAnyH_take (i := 5) (v := ?vd_5) rfl (by kernel_rfl) (by kernel_rfl) (by kernel_rfl) (fun _ _ _ h => h) (Or.inl ⟨by rfl, ?hd_5⟩) hS ?_
        case hd_5 => (intro v hSw; (try dsimp only at hSw); try simp only [List.getElem_toArray, List.getElem_cons_zero, List.getElem_cons_succ]; go_simp; (try with_reducible rfl))
        try simp only [List.getElem_toArray, List.getElem_cons_zero, List.getElem_cons_succ]
        try simp only [Act.put, List.setIfInBounds_toArray, List.set_cons_zero, List.set_cons_succ]
        refine wpAnyH_take (i := 6) (v := ?vd_6) rfl (by kernel_rfl) (by kernel_rfl) (by kernel_rfl) (fun _ _ _ h => h) (Or.inl ⟨by rfl, ?hd_6⟩) hS ?_
        case hd_6 => (intro v hSw; (try dsimp only at hSw); try simp only [List.getElem_toArray, List.getElem_cons_zero, List.getElem_cons_succ]; go_simp; (try with_reducible rfl))
        try simp only [List.getElem_toArray, List.getElem_cons_zero, List.getElem_cons_succ]
        try simp only [Act.put, List.setIfInBounds_toArray, List.set_cons_zero, List.set_cons_succ]
        refine wpAnyH_take (i := 7) (v := ?vd_7) rfl (by kernel_rfl) (by kernel_rfl) (by kernel_rfl) (fun _ _ _ h => h) (Or.inl ⟨by rfl, ?hd_7⟩) hS ?_
        case hd_7 => (intro v hSw; (try dsimp only at hSw); try simp only [List.getElem_toArray, List.getElem_cons_zero, List.getElem_cons_succ]; go_simp; (try with_reducible rfl))
        try simp only [List.getElem_toArray, List.getElem_cons_zero, List.getElem_cons_succ]
        try simp only [Act.put, List.setIfInBounds_toArray, List.set_cons_zero, List.set_cons_succ]
        refine wpAnyH_take (i := 8) (v := ?vd_8) rfl (by kernel_rfl) (by kernel_rfl) (by kernel_rfl) (fun _ _ _ h => h) (Or.inl ⟨by rfl, ?hd_8⟩) hS ?_
        case hd_8 => (intro v hSw; (try dsimp only at hSw); try simp only [List.getElem_toArray, List.getElem_cons_zero, List.getElem_cons_succ]; go_simp; (try with_reducible rfl))
        try simp only [List.getElem_toArray, List.getElem_cons_zero, List.getElem_cons_succ]
        try simp only [Act.put, List.setIfInBounds_toArray, List.set_cons_zero, List.set_cons_succ]
        refine wpAnyH_take (i := 9) (v := ?vd_9) rfl (by kernel_rfl) (by kernel_rfl) (by kernel_rfl) (fun _ _ _ h => h) (Or.inl ⟨by rfl, ?hd_9⟩) hS ?_
        case hd_9 => (intro v hSw; (try dsimp only at hSw); try simp only [List.getElem_toArray, List.getElem_cons_zero, List.getElem_cons_succ]; go_simp; (try with_reducible rfl))
        try simp only [List.getElem_toArray, List.getElem_cons_zero, List.getElem_cons_succ]
        try simp only [Act.put, List.setIfInBounds_toArray, List.set_cons_zero, List.set_cons_succ]
        refine wpAnyH_take (i := 10) (v := ?vd_10) rfl (by kernel_rfl) (by kernel_rfl) (by kernel_rfl) (fun _ _ _ h => h) (Or.inl ⟨by rfl, ?hd_10⟩) hS ?_
        case hd_10 => (intro v hSw; (try dsimp only at hSw); try simp only [List.getElem_toArray, List.getElem_cons_zero, List.getElem_cons_succ]; go_simp; (try with_reducible rfl))
        try simp only [List.getElem_toArray, List.getElem_cons_zero, List.getElem_cons_succ]
        try simp only [Act.put, List.setIfInBounds_toArray, List.set_cons_zero, List.set_cons_succ]
        refine wpAnyH_take (i := 11) (v := ?vd_11) rfl (by kernel_rfl) (by kernel_rfl) (by kernel_rfl) (fun _ _ _ h => h) (Or.inl ⟨by rfl, ?hd_11⟩) hS ?_
        case hd_11 => (intro v hSw; (try dsimp only at hSw); try simp only [List.getElem_toArray, List.getElem_cons_zero, List.getElem_cons_succ]; go_simp; (try with_reducible rfl))
        try simp only [List.getElem_toArray, List.getElem_cons_zero, List.getElem_cons_succ]
        try simp only [Act.put, List.setIfInBounds_toArray, List.set_cons_zero, List.set_cons_succ]
        refine wpAnyH_take (i := 12) (v := ?vd_12) rfl (by kernel_rfl) (by kernel_rfl) (by kernel_rfl) (fun _ _ _ h => h) (Or.inl ⟨by rfl, ?hd_12⟩) hS ?_
        case hd_12 => (intro v hSw; (try dsimp only at hSw); try simp only [List.getElem_toArray, List.getElem_cons_zero, List.getElem_cons_succ]; go_simp; (try with_reducible rfl))
        try simp only [List.getElem_toArray, List.getElem_cons_zero, List.getElem_cons_succ]
        try simp only [Act.put, List.setIfInBounds_toArray, List.set_cons_zero, List.set_cons_succ]
        refine wpAnyH_take (i := 13) (v := ?vd_13) rfl (by kernel_rfl) (by kernel_rfl) (by kernel_rfl) (fun _ _ _ h => h) (Or.inl ⟨by rfl, ?hd_13⟩) hS ?_
        case hd_13 => (intro v hSw; (try dsimp only at hSw); try simp only [List.getElem_toArray, List.getElem_cons_zero, List.getElem_cons_succ]; go_simp; (try with_reducible rfl))
        try simp only [List.getElem_toArray, List.getElem_cons_zero, List.getElem_cons_succ]
        try simp only [Act.put, List.setIfInBounds_toArray, List.set_cons_zero, List.set_cons_succ]
        refine wpAnyH_take (i := 14) (v := ?vd_14) rfl (by kernel_rfl) (by kernel_rfl) (by kernel_rfl) (fun _ _ _ h => h) (Or.inl ⟨by rfl, ?hd_14⟩) hS ?_
        case hd_14 => (intro v hSw; (try dsimp only at hSw); try simp only [List.getElem_toArray, List.getElem_cons_zero, List.getElem_cons_succ]; go_simp; (try with_reducible rfl))
        try simp only [List.getElem_toArray, List.getElem_cons_zero, List.getElem_cons_succ]
        try simp only [Act.put, List.setIfInBounds_toArray, List.set_cons_zero, List.set_cons_succ]
        refine wpAnyH_take (i := 15) (v := ?vd_15) rfl (by kernel_rfl) (by kernel_rfl) (by kernel_rfl) (fun _ _ _ h => h) (Or.inl ⟨by rfl, ?hd_15⟩) hS ?_
        case hd_15 => (intro v hSw; (try dsimp only at hSw); try simp only [List.getElem_toArray, List.getElem_cons_zero, List.getElem_cons_succ]; go_simp; (try with_reducible rfl))
        try simp only [List.getElem_toArray, List.getElem_cons_zero, List.getElem_cons_succ]
        try simp only [Act.put, List.setIfInBounds_toArray, List.set_cons_zero, List.set_cons_succ]
        refine wpAnyH_take (i := 16) (v := ?vd_16) rfl (by kernel_rfl) (by kernel_rfl) (by kernel_rfl) (fun _ _ _ h => h) (Or.inl ⟨by rfl, ?hd_16⟩) hS ?_
        case hd_16 => (intro v hSw; (try dsimp only at hSw); try simp only [List.getElem_toArray, List.getElem_cons_zero, List.getElem_cons_succ]; go_simp; (try with_reducible rfl))
        try simp only [List.getElem_toArray, List.getElem_cons_zero, List.getElem_cons_succ]
        try simp only [Act.put, List.setIfInBounds_toArray, List.set_cons_zero, List.set_cons_succ]
        refine wpAnyH_take (i := 17) (v := ?vd_17) rfl (by kernel_rfl) (by kernel_rfl) (by kernel_rfl) (fun _ _ _ h => h) (Or.inl ⟨by rfl, ?hd_17⟩) hS ?_
        case hd_17 => (intro v hSw; (try dsimp only at hSw); try simp only [List.getElem_toArray, List.getElem_cons_zero, List.getElem_cons_succ]; go_simp; (try with_reducible rfl))
        try simp only [List.getElem_toArray, List.getElem_cons_zero, List.getElem_cons_succ]
        try simp only [Act.put, List.setIfInBounds_toArray, List.set_cons_zero, List.set_cons_succ]
        refine wpAnyH_take (i := 18) (v := ?vd_18) rfl (by kernel_rfl) (by kernel_rfl) (by kernel_rfl) (fun _ _ _ h => h) (Or.inl ⟨by rfl, ?hd_18⟩) hS ?_
        case hd_18 => (intro v hSw; (try dsimp only at hSw); try simp only [List.getElem_toArray, List.getElem_cons_zero, List.getElem_cons_succ]; go_simp; (try with_reducible rfl))
        try simp only [List.getElem_toArray, List.getElem_cons_zero, List.getElem_cons_succ]
        try simp only [Act.put, List.setIfInBounds_toArray, List.set_cons_zero, List.set_cons_succ]
        refine wpAnyH_take (i := 19) (v := ?vd_19) rfl (by kernel_rfl) (by kernel_rfl) (by kernel_rfl) (fun _ _ _ h => h) (Or.inl ⟨by rfl, ?hd_19⟩) hS ?_
        case hd_19 => (intro v hSw; (try dsimp only at hSw); try simp only [List.getElem_toArray, List.getElem_cons_zero, List.getElem_cons_succ]; go_simp; (try with_reducible rfl))
        try simp only [List.getElem_toArray, List.getElem_cons_zero, List.getElem_cons_succ]
        try simp only [Act.put, List.setIfInBounds_toArray, List.set_cons_zero, List.set_cons_succ]
        refine wpAnyH_take (i := 20) (v := ?vd_20) rfl (by kernel_rfl) (by kernel_rfl) (by kernel_rfl) (fun _ _ _ h => h) (Or.inl ⟨by rfl, ?hd_20⟩) hS ?_
        case hd_20 => (intro v hSw; (try dsimp only at hSw); try simp only [List.getElem_toArray, List.getElem_cons_zero, List.getElem_cons_succ]; go_simp; (try with_reducible rfl))
        try simp only [List.getElem_toArray, List.getElem_cons_zero, List.getElem_cons_succ]
        try simp only [Act.put, List.setIfInBounds_toArray, List.set_cons_zero, List.set_cons_succ]
        refine wpAnyH_take (i := 21) (v := ?vd_21) rfl (by kernel_rfl) (by kernel_rfl) (by kernel_rfl) (fun _ _ _ h => h) (Or.inl ⟨by rfl, ?hd_21⟩) hS ?_
        case hd_21 => (intro v hSw; (try dsimp only at hSw); try simp only [List.getElem_toArray, List.getElem_cons_zero, List.getElem_cons_succ]; go_simp; (try with_reducible rfl))
        try simp only [List.getElem_toArray, List.getElem_cons_zero, List.getElem_cons_succ]
        try simp only [Act.put, List.setIfInBounds_toArray, List.set_cons_zero, List.set_cons_succ]
        refine wpAnyH_done (by kernel_rfl) ?_ _
        refine NoPanic.normal ?_
        have G2 := Lib.hid hS.2.2.2
        have own1 : Hid (V0.ownsRow w.heap.size 37 2 (.slice vp L.length vc) L.length (flatC L)) := Lib.hid (by rw [← hV0]; exact own0.out)
        clear hS HI own0 hV0 HQ
        go_wp2_with fail
        go_ret
        exact ⟨_, a, false, rfl, ⟨_, _, _, rfl⟩, G2.out, .inr ⟨rfl, L, HV.out, own1.out⟩⟩
      all_goals
        have hway : (Hid (a < s.length ∧ byt s a = 91) ∧ a < s.length ∧ Hid ((if (ridx s (s.length + 1) (a + 1) 0 0).2.2 then ([], 8, (ridx s (s.length + 1) (a + 1) 0 0).2.1) else rgo s f (ridx s (s.length + 1) (a + 1) 0 0).2.1 (L ++ [⟨[], ((ridx s (s.length + 1) (a + 1) 0 0).1 : Int)⟩])) = r)) ∨
            (Hid (s.length ≤ a ∨ byt s a ≠ 91) ∧ decide (0 < L.length) = false ∧ ((L.length : Int) == 0) = true ∧ a < s.length ∧ Hid (byt s a = 46) ∧ Hid (r = ([], 8, a + 1))) ∨
            (Hid (s.length ≤ a ∨ byt s a ≠ 91) ∧ decide (0 < L.length) = false ∧ ((L.length : Int) == 0) = true ∧ Hid (s.length ≤ a ∨ byt s a ≠ 46) ∧ Hid ((if (rlab s a).2.2 then ([], 8, (rlab s a).2.1) else rgo s f (rlab s a).2.1 (L ++ [⟨(rlab s a).1, 0⟩])) = r)) ∨
            (Hid (s.length ≤ a ∨ byt s a ≠ 91) ∧ 0 < L.length ∧ ((L.length : Int) == 0) = false ∧ a < s.length ∧ Hid (byt s a = 46) ∧ Hid ((if (rlab s (a + 1)).2.2 then ([], 8, (rlab s (a + 1)).2.1) else rgo s f (rlab s (a + 1)).2.1 (L ++ [⟨(rlab s (a + 1)).1, 0⟩])) = r)) ∨
            (Hid (s.length ≤ a ∨ byt s a ≠ 91) ∧ 0 < L.length ∧ ((L.length : Int) == 0) = false ∧ Hid (s.length ≤ a ∨ byt s a ≠ 46) ∧ Hid (r = ([], 8, a))) := by
          have hq := HQ.out
          rw [if_neg (show ¬ (s.length ≤ a ∧ L.isEmpty = false) by
            rintro ⟨h1, h2⟩
            rcases HNE.out with h | h
            · rw [h] at h2; cases h2
            · omega)] at hq
          by_cases h91 : a < s.length ∧ byt s a = 91
          · rw [if_pos h91] at hq
            exact .inl ⟨Lib.hid h91, h91.1, Lib.hid hq⟩
          rw [if_neg h91] at hq
          have n91 : s.length ≤ a ∨ byt s a ≠ 91 := by
            by_cases h : a < s.length
            · exact .inr fun e => h91 ⟨h, e⟩
            · exact .inl (by omega)
          by_cases hL : L = []
          · have hl0 : L.length = 0 := by rw [hL]; rfl
            rw [if_pos (show L.isEmpty = true by rw [hL]; rfl)] at hq
            by_cases h46 : a < s.length ∧ byt s a = 46
            · rw [if_pos h46] at hq
              exact .inr (.inl ⟨Lib.hid n91, decide_eq_false (by omega), by rw [hl0]; rfl, h46.1, Lib.hid h46.2, Lib.hid hq.symm⟩)
            · rw [if_neg h46] at hq
              refine .inr (.inr (.inl ⟨Lib.hid n91, decide_eq_false (by omega), by rw [hl0]; rfl, Lib.hid ?_, Lib.hid hq⟩))
              by_cases h : a < s.length
              · exact .inr fun e => h46 ⟨h, e⟩
              · exact .inl (by omega)
          · have hlp := List.length_pos_iff.2 hL
            have b2 : ((L.length : Int) == 0) = false := by rw [beq_eq_false_iff_ne]; omega
            rw [if_neg (show ¬ L.isEmpty = true by cases L with
              | nil => exact absurd rfl hL
              | cons => simp)] at hq
            by_cases h46 : a < s.length ∧ byt s a = 46
            · rw [if_pos h46] at hq
              exact .inr (.inr (.inr (.inl ⟨Lib.hid n91, hlp, b2, h46.1, Lib.hid h46.2, Lib.hid hq⟩)))
            · rw [if_neg h46] at hq
              refine .inr (.inr (.inr (.inr ⟨Lib.hid n91, hlp, b2, Lib.hid ?_, Lib.hid hq.symm⟩)))
              by_cases h : a < s.length
              · exact .inr fun e => h46 ⟨h, e⟩
              · exact .inl (by omega)
        clear HQ HNE
        rcases hway with ⟨H91, hlt, HQ⟩ | ⟨N91, b1, b2, hlt, H46, HV⟩ | ⟨N91, b1, b2, H46, HQ⟩ | ⟨N91, b1, b2, hlt, H46, HQ⟩ | ⟨N91, b1, b2, H46, HV⟩
        · skip
          go_wp2_with fail
          refine (is_yes s a 91 B _ hl G2.out.2 hlt H91.out.2).mono ?_
          rintro e w3 ⟨rfl, hg, hr⟩
          have G3 := Lib.hid (G2.out.step hg hr)
          have own2 := Lib.hid (own_kept own1.out hg hB)
          clear hg hr
          have hri := ridx_le s (s.length + 1) (a + 1) 0 0 (by omega) (by omega)
          obtain ⟨⟨n, c, F⟩, hx⟩ : ∃ x, ridx s (s.length + 1) (a + 1) 0 0 = x := ⟨_, rfl⟩
          rw [hx] at HQ hri
          simp only at hri
          have HX := Lib.hid hx
          clear hx H91
          go_wp2_with fail
          refine (index_ref s (a + 1) (by omega) B _ hl G3.out.2).mono ?_
          rintro e w4 ⟨rfl, hg, hr⟩
          rw [HX.out] at hr ⊢
          simp only at hr ⊢
          have G4 := Lib.hid (G3.out.step hg hr)
          have own3 := Lib.hid (own_kept own2.out hg hB)
          have hsz := G4.out.1.size
          clear hg hr
          go_wp2_with (at_builtin; refine wpList_append_own _ rfl _ _ 22 rfl w.heap.size 37 i0 (.agg #[.string ⟨#[]⟩, .int .i64 0]) 2 24 Tryd.underlying22 hi hz0 hz1 hz2 rfl (by decide) _ _ _ rfl (own3.out.alloc _) ⟨w4.heap.size, 0, none⟩ 1 1 [(.string ⟨#[]⟩), (.int .i64 (n : Int))] rfl rfl (cell_two_new w4 (.string ⟨#[]⟩) (.int .i64 (n : Int)) 37) (by simp [Value.oneCell']) (by unfold maxLen; omega) (by omega) (by simp; omega) ?_; intro v' w20 hown2 hgrow _)
          have hob := own_base own3.out
          have G20 := Lib.hid ((G4.out.alloc _).grow hgrow (fun k hk => (hob k hk).1) hB)
          have hown3 : w20.ownsRow w.heap.size 37 2 v' (L ++ [(⟨[], (n : Int)⟩ : Stp)]).length (flatC (L ++ [(⟨[], (n : Int)⟩ : Stp)])) := by rw [flat_snoc, List.length_append]; exact hown2
          clear hob hgrow hown2
          go_wp2_with fail
          go_roundg f
          case measure => omega
          case rel =>
            refine ⟨c, L ++ [(⟨[], (n : Int)⟩ : Stp)], F, hri.2.1, by simp; omega, hown3, Lib.hid ⟨?_, G20.out⟩⟩
            have hq := HQ.out
            try simp only at hq
            rcases (bool_two F).symm with rfl | rfl
            · rw [if_pos rfl] at hq; exact .inr ⟨rfl, hq.symm⟩
            · rw [if_neg (by decide)] at hq; exact .inl ⟨rfl, hq, by omega, by simp; omega⟩
        · skip
          go_wp2_with fail
          refine (is_no s a 91 B _ hl G2.out.2 N91.out).mono ?_
          rintro e w3 ⟨rfl, hb⟩
          have G3 := Lib.hid (G2.out.below hb)
          have own2 := Lib.hid (own_under own1.out hb)
          clear hb
          go_wp2_with fail
          refine (is_yes s a 46 B _ hl G3.out.2 hlt H46.out).mono ?_
          rintro e w4 ⟨rfl, hg, hr⟩
          have G4 := Lib.hid (G3.out.step hg hr)
          have own3 := Lib.hid (own_kept own2.out hg hB)
          clear hg hr
          obtain ⟨x0, x1, x2⟩ := G4.out.2.cells
          have f2 := Blk.frozen G4.out.2 2
          go_wp2_with fail
          go_ret
          exact PathR.bad HV.out G4.out.fail _ _ _
        focus
          go_wp2_with fail
          refine (is_no s a 91 B _ hl G2.out.2 N91.out).mono ?_
          rintro e w3 ⟨rfl, hb⟩
          have G3 := Lib.hid (G2.out.below hb)
          have own2 := Lib.hid (own_under own1.out hb)
          clear hb
          go_wp2_with fail
          refine (is_no s a 46 B _ hl G3.out.2 H46.out).mono ?_
          rintro e w4 ⟨rfl, hb⟩
          have G4 := Lib.hid (G3.out.below hb)
          have own3 := Lib.hid (own_under own2.out hb)
          clear hb
          have G9 : Hid (RdG s B w w4 a false) := G4
          have hc : a ≤ s.length := ha
          have hca : L.length ≤ a := hLa
          have hcf : s.length + 2 ≤ gk + a := hfu
          clear N91 H46 ha hLa
          obtain ⟨c, hcc⟩ : ∃ c, c = a := ⟨_, rfl⟩
          rw [← hcc] at G9 HQ hc hca hcf
          clear hcc
        rotate_left
        focus
          go_wp2_with fail
          refine (is_no s a 91 B _ hl G2.out.2 N91.out).mono ?_
          rintro e w3 ⟨rfl, hb⟩
          have G3 := Lib.hid (G2.out.below hb)
          have own2 := Lib.hid (own_under own1.out hb)
          clear hb
          go_wp2_with fail
          refine (is_yes s a 46 B _ hl G3.out.2 hlt H46.out).mono ?_
          rintro e w4 ⟨rfl, hg, hr⟩
          have G4 := Lib.hid (G3.out.step hg hr)
          have own3 := Lib.hid (own_kept own2.out hg hB)
          clear hg hr
          have G9 : Hid (RdG s B w w4 (a + 1) false) := G4
          have hc : a + 1 ≤ s.length := by omega
          have hca : L.length ≤ a + 1 := by omega
          have hcf : s.length + 2 ≤ gk + (a + 1) := by omega
          clear N91 H46 ha hLa hlt
          obtain ⟨c, hcc⟩ : ∃ c, c = a + 1 := ⟨_, rfl⟩
          rw [← hcc] at G9 HQ hc hca hcf
          clear hcc
        rotate_left
        focus
          go_wp2_with fail
          refine (is_no s a 91 B _ hl G2.out.2 N91.out).mono ?_
          rintro e w3 ⟨rfl, hb⟩
          have G3 := Lib.hid (G2.out.below hb)
          have own2 := Lib.hid (own_under own1.out hb)
          clear hb
          go_wp2_with fail
          refine (is_no s a 46 B _ hl G3.out.2 H46.out).mono ?_
          rintro e w4 ⟨rfl, hb⟩
          have G4 := Lib.hid (G3.out.below hb)
          have own3 := Lib.hid (own_under own2.out hb)
          clear hb
          obtain ⟨x0, x1, x2⟩ := G4.out.2.cells
          have f2 := Blk.frozen G4.out.2 2
          go_wp2_with fail
          go_ret
          exact PathR.bad HV.out G4.out.fail _ _ _
        all_goals
          have hri := rlab_le s hs c hc
          obtain ⟨⟨xl, d, F⟩, hx⟩ : ∃ x, rlab s c = x := ⟨_, rfl⟩
          rw [hx] at HQ hri
          simp only at hri
          have HX := Lib.hid hx
          clear hx
          go_wp2_with fail
          refine (label_ref s c hc B _ hl G9.out.2).mono ?_
          rintro e w5 ⟨rfl, hg, hr⟩
          rw [HX.out] at hr ⊢
          simp only at hr ⊢
          have G5 := Lib.hid (G9.out.step hg hr)
          have own4 := Lib.hid (own_kept own3.out hg hB)
          have hsz := G5.out.1.size
          clear hg hr
          go_wp2_with (at_builtin; refine wpList_append_own _ rfl _ _ 22 rfl w.heap.size 37 i0 (.agg #[.string ⟨#[]⟩, .int .i64 0]) 2 24 Tryd.underlying22 hi hz0 hz1 hz2 rfl (by decide) _ _ _ rfl (own4.out.alloc _) ⟨w5.heap.size, 0, none⟩ 1 1 [(.string (S xl)), (.int .i64 0)] rfl rfl (cell_two_new w5 (.string (S xl)) (.int .i64 0) 37) (by simp [Value.oneCell']) (by unfold maxLen; omega) (by omega) (by simp; omega) ?_; intro v' w20 hown2 hgrow _)
          have hob := own_base own4.out
          have G20 := Lib.hid ((G5.out.alloc _).grow hgrow (fun k hk => (hob k hk).1) hB)
          have hown3 : w20.ownsRow w.heap.size 37 2 v' (L ++ [(⟨xl, 0⟩ : Stp)]).length (flatC (L ++ [(⟨xl, 0⟩ : Stp)])) := by rw [flat_snoc, List.length_append]; exact hown2
          clear hob hgrow hown2
          go_wp2_with fail
          go_roundg f
          case measure => omega
          case rel =>
            refine ⟨d, L ++ [(⟨xl, 0⟩ : Stp)], F, hri.2.1, by simp; omega, hown3, Lib.hid ⟨?_, G20.out⟩⟩
            have hq := HQ.out
            try simp only at hq
            rcases (bool_two F).symm with rfl | rfl
            · rw [if_pos rfl] at hq; exact .inr ⟨rfl, hq.symm⟩
            · rw [if_neg (by decide)] at hq; exact .inl ⟨rfl, hq, by have := hri.2.2 rfl; omega, by have := hri.2.2 rfl; simp; omega⟩
end Go.Proofs.YtpekkdgaeadepaaDoor
