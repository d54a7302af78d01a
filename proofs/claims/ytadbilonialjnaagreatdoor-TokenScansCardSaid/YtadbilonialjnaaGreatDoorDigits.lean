/- Walks of the numbers: the specification's digits. -/
import Derived.LoopTactic
import Derived.Outline
import Derived.Test.YtadbilonialjnaaGreatDoorTxt
import Derived.Test.YtadbilonialjnaaGreatDoorProg
namespace Go.Proofs.YtadbilonialjnaaGreatDoor
open Go.RowKit

theorem digs_len (k : Nat) : ∀ n least, n < 10 ^ k → least ≤ k → (digs n least).length ≤ k := by
  induction k with
  | zero => intro n least h1 h2; rw [show n = 0 by simp at h1; exact h1, show least = 0 by omega, digs_nil]; simp
  | succ k ih =>
    intro n least h1 h2
    by_cases h : n = 0 ∧ least = 0
    · rw [h.1, h.2, digs_nil]; simp
    · rw [digs_more n least h, List.length_append]
      have := ih (n / 10) (least - 1) (by rw [Nat.pow_succ] at h1; omega) (by omega)
      simp; omega
set_option maxHeartbeats 400000 in
theorem Digits_any (n least : Nat) (hn : n ≤ 1000000000000000) (hl : least ≤ 20) (w : World) :
    Calls Tryz.prog 61 #[.int .i64 (n : Int), .int .i64 (least : Int)] w fun e w' => e = .returned (.string (S (digs n least))) ∧ Below w.heap.size w w' := by
  have hlen := digs_len 20 n least (by omega) hl
  have HLEN := Lib.hid hlen; clear hlen
  go_enter Tryz.func61, Tryz.ntmps61
  go_wp2_with fail
  go_loopw [0, 5] (fun n' s wr => ∃ (m : Nat) (l : List UInt8), n' = .int .i64 (m : Int) ∧ s = .string (S l) ∧ m ≤ 1000000000000000 ∧ Hid (digs n least = digs m (least - l.length) ++ l) ∧ Below w.heap.size w wr)
    (fun n' s _ => (intOf n').toNat + (least - strLen s))
  case atStart => exact ⟨n, [], rfl, rfl, hn, Lib.hid (by simp), Below.refl _ _⟩
  case round =>
    obtain ⟨m, l, rfl, rfl, hm, HD, hB⟩ := hrel
    have hlb : l.length ≤ 20 := by
      have h1 := HLEN.out; rw [HD.out, List.length_append] at h1; omega
    by_cases hstop : m = 0 ∧ least ≤ l.length
    · obtain ⟨rfl, hst⟩ := hstop
      have HF := Lib.hid (show digs n least = l by rw [HD.out, show least - l.length = 0 by omega, digs_nil]; rfl)
      go_wp2_with fail
      go_ret
      exact ⟨ret_S (by rw [HF.out]), hB⟩
    · obtain ⟨d, hd⟩ : ∃ d, m % 10 = d := ⟨_, rfl⟩
      obtain ⟨q, hq⟩ : ∃ q, m / 10 = q := ⟨_, rfl⟩
      have hdb : d < 10 := by omega
      have hqb : q ≤ m := by omega
      have HN := Lib.hid (show digs n least = digs q (least - (ct [dch d] l).length) ++ ct [dch d] l by
        rw [HD.out, digs_more m _ (by omega), hd, hq, ct_eq, List.append_assoc]
        simp only [List.length_append, List.length_cons, List.length_nil]
        rw [show least - (0 + 1 + l.length) = least - l.length - 1 by omega])
      have ed : (m : Int) % 10 = (d : Int) := by omega
      have eq : (m : Int) / 10 = (q : Int) := by omega
      have hmeas : q < m ∨ (m = 0 ∧ q = 0 ∧ l.length < least) := by omega
      obtain ⟨c, hc⟩ : ∃ c, dch d = c := ⟨_, rfl⟩
      have ec : 48 + (d : Int) = (c.toNat : Int) := by rw [← hc, dch_nat d hdb]; omega
      rw [hc] at HN
      have hcv := fun W => conv_one (P := Tryz.prog) W 45 9 5 5 c 1 Tryz.underlying45 Tryz.underlying5 Tryz.underlying9
      clear hc hd hq
      have hM := Lib.hid hmeas
      rcases hmeas with hlt | ⟨hm0, -, hls⟩
      · have hm1 : decide (0 < m) = true := by simp; omega
        clear hstop hlt
        go_wp2_with fail
        go_roundw
        case rel => exact ⟨q, ct [c] l, rfl, rfl, by omega, HN, hB.alloc hB.size _⟩
        case measure => have := hM.out; simp [intOf, strLen, S_size, ct_len]; omega
      · have hm1 : decide (0 < m) = false := by simp; omega
        clear hstop hm0
        go_wp2_with fail
        go_roundw
        case rel => exact ⟨q, ct [c] l, rfl, rfl, by omega, HN, hB.alloc hB.size _⟩
        case measure => have := hM.out; simp [intOf, strLen, S_size, ct_len]; omega
theorem Digits_one (n : Nat) (hn : n ≤ 1000000000000000) (w : World) :
    Calls Tryz.prog 61 #[.int .i64 (n : Int), .int .i64 1] w fun e w' => e = .returned (.string (S (Lib.decDigits n))) ∧ Below w.heap.size w w' := by
  have h := Digits_any n 1 hn (by decide) w
  rw [digs_one] at h; exact h
theorem Digits_four (n : Nat) (hn : n < 10000) (w : World) :
    Calls Tryz.prog 61 #[.int .i64 (n : Int), .int .i64 4] w fun e w' => e = .returned (.string (S (pad4 n))) ∧ Below w.heap.size w w' := by
  have h := Digits_any n 4 (by omega) (by decide) w
  rw [digs_four n hn] at h; exact h
end Go.Proofs.YtadbilonialjnaaGreatDoor
