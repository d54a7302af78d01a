/- Reading versions: plain. -/
import Derived.Test.YtppbbalojbedpaaDoorVer
import Derived.Test.YtppbbalojbedpaaDoorSplit
namespace Go.Proofs.YtppbbalojbedpaaDoor
open Go

theorem valA_le (a : Nat) (l : List UInt8) : a ≤ valA a l := by
  rw [valA_eq]
  exact Nat.le_trans (Nat.le_mul_of_pos_right a (Nat.pow_pos (by decide))) (Nat.le_add_right _ _)
theorem uint10_digits (l : List UInt8) : ∀ a, (∀ c ∈ l, dgt c) → valA a l ≤ 100000000 → Lib.parseUint10 a l = .ok (valA a l) := by
  induction l with
  | nil => intro a _ _; rfl
  | cons c l ih =>
    intro a hd hv
    have hc := hd c (List.mem_cons_self ..)
    rw [valA_cons] at hv ⊢
    have hm := valA_le (a * 10 + (c.toNat - 48)) l
    simp only [Lib.parseUint10]
    rw [if_pos (show 48 ≤ c.toNat ∧ c.toNat ≤ 57 from hc), if_neg (by omega), if_neg (by omega)]
    exact ih _ (fun x hx => hd x (List.mem_cons_of_mem _ hx)) hv
theorem parseMag_digits (l : List UInt8) (h : ∀ c ∈ l, dgt c) (hn : l ≠ []) (hv : valD l ≤ 100000000) : Lib.atoiAll l = .ok (valD l : Int) := by
  have hm : Lib.parseMag l = .ok (valD l) := by unfold Lib.parseMag; rw [if_neg hn]; exact uint10_digits l 0 h hv
  cases l with
  | nil => exact absurd rfl hn
  | cons c r =>
    have hc := h c (List.mem_cons_self ..)
    have n2 : ¬ c.toNat = 45 := by have := hc.1; omega
    have n3 : ¬ c.toNat = 43 := by have := hc.1; omega
    unfold Lib.atoiAll
    simp only [n3, n2, or_self, if_false]
    rw [hm]
    simp only [not_false_eq_true, true_and, false_and, if_false]
    rw [if_neg (by omega)]
theorem atoiI_dec (n : Nat) (h : n ≤ 9999) : atoiI (Lib.decDigits n) = (n : Int) := by
  have hl := (dec_len n 4 (by omega) (by omega)).1
  unfold atoiI
  rw [parseMag_digits _ (dec_dgt n) (List.length_pos_iff.1 hl) (by rw [dec_val]; omega), dec_val]
theorem pieces_text (v : Ver) (h : vldV v = true) : splitC 46 ((textV v).drop 1) = [Lib.decDigits v.a.toNat, Lib.decDigits v.b.toNat, Lib.decDigits v.c.toNat] := by
  have hd : ∀ n, ∀ x ∈ Lib.decDigits n, x ≠ 46 := fun n x hx e => by have := dgt_ne46 (dec_dgt n x hx); rw [e] at this; exact absurd this (by decide)
  rw [textV_val v h, List.drop_succ_cons, List.drop_zero, splitC_app 46 _ _ (hd _), splitC_app 46 _ _ (hd _), splitC_one 46 _ (hd _)]
/-- the numbers of the first k pieces -/
def tup (P : List (List UInt8)) (k : Nat) : Ver := ⟨if 0 < k then atoiI (P.getD 0 []) else 0, if 1 < k then atoiI (P.getD 1 []) else 0, if 2 < k then atoiI (P.getD 2 []) else 0⟩
theorem tup_text (v : Ver) (h : vldV v = true) : tup (splitC 46 ((textV v).drop 1)) 3 = v := by
  have hb := (vldV_iff v).1 h
  rw [pieces_text v h]
  exact ver_ext (by show atoiI _ = _; rw [List.getD_cons_zero, atoiI_dec _ (by omega)]; omega) (by show atoiI _ = _; rw [List.getD_cons_succ, List.getD_cons_zero, atoiI_dec _ (by omega)]; omega) (by show atoiI _ = _; rw [List.getD_cons_succ, List.getD_cons_succ, List.getD_cons_zero, atoiI_dec _ (by omega)]; omega)
/-- what the program finds -/
theorem prog_pieces (l : List UInt8) (k : Nat) (hk : k = 3 ∨ (splitC 46 (l.drop 1)).length ≠ 3) : parseV l = if vldV (tup (splitC 46 (l.drop 1)) k) = true ∧ textV (tup (splitC 46 (l.drop 1)) k) = l then (tup (splitC 46 (l.drop 1)) k, 0) else (zeroV, 8) :=
  parseV_of l _ fun v hv e => by
    rcases hk with rfl | hk
    · rw [← e]; exact tup_text v hv
    · rw [← e, pieces_text v hv] at hk; exact absurd rfl hk
end Go.Proofs.YtppbbalojbedpaaDoor
