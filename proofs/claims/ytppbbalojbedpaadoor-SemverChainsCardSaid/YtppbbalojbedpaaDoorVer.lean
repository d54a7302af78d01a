/- Versions: plain. -/
import Derived.Lib.AtoiAll
import Derived.Lib.Join
import Derived.Lib.Split
import Derived.Test.YtppbbalojbedpaaDoorTxt
namespace Go.Proofs.YtppbbalojbedpaaDoor
open Go

def numV (n : Int) : Bool := decide (0 ≤ n) && decide (n ≤ 9999)
/-- a version -/
structure Ver where
  a : Int
  b : Int
  c : Int
deriving DecidableEq
def vldV (v : Ver) : Bool := numV v.a && numV v.b && numV v.c
def textV (v : Ver) : List UInt8 := if vldV v then 118 :: (Lib.decDigits v.a.toNat ++ 46 :: (Lib.decDigits v.b.toNat ++ 46 :: Lib.decDigits v.c.toNat)) else [63]
def cmpI (x y : Int) : Int := if x < y then -1 else if y < x then 1 else 0
def cmpV (v w : Ver) : Int := if v.a ≠ w.a then cmpI v.a w.a else if v.b ≠ w.b then cmpI v.b w.b else cmpI v.c w.c
def zeroV : Ver := ⟨0, 0, 0⟩
def stepV (v : Ver) (ch : Int) : Ver := if ch = 0 then ⟨v.a, v.b, v.c + 1⟩ else if ch = 1 then ⟨v.a, v.b + 1, 0⟩ else ⟨v.a + 1, 0, 0⟩
def lowC (v : Ver) (ch : Int) : Int := if v.a = 0 ∧ 0 < ch then ch - 1 else ch
def nextV (v : Ver) (ch : Int) : Ver × Int :=
  if vldV v = false then (zeroV, 11) else if ch < 0 ∨ 2 < ch then (zeroV, 5)
  else if vldV (stepV v (lowC v ch)) then (stepV v (lowC v ch), 0) else (zeroV, 1)
def compV (v w : Ver) : Bool := vldV v && vldV w && decide (cmpV v w ≤ 0) && decide (v.a = w.a) && (decide (0 < v.a) || decide (v.b = w.b))

theorem numV_iff (n : Int) : numV n = true ↔ 0 ≤ n ∧ n ≤ 9999 := by simp [numV]
theorem vldV_iff (v : Ver) : vldV v = true ↔ (0 ≤ v.a ∧ v.a ≤ 9999) ∧ (0 ≤ v.b ∧ v.b ≤ 9999) ∧ (0 ≤ v.c ∧ v.c ≤ 9999) := by
  simp only [vldV, Bool.and_eq_true, numV_iff]; exact and_assoc
theorem ver_ext {v w : Ver} (h1 : v.a = w.a) (h2 : v.b = w.b) (h3 : v.c = w.c) : v = w := by cases v; cases w; simp_all

/-! reading -/
def candV (l : List UInt8) : Ver := ⟨valD (cutW (l.drop 1)), valD (cutW (cutP (l.drop 1))), valD (cutP (cutP (l.drop 1)))⟩
def parseV (l : List UInt8) : Ver × Int := if vldV (candV l) && textV (candV l) == l then (candV l, 0) else (zeroV, 8)
theorem cut_dec (n : Nat) (r : List UInt8) : cutW (Lib.decDigits n ++ 46 :: r) = Lib.decDigits n ∧ cutP (Lib.decDigits n ++ 46 :: r) = r := by
  have h := cut_app (Lib.decDigits n) (46 :: r) (fun c hc => dgt_ne46 (dec_dgt n c hc))
  rw [h.1, h.2, show cutW (46 :: r) = [] from rfl, show cutP (46 :: r) = r from rfl, List.append_nil]; exact ⟨rfl, rfl⟩
theorem textV_val (v : Ver) (h : vldV v = true) : textV v = 118 :: (Lib.decDigits v.a.toNat ++ 46 :: (Lib.decDigits v.b.toNat ++ 46 :: Lib.decDigits v.c.toNat)) := by unfold textV; rw [if_pos h]
theorem textV_bad (v : Ver) (h : vldV v = false) : textV v = [63] := by unfold textV; rw [h]; rfl
theorem candV_text (v : Ver) (h : vldV v = true) : candV (textV v) = v := by
  have hb := (vldV_iff v).1 h
  rw [textV_val v h]
  unfold candV
  rw [List.drop_succ_cons, List.drop_zero, (cut_dec _ _).1, (cut_dec _ _).2, (cut_dec _ _).1, (cut_dec _ _).2, dec_val, dec_val, dec_val]
  exact ver_ext (by simp only; omega) (by simp only; omega) (by simp only; omega)
theorem textV_len (v : Ver) : (textV v).length ≤ 15 := by
  cases h : vldV v
  · rw [textV_bad v h]; simp
  · have hb := (vldV_iff v).1 h
    rw [textV_val v h]
    have h1 := (dec_len v.a.toNat 4 (by omega) (by omega)).2
    have h2 := (dec_len v.b.toNat 4 (by omega) (by omega)).2
    have h3 := (dec_len v.c.toNat 4 (by omega) (by omega)).2
    simp; omega
theorem textV_len6 (v : Ver) (h : vldV v = true) : 6 ≤ (textV v).length := by
  have hb := (vldV_iff v).1 h
  rw [textV_val v h]
  have h1 := (dec_len v.a.toNat 4 (by omega) (by omega)).1
  have h2 := (dec_len v.b.toNat 4 (by omega) (by omega)).1
  have h3 := (dec_len v.c.toNat 4 (by omega) (by omega)).1
  simp; omega
theorem parseV_of (l : List UInt8) (u : Ver) (h : ∀ v, vldV v = true → textV v = l → u = v) : parseV l = if vldV u = true ∧ textV u = l then (u, 0) else (zeroV, 8) := by
  split
  · rename_i hc
    unfold parseV
    rw [← hc.2, candV_text u hc.1, if_pos (by simp [hc.1])]
  · rename_i hc
    unfold parseV
    rw [if_neg]
    intro hx
    rw [Bool.and_eq_true, beq_iff_eq] at hx
    have := h _ hx.1 hx.2
    rw [this] at hc
    exact hc hx
theorem parseV_no (l : List UInt8) (h : ∀ v, vldV v = true → textV v ≠ l) : parseV l = (zeroV, 8) := by
  unfold parseV
  rw [if_neg]
  intro hx
  rw [Bool.and_eq_true, beq_iff_eq] at hx
  exact h _ hx.1 hx.2
theorem parseV_text (v : Ver) (h : vldV v = true) : parseV (textV v) = (v, 0) := by
  unfold parseV; rw [candV_text v h, if_pos (by simp [h])]
theorem textV_inj {u v : Ver} (hu : vldV u = true) (hv : vldV v = true) (h : textV u = textV v) : u = v := by
  have := candV_text u hu; rw [h, candV_text v hv] at this; exact this.symm
/-- a text that begins with no v -/
theorem parseV_head (l : List UInt8) (h : l.head? ≠ some 118) : parseV l = (zeroV, 8) :=
  parseV_no l fun v hv e => by rw [← e, textV_val v hv] at h; exact h rfl
theorem textV_checks (v : Ver) (l : List UInt8) (hl : l.head? = some 118) : (vldV v = true ∧ textV v = l) ↔ textV v = l := by
  constructor
  · exact fun h => h.2
  · intro h
    refine ⟨?_, h⟩
    cases hv : vldV v
    · rw [textV_bad v hv] at h; rw [← h] at hl; exact absurd hl (by decide)
    · rfl

/-! comparing -/
theorem cmpV_comp (v w : Ver) : decide (cmpV v w ≤ 0) = !decide (cmpV w v < 0) := by
  unfold cmpV cmpI
  repeat' split
  all_goals first | rfl | (exfalso; omega)

/-! the reader of the program: the pieces between the points -/
def pieces : Nat → List UInt8 → List (List UInt8)
  | 0, l => [l]
  | k + 1, l => if 46 ∈ l then cutW l :: pieces k (cutP l) else [l]
def atoiI (l : List UInt8) : Int := match Lib.atoiAll l with
  | .ok v => v
  | .syntax => 0
  | .range => Lib.atoiSat l
end Go.Proofs.YtppbbalojbedpaaDoor
