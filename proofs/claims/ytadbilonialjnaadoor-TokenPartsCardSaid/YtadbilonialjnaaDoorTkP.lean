/- The tokens of a text: plain functions on lists of bytes. No program in sight. -/
import Derived.Test.YtadbilonialjnaaDoorStr
import Derived.Test.YtadbilonialjnaaDoorQuo
namespace Go.Proofs.YtadbilonialjnaaDoor

/-- letters and '_' -/
def tkLet (c : UInt8) : Bool := letterB c || c == 95
def tkWb (c : UInt8) : Bool := tkLet c || digitB c
/-- the length of the run of bytes with p -/
def runN (p : UInt8 → Bool) : List UInt8 → Nat
  | [] => 0
  | c :: t => if p c then runN p t + 1 else 0
theorem runN_le (p : UInt8 → Bool) : ∀ l, runN p l ≤ l.length
  | [] => Nat.le_refl _
  | c :: t => by
    have := runN_le p t
    unfold runN; split <;> simp <;> omega
/-- the bytes that a word may have at most -/
def tkWn : List UInt8 → Nat
  | [] => 0
  | c :: t => if tkLet c || c == 35 then runN tkWb t + 1 else 0
theorem tkWn_le (l : List UInt8) : tkWn l ≤ l.length := by
  cases l with
  | nil => exact Nat.le_refl _
  | cons c t => have := runN_le tkWb t; simp only [tkWn, List.length_cons]; split <;> omega
/-- the length of the identifier at the beginning -/
def tkWord (m : List UInt8) : Nat :=
  match m with
  | [] => 0
  | c :: _ => if tkWn m = 1 ∧ (c = 35 ∨ c = 95) then 0 else tkWn m
theorem tkWord_le (l : List UInt8) : tkWord l ≤ l.length := by
  cases l with
  | nil => exact Nat.le_refl _
  | cons c t => have := tkWn_le (c :: t); simp only [tkWord]; split <;> omega
/-- the length of the number at the beginning -/
def tkNum (m : List UInt8) : Nat :=
  match m.drop (runN digitB m) with
  | c :: d :: t => if c = 46 ∧ digitB d = true then runN digitB m + 1 + runN digitB (d :: t) else runN digitB m
  | _ => runN digitB m
theorem tkNum_le (l : List UInt8) : tkNum l ≤ l.length := by
  have h := runN_le digitB l
  have hd : (l.drop (runN digitB l)).length = l.length - runN digitB l := List.length_drop ..
  unfold tkNum
  split
  · next c d t e =>
    rw [e] at hd
    have := runN_le digitB (d :: t)
    simp only [List.length_cons] at hd this
    split <;> omega
  · exact h
/-- the string at the beginning: its length and whether it has code -/
def litL : List UInt8 → Nat → Bool → Nat × Bool
  | [], _, _ => (0, false)
  | c :: t, i, code =>
    if c = 34 then (i + 1, code)
    else if c = 92 then
      match t with
      | [] => (0, false)
      | d :: t' => litL t' (i + 2) (code || d == 40)
    else litL t (i + 1) code
def tkLit (m : List UInt8) : Nat × Bool := litL (m.drop 1) 1 false
theorem litL_le : ∀ (l : List UInt8) (i : Nat) (code : Bool), (litL l i code).1 ≤ i + l.length
  | [], i, code => by simp [litL]
  | [c], i, code => by
    unfold litL
    split
    · simp
    · split
      · simp
      · exact Nat.le_trans (litL_le [] (i + 1) code) (by simp)
  | c :: d :: t, i, code => by
    unfold litL
    split
    · simp
    · split
      · have := litL_le t (i + 2) (code || d == 40); simp only [List.length_cons]; omega
      · have := litL_le (d :: t) (i + 1) code; simp only [List.length_cons] at *; omega
theorem tkLit_le (m : List UInt8) (h : 1 ≤ m.length) : (tkLit m).1 ≤ m.length := by
  have := litL_le (m.drop 1) 1 false
  rw [List.length_drop] at this
  unfold tkLit; omega
/-- the operators, longer ones ahead of their beginnings -/
def tkOps1 : List (List UInt8) := [[95,124,95],[46,46,46]]
def tkOps2 : List (List UInt8) := [[61,61],[33,61],[60,61],[62,61],[61,126],[33,126],[38,38],[124,124]]
def tkOps3 : List (List UInt8) := [[95],[40],[41],[91],[93],[123],[125],[58],[44],[46],[63],[33],[42],[38],[124],[61],[60],[62],[43],[45],[47],[37]]
def tkOps : List (List UInt8) := tkOps1 ++ (tkOps2 ++ tkOps3)
/-- the longest operator at the beginning -/
def tkOp (m : List UInt8) : List UInt8 := (tkOps.find? fun o => o.isPrefixOf m).getD []

/-- a token: kind, text, from, to -/
structure Tok where
  k : Nat
  t : List UInt8
  p : Nat
  e : Nat

/-- a part of an interpolated string: its text, whether it is code, its offset -/
structure Prt where
  t : List UInt8
  c : Bool
  p : Nat
/-- where the parenthesis closes of which k are open; i: the offset of the first byte -/
def codeA : List UInt8 → Nat → Nat → Option Nat
  | [], _, _ => none
  | c :: t, i, k => if c = 40 then codeA t (i + 1) (k + 1) else if c = 41 then (if k = 1 then some i else codeA t (i + 1) (k - 1)) else codeA t (i + 1) k
theorem codeA_le : ∀ (l : List UInt8) (i k j : Nat), codeA l i k = some j → i ≤ j ∧ j < i + l.length
  | [], i, k, j, h => by simp [codeA] at h
  | c :: t, i, k, j, h => by
    unfold codeA at h
    simp only [List.length_cons]
    split at h
    · have := codeA_le t _ _ _ h; omega
    · split at h
      · split at h
        · cases h; omega
        · have := codeA_le t _ _ _ h; omega
      · have := codeA_le t _ _ _ h; omega
def flushP (text : List UInt8) (from_ : Nat) (out : List Prt) : List Prt := if text = [] then out else out ++ [⟨text, false, from_⟩]
/-- the parts: fuel, the rest, its offset, the text that is open, where it began, the parts till now; an error is the offset -/
def tkInt : Nat → List UInt8 → Nat → List UInt8 → Nat → List Prt → Except Nat (List Prt)
  | _, [], _, text, fr, out => .ok (flushP text fr out)
  | 0, _ :: _, i, _, _, _ => .error i
  | f + 1, c :: t, i, text, fr, out =>
    if c = 92 ∧ t.head? = some 40 then
      match codeA (t.drop 1) 1 1 with
      | none => .error i
      | some j => tkInt f (t.drop (j + 1)) (i + (j + 2)) [] (if text = [] then i else fr) (flushP text fr out ++ [⟨(t.take j).drop 1, true, i + 2⟩])
    else if c = 92 then
      (if (unesc (c :: t)).2 = 0 then .error i else tkInt f ((c :: t).drop (unesc (c :: t)).2) (i + (unesc (c :: t)).2) (text ++ [(unesc (c :: t)).1]) (if text = [] then i else fr) out)
    else if c < 32 ∨ 126 < c ∨ c = 34 then .error i
    else tkInt f t (i + 1) (text ++ [c]) (if text = [] then i else fr) out
def interpL (s : List UInt8) : Except Nat (List Prt) := tkInt s.length s 0 [] 0 []
def isOk {α : Type} : Except Nat α → Bool
  | .ok _ => true
  | .error _ => false

/-- the string token at the beginning: kind, text, length -/
def tkStr (m : List UInt8) : Option (Nat × List UInt8 × Nat) :=
  if (tkLit m).1 = 0 then none
  else if (tkLit m).2 = true then (if isOk (interpL (sl m 1 ((tkLit m).1 - 1))) = true then some (4, sl m 1 ((tkLit m).1 - 1), (tkLit m).1) else none)
  else if (unqL (m.take (tkLit m).1)).2.1 = 0 then some (3, (unqL (m.take (tkLit m).1)).1, (tkLit m).1) else none
/-- the token at the beginning; nb: which numbers are permitted -/
def tkNext (nb : List UInt8 → Bool) (m : List UInt8) : Option (Nat × List UInt8 × Nat) :=
  if List.isPrefixOf [47, 47] m = true then some (6, (m.take (runN (· != 10) m)).drop 2, runN (· != 10) m)
  else if 0 < tkWord m then some (1, m.take (tkWord m), tkWord m)
  else match m with
    | [] => none
    | c :: _ =>
      if digitB c = true then (if nb (m.take (tkNum m)) = true then some (2, m.take (tkNum m), tkNum m) else none)
      else if c = 34 then tkStr m
      else if tkOp m = [] then none else some (5, tkOp m, (tkOp m).length)
def tkEndOps : List (List UInt8) := [[95,124,95],[95],[46,46,46],[41],[93],[125],[63]]
/-- whether a line feed gives a token behind this one -/
def tkLn (k : Nat) (t : List UInt8) (ln : Bool) : Bool :=
  if k = 6 then ln else if k = 1 ∨ k = 2 ∨ k = 3 ∨ k = 4 then true else k == 5 && tkEndOps.contains t
/-- the tokens: fuel, the rest, its offset, whether a line feed gives a token, the tokens till now; an error is the offset -/
def tkScan (nb : List UInt8 → Bool) : Nat → List UInt8 → Nat → Bool → List Tok → Except Nat (List Tok)
  | _, [], i, _, acc => .ok (acc ++ [⟨0, [], i, i⟩])
  | 0, _ :: _, i, _, _ => .error i
  | f + 1, c :: t, i, ln, acc =>
    if c = 10 ∧ ln = true then tkScan nb f t (i + 1) false (acc ++ [⟨7, [10], i, i + 1⟩])
    else if c = 10 ∨ c = 32 ∨ c = 9 ∨ c = 13 then tkScan nb f t (i + 1) ln acc
    else match tkNext nb (c :: t) with
      | none => .error i
      | some (k, x, n) => tkScan nb f ((c :: t).drop n) (i + n) (tkLn k x ln) (acc ++ [⟨k, x, i, i + n⟩])
/-- the list of tokens, the error and its offset -/
def scanT (nb : List UInt8 → Bool) (s : List UInt8) : List Tok × Nat × Nat :=
  if 65536 < s.length then ([], 2, 0)
  else match tkScan nb s.length s 0 false [] with
    | .ok l => (l, 0, 0)
    | .error i => ([], 8, i)
end Go.Proofs.YtadbilonialjnaaDoor
