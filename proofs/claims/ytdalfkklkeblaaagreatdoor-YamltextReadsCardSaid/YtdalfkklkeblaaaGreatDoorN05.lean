import Derived.Test.YtdalfkklkeblaaaGreatDoorN01
namespace Go.Proofs.YtdalfkklkeblaaaGreatDoor
set_option linter.unusedSimpArgs false
set_option linter.unusedVariables false
inductive Dat where
 | mk (k n : Int) (s : List UInt8) (its : List Dat) (mem : List (List UInt8 × Dat))
def Dat.k : Dat → Int
 | .mk k _ _ _ _ => k
def Dat.n : Dat → Int
 | .mk _ n _ _ _ => n
def Dat.s : Dat → List UInt8
 | .mk _ _ s _ _ => s
def Dat.its : Dat → List Dat
 | .mk _ _ _ its _ => its
def Dat.mem : Dat → List (List UInt8 × Dat)
 | .mk _ _ _ _ mem => mem
theorem dat_it {d x : Dat} (h : x ∈ d.its) : SizeOf.sizeOf x < SizeOf.sizeOf d := by
 cases d with
 | mk k n s its mem =>
   have := List.sizeOf_lt_of_mem (show x ∈ its from h)
   simp only [Dat.mk.sizeOf_spec]; omega
theorem dat_me {d x : Dat} {l : List UInt8} (h : (l, x) ∈ d.mem) : SizeOf.sizeOf x < SizeOf.sizeOf d := by
 cases d with
 | mk k n s its mem =>
   have := List.sizeOf_lt_of_mem (show (l, x) ∈ mem from h)
   simp only [Dat.mk.sizeOf_spec, Prod.mk.sizeOf_spec] at *; omega
theorem dat_mg {d : Dat} {p : List UInt8 × Dat} (h : p ∈ d.mem) : SizeOf.sizeOf p.2 < SizeOf.sizeOf d := dat_me (l := p.1) (x := p.2) h
def dat0 : Dat := .mk 0 0 [] [] []
def plainB (d : Dat) : Bool :=
 decide (1 ≤ d.k) && decide (d.k ≤ 6) && (decide (d.k = 2) || decide (d.k = 3) || decide (d.n = 0)) && (decide (d.k = 4) || decide (d.s = [])) && (decide (d.k = 5) || d.its.isEmpty) && (decide (d.k = 6) || d.mem.isEmpty)
def badNum (d : Dat) : Bool := (decide (d.k = 2) && !decide (d.n = 0) && !decide (d.n = 1)) || (decide (d.k = 3) && !vld d.n)
def ascM : List (List UInt8 × Dat) → Bool
 | [] => true
 | x :: r => (match r with | [] => true | y :: _ => Op.bytesLess x.1 y.1) && ascM r
def ownE (d : Dat) : Nat := if plainB d = false then 11 else if badNum d = true then 1 else if ascM d.mem = false then 6 else 0
mutual
def chk : Dat → Nat → Nat
 | .mk k n s its mem, lv => if 16 < lv then 9 else if ownE (.mk k n s its mem) = 0 then (if chkI its (lv + 1) = 0 then chkM mem (lv + 1) else chkI its (lv + 1)) else ownE (.mk k n s its mem)
termination_by structural d => d
def chkI : List Dat → Nat → Nat
 | [], _ => 0
 | x :: r, lv => if chk x lv = 0 then chkI r lv else chk x lv
termination_by structural d => d
def chkM : List (List UInt8 × Dat) → Nat → Nat
 | [], _ => 0
 | (_, x) :: r, lv => if chk x lv = 0 then chkM r lv else chk x lv
termination_by structural d => d
end
theorem chk_eq (d : Dat) (lv : Nat) : chk d lv = if 16 < lv then 9 else if ownE d = 0 then (if chkI d.its (lv + 1) = 0 then chkM d.mem (lv + 1) else chkI d.its (lv + 1)) else ownE d := by
 cases d with | mk k n s its mem => rw [chk]; rfl
mutual
def szD : Dat → Int → Int
 | .mk _ _ _ its mem, m => szM mem m (szI its m 1)
termination_by structural d => d
def szI : List Dat → Int → Int → Int
 | [], _, n => n
 | x :: r, m, n => if n ≤ m then szI r m (n + szD x (m - n)) else n
termination_by structural d => d
def szM : List (List UInt8 × Dat) → Int → Int → Int
 | [], _, n => n
 | (_, x) :: r, m, n => if n ≤ m then szM r m (n + szD x (m - n)) else n
termination_by structural d => d
end
theorem szD_eq (d : Dat) (m : Int) : szD d m = szM d.mem m (szI d.its m 1) := by
 cases d with | mk k n s its mem => rw [szD]; rfl
mutual
def shD : Dat → Bool
 | .mk _ _ s its mem => decide (s.length ≤ 80) && shI its && shM mem
termination_by structural d => d
def shI : List Dat → Bool
 | [] => true
 | x :: r => shD x && shI r
termination_by structural d => d
def shM : List (List UInt8 × Dat) → Bool
 | [] => true
 | (l, x) :: r => decide (l.length ≤ 80) && shD x && shM r
termination_by structural d => d
end
theorem shD_eq (d : Dat) : shD d = (decide (d.s.length ≤ 80) && shI d.its && shM d.mem) := by
 cases d with | mk k n s its mem => rw [shD]; rfl
def smallD (d : Dat) : Bool := decide (szD d 40 ≤ 40) && shD d
def findM (l : List UInt8) : List (List UInt8 × Dat) → Option Dat
 | [] => none
 | (k, x) :: r => if k = l then some x else findM l r
def stpD (d : Dat) (s : Stp) : Option Dat :=
 if s.lab = [] then (if 0 ≤ s.idx then d.its[s.idx.toNat]? else none) else findM s.lab d.mem
def getD : Dat → List Stp → Option Dat
 | d, [] => some d
 | d, s :: r => (stpD d s).bind fun x => getD x r
theorem chkI_zero {its : List Dat} {lv : Nat} : chkI its lv = 0 ↔ ∀ x ∈ its, chk x lv = 0 := by
 induction its with
 | nil => rw [chkI]; simp
 | cons x r ih =>
   rw [chkI]
   by_cases h : chk x lv = 0
   · rw [if_pos h, ih]; simp [h]
   · rw [if_neg h]; simp [h]
theorem chkM_zero {mem : List (List UInt8 × Dat)} {lv : Nat} : chkM mem lv = 0 ↔ ∀ x ∈ mem, chk x.2 lv = 0 := by
 induction mem with
 | nil => rw [chkM]; simp
 | cons p r ih =>
   obtain ⟨l, x⟩ := p
   rw [chkM]
   by_cases h : chk x lv = 0
   · rw [if_pos h, ih]; simp [h]
   · rw [if_neg h]; simp [h]
theorem chk_zero {d : Dat} {lv : Nat} : chk d lv = 0 ↔ lv ≤ 16 ∧ ownE d = 0 ∧ (∀ x ∈ d.its, chk x (lv + 1) = 0) ∧ ∀ x ∈ d.mem, chk x.2 (lv + 1) = 0 := by
 rw [chk_eq, ← chkI_zero, ← chkM_zero]
 by_cases h1 : 16 < lv
 · rw [if_pos h1]; simp; omega
 · rw [if_neg h1]
   by_cases h2 : ownE d = 0
   · rw [if_pos h2]
     by_cases h3 : chkI d.its (lv + 1) = 0
     · rw [if_pos h3]; simp [h2, h3]; omega
     · rw [if_neg h3]; simp [h3]
   · rw [if_neg h2]; simp [h2]
theorem ascM_cons {x : List UInt8 × Dat} {r : List (List UInt8 × Dat)} : ascM (x :: r) = true ↔ (∀ y ∈ r, Op.bytesLess x.1 y.1 = true) ∧ ascM r = true := by
 induction r generalizing x with
 | nil => simp [ascM]
 | cons y t ih =>
   rw [ascM]
   simp only [Bool.and_eq_true]
   constructor
   · rintro ⟨h1, h2⟩
     refine ⟨?_, h2⟩
     intro z hz
     rcases List.mem_cons.1 hz with rfl | hz
     · exact h1
     · exact less_trans h1 ((ih.1 h2).1 z hz)
   · rintro ⟨h1, h2⟩
     exact ⟨h1 y (List.mem_cons_self ..), h2⟩
end Go.Proofs.YtdalfkklkeblaaaGreatDoor
