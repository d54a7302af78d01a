/- Steps of a path: plain: what is valid, the text, the order. -/
import Derived.Test.YtpekkdgaeadepaaDoorTxt
import Derived.Test.YtpekkdgaeadepaaDoorQuo
namespace Go.Proofs.YtpekkdgaeadepaaDoor
open Go

structure Stp where
  lab : List UInt8
  idx : Int
deriving DecidableEq
def okS (x : Stp) : Bool := if x.lab = [] then decide (0 ≤ x.idx) && decide (x.idx ≤ 1000000) else decide (x.idx = 0)
def okL (l : List Stp) : Bool := l.all okS
def bitS (x : Stp) (first : Bool) : List UInt8 := if x.lab = [] then 91 :: (Lib.decDigits x.idx.toNat ++ [93]) else if first then labelL x.lab else 46 :: labelL x.lab
def restS (l : List Stp) : List UInt8 := l.flatMap (bitS · false)
def bodyS : List Stp → List UInt8
  | [] => []
  | x :: r => bitS x true ++ restS r
def textS (l : List Stp) : List UInt8 := if okL l = false then [63] else if l = [] then [46] else bodyS l

/-! the order -/
theorem less_eq : ∀ (x y : List UInt8), Op.bytesLess x y = decide (x < y)
  | [], [] => by simp [Op.bytesLess]
  | _ :: _, [] => by simp [Op.bytesLess]
  | [], _ :: _ => by simp [Op.bytesLess]
  | a :: x, b :: y => by
    rw [Op.bytesLess, less_eq x y]
    simp only [List.cons_lt_cons_iff]
    by_cases h1 : a < b <;> by_cases h2 : a = b <;> by_cases h3 : x < y <;> simp [h1, h2, h3]
theorem less_irr (x : List UInt8) : Op.bytesLess x x = false := by rw [less_eq]; simp
theorem less_trans {x y z : List UInt8} (h1 : Op.bytesLess x y = true) (h2 : Op.bytesLess y z = true) : Op.bytesLess x z = true := by
  rw [less_eq, decide_eq_true_eq] at *; exact List.lt_trans h1 h2
theorem less_asym {x y : List UInt8} (h1 : Op.bytesLess x y = true) : Op.bytesLess y x = false := by
  cases h : Op.bytesLess y x with
  | false => rfl
  | true => have := less_trans h1 h; rw [less_irr] at this; cases this
theorem less_total {x y : List UInt8} (h : x ≠ y) (h1 : Op.bytesLess x y = false) : Op.bytesLess y x = true := by
  rw [less_eq, decide_eq_false_iff_not] at h1
  rw [less_eq, decide_eq_true_eq]
  rcases Decidable.em (y < x) with h' | h'
  · exact h'
  · exact absurd (List.le_antisymm (show x ≤ y from h') (show y ≤ x from h1)) h
def oneS (x y : Stp) : Int :=
  if x = y then 0 else if x.lab ≠ [] ∧ y.lab = [] then -1 else if x.lab = [] ∧ y.lab ≠ [] then 1
  else if x.lab ≠ y.lab then (if Op.bytesLess x.lab y.lab then -1 else 1) else if x.idx < y.idx then -1 else 1
def cmpS : List Stp → List Stp → Int
  | x :: xs, y :: ys => if x = y then cmpS xs ys else oneS x y
  | [], [] => 0
  | [], _ :: _ => -1
  | _ :: _, [] => 1
theorem oneS_zero (x y : Stp) : oneS x y = 0 ↔ x = y := by
  unfold oneS
  constructor
  · intro h
    (repeat' split at h) <;> first | assumption | (exfalso; revert h; decide)
  · rintro rfl; simp
theorem oneS_range (x y : Stp) : oneS x y = -1 ∨ oneS x y = 0 ∨ oneS x y = 1 := by
  unfold oneS
  repeat' split
  all_goals simp
theorem stp_ext {x y : Stp} (h1 : x.lab = y.lab) (h2 : x.idx = y.idx) : x = y := by cases x; cases y; simp_all
/-- less, by the label and the index -/
def ltS (x y : Stp) : Prop := (x.lab ≠ [] ∧ y.lab = []) ∨ (x.lab ≠ [] ∧ y.lab ≠ [] ∧ Op.bytesLess x.lab y.lab = true) ∨ (x.lab = y.lab ∧ x.idx < y.idx)
theorem oneS_lt (x y : Stp) : oneS x y = -1 ↔ ltS x y := by
  unfold oneS ltS
  by_cases he : x = y
  · subst he; simp [less_irr]
  rw [if_neg he]
  by_cases h1 : x.lab = [] <;> by_cases h2 : y.lab = []
  · have hx : ¬ x.idx = y.idx := fun h => he (stp_ext (h1.trans h2.symm) h)
    by_cases h3 : x.idx < y.idx <;> simp [h1, h2, h3]
  · simp [h1, h2, Ne.symm h2]
  · simp [h1, h2]
  · by_cases h3 : x.lab = y.lab
    · have hx : ¬ x.idx = y.idx := fun h => he (stp_ext h3 h)
      have h4 := less_irr y.lab
      by_cases h5 : x.idx < y.idx <;> simp [h3, h2, h4, h5]
    · cases h4 : Op.bytesLess x.lab y.lab <;> simp [h1, h2, h3, h4]
theorem ltS_trans {x y z : Stp} (h1 : ltS x y) (h2 : ltS y z) : ltS x z := by
  unfold ltS at *
  rcases h1 with ⟨a, b⟩ | ⟨a, b, c⟩ | ⟨a, b⟩ <;> rcases h2 with ⟨d, e⟩ | ⟨d, e, f⟩ | ⟨d, e⟩
  · exact absurd b d
  · exact absurd b d
  · exact .inl ⟨a, by rw [← d]; exact b⟩
  · exact .inl ⟨a, e⟩
  · exact .inr (.inl ⟨a, e, less_trans c f⟩)
  · exact .inr (.inl ⟨a, by rw [← d]; exact b, by rw [← d]; exact c⟩)
  · exact .inl ⟨by rw [a]; exact d, e⟩
  · exact .inr (.inl ⟨by rw [a]; exact d, e, by rw [a]; exact f⟩)
  · exact .inr (.inr ⟨a.trans d, by omega⟩)
theorem ltS_irr (x : Stp) : ¬ ltS x x := by
  unfold ltS
  rintro (⟨a, b⟩ | ⟨a, b, c⟩ | ⟨a, b⟩)
  · exact a b
  · rw [less_irr] at c; cases c
  · omega
theorem ltS_total {x y : Stp} (h : x ≠ y) (h1 : ¬ ltS x y) : ltS y x := by
  have := oneS_range x y
  unfold ltS at *
  by_cases h2 : x.lab = y.lab
  · have : x.idx ≠ y.idx := fun e => h (stp_ext h2 e)
    exact .inr (.inr ⟨h2.symm, by have : ¬ x.idx < y.idx := fun e => h1 (.inr (.inr ⟨h2, e⟩)); omega⟩)
  · by_cases h3 : y.lab = []
    · by_cases h4 : x.lab = []
      · exact absurd (h4.trans h3.symm) h2
      · exact absurd (.inl ⟨h4, h3⟩) h1
    · by_cases h4 : x.lab = []
      · exact .inl ⟨h3, h4⟩
      · refine .inr (.inl ⟨h3, h4, less_total h2 ?_⟩)
        cases h5 : Op.bytesLess x.lab y.lab with
        | false => rfl
        | true => exact absurd (.inr (.inl ⟨h4, h3, h5⟩)) h1
theorem oneS_neg (x y : Stp) : oneS y x = -oneS x y := by
  by_cases he : x = y
  · subst he; rw [(oneS_zero x x).2 rfl]; rfl
  · by_cases h : ltS x y
    · rw [(oneS_lt x y).2 h]
      have h0 : oneS y x ≠ 0 := fun e => he ((oneS_zero y x).1 e).symm
      have h1 : oneS y x ≠ -1 := fun e => ltS_irr x (ltS_trans h ((oneS_lt y x).1 e))
      have := oneS_range y x
      omega
    · have h' := ltS_total he h
      rw [(oneS_lt y x).2 h']
      have h0 : oneS x y ≠ 0 := fun e => he ((oneS_zero x y).1 e)
      have h1 : oneS x y ≠ -1 := fun e => h ((oneS_lt x y).1 e)
      have := oneS_range x y
      omega
theorem cmpS_range : ∀ a b : List Stp, cmpS a b = -1 ∨ cmpS a b = 0 ∨ cmpS a b = 1
  | [], [] => by simp [cmpS]
  | [], _ :: _ => by simp [cmpS]
  | _ :: _, [] => by simp [cmpS]
  | x :: xs, y :: ys => by
    rw [cmpS]; split
    · exact cmpS_range xs ys
    · exact oneS_range x y
theorem cmpS_zero : ∀ a b : List Stp, cmpS a b = 0 ↔ a = b
  | [], [] => by simp [cmpS]
  | [], _ :: _ => by simp [cmpS]
  | _ :: _, [] => by simp [cmpS]
  | x :: xs, y :: ys => by
    rw [cmpS]; split
    · rename_i h; rw [cmpS_zero xs ys, h]; simp
    · rename_i h; rw [oneS_zero]; simp [h]
theorem cmpS_neg : ∀ a b : List Stp, cmpS b a = -cmpS a b
  | [], [] => by simp [cmpS]
  | [], _ :: _ => by simp [cmpS]
  | _ :: _, [] => by simp [cmpS]
  | x :: xs, y :: ys => by
    rw [cmpS, cmpS]
    by_cases h : x = y
    · rw [if_pos h, if_pos h.symm]; exact cmpS_neg xs ys
    · rw [if_neg h, if_neg (Ne.symm h)]; exact oneS_neg x y
theorem cmpS_trans : ∀ a b c : List Stp, cmpS a b ≤ 0 → cmpS b c ≤ 0 → cmpS a c ≤ 0 ∧ ((cmpS a b = 0 ∧ cmpS b c = 0) ∨ cmpS a c < 0)
  | [], [], [], _, _ => by simp [cmpS]
  | [], [], _ :: _, _, _ => by simp [cmpS]
  | [], _ :: _, [], _, h => by simp [cmpS] at h
  | [], _ :: _, _ :: _, _, _ => by simp [cmpS]
  | _ :: _, [], _, h, _ => by simp [cmpS] at h
  | _ :: _, _ :: _, [], _, h => by simp [cmpS] at h
  | x :: xs, y :: ys, z :: zs, h1, h2 => by
    rw [cmpS] at h1 h2 ⊢
    rw [cmpS, cmpS]
    by_cases hxy : x = y
    · subst hxy
      rw [if_pos rfl] at h1 ⊢
      by_cases hyz : x = z
      · subst hyz
        rw [if_pos rfl] at h2
        simp only [if_true]
        exact cmpS_trans xs ys zs h1 h2
      · rw [if_neg hyz] at h2 ⊢
        have := oneS_range x z
        have h0 : oneS x z ≠ 0 := fun e => hyz ((oneS_zero x z).1 e)
        omega
    · rw [if_neg hxy] at h1 ⊢
      have r1 := oneS_range x y
      have h0 : oneS x y ≠ 0 := fun e => hxy ((oneS_zero x y).1 e)
      have l1 : ltS x y := (oneS_lt x y).1 (by omega)
      by_cases hyz : y = z
      · subst hyz
        rw [if_neg hxy]
        omega
      · rw [if_neg hyz] at h2
        have r2 := oneS_range y z
        have h3 : oneS y z ≠ 0 := fun e => hyz ((oneS_zero y z).1 e)
        have l2 : ltS y z := (oneS_lt y z).1 (by omega)
        have l3 := ltS_trans l1 l2
        have hxz : x ≠ z := fun e => ltS_irr x (by rw [e] at l3 ⊢; exact l3)
        rw [if_neg hxz, (oneS_lt x z).2 l3]
        omega
end Go.Proofs.YtpekkdgaeadepaaDoor
