/- Pieces of a text between the signs c: plain. -/
import Derived.Lib.Split
import Derived.Lib.SplitLaws
import Derived.Lib.IndexBytes
import Derived.Test.YtadbilonialjnaaDoorStr
namespace Go.Proofs.YtadbilonialjnaaDoor
open Go

/-- the pieces between the bytes c -/
def splitC (c : UInt8) : List UInt8 → List (List UInt8)
  | [] => [[]]
  | b :: r => if b = c then [] :: splitC c r else
    match splitC c r with
    | [] => [[b]]
    | p :: ps => (b :: p) :: ps
theorem splitC_ne (c : UInt8) (l : List UInt8) : splitC c l ≠ [] := by
  cases l with
  | nil => simp [splitC]
  | cons b r =>
    unfold splitC
    split
    · simp
    · split <;> simp
theorem splitC_app (c : UInt8) (a r : List UInt8) (h : ∀ x ∈ a, x ≠ c) : splitC c (a ++ c :: r) = a :: splitC c r := by
  induction a with
  | nil => simp [splitC]
  | cons b a ih =>
    have hb := h b (List.mem_cons_self ..)
    rw [List.cons_append, splitC, if_neg hb, ih (fun x hx => h x (List.mem_cons_of_mem _ hx))]
theorem splitC_one (c : UInt8) (a : List UInt8) (h : ∀ x ∈ a, x ≠ c) : splitC c a = [a] := by
  induction a with
  | nil => rfl
  | cons b a ih =>
    have hb := h b (List.mem_cons_self ..)
    rw [splitC, if_neg hb, ih (fun x hx => h x (List.mem_cons_of_mem _ hx))]
theorem indexByte_hit (c : UInt8) (a r : List UInt8) (h : ∀ x ∈ a, x ≠ c) : Lib.indexByte (a ++ c :: r) c = a.length := by
  induction a with
  | nil => simp [Lib.indexByte]
  | cons b a ih =>
    have hb := h b (List.mem_cons_self ..)
    rw [List.cons_append, Lib.indexByte, if_neg (by simpa using hb), ih (fun x hx => h x (List.mem_cons_of_mem _ hx)), if_neg (by simp), List.length_cons]
    omega
theorem split_mem (c : UInt8) (l : List UInt8) (h : c ∈ l) : ∃ a r, l = a ++ c :: r ∧ ∀ x ∈ a, x ≠ c := by
  induction l with
  | nil => cases h
  | cons b l ih =>
    by_cases hb : b = c
    · exact ⟨[], l, by rw [hb]; rfl, by simp⟩
    · have h' : c ∈ l := by
        rcases List.mem_cons.1 h with h1 | h1
        · exact absurd h1.symm hb
        · exact h1
      obtain ⟨a, r, e, ha⟩ := ih h'
      exact ⟨b :: a, r, by rw [e]; rfl, by
        intro x hx
        rcases List.mem_cons.1 hx with h1 | h1
        · rw [h1]; exact hb
        · exact ha x h1⟩
theorem splitK_one (c : UInt8) (l : List UInt8) : Lib.splitK [c] 0 (l.count c) l = splitC c l := by
  induction hn : l.length using Nat.strongRecOn generalizing l with
  | _ n ih =>
    by_cases h : c ∈ l
    · obtain ⟨a, r, e, ha⟩ := split_mem c l h
      have hc : l.count c = r.count c + 1 := by
        rw [e, List.count_append, List.count_cons_self, List.count_eq_zero.2 (fun hx => ha c hx rfl)]; omega
      have hi : Lib.index l [c] = a.length := by rw [Lib.index_one, e]; exact indexByte_hit c a r ha
      rw [hc, Lib.splitK, hi, if_neg (by simp)]
      rw [show ((a.length : Nat) : Int).toNat + 0 = a.length by omega, show ((a.length : Nat) : Int).toNat + [c].length = a.length + 1 by simp]
      have e1 : l.take a.length = a := by rw [e]; simp
      have e2 : l.drop (a.length + 1) = r := by rw [e, ← List.drop_drop]; simp
      rw [e1, e2, ih r.length (by rw [← hn, e]; simp; omega) r rfl, e, splitC_app c a r ha]
    · rw [List.count_eq_zero.2 h, Lib.splitK, splitC_one c l (fun x hx e => h (e ▸ hx))]
theorem splitC_len (c : UInt8) (l : List UInt8) : (splitC c l).length = l.count c + 1 := by
  induction hn : l.length using Nat.strongRecOn generalizing l with
  | _ n ih =>
    by_cases h : c ∈ l
    · obtain ⟨a, r, e, ha⟩ := split_mem c l h
      have hc : l.count c = r.count c + 1 := by
        rw [e, List.count_append, List.count_cons_self, List.count_eq_zero.2 (fun hx => ha c hx rfl)]; omega
      rw [hc]
      conv => lhs; rw [e, splitC_app c a r ha]
      rw [List.length_cons, ih r.length (by rw [← hn, e]; simp; omega) r rfl]
    · rw [List.count_eq_zero.2 h, splitC_one c l (fun x hx e => h (e ▸ hx))]; rfl
theorem countB_one (c : UInt8) (l : List UInt8) : Lib.countB (S l) (S [c]) + 1 = (splitC c l).length := by
  rw [splitC_len, ← Lib.count_one]; rfl
theorem splitB_one (c : UInt8) (l : List UInt8) : Lib.splitB (S [c]) 0 (Lib.countB (S l) (S [c])) (S l) = (splitC c l).map S := by
  have h := Lib.splitB_data (S [c]) 0 (Lib.countB (S l) (S [c])) (S l)
  have h2 : Lib.splitK (S [c]).data.toList 0 (Lib.countB (S l) (S [c])) (S l).data.toList = splitC c l := by
    rw [← splitK_one, ← Lib.count_one]; rfl
  rw [h2] at h
  rw [← h, List.map_map]
  conv => lhs; rw [← List.map_id (Lib.splitB (S [c]) 0 (Lib.countB (S l) (S [c])) (S l))]
  apply List.map_congr_left
  intro x _
  cases x; rfl
/-- the pieces are no longer than the text -/
theorem splitC_mem_len (c : UInt8) (l : List UInt8) : ∀ p ∈ splitC c l, p.length ≤ l.length := by
  induction l with
  | nil => simp [splitC]
  | cons b r ih =>
    unfold splitC
    split
    · intro p hp
      rcases List.mem_cons.1 hp with h | h
      · rw [h]; simp
      · have := ih p h; simp; omega
    · split
      · intro p hp; simp at hp; rw [hp]; simp
      · rename_i q qs hq
        intro p hp
        rcases List.mem_cons.1 hp with h | h
        · have := ih q (by rw [hq]; exact List.mem_cons_self ..)
          rw [h]; simp; omega
        · have := ih p (by rw [hq]; exact List.mem_cons_of_mem _ h)
          simp; omega
end Go.Proofs.YtadbilonialjnaaDoor
