/- The parts of an interpolated string in one word: the program's Interp and the specification's. -/
import Derived.Test.YtadbilonialjnaaGreatDoorTkL
import Derived.Test.YtadbilonialjnaaGreatDoorTkW
namespace Go.Proofs.YtadbilonialjnaaGreatDoor
open Go.RowKit

/-- the parts, the error and its offset -/
def interpR (l : List UInt8) : List Prt × Nat × Nat :=
  match interpL l with
  | .error i => ([], 8, i)
  | .ok ps => (ps, 0, 0)
theorem int_len : ∀ (f : Nat) (m : List UInt8) (i : Nat) (text : List UInt8) (fr : Nat) (out ps : List Prt), tkInt f m i text fr out = .ok ps → out.length + text.length ≤ i → ps.length ≤ i + m.length
  | f, [], i, text, fr, out, ps, h, hl => by
    have e : tkInt f [] i text fr out = .ok (flushP text fr out) := by cases f <;> rfl
    rw [e] at h
    injection h with h
    subst h
    unfold flushP
    split
    · simp; omega
    · next hne => have := List.length_pos_iff.2 hne; simp; omega
  | 0, c :: t, i, text, fr, out, ps, h, hl => by simp [tkInt] at h
  | f + 1, c :: t, i, text, fr, out, ps, h, hl => by
    by_cases hc : c = 92 ∧ t.head? = some 40
    · rw [tkInt, if_pos hc] at h
      cases hco : codeA (t.drop 1) 1 1 with
      | none => rw [hco] at h; cases h
      | some j =>
        rw [hco] at h
        simp only at h
        have hj := codeA_le _ _ _ _ hco
        rw [List.length_drop] at hj
        have := int_len f _ _ _ _ _ _ h (by
          rw [List.length_append]
          unfold flushP
          split
          · simp; omega
          · next hne => have := List.length_pos_iff.2 hne; simp; omega)
        rw [List.length_drop] at this
        simp only [List.length_cons]
        omega
    · rw [tkInt_piece hc] at h
      by_cases h0 : (pieceL (c :: t)).2 = 0
      · rw [if_pos h0] at h; cases h
      · rw [if_neg h0] at h
        have hp := piece_le (c :: t)
        have := int_len f _ _ _ _ _ _ h (by simp; omega)
        rw [List.length_drop] at this
        omega
theorem interpR_len {l : List UInt8} {L : List Prt} {a b : Nat} (h : interpR l = (L, a, b)) : L.length ≤ l.length := by
  unfold interpR at h
  cases hi : interpL l with
  | error i => rw [hi] at h; injection h with h; subst h; simp
  | ok ps =>
    rw [hi] at h; injection h with h; subst h
    have := int_len _ _ _ _ _ _ _ hi (by simp)
    omega
theorem Interp_all {l : List UInt8} {L : List Prt} {a b : Nat} (h : interpR l = (L, a, b)) (hl : l.length ≤ 1000000) (w : World) (hE : ErrOk w) : Calls Tryz.prog 8 #[.string (S l)] w fun e w' =>
    ∃ p cap, e = .returned (.tuple #[.slice p L.length cap, .agg #[.int .i64 (a : Int), .int .i64 (b : Int)]]) ∧ SlP w' (.slice p L.length cap) L ∧ Below w.heap.size w w' := by
  refine (interp_any l hl w hE).mono ?_
  rintro e w' ⟨hb, hm⟩
  unfold interpR at h
  cases hi : interpL l with
  | error i =>
    rw [hi] at h hm
    injection h with h1 h2; injection h2 with h2 h3
    subst h1; subst h2; subst h3
    exact ⟨none, 0, hm, .inl ⟨rfl, rfl⟩, hb⟩
  | ok ps =>
    rw [hi] at h hm
    injection h with h1 h2; injection h2 with h2 h3
    subst h1; subst h2; subst h3
    obtain ⟨v, he, ho⟩ := hm
    have hs := own_SlP ho
    obtain ⟨p, cap, rfl, -⟩ := hs.open
    exact ⟨p, cap, he, hs, hb⟩
theorem refInterp_all {l : List UInt8} {L : List Prt} {a b : Nat} (h : interpR l = (L, a, b)) (hl : l.length ≤ 60000) (w : World) : Calls Tryz.prog 42 #[.string (S l)] w fun e w' =>
    ∃ p cap, e = .returned (.tuple #[.slice p L.length cap, .agg #[.int .i64 (a : Int), .int .i64 (b : Int)]]) ∧ SlP w' (.slice p L.length cap) L ∧ Below w.heap.size w w' := by
  refine (refInterp_any l hl w).mono ?_
  rintro e w' ⟨hb, hm⟩
  unfold interpR at h
  cases hi : interpL l with
  | error i =>
    rw [hi] at h hm
    injection h with h1 h2; injection h2 with h2 h3
    subst h1; subst h2; subst h3
    exact ⟨none, 0, hm, .inl ⟨rfl, rfl⟩, hb⟩
  | ok ps =>
    rw [hi] at h hm
    injection h with h1 h2; injection h2 with h2 h3
    subst h1; subst h2; subst h3
    obtain ⟨v, he, ho⟩ := hm
    have hs := own_SlP ho
    obtain ⟨p, cap, rfl, -⟩ := hs.open
    exact ⟨p, cap, he, hs, hb⟩
end Go.Proofs.YtadbilonialjnaaGreatDoor
