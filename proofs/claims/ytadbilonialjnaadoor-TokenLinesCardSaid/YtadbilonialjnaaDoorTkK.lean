/- Position: the line and the column of an offset. -/
import Derived.LoopTactic
import Derived.Laws.RangeAny
import Derived.Laws.RangeString
import Derived.Test.YtadbilonialjnaaDoorTkA
namespace Go.Proofs.YtadbilonialjnaaDoor
open Go.RowKit

def rowN (l : List UInt8) : Nat := l.count 10 + 1
/-- where the last line begins -/
def fromN (l : List UInt8) : Nat := l.length - (l.reverse.takeWhile fun c => c != 10).length
theorem rowN_nl (l : List UInt8) : rowN (l ++ [10]) = rowN l + 1 := by simp [rowN]
theorem rowN_no (l : List UInt8) (c : UInt8) (h : ¬ c = 10) : rowN (l ++ [c]) = rowN l := by
  unfold rowN; rw [List.count_append, List.count_cons_of_ne h]; simp
theorem tw_len (l : List UInt8) : (l.reverse.takeWhile fun c => c != 10).length ≤ l.length := by
  have := (List.takeWhile_sublist (fun c : UInt8 => c != 10) (l := l.reverse)).length_le
  simpa using this
theorem fromN_le (l : List UInt8) : fromN l ≤ l.length := Nat.sub_le _ _
theorem fromN_nl (l : List UInt8) : fromN (l ++ [10]) = l.length + 1 := by simp [fromN]
theorem fromN_no (l : List UInt8) (c : UInt8) (h : ¬ c = 10) : fromN (l ++ [c]) = fromN l := by
  have := tw_len l
  have hc : (c != 10) = true := by simpa using h
  simp [fromN, List.takeWhile_cons, hc]
theorem tw_all (p : UInt8 → Bool) : ∀ l : List UInt8, (∀ x ∈ l, p x = true) → l.takeWhile p = l
  | [], _ => rfl
  | c :: t, h => by rw [List.takeWhile_cons, h c (List.mem_cons_self ..), if_pos rfl, tw_all p t fun x hx => h x (List.mem_cons_of_mem _ hx)]
theorem row_one (l : List UInt8) (h : rowN l = 1) : fromN l = 0 := by
  have h0 : l.count 10 = 0 := by unfold rowN at h; omega
  have hm := List.count_eq_zero.1 h0
  unfold fromN
  rw [tw_all _ _ fun x hx => by
    have : x ≠ 10 := fun e => hm (e ▸ List.mem_reverse.1 hx)
    simpa using this]
  simp
/-- a rune of many bytes holds no line feed -/
theorem width_in (s : ByteArray) (pos k : Nat) (hk : k < (Utf8.decode s pos).2) (h1 : 1 ≤ k) : ∃ h : pos + k < s.size, 128 ≤ (s[pos + k]'h).toNat := by
  have key : pos + k < s.size → (s.get! (pos + k)).toNat / 64 = 2 → ∃ h : pos + k < s.size, 128 ≤ (s[pos + k]'h).toNat := by
    intro h e
    refine ⟨h, ?_⟩
    have : (s.get! (pos + k)).toNat = (s[pos + k]'h).toNat := by
      cases s with
      | mk d =>
        have h' : pos + k < d.size := h
        show (d[pos + k]!).toNat = (d[pos + k]'h').toNat
        rw [getElem!_pos d (pos + k) h']
    rw [← this]; omega
  have h2 : k = 1 ∨ k = 2 ∨ k = 3 := by
    simp only [Utf8.decode] at hk
    (repeat' split at hk) <;> simp only at hk <;> omega
  simp only [Utf8.decode] at hk
  rcases h2 with rfl | rfl | rfl <;> (repeat' split at hk) <;> simp only [Bool.and_eq_true, decide_eq_true_eq, beq_iff_eq] at * <;> first | omega | (apply key <;> simp_all)
/-- the bytes of a rune that begins with a byte of at least 128 -/
theorem width_no (l : List UInt8) (pos : Nat) (h : pos < l.length) (ha : 128 ≤ (byt l pos).toNat) : pos + (Utf8.decode (S l) pos).2 ≤ l.length ∧ 1 ≤ (Utf8.decode (S l) pos).2 ∧
    rowN (l.take (pos + (Utf8.decode (S l) pos).2)) = rowN (l.take pos) ∧ fromN (l.take (pos + (Utf8.decode (S l) pos).2)) = fromN (l.take pos) := by
  have hd := decode_high (S l) pos (show pos < (S l).size from h) (by rw [S_get?]; exact ha)
  have hb : ∀ k, k < (Utf8.decode (S l) pos).2 → pos + k < l.length ∧ 128 ≤ (byt l (pos + k)).toNat := by
    intro k hk
    rcases Nat.eq_zero_or_pos k with rfl | h1
    · exact ⟨h, ha⟩
    · obtain ⟨hh, hv⟩ := width_in (S l) pos k hk h1
      rw [S_get?] at hv
      exact ⟨hh, hv⟩
  have hs : ∀ k, k ≤ (Utf8.decode (S l) pos).2 → rowN (l.take (pos + k)) = rowN (l.take pos) ∧ fromN (l.take (pos + k)) = fromN (l.take pos) := by
    intro k
    induction k with
    | zero => intro _; exact ⟨rfl, rfl⟩
    | succ k ih =>
      intro hk
      obtain ⟨i1, i2⟩ := ih (by omega)
      obtain ⟨b1, b2⟩ := hb k (by omega)
      have hne : ¬ byt l (pos + k) = 10 := by
        intro e; rw [e] at b2; exact absurd b2 (by decide)
      rw [← Nat.add_assoc, take_byt l (pos + k) b1, rowN_no _ _ hne, fromN_no _ _ hne]
      exact ⟨i1, i2⟩
  refine ⟨?_, hd.2, hs _ (Nat.le_refl _)⟩
  have := (hb ((Utf8.decode (S l) pos).2 - 1) (by omega)).1
  omega

/-- line and column -/
def posVal (l : List UInt8) : Value := .tuple #[.int .i64 (rowN l : Int), .int .i64 ((l.length : Int) + 1 - (fromN l : Int))]
/-- the offset, brought into the text -/
def clampN (l : List UInt8) (a : Int) : Nat := if a < 0 then 0 else min a.toNat l.length
theorem clampN_le (l : List UInt8) (a : Int) : clampN l a ≤ l.length := by unfold clampN; split <;> omega
theorem ret_pos {l : List UInt8} {a b : Int} (h1 : a = rowN l) (h2 : b = (l.length : Int) + 1 - (fromN l : Int)) : Ending.returned (.tuple #[.int .i64 a, .int .i64 b]) = .returned (posVal l) := by rw [h1, h2]; rfl
theorem rowN_le (l : List UInt8) : rowN l ≤ l.length + 1 := by unfold rowN; have := List.count_le_length (a := (10 : UInt8)) (l := l); omega
theorem iter_below (w : World) (s : ByteArray) (p : Nat) : Below w.heap.size w (w.iter s p) := (Below.refl _ _).alloc (Nat.le_refl _) _
set_option maxRecDepth 100000 in
set_option maxHeartbeats 2000000 in
theorem position_any (l : List UInt8) (hl : l.length ≤ 1000000) (a : Int) (w : World) : Calls Tryd.prog 16 #[.string (S l), .int .i64 a] w fun e w' => e = .returned (posVal (l.take (clampN l a))) ∧ Below w.heap.size w w' := by
  have hc := clampN_le l a
  obtain ⟨p, hp⟩ : ∃ p, clampN l a = p := ⟨_, rfl⟩
  have HP := Lib.hid hp
  rw [hp] at hc ⊢
  obtain ⟨m, hm⟩ : ∃ m : Int, (if (l.length : Int) < a then (l.length : Int) else a) = m := ⟨_, rfl⟩
  have hm2 : (if 0 < m then m else 0) = (p : Int) := by
    unfold clampN at hp
    split at hp <;> split at hm <;> split <;> omega
  obtain ⟨q, hq⟩ : ∃ q, l.take p = q := ⟨_, rfl⟩
  rw [hq]
  have HQ := Lib.hid hq
  have hql : q.length = p := by rw [← hq, List.length_take]; omega
  clear hp hq
  have HM := Lib.hid hm
  have HM2 := Lib.hid hm2
  clear hm hm2
  have b1 : (p : Int) ≤ (l.length : Int) := by omega
  go_enter Tryd.func16, Tryd.ntmps16
  go_upto_region 3 with fail
  rw [HM.out, HM2.out, Int.toNat_natCast, sl_to, HQ.out]
  go_wp2_with fail
  go_loopw [6, 7] (fun x y wr => ∃ pos : Nat, wr = w.iter (S q) pos ∧ pos ≤ q.length ∧ x = .int .i64 (rowN (q.take pos) : Int) ∧ y = .int .i64 (1 - (fromN (q.take pos) : Int))) (fun _ _ wr => q.length - wr.iterPos w.heap.size)
  case atStart => exact ⟨0, rfl, by omega, rfl, rfl⟩
  case round =>
    obtain ⟨pos, rfl, hpos, rfl, rfl⟩ := hrel
    have hr := rowN_le (q.take pos)
    have hf := fromN_le (q.take pos)
    rw [List.length_take] at hr hf
    by_cases hlt : pos < q.length
    · by_cases hasc : (byt q pos).toNat < 128
      · have hnx : ∀ ty, (Instr.next (.pointer (some ⟨w.heap.size, 0, none⟩)) true ty).run Tryd.prog (w.iter (S q) pos) = .ok (.tuple #[.bool true, .int .i64 pos, .int .i32 ((byt q pos).toNat : Int)]) (w.iter (S q) (pos + 1)) := fun ty => by
          rw [run_next_ascii w (S q) pos ty (show pos < (S q).size from hlt) (by rw [S_get?]; exact hasc), S_get?]
        by_cases h10 : byt q pos = 10
        · have T : (((byt q pos).toNat : Int) == 10) = true := byte_test (d := 10) h10
          have HN := Lib.hid (show rowN (q.take (pos + 1)) = rowN (q.take pos) + 1 ∧ fromN (q.take (pos + 1)) = pos + 1 by
            rw [take_byt q pos hlt, h10, rowN_nl, fromN_nl, List.length_take]; exact ⟨rfl, by omega⟩)
          clear h10
          go_wp2_with fail
          go_roundw
          case rel => exact ⟨pos + 1, rfl, by omega, by rw [HN.out.1]; go_num, by rw [HN.out.2]; exact iv_eq (by omega)⟩
          case measure => simp; omega
        · have T : (((byt q pos).toNat : Int) == 10) = false := u8_ne h10
          have HN := Lib.hid (show rowN (q.take (pos + 1)) = rowN (q.take pos) ∧ fromN (q.take (pos + 1)) = fromN (q.take pos) by
            rw [take_byt q pos hlt, rowN_no _ _ h10, fromN_no _ _ h10]; exact ⟨rfl, rfl⟩)
          clear h10
          go_wp2_with fail
          go_roundw
          case rel => exact ⟨pos + 1, rfl, by omega, by rw [HN.out.1], by rw [HN.out.2]⟩
          case measure => simp; omega
      · obtain ⟨w1, w2, w3, w4⟩ := width_no q pos hlt (by omega)
        have hd := decode_high (S q) pos (show pos < (S q).size from hlt) (by rw [S_get?]; omega)
        have hnx : ∀ ty, (Instr.next (.pointer (some ⟨w.heap.size, 0, none⟩)) true ty).run Tryd.prog (w.iter (S q) pos) = .ok (.tuple #[.bool true, .int .i64 pos, .int .i32 (Utf8.decode (S q) pos).1]) (w.iter (S q) (pos + (Utf8.decode (S q) pos).2)) := fun ty => run_next_any w (S q) pos ty (show pos < (S q).size from hlt)
        have T : ((((Utf8.decode (S q) pos).1 : Nat) : Int) == 10) = false := beq_eq_false_iff_ne.2 (by omega)
        have HN := Lib.hid (And.intro w3 w4)
        clear w3 w4 hd
        go_wp2_with fail
        go_roundw
        case rel => exact ⟨pos + (Utf8.decode (S q) pos).2, rfl, by omega, by rw [HN.out.1], by rw [HN.out.2]⟩
        case measure => simp; omega
    · have hnx : ∀ ty, (Instr.next (.pointer (some ⟨w.heap.size, 0, none⟩)) true ty).run Tryd.prog (w.iter (S q) pos) = _ := fun ty => run_next_end w (S q) pos ty (show ¬ pos < (S q).size from hlt)
      have HT := Lib.hid (show q.take pos = q from List.take_of_length_le (by omega))
      rw [HT.out] at hr hf ⊢
      by_cases h1 : rowN q = 1
      · have HF := Lib.hid (row_one q h1)
        rw [h1]
        go_wp2_with fail
        go_ret2
        exact ⟨ret_pos (by omega) (by rw [HF.out]; omega), iter_below w _ _⟩
      · have hz : ((rowN q : Int) == 1) = false := beq_eq_false_iff_ne.2 (by omega)
        go_wp2_with fail
        go_ret2
        exact ⟨ret_pos rfl (by omega), iter_below w _ _⟩
end Go.Proofs.YtadbilonialjnaaDoor
