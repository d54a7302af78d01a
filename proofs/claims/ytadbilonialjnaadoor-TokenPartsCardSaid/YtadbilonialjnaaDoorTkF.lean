/- The scanner's operator: the longest operator at the beginning of a text. -/
import Derived.Test.YtadbilonialjnaaDoorTkC
import Derived.Test.YtadbilonialjnaaDoorBlk
import Derived.Test.YtadbilonialjnaaDoorSplit
namespace Go.Proofs.YtadbilonialjnaaDoor
open Go.RowKit

/-- the library's variable MaxLen holds a number -/
def MaxOk (w : World) : Prop := ∃ m : Int, w.cell? ⟨0, 0, none⟩ = some (.int .i64 m)
theorem MaxOk.below {w w' : World} (h : MaxOk w) (hb : Below w.heap.size w w') : MaxOk w' := by
  obtain ⟨m, hc⟩ := h
  exact ⟨m, (hb.cell (p := ⟨0, 0, none⟩) (cell_lt hc)).trans hc⟩
def scells (l : List (List UInt8)) : List Value := l.map fun x => .string (S x)
/-- string j of a list -/
def wd (ws : List (List UInt8)) (j : Nat) : List UInt8 := ws.getD j []
theorem scells_get (P : List (List UInt8)) (k : Nat) (h : k < P.length) : (scells P)[k]? = some (.string (S (wd P k))) := by
  unfold scells wd
  simp [List.getElem?_eq_getElem h, List.getD]
theorem Split_any (c : UInt8) (l : List UInt8) (hl : l.length ≤ 1000000) (w : World) (hM : MaxOk w) :
    Calls Tryd.prog 49 #[.string (S l), .string (S [c])] w fun e w' => e = .returned (.slice (some ⟨w.heap.size, 0, none⟩) (splitC c l).length (splitC c l).length) ∧ w' = w.alloc (.cells (scells (splitC c l)).toArray 9) := by
  obtain ⟨m, hm⟩ := hM
  refine (Tryd.strings_Split (S l) (S [c]) m w (by show l.length < _; omega) hm (by show 1 ≤ 1; omega)).mono ?_
  rintro e w' ⟨rfl, rfl⟩
  rw [countB_one, splitB_one, List.map_map]
  exact ⟨rfl, rfl⟩

/-- the three lines of operators -/
def tkLines : List (List UInt8) := [[95,124,95,32,46,46,46],[61,61,32,33,61,32,60,61,32,62,61,32,61,126,32,33,126,32,38,38,32,124,124],[95,32,40,32,41,32,91,32,93,32,123,32,125,32,58,32,44,32,46,32,63,32,33,32,42,32,38,32,124,32,61,32,60,32,62,32,43,32,45,32,47,32,37]]
def opsA : Nat → List (List UInt8)
  | 0 => tkOps1
  | 1 => tkOps2
  | 2 => tkOps3
  | _ => []
def restA : Nat → List (List UInt8)
  | 0 => tkOps
  | 1 => tkOps2 ++ tkOps3
  | 2 => tkOps3
  | _ => []
theorem restA_step : ∀ k, k < 3 → restA k = opsA k ++ restA (k + 1)
  | 0, _ => rfl
  | 1, _ => rfl
  | 2, _ => rfl
theorem split_line : ∀ k, k < 3 → splitC 32 (wd tkLines k) = opsA k
  | 0, _ => by decide
  | 1, _ => by decide
  | 2, _ => by decide
theorem line_len : ∀ k, k < 3 → (wd tkLines k).length ≤ 1000
  | 0, _ => by decide
  | 1, _ => by decide
  | 2, _ => by decide
theorem opsA_len : ∀ k, k < 3 → (opsA k).length ≤ 100
  | 0, _ => by decide
  | 1, _ => by decide
  | 2, _ => by decide
def fnd (m : List UInt8) (P : List (List UInt8)) : List UInt8 := (P.find? fun o => o.isPrefixOf m).getD []
theorem fnd_yes {m : List UInt8} {P R : List (List UInt8)} {j : Nat} (h : j < P.length) (hp : Lib.hasPrefix m (wd P j) = true) : fnd m (P.drop j ++ R) = wd P j := by
  have e : wd P j = P[j] := by unfold wd; simp [List.getD, List.getElem?_eq_getElem h]
  rw [e] at hp ⊢
  unfold fnd
  rw [List.drop_eq_getElem_cons h, List.cons_append, List.find?_cons, show P[j].isPrefixOf m = true from hp]; rfl
theorem fnd_no {m : List UInt8} {P R : List (List UInt8)} {j : Nat} (h : j < P.length) (hp : Lib.hasPrefix m (wd P j) = false) : fnd m (P.drop j ++ R) = fnd m (P.drop (j + 1) ++ R) := by
  have e : wd P j = P[j] := by unfold wd; simp [List.getD, List.getElem?_eq_getElem h]
  rw [e] at hp
  unfold fnd
  rw [List.drop_eq_getElem_cons h, List.cons_append, List.find?_cons, show P[j].isPrefixOf m = false from hp]
theorem fnd_end {m : List UInt8} {P R : List (List UInt8)} {j : Nat} (h : P.length ≤ j) : fnd m (P.drop j ++ R) = fnd m R := by
  rw [List.drop_of_length_le h]; rfl

set_option maxRecDepth 100000 in
set_option maxHeartbeats 2000000 in
theorem toper_any (l : List UInt8) (hl : l.length ≤ 1000000) (w : World) (hM : MaxOk w) : Calls Tryd.prog 39 #[.string (S l)] w fun e w' => e = .returned (.string (S (tkOp l))) ∧ Below w.heap.size w w' := by
  have HM := Lib.hid hM
  clear hM
  have H0 := Lib.hid (show tkOp l = fnd l (restA 0) from rfl)
  obtain ⟨r, hr⟩ : ∃ r, tkOp l = r := ⟨_, rfl⟩
  rw [hr] at H0 ⊢
  clear hr
  go_enter Tryd.func39, Tryd.ntmps39
  go_wp2_with fail
  have HB := Lib.hid (Blk.new w (scells tkLines).toArray 9)
  go_loopw [9] (fun v wr => ∃ k : Nat, v = .int .i64 (k : Int) ∧ k ≤ 3 ∧ Hid (Blk wr w.heap.size (scells tkLines).toArray 9 ∧ Below w.heap.size w wr ∧ r = fnd l (restA k))) (fun v _ => 3 - (intOf v).toNat)
  case atStart => exact ⟨0, rfl, by omega, Lib.hid ⟨HB.out, by go_grown, H0.out⟩⟩
  case round =>
    clear HB H0
    obtain ⟨k, rfl, hk, HR⟩ := hrel
    by_cases hlt : k < 3
    · have hc : wr.cell? ⟨w.heap.size, k, none⟩ = some (.string (S (wd tkLines k))) := by
        rw [HR.out.1.cell k]
        have := scells_get tkLines k hlt
        simpa using this
      have hs := HR.out.1.lt
      have HMr := Lib.hid (HM.out.below HR.out.2.1)
      have hll := line_len k hlt
      have hol := opsA_len k hlt
      have HQ := Lib.hid (HR.out.2.2.trans (by rw [restA_step k hlt]))
      have HS := Lib.hid (split_line k hlt)
      have hkl : (k : Int) < 3 := by omega
      go_upto_region 5 with (go_at_call 49; refine (Split_any 32 (wd tkLines k) (by omega) _ HMr.out).mono ?_; rintro e w2 ⟨rfl, rfl⟩; rw [HS.out])
      have HP := Lib.hid (Blk.new wr (scells (opsA k)).toArray 9)
      have HA := Lib.hid (HR.out.1.alloc (.cells (scells (opsA k)).toArray 9))
      have HW := Lib.hid (HR.out.2.1.alloc (show w.heap.size ≤ wr.heap.size by omega) (.cells (scells (opsA k)).toArray 9))
      clear HR HMr hc
      generalize wr.alloc (.cells (scells (opsA k)).toArray 9) = w2 at HP HA HW ⊢
      generalize wr.heap.size = nb at HP ⊢
      go_loop [16] (fun v => ∃ j : Nat, v = .int .i64 (j : Int) ∧ j ≤ (opsA k).length ∧ Hid (r = fnd l ((opsA k).drop j ++ restA (k + 1)))) (fun v => (opsA k).length - (intOf v).toNat)
      case atStart => exact ⟨0, rfl, by omega, HQ⟩
      case round =>
        clear HQ
        obtain ⟨j, rfl, hj, HQ⟩ := hrel
        by_cases hjl : j < (opsA k).length
        · have hc : w2.cell? ⟨nb, j, none⟩ = some (.string (S (wd (opsA k) j))) := by
            rw [HP.out.cell j]
            have := scells_get (opsA k) j hjl
            simpa using this
          have hjj : (j : Int) < ((opsA k).length : Int) := by omega
          cases hp : Lib.hasPrefix l (wd (opsA k) j) with
          | true =>
            have HN := Lib.hid (HQ.out.trans (fnd_yes hjl hp))
            have HX := Lib.hid hp
            clear hp
            go_wp2_with (go_at_call 20; refine (Tryd.strings_HasPrefix _ _ _).mono ?_; rintro e w' ⟨rfl, rfl⟩; rw [S_data, S_data, show Lib.hasPrefix l _ = true from HX.out])
            go_ret
            exact ⟨ret_S HN.out.symm, HW.out⟩
          | false =>
            have HN := Lib.hid (HQ.out.trans (fnd_no hjl hp))
            have HX := Lib.hid hp
            clear hp
            go_wp2_with (go_at_call 20; refine (Tryd.strings_HasPrefix _ _ _).mono ?_; rintro e w' ⟨rfl, rfl⟩; rw [S_data, S_data, show Lib.hasPrefix l _ = false from HX.out])
            go_round
            case rel => exact ⟨j + 1, by go_num, by omega, HN⟩
            case measure => simp [intOf]; omega
        · have HN := Lib.hid (HQ.out.trans (fnd_end (by omega)))
          go_wp2_with fail
          go_roundw
          case rel => exact ⟨k + 1, by go_num, by omega, Lib.hid ⟨HA.out, HW.out, HN.out⟩⟩
          case measure => simp [intOf]; omega
    · obtain rfl : k = 3 := by omega
      have HN := Lib.hid (show r = [] from HR.out.2.2)
      go_wp2_with fail
      go_ret
      exact ⟨ret_S (a := []) (by rw [HN.out]), HR.out.2.1⟩
end Go.Proofs.YtadbilonialjnaaDoor
