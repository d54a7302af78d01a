/- Strings as lists of bytes, for the walk: 'S l' is the string with the bytes l; rules by which the walk writes what it does to strings in these words. Plain lemmas; no program in sight. -/
import Derived.WalkKit
import Derived.WalkSpells
import Derived.WalkLawsBesides
import Derived.Lib.Hide
import Derived.Lib.AppendStr
import Derived.BigQuiet
import Derived.Deep.QuietTactic
namespace Go.Proofs.YtadbilonialjnaaGreatDoor
open Go.RowKit

/-- the string with these bytes -/
def S (l : List UInt8) : ByteArray := ⟨l.toArray⟩
/-- byte k of a list, 0 behind its end -/
def byt (l : List UInt8) (k : Nat) : UInt8 := l.getD k 0
/-- the bytes from a on, ahead of b -/
def sl (l : List UInt8) (a b : Nat) : List UInt8 := (l.drop a).take (b - a)
def ct (a b : List UInt8) : List UInt8 := a ++ b

theorem S_ex (s : ByteArray) : ∃ l, s = S l := ⟨s.data.toList, by cases s; simp [S]⟩
theorem S_data (l : List UInt8) : (S l).data.toList = l := rfl
theorem S_mk (l : List UInt8) : ByteArray.mk l.toArray = S l := rfl
@[go_sem] theorem S_size (l : List UInt8) : (S l).size = l.length := rfl
@[go_sem] theorem S_toList (l : List UInt8) : (S l).toList = l := ByteArray.toList_mk l
theorem S_get? (l : List UInt8) (k : Nat) (h : k < (S l).size) : (S l)[k]'h = byt l k := by
  have h' : k < l.length := h
  have e : (S l)[k]'h = l[k]'h' := rfl
  rw [e]; simp [byt, List.getD, List.getElem?_eq_getElem h']
@[go_sem] theorem S_get (l : List UInt8) (k : Nat) (h : k < (S l).size) : (S l)[k]'h = byt l k := S_get? l k h
@[go_sem] theorem S_extract (l : List UInt8) (a b : Nat) : (S l).extract a b = S (sl l a b) := by
  unfold S sl; rw [ByteArray.extract_mk]
@[go_sem] theorem S_append (a b : List UInt8) : S a ++ S b = S (ct a b) := by
  unfold S ct; rw [ByteArray.mk_append_mk]
@[go_sem] theorem S_append_mk (a b : List UInt8) : S a ++ ByteArray.mk b.toArray = S (ct a b) := S_append a b
@[go_sem] theorem mk_append_S (a b : List UInt8) : ByteArray.mk a.toArray ++ S b = S (ct a b) := S_append a b
@[go_sem] theorem mk_append_mk (a b : List UInt8) : ByteArray.mk a.toArray ++ ByteArray.mk b.toArray = S (ct a b) := S_append a b
@[go_sem] theorem mk_extract (l : List UInt8) (a b : Nat) : (ByteArray.mk l.toArray).extract a b = S (sl l a b) := S_extract l a b
theorem ct_eq (a b : List UInt8) : ct a b = a ++ b := rfl
@[go_sem] theorem ct_len (a b : List UInt8) : (ct a b).length = a.length + b.length := List.length_append
theorem sl_len (l : List UInt8) (a b : Nat) (h : a ≤ b) (hb : b ≤ l.length) : (sl l a b).length = b - a := by
  unfold sl; rw [List.length_take, List.length_drop]; omega
theorem sl_le (l : List UInt8) (a b : Nat) : (sl l a b).length ≤ b - a := by unfold sl; rw [List.length_take]; omega
theorem sl_from (l : List UInt8) (a : Nat) : sl l a l.length = l.drop a := by
  unfold sl; rw [List.take_of_length_le]; rw [List.length_drop]; omega
theorem sl_to (l : List UInt8) (b : Nat) : sl l 0 b = l.take b := by unfold sl; rfl
theorem byt_lt (l : List UInt8) (k : Nat) : (byt l k).toNat < 256 := (byt l k).toNat_lt
theorem byt_get (l : List UInt8) (k : Nat) (h : k < l.length) : byt l k = l[k] := by simp [byt, List.getD, List.getElem?_eq_getElem h]
theorem drop_byt (l : List UInt8) (k : Nat) (h : k < l.length) : l.drop k = byt l k :: l.drop (k + 1) := by
  rw [byt_get l k h]; exact List.drop_eq_getElem_cons h
theorem take_byt (l : List UInt8) (k : Nat) (h : k < l.length) : l.take (k + 1) = l.take k ++ [byt l k] := by
  rw [byt_get l k h, List.take_succ_eq_append_getElem h]
theorem S_inj {a b : List UInt8} (h : S a = S b) : a = b := by
  have := congrArg (fun s : ByteArray => s.data.toList) h; exact this
theorem strCells_S (l : List UInt8) : Lib.strCells (S l) = l.map fun c => Value.int .u8 (c.toNat : Int) := rfl

/-- the tests of bytes, from UInt8 to the walk's spelling -/
theorem u8_eq {c : UInt8} {n : Nat} (hn : n < 256) : ((c.toNat : Int) == (n : Int)) = decide (c = UInt8.ofNat n) := by
  by_cases h : c = UInt8.ofNat n
  · subst h; simp [Nat.mod_eq_of_lt hn]
  · have : c.toNat ≠ n := fun e => h (by rw [← e]; simp)
    simp [h]; omega
theorem u8_ofNat_toNat (n : Nat) (hn : n < 256) : (UInt8.ofNat n).toNat = n := by simp [Nat.mod_eq_of_lt hn]
theorem u8_ne {c d : UInt8} (h : ¬ c = d) : ((c.toNat : Int) == (d.toNat : Int)) = false := by
  have : c.toNat ≠ d.toNat := fun e => h (UInt8.toNat_inj.1 e)
  simp; omega
theorem encode_S (c : UInt8) (h : c.toNat < 128) : Utf8.encode (c.toNat : Int) = S [c] := by
  unfold Utf8.encode
  have hv : Utf8.valid (c.toNat : Int) = true := by simp [Utf8.valid]; omega
  simp [hv, h, S]
/-- the cells of a row of bytes -/
def bcells (l : List UInt8) : List Value := l.map fun c => Value.int .u8 (c.toNat : Int)
theorem bcells_len (l : List UInt8) : (bcells l).length = l.length := List.length_map _
theorem bcells_append (a b : List UInt8) : bcells a ++ bcells b = bcells (a ++ b) := (List.map_append ..).symm
theorem bcells_one (l : List UInt8) : ∀ u ∈ bcells l, u.oneCell' = true := by
  intro u hu
  simp only [bcells, List.mem_map] at hu
  obtain ⟨b, _, rfl⟩ := hu
  rfl
theorem strCells_b (l : List UInt8) : Lib.strCells (S l) = bcells l := rfl

section
variable {P : Program}
/-- 'string(b)' of a slice whose cells are the bytes l -/
theorem conv_at (w : World) (src dst e : TypeId) (a : Addr) (cap : Nat) (l : List UInt8) (hs : P.underlying src = some (.slice e)) (he : P.underlying e = some (.int .u8)) (hd : P.underlying dst = some .string)
    (hc : ∀ j u, (bcells l)[j]? = some u → w.cell? (a.add j) = some u) :
    (convert src dst (.slice (some a) l.length cap)).run P w = .ok (.string (S l)) w :=
  run_convert_bytes_back w src dst e a cap l hs he hd fun j hj => hc j _ (by simp [bcells, List.getElem?_eq_getElem hj])
theorem conv_nil (w : World) (src dst e : TypeId) (hs : P.underlying src = some (.slice e)) (he : P.underlying e = some (.int .u8)) (hd : P.underlying dst = some .string) :
    (convert src dst (.slice none 0 0)).run P w = .ok (.string (S [])) w := by
  rw [run_convert_bytes_string w src dst e none 0 0 hs he hd]
  unfold Conv.bytesToString
  simp [Sem.run_pure, S]
  rfl
/-- 'string(b)' of a slice of the call's own -/
theorem conv_own (w : World) (src dst e : TypeId) (base : Nat) (v : Value) (l : List UInt8) (hs : P.underlying src = some (.slice e)) (he : P.underlying e = some (.int .u8)) (hd : P.underlying dst = some .string)
    (hown : w.ownsRow base e 1 v l.length (bcells l)) : (convert src dst v).run P w = .ok (.string (S l)) w := by
  rcases hown.2 with ⟨rfl, h0⟩ | ⟨g, cap, cur, rfl, _⟩
  · obtain rfl := List.eq_nil_of_length_eq_zero h0
    exact conv_nil w src dst e hs he hd
  · exact conv_at w src dst e _ cap l hs he hd (hown.cells (g := g) rfl)
/-- 'string([]byte{c})' -/
theorem conv_one (w : World) (src dst e t : TypeId) (c : UInt8) (cap : Nat) (hs : P.underlying src = some (.slice e)) (he : P.underlying e = some (.int .u8)) (hd : P.underlying dst = some .string) :
    (convert src dst (.slice (some ⟨w.heap.size, 0, none⟩) 1 cap)).run P (w.alloc (.cells #[.int .u8 (c.toNat : Int)] t)) = .ok (.string (S [c])) (w.alloc (.cells #[.int .u8 (c.toNat : Int)] t)) :=
  conv_at _ src dst e _ cap [c] hs he hd (cell_one_new _ _ _)
end
theorem below_drewN {B : Nat} {a w : World} (h : Below B a w) (n : Nat) : Below B a (w.drewN n) := ⟨h.os, h.tape, h.output, h.size, h.block⟩
theorem quiet_left {P : Program} {f : FuncId} {args : Array Value} {w : World} {n : Nat} {v : Value}
    (h : Calls P f args (w.drewN n) fun e w' => e = .returned v ∧ w.drewN n = w') : Calls P f args (w.drewN n) fun e w'' => e = .returned v ∧ ∃ m, w'' = w.drewN m :=
  h.mono fun _ _ ⟨he, hm⟩ => ⟨he, n, hm.symm⟩
theorem ownsRow_pos {W : World} {base : Nat} {e : TypeId} {size : Nat} {v : Value} {k : Nat} {xs : List Value} (h : W.ownsRow base e size v k xs) (hk : 0 < k) : ∃ g cap, v = .slice (some ⟨g, 0, none⟩) k cap := by
  rcases h.2 with ⟨_, h0⟩ | ⟨g, cap, _, rfl, _⟩
  · omega
  · exact ⟨g, cap, rfl⟩

theorem own_base {W : World} {base : Nat} {e : TypeId} {size : Nat} {v : Value} {k : Nat} {xs : List Value} (h : W.ownsRow base e size v k xs) : ∀ j, v.ownBlock = some j → base ≤ j ∧ ∃ cur, W.heap[j]? = some (.cells cur e (0, 0)) := by
  intro j ej
  rcases h.2 with ⟨rfl, _⟩ | ⟨g, cap, cur, rfl, hb, hg, _⟩
  · simp [Value.ownBlock] at ej
  · obtain rfl : g = j := by simpa [Value.ownBlock] using ej
    exact ⟨hb, cur, hg⟩
theorem own_below1 {B : Nat} {w0 W w1 : World} {e : TypeId} {size : Nat} {v : Value} {k : Nat} {xs : List Value} {o : Obj} (hB : Below B w0 W) (h : W.ownsRow B e size v k xs) (hgrow : (W.alloc o).grownBy w1 v.ownBlock)
    (hs : B ≤ W.heap.size) : Below B w0 w1 :=
  (hB.alloc hs _).grown hgrow (by simp; omega) (fun j ej => (own_base h j ej).1)

theorem own_under {W w1 : World} {base : Nat} {e : TypeId} {size : Nat} {v : Value} {k : Nat} {xs : List Value} (h : W.ownsRow base e size v k xs) (hb : Below W.heap.size W w1) : w1.ownsRow base e size v k xs := by
  refine ⟨h.1, ?_⟩
  rcases h.2 with hn | ⟨g, cap, cur, rfl, hb0, hg, hr⟩
  · exact .inl hn
  · exact .inr ⟨g, cap, cur, rfl, hb0, (hb.block g (Array.getElem?_eq_some_iff.1 hg).1).trans hg, hr⟩
/-- a block of two cells -/
def Two (W : World) (B : Nat) (t : TypeId) (u v : Value) : Prop := W.heap[B]? = some (.cells #[u, v] t (0, 0))
theorem Two.lt {W : World} {B : Nat} {t : TypeId} {u v : Value} (h : Two W B t u v) : B < W.heap.size := (Array.getElem?_eq_some_iff.1 h).1
theorem Two.cell0 {W : World} {B : Nat} {t : TypeId} {u v : Value} (h : Two W B t u v) : W.cell? ⟨B, 0, none⟩ = some u := by simp [World.cell?, show W.heap[B]? = _ from h]
theorem Two.cell1 {W : World} {B : Nat} {t : TypeId} {u v : Value} (h : Two W B t u v) : W.cell? ⟨B, 1, none⟩ = some v := by simp [World.cell?, show W.heap[B]? = _ from h]
theorem Two.frozen0 {W : World} {B : Nat} {t : TypeId} {u v : Value} (h : Two W B t u v) : W.frozen? ⟨B, 0, none⟩ = false := by simp [World.frozen?, show W.heap[B]? = _ from h]
theorem Two.frozen1 {W : World} {B : Nat} {t : TypeId} {u v : Value} (h : Two W B t u v) : W.frozen? ⟨B, 1, none⟩ = false := by simp [World.frozen?, show W.heap[B]? = _ from h]
theorem Two.new (W : World) (t : TypeId) (u v : Value) : Two (W.alloc (.cells #[u, v] t)) W.heap.size t u v := heap_alloc_new W _
theorem Two.kept {W W' : World} {row : Option Nat} {B : Nat} {t : TypeId} {u v : Value} (h : Two W B t u v) (hg : W.grownBy W' row) (hne : some B ≠ row) : Two W' B t u v := (hg.block B h.lt hne).trans h
theorem Two.below {W W' : World} {B : Nat} {t : TypeId} {u v : Value} (h : Two W B t u v) (hb : Below W.heap.size W W') : Two W' B t u v := (hb.block B h.lt).trans h

theorem ret_S {a b : List UInt8} (h : a = b) : Ending.returned (.string (S a)) = .returned (.string (S b)) := by rw [h]
end Go.Proofs.YtadbilonialjnaaGreatDoor
