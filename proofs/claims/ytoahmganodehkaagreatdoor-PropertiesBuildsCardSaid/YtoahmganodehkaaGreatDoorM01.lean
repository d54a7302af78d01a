/- Plain: the long division of 128 bits by 64 in halves. -/
import Derived.WalkKit
import Derived.WalkSpells
import Derived.WalkLawsBesides
import Derived.Lib.Hide
import Derived.Lib.AppendStr
import Derived.BigQuiet
import Derived.Deep.QuietTactic
import Derived.Lib.ItoaNum
import Derived.Lib.ParseIntB
import Derived.Lib.Split
import Derived.Lib.SplitLaws
import Derived.Lib.IndexBytes
namespace Go.Proofs.YtoahmganodehkaaGreatDoor
set_option linter.unusedSimpArgs false
set_option linter.unusedVariables false
section

/-- one half of a quotient: y = y1 * B + y0 divides u * B + d -/
theorem kn_gt {B u d y1 y0 q r : Nat} (h : q * y1 + r = u) : (r * B + d < q * y0) ↔ (u * B + d < q * (y1 * B + y0)) := by
  subst h
  rw [Nat.add_mul, Nat.mul_add, ← Nat.mul_assoc]; omega
theorem kn_dec {U y q : Nat} (hy : 0 < y) (h : U < q * y) : U / y ≤ q - 1 ∧ 1 ≤ q := by
  have := (Nat.div_lt_iff_lt_mul hy).2 h
  exact ⟨Nat.le_sub_one_of_lt this, Nat.lt_of_le_of_lt (Nat.zero_le _) this⟩
theorem kn_exit {U y q : Nat} (hy : 0 < y) (hq : U / y ≤ q) (h : ¬ U < q * y) : q = U / y :=
  Nat.le_antisymm ((Nat.le_div_iff_mul_le hy).2 (by omega)) hq
theorem kn_big {B u d y q : Nat} (hu : u < y) (hd : d < B) (hq : B ≤ q) : u * B + d < q * y := by
  have h1 : (u + 1) * B ≤ y * B := Nat.mul_le_mul_right B hu
  have h2 : B * y ≤ q * y := Nat.mul_le_mul_right y hq
  rw [Nat.add_mul, Nat.one_mul] at h1
  rw [Nat.mul_comm B y] at h2
  omega
theorem kn_far {B u d y1 y0 q r : Nat} (h : q * y1 + r = u) (hu : u < y1 * B + y0) (h0 : y0 < B) (hr : B ≤ r) : ¬ u * B + d < q * (y1 * B + y0) := by
  rw [← kn_gt h]
  have hq : q < B := by
    apply Nat.lt_of_not_le; intro hq
    have : B * y1 ≤ q * y1 := Nat.mul_le_mul_right y1 hq
    rw [Nat.mul_comm B y1] at this
    omega
  have h1 : q * y0 ≤ B * B := Nat.mul_le_mul (by omega) (by omega)
  have h2 : B * B ≤ r * B := Nat.mul_le_mul_right B hr
  omega
theorem kn_rest {U y : Nat} : ((U : Int) - ((U / y : Nat) : Int) * (y : Int)) = ((U % y : Nat) : Int) := by
  have := Nat.div_add_mod U y
  rw [← Int.natCast_mul, Nat.mul_comm (U / y) y]; omega
theorem kn_join {B u d1 d0 y : Nat} (hy : 0 < y) :
    (((u * B + d1) % y) * B + d0) / y + (u * B + d1) / y * B = (u * (B * B) + (d1 * B + d0)) / y ∧ (((u * B + d1) % y) * B + d0) % y = (u * (B * B) + (d1 * B + d0)) % y := by
  have e : u * (B * B) + (d1 * B + d0) = (((u * B + d1) % y) * B + d0) + y * ((u * B + d1) / y * B) := by
    have h := Nat.div_add_mod (u * B + d1) y
    have h2 : (u * B + d1) * B = (y * ((u * B + d1) / y) + (u * B + d1) % y) * B := by rw [h]
    rw [Nat.add_mul, Nat.add_mul, Nat.mul_assoc, Nat.mul_assoc] at h2
    omega
  rw [e, Nat.add_mul_div_left _ _ hy, Nat.add_mul_mod_self_left]
  exact ⟨rfl, rfl⟩
theorem kn_scale {a y p : Nat} (hp : 0 < p) : (a * p) / (y * p) = a / y ∧ (a * p) % (y * p) / p = a % y := by
  refine ⟨Nat.mul_div_mul_right a y hp, ?_⟩
  rw [Nat.mul_mod_mul_right, Nat.mul_div_cancel _ hp]
end
section

/-- a valid number -/
def vld (u : Int) : Bool := decide (-1000000000000000 ≤ u) && decide (u ≤ 1000000000000000)
/-- p / b with a sign, or the error -/
def rat (n : Bool) (p b : Nat) : Int × Int :=
  if p % b = 0 then (if p / b ≤ 1000000000000000 then (if n then -((p / b : Nat) : Int) else ((p / b : Nat) : Int), 0) else (0, 1)) else (0, 3)
def neg2 (u v : Int) : Bool := decide (u < 0) != decide (v < 0)
def mulI (u v : Int) : Int × Int := if vld u && vld v then rat (neg2 u v) (u.natAbs * v.natAbs) 10000 else (0, 1)
def divI (u v : Int) : Int × Int := if vld u && vld v then (if v = 0 then (0, 4) else rat (neg2 u v) (u.natAbs * 10000) v.natAbs) else (0, 1)
def resI (u : Int) : Int × Int := if vld u then (u, 0) else (0, 1)
def addI (u v : Int) : Int × Int := if vld u && vld v then resI (u + v) else (0, 1)
def subI (u v : Int) : Int × Int := if vld u && vld v then resI (u - v) else (0, 1)
/-- the remainder with the sign of v -/
def remI (u v : Int) : Int := if 0 < v then u % v else -((-u) % (-v))
def modI (u v : Int) : Int × Int := if vld u && vld v then (if v = 0 then (0, 4) else (remI u v, 0)) else (0, 1)
def floorI (u : Int) : Int := if vld u then u - u % 10000 else 0

theorem vld_iff (u : Int) : vld u = true ↔ -1000000000000000 ≤ u ∧ u ≤ 1000000000000000 := by simp [vld]
theorem vld_not (u : Int) : vld u = false ↔ u < -1000000000000000 ∨ 1000000000000000 < u := by
  rw [← Bool.not_eq_true, vld_iff]; omega
theorem abs_lt {u : Int} (h : vld u = true) : u.natAbs ≤ 1000000000000000 := by rw [vld_iff] at h; omega

/-- the specification's long product -/
theorem long_mod (a b : Nat) : (a % 100000000 * (b % 100000000)) % 10000 = (a * b) % 10000 := by
  conv => rhs; rw [← Nat.div_add_mod a 100000000, ← Nat.div_add_mod b 100000000]
  rw [Nat.add_mul, Nat.mul_add, Nat.mul_add]
  generalize a % 100000000 * (b % 100000000) = z
  generalize a / 100000000 = x
  generalize b / 100000000 = y
  generalize a % 100000000 = s
  generalize b % 100000000 = t
  rw [Nat.mul_assoc 100000000 x, Nat.mul_assoc 100000000 x, Nat.mul_left_comm s 100000000]
  generalize x * (100000000 * y) = e1
  generalize x * t = e2
  generalize s * y = e3
  omega
/-- the product of the magnitudes by its parts of 8 digits -/
theorem long_mul (a b : Nat) : a * b = 10000000000000000 * (a / 100000000 * (b / 100000000)) + 100000000 * (a / 100000000 * (b % 100000000) + a % 100000000 * (b / 100000000)) + a % 100000000 * (b % 100000000) := by
  conv => lhs; rw [← Nat.div_add_mod a 100000000, ← Nat.div_add_mod b 100000000]
  rw [Nat.add_mul, Nat.mul_add, Nat.mul_add]
  generalize a % 100000000 = s
  generalize b % 100000000 = t
  generalize a / 100000000 = x
  generalize b / 100000000 = y
  rw [Nat.mul_assoc 100000000 x, Nat.mul_assoc 100000000 x, Nat.mul_left_comm s 100000000, Nat.mul_left_comm x 100000000]
  generalize x * y = e1
  generalize x * t = e2
  generalize s * y = e3
  generalize s * t = e4
  omega
/-- the quotient by its whole part and long division -/
theorem long_div (a b : Nat) (hb : 0 < b) : (a * 10000) / b = a / b * 10000 + (a % b * 10000) / b ∧ (a * 10000) % b = (a % b * 10000) % b := by
  have e : a * 10000 = a % b * 10000 + b * (a / b * 10000) := by
    conv => lhs; rw [← Nat.div_add_mod a b]
    rw [Nat.add_mul, Nat.mul_assoc]; omega
  rw [e, Nat.add_mul_div_left _ _ hb, Nat.add_mul_mod_self_left]
  exact ⟨Nat.add_comm _ _, rfl⟩
/-- one digit more -/
theorem long_step (r b d x : Nat) (h : d * b + r = x) : (d * 10 + r * 10 / b) * b + r * 10 % b = x * 10 := by
  have h1 := Nat.div_add_mod (r * 10) b
  rw [Nat.add_mul, Nat.mul_comm (r * 10 / b) b, Nat.mul_right_comm]
  omega
end
section
open Go.RowKit

/-- the string with these bytes -/
def S (l : List UInt8) : ByteArray := ⟨l.toArray⟩
/-- byte k of a list, 0 behind its end -/
def byt (l : List UInt8) (k : Nat) : UInt8 := l.getD k 0
/-- the bytes from a on, ahead of b -/
def sl (l : List UInt8) (a b : Nat) : List UInt8 := (l.drop a).take (b - a)
def ct (a b : List UInt8) : List UInt8 := a ++ b

theorem S_ex (s : ByteArray) : ∃ l, s = S l := ⟨s.data.toList, by cases s; simp [S]⟩
theorem S_data (l : List UInt8) : (S l).data.toList = l := rfl
theorem S_mk (l : List UInt8) : ByteArray.mk l.toArray = S l := rfl
@[go_sem] theorem S_size (l : List UInt8) : (S l).size = l.length := rfl
@[go_sem] theorem S_toList (l : List UInt8) : (S l).toList = l := ByteArray.toList_mk l
theorem S_get? (l : List UInt8) (k : Nat) (h : k < (S l).size) : (S l)[k]'h = byt l k := by
  have h' : k < l.length := h
  have e : (S l)[k]'h = l[k]'h' := rfl
  rw [e]; simp [byt, List.getD, List.getElem?_eq_getElem h']
@[go_sem] theorem S_get (l : List UInt8) (k : Nat) (h : k < (S l).size) : (S l)[k]'h = byt l k := S_get? l k h
@[go_sem] theorem S_extract (l : List UInt8) (a b : Nat) : (S l).extract a b = S (sl l a b) := by
  unfold S sl; rw [ByteArray.extract_mk]
@[go_sem] theorem S_append (a b : List UInt8) : S a ++ S b = S (ct a b) := by
  unfold S ct; rw [ByteArray.mk_append_mk]
@[go_sem] theorem S_append_mk (a b : List UInt8) : S a ++ ByteArray.mk b.toArray = S (ct a b) := S_append a b
@[go_sem] theorem mk_append_S (a b : List UInt8) : ByteArray.mk a.toArray ++ S b = S (ct a b) := S_append a b
@[go_sem] theorem mk_append_mk (a b : List UInt8) : ByteArray.mk a.toArray ++ ByteArray.mk b.toArray = S (ct a b) := S_append a b
@[go_sem] theorem mk_extract (l : List UInt8) (a b : Nat) : (ByteArray.mk l.toArray).extract a b = S (sl l a b) := S_extract l a b
theorem ct_eq (a b : List UInt8) : ct a b = a ++ b := rfl
@[go_sem] theorem ct_len (a b : List UInt8) : (ct a b).length = a.length + b.length := List.length_append
theorem sl_len (l : List UInt8) (a b : Nat) (h : a ≤ b) (hb : b ≤ l.length) : (sl l a b).length = b - a := by
  unfold sl; rw [List.length_take, List.length_drop]; omega
theorem sl_le (l : List UInt8) (a b : Nat) : (sl l a b).length ≤ b - a := by unfold sl; rw [List.length_take]; omega
theorem sl_from (l : List UInt8) (a : Nat) : sl l a l.length = l.drop a := by
  unfold sl; rw [List.take_of_length_le]; rw [List.length_drop]; omega
theorem sl_to (l : List UInt8) (b : Nat) : sl l 0 b = l.take b := by unfold sl; rfl
theorem byt_lt (l : List UInt8) (k : Nat) : (byt l k).toNat < 256 := (byt l k).toNat_lt
theorem byt_get (l : List UInt8) (k : Nat) (h : k < l.length) : byt l k = l[k] := by simp [byt, List.getD, List.getElem?_eq_getElem h]
theorem drop_byt (l : List UInt8) (k : Nat) (h : k < l.length) : l.drop k = byt l k :: l.drop (k + 1) := by
  rw [byt_get l k h]; exact List.drop_eq_getElem_cons h
theorem take_byt (l : List UInt8) (k : Nat) (h : k < l.length) : l.take (k + 1) = l.take k ++ [byt l k] := by
  rw [byt_get l k h, List.take_succ_eq_append_getElem h]
theorem S_inj {a b : List UInt8} (h : S a = S b) : a = b := by
  have := congrArg (fun s : ByteArray => s.data.toList) h; exact this
theorem strCells_S (l : List UInt8) : Lib.strCells (S l) = l.map fun c => Value.int .u8 (c.toNat : Int) := rfl

/-- the tests of bytes, from UInt8 to the walk's spelling -/
theorem u8_eq {c : UInt8} {n : Nat} (hn : n < 256) : ((c.toNat : Int) == (n : Int)) = decide (c = UInt8.ofNat n) := by
  by_cases h : c = UInt8.ofNat n
  · subst h; simp [Nat.mod_eq_of_lt hn]
  · have : c.toNat ≠ n := fun e => h (by rw [← e]; simp)
    simp [h]; omega
theorem u8_ofNat_toNat (n : Nat) (hn : n < 256) : (UInt8.ofNat n).toNat = n := by simp [Nat.mod_eq_of_lt hn]
theorem u8_ne {c d : UInt8} (h : ¬ c = d) : ((c.toNat : Int) == (d.toNat : Int)) = false := by
  have : c.toNat ≠ d.toNat := fun e => h (UInt8.toNat_inj.1 e)
  simp; omega
theorem encode_S (c : UInt8) (h : c.toNat < 128) : Utf8.encode (c.toNat : Int) = S [c] := by
  unfold Utf8.encode
  have hv : Utf8.valid (c.toNat : Int) = true := by simp [Utf8.valid]; omega
  simp [hv, h, S]
/-- the cells of a row of bytes -/
def bcells (l : List UInt8) : List Value := l.map fun c => Value.int .u8 (c.toNat : Int)
theorem bcells_len (l : List UInt8) : (bcells l).length = l.length := List.length_map _
theorem bcells_append (a b : List UInt8) : bcells a ++ bcells b = bcells (a ++ b) := (List.map_append ..).symm
theorem bcells_one (l : List UInt8) : ∀ u ∈ bcells l, u.oneCell' = true := by
  intro u hu
  simp only [bcells, List.mem_map] at hu
  obtain ⟨b, _, rfl⟩ := hu
  rfl
theorem strCells_b (l : List UInt8) : Lib.strCells (S l) = bcells l := rfl

section
variable {P : Program}
/-- 'string(b)' of a slice whose cells are the bytes l -/
theorem conv_at (w : World) (src dst e : TypeId) (a : Addr) (cap : Nat) (l : List UInt8) (hs : P.underlying src = some (.slice e)) (he : P.underlying e = some (.int .u8)) (hd : P.underlying dst = some .string)
    (hc : ∀ j u, (bcells l)[j]? = some u → w.cell? (a.add j) = some u) :
    (convert src dst (.slice (some a) l.length cap)).run P w = .ok (.string (S l)) w :=
  run_convert_bytes_back w src dst e a cap l hs he hd fun j hj => hc j _ (by simp [bcells, List.getElem?_eq_getElem hj])
theorem conv_nil (w : World) (src dst e : TypeId) (hs : P.underlying src = some (.slice e)) (he : P.underlying e = some (.int .u8)) (hd : P.underlying dst = some .string) :
    (convert src dst (.slice none 0 0)).run P w = .ok (.string (S [])) w := by
  rw [run_convert_bytes_string w src dst e none 0 0 hs he hd]
  unfold Conv.bytesToString
  simp [Sem.run_pure, S]
  rfl
/-- 'string(b)' of a slice of the call's own -/
theorem conv_own (w : World) (src dst e : TypeId) (base : Nat) (v : Value) (l : List UInt8) (hs : P.underlying src = some (.slice e)) (he : P.underlying e = some (.int .u8)) (hd : P.underlying dst = some .string)
    (hown : w.ownsRow base e 1 v l.length (bcells l)) : (convert src dst v).run P w = .ok (.string (S l)) w := by
  rcases hown.2 with ⟨rfl, h0⟩ | ⟨g, cap, cur, rfl, _⟩
  · obtain rfl := List.eq_nil_of_length_eq_zero h0
    exact conv_nil w src dst e hs he hd
  · exact conv_at w src dst e _ cap l hs he hd (hown.cells (g := g) rfl)
/-- 'string([]byte{c})' -/
theorem conv_one (w : World) (src dst e t : TypeId) (c : UInt8) (cap : Nat) (hs : P.underlying src = some (.slice e)) (he : P.underlying e = some (.int .u8)) (hd : P.underlying dst = some .string) :
    (convert src dst (.slice (some ⟨w.heap.size, 0, none⟩) 1 cap)).run P (w.alloc (.cells #[.int .u8 (c.toNat : Int)] t)) = .ok (.string (S [c])) (w.alloc (.cells #[.int .u8 (c.toNat : Int)] t)) :=
  conv_at _ src dst e _ cap [c] hs he hd (cell_one_new _ _ _)
end
theorem below_drewN {B : Nat} {a w : World} (h : Below B a w) (n : Nat) : Below B a (w.drewN n) := ⟨h.os, h.tape, h.output, h.size, h.block⟩
theorem quiet_left {P : Program} {f : FuncId} {args : Array Value} {w : World} {n : Nat} {v : Value}
    (h : Calls P f args (w.drewN n) fun e w' => e = .returned v ∧ w.drewN n = w') : Calls P f args (w.drewN n) fun e w'' => e = .returned v ∧ ∃ m, w'' = w.drewN m :=
  h.mono fun _ _ ⟨he, hm⟩ => ⟨he, n, hm.symm⟩
theorem ownsRow_pos {W : World} {base : Nat} {e : TypeId} {size : Nat} {v : Value} {k : Nat} {xs : List Value} (h : W.ownsRow base e size v k xs) (hk : 0 < k) : ∃ g cap, v = .slice (some ⟨g, 0, none⟩) k cap := by
  rcases h.2 with ⟨_, h0⟩ | ⟨g, cap, _, rfl, _⟩
  · omega
  · exact ⟨g, cap, rfl⟩

theorem own_base {W : World} {base : Nat} {e : TypeId} {size : Nat} {v : Value} {k : Nat} {xs : List Value} (h : W.ownsRow base e size v k xs) : ∀ j, v.ownBlock = some j → base ≤ j ∧ ∃ cur, W.heap[j]? = some (.cells cur e (0, 0)) := by
  intro j ej
  rcases h.2 with ⟨rfl, _⟩ | ⟨g, cap, cur, rfl, hb, hg, _⟩
  · simp [Value.ownBlock] at ej
  · obtain rfl : g = j := by simpa [Value.ownBlock] using ej
    exact ⟨hb, cur, hg⟩
theorem own_below1 {B : Nat} {w0 W w1 : World} {e : TypeId} {size : Nat} {v : Value} {k : Nat} {xs : List Value} {o : Obj} (hB : Below B w0 W) (h : W.ownsRow B e size v k xs) (hgrow : (W.alloc o).grownBy w1 v.ownBlock)
    (hs : B ≤ W.heap.size) : Below B w0 w1 :=
  (hB.alloc hs _).grown hgrow (by simp; omega) (fun j ej => (own_base h j ej).1)

theorem own_under {W w1 : World} {base : Nat} {e : TypeId} {size : Nat} {v : Value} {k : Nat} {xs : List Value} (h : W.ownsRow base e size v k xs) (hb : Below W.heap.size W w1) : w1.ownsRow base e size v k xs := by
  refine ⟨h.1, ?_⟩
  rcases h.2 with hn | ⟨g, cap, cur, rfl, hb0, hg, hr⟩
  · exact .inl hn
  · exact .inr ⟨g, cap, cur, rfl, hb0, (hb.block g (Array.getElem?_eq_some_iff.1 hg).1).trans hg, hr⟩
/-- a block of two cells -/
def Two (W : World) (B : Nat) (t : TypeId) (u v : Value) : Prop := W.heap[B]? = some (.cells #[u, v] t (0, 0))
theorem Two.lt {W : World} {B : Nat} {t : TypeId} {u v : Value} (h : Two W B t u v) : B < W.heap.size := (Array.getElem?_eq_some_iff.1 h).1
theorem Two.cell0 {W : World} {B : Nat} {t : TypeId} {u v : Value} (h : Two W B t u v) : W.cell? ⟨B, 0, none⟩ = some u := by simp [World.cell?, show W.heap[B]? = _ from h]
theorem Two.cell1 {W : World} {B : Nat} {t : TypeId} {u v : Value} (h : Two W B t u v) : W.cell? ⟨B, 1, none⟩ = some v := by simp [World.cell?, show W.heap[B]? = _ from h]
theorem Two.frozen0 {W : World} {B : Nat} {t : TypeId} {u v : Value} (h : Two W B t u v) : W.frozen? ⟨B, 0, none⟩ = false := by simp [World.frozen?, show W.heap[B]? = _ from h]
theorem Two.frozen1 {W : World} {B : Nat} {t : TypeId} {u v : Value} (h : Two W B t u v) : W.frozen? ⟨B, 1, none⟩ = false := by simp [World.frozen?, show W.heap[B]? = _ from h]
theorem Two.new (W : World) (t : TypeId) (u v : Value) : Two (W.alloc (.cells #[u, v] t)) W.heap.size t u v := heap_alloc_new W _
theorem Two.kept {W W' : World} {row : Option Nat} {B : Nat} {t : TypeId} {u v : Value} (h : Two W B t u v) (hg : W.grownBy W' row) (hne : some B ≠ row) : Two W' B t u v := (hg.block B h.lt hne).trans h
theorem Two.below {W W' : World} {B : Nat} {t : TypeId} {u v : Value} (h : Two W B t u v) (hb : Below W.heap.size W W') : Two W' B t u v := (hb.block B h.lt).trans h

theorem ret_S {a b : List UInt8} (h : a = b) : Ending.returned (.string (S a)) = .returned (.string (S b)) := by rw [h]
end
section
open Go

def dgt (c : UInt8) : Prop := 48 ≤ c.toNat ∧ c.toNat ≤ 57
instance (c : UInt8) : Decidable (dgt c) := by unfold dgt; infer_instance
def dch (d : Nat) : UInt8 := UInt8.ofNat (48 + d)
def valA (a : Nat) (l : List UInt8) : Nat := l.foldl (fun a c => a * 10 + (c.toNat - 48)) a
def valD (l : List UInt8) : Nat := valA 0 l
theorem dch_nat (d : Nat) (h : d < 10) : (dch d).toNat = 48 + d := by unfold dch; exact u8_ofNat_toNat _ (by omega)
theorem dch_dgt (d : Nat) (h : d < 10) : dgt (dch d) := by unfold dgt; rw [dch_nat d h]; omega
theorem valA_nil (a : Nat) : valA a [] = a := rfl
theorem valA_cons (a : Nat) (c : UInt8) (l : List UInt8) : valA a (c :: l) = valA (a * 10 + (c.toNat - 48)) l := List.foldl_cons ..
theorem valA_app (a : Nat) (l m : List UInt8) : valA a (l ++ m) = valA (valA a l) m := List.foldl_append
theorem valA_eq (a : Nat) (l : List UInt8) : valA a l = a * 10 ^ l.length + valD l := by
  induction l generalizing a with
  | nil => simp [valA, valD]
  | cons c l ih =>
    rw [valD, valA_cons, valA_cons, ih, ih (0 * 10 + _), List.length_cons, Nat.pow_succ]
    rw [Nat.add_mul, Nat.add_mul, Nat.mul_assoc a 10, Nat.mul_comm 10]; omega
theorem valD_app (l m : List UInt8) : valD (l ++ m) = valD l * 10 ^ m.length + valD m := by
  rw [valD, valA_app, valA_eq]; rfl
theorem valD_one (c : UInt8) : valD [c] = c.toNat - 48 := by simp [valD, valA]
theorem valD_lt (l : List UInt8) (h : ∀ c ∈ l, dgt c) : valD l < 10 ^ l.length := by
  induction l with
  | nil => decide
  | cons c l ih =>
    rw [show c :: l = [c] ++ l from rfl, valD_app, valD_one, List.length_append, Nat.pow_add]
    have h1 := ih (fun x hx => h x (List.mem_cons_of_mem _ hx))
    have h2 := (h c (List.mem_cons_self ..)).2
    have h3 : (c.toNat - 48) * 10 ^ l.length ≤ 9 * 10 ^ l.length := Nat.mul_le_mul_right _ (by omega)
    simp only [List.length_cons, List.length_nil, Nat.zero_add, Nat.pow_one]
    omega

/-- the length of a string's value -/
def strLen (v : Value) : Nat := match v with
  | .string s => s.size
  | _ => 0

/-! the digits of a number -/
theorem dec_val (u : Nat) : valD (Lib.decDigits u) = u := by
  induction u using Nat.strongRecOn with
  | _ u ih =>
    rw [Lib.decDigits]
    split
    · rename_i h; rw [valD_one]; have := dch_nat u h; unfold dch at this; omega
    · rename_i h
      rw [valD_app, ih (u / 10) (by omega), valD_one]
      have := dch_nat (u % 10) (by omega); unfold dch at this
      simp only [List.length_cons, List.length_nil, Nat.zero_add, Nat.pow_one]; omega
theorem dec_dgt (u : Nat) : ∀ c ∈ Lib.decDigits u, dgt c := by
  induction u using Nat.strongRecOn with
  | _ u ih =>
    rw [Lib.decDigits]
    split
    · rename_i h; intro c hc; rw [List.mem_singleton] at hc; rw [hc]; exact dch_dgt u h
    · rename_i h
      intro c hc
      rw [List.mem_append, List.mem_singleton] at hc
      rcases hc with hc | hc
      · exact ih _ (by omega) c hc
      · rw [hc]; exact dch_dgt _ (by omega)
theorem dec_len (u k : Nat) (hk : 0 < k) (h : u < 10 ^ k) : 0 < (Lib.decDigits u).length ∧ (Lib.decDigits u).length ≤ k := by
  induction u using Nat.strongRecOn generalizing k with
  | _ u ih =>
    rw [Lib.decDigits]
    split
    · simp; omega
    · rename_i hu
      obtain ⟨k, rfl⟩ : ∃ k', k = k' + 1 := ⟨k - 1, by omega⟩
      have hk1 : 0 < k := by rcases Nat.eq_zero_or_pos k with rfl | h0; (simp at h; omega); exact h0
      rw [Nat.pow_succ] at h
      have := ih (u / 10) (by omega) k hk1 (by omega)
      simp; omega
/-- the specification's digits: of n, at least so many -/
def digs (n least : Nat) : List UInt8 := if n = 0 ∧ least = 0 then [] else digs (n / 10) (least - 1) ++ [dch (n % 10)]
termination_by n + least
decreasing_by omega
theorem digs_nil : digs 0 0 = [] := by rw [digs]; simp
theorem digs_more (n least : Nat) (h : ¬ (n = 0 ∧ least = 0)) : digs n least = digs (n / 10) (least - 1) ++ [dch (n % 10)] := by rw [digs, if_neg h]
theorem digs_zero (n : Nat) (h : 0 < n) : digs n 0 = Lib.decDigits n := by
  induction n using Nat.strongRecOn with
  | _ n ih =>
    rw [digs_more n 0 (by omega), Lib.decDigits]
    split
    · rename_i hn; rw [show n / 10 = 0 by omega, digs_nil, List.nil_append, show n % 10 = n by omega]; rfl
    · rw [ih (n / 10) (by omega) (by omega)]; rfl
theorem digs_one (n : Nat) : digs n 1 = Lib.decDigits n := by
  rw [digs_more n 1 (by omega), Lib.decDigits]
  split
  · rename_i hn; rw [show n / 10 = 0 by omega, digs_nil, List.nil_append, show n % 10 = n by omega]; rfl
  · rw [digs_zero _ (by omega)]; rfl
/-- four digits -/
def pad4 (f : Nat) : List UInt8 := [dch (f / 1000 % 10), dch (f / 100 % 10), dch (f / 10 % 10), dch (f % 10)]
theorem digs_four (f : Nat) (h : f < 10000) : digs f 4 = pad4 f := by
  rw [digs_more _ _ (by omega), digs_more _ _ (by omega), digs_more _ _ (by omega), digs_more _ _ (by omega)]
  rw [show f / 10 / 10 / 10 / 10 = 0 by omega, digs_nil, show f / 10 / 10 / 10 = f / 1000 by omega, show f / 10 / 10 = f / 100 by omega]
  rfl
theorem dec_10000 (f : Nat) (h : f < 10000) : Lib.decDigits (10000 + f) = 49 :: pad4 f := by
  rw [Lib.decDigits, dif_neg (by omega), Lib.decDigits, dif_neg (by omega), Lib.decDigits, dif_neg (by omega), Lib.decDigits, dif_neg (by omega), Lib.decDigits, dif_pos (by omega)]
  rw [show (10000 + f) / 10 / 10 / 10 / 10 = 1 by omega, show (10000 + f) / 10 / 10 / 10 % 10 = f / 1000 % 10 by omega, show (10000 + f) / 10 / 10 % 10 = f / 100 % 10 by omega, show (10000 + f) / 10 % 10 = f / 10 % 10 by omega, show (10000 + f) % 10 = f % 10 by omega]
  rfl
theorem pad4_val (f : Nat) (h : f < 10000) : valD (pad4 f) = f := by
  simp only [pad4, valD, valA, List.foldl_cons, List.foldl_nil]
  rw [dch_nat _ (by omega), dch_nat _ (by omega), dch_nat _ (by omega), dch_nat _ (by omega)]; omega
theorem pad4_dgt (f : Nat) : ∀ c ∈ pad4 f, dgt c := by
  intro c hc
  simp only [pad4, List.mem_cons, List.not_mem_nil, or_false] at hc
  rcases hc with rfl | rfl | rfl | rfl <;> exact dch_dgt _ (by omega)

/-! the zeros behind -/
def trimZ (l : List UInt8) : List UInt8 := if h : 0 < l.length ∧ byt l (l.length - 1) = 48 then trimZ (l.take (l.length - 1)) else l
termination_by l.length
decreasing_by rw [List.length_take]; omega
theorem take_last (l : List UInt8) (h : 0 < l.length) : l = l.take (l.length - 1) ++ [byt l (l.length - 1)] := by
  rw [← take_byt l _ (by omega), show l.length - 1 + 1 = l.length by omega, List.take_length]
theorem trimZ_on (l : List UInt8) (h : 0 < l.length ∧ byt l (l.length - 1) = 48) : trimZ l = trimZ (l.take (l.length - 1)) := by rw [trimZ, dif_pos h]
theorem trimZ_off (l : List UInt8) (h : ¬ (0 < l.length ∧ byt l (l.length - 1) = 48)) : trimZ l = l := by rw [trimZ, dif_neg h]
theorem trimZ_rep (l : List UInt8) : ∃ k, l = trimZ l ++ List.replicate k 48 := by
  induction hn : l.length using Nat.strongRecOn generalizing l with
  | _ n ih =>
    by_cases h : 0 < l.length ∧ byt l (l.length - 1) = 48
    · obtain ⟨k, hk⟩ := ih (l.length - 1) (by omega) (l.take (l.length - 1)) (by rw [List.length_take]; omega)
      refine ⟨k + 1, ?_⟩
      rw [trimZ_on l h, List.replicate_succ', ← List.append_assoc, ← hk]
      conv => lhs; rw [take_last l h.1]
      rw [h.2]
    · exact ⟨0, by rw [trimZ_off l h]; simp⟩
theorem valD_zeros (k : Nat) : valD (List.replicate k 48) = 0 := by
  induction k with
  | zero => rfl
  | succ k ih => rw [List.replicate_succ', valD_app, ih, valD_one]; rfl
theorem valD_take (l : List UInt8) (h : 0 < l.length ∧ byt l (l.length - 1) = 48) : valD l = valD (l.take (l.length - 1)) * 10 := by
  conv => lhs; rw [take_last l h.1, valD_app, valD_one, h.2]
  simp
/-- the decimal places -/
def fracL (f : Nat) : List UInt8 := if trimZ (pad4 f) = [] then [] else 46 :: trimZ (pad4 f)
theorem frac_parts (f : Nat) (h : f < 10000) : ∃ k, k ≤ 4 ∧ pad4 f = trimZ (pad4 f) ++ List.replicate k 48 ∧ (trimZ (pad4 f)).length + k = 4 ∧ valD (trimZ (pad4 f)) * 10 ^ k = f ∧ ∀ c ∈ trimZ (pad4 f), dgt c := by
  obtain ⟨k, hk⟩ := trimZ_rep (pad4 f)
  have hl : (trimZ (pad4 f)).length + k = 4 := by
    have := congrArg List.length hk
    rw [List.length_append, List.length_replicate] at this
    rw [← this]; rfl
  refine ⟨k, by omega, hk, hl, ?_, ?_⟩
  · have := pad4_val f h
    rw [hk, valD_app, valD_zeros, List.length_replicate] at this; omega
  · intro c hc
    exact pad4_dgt f c (by rw [hk]; exact List.mem_append_left _ hc)
theorem trim_nil (f : Nat) (h : f < 10000) : trimZ (pad4 f) = [] ↔ f = 0 := by
  obtain ⟨k, -, -, hl, hv, -⟩ := frac_parts f h
  constructor
  · intro e; rw [e] at hv; rw [← hv]; simp [valD, valA]
  · intro e
    subst e
    rcases Nat.eq_zero_or_pos (trimZ (pad4 0)).length with h0 | h0
    · exact List.eq_nil_of_length_eq_zero h0
    · exfalso
      have e0 : pad4 0 = List.replicate 4 48 := by decide
      obtain ⟨j, hj⟩ := trimZ_rep (pad4 0)
      have hlast : ¬ (0 < (trimZ (pad4 0)).length ∧ byt (trimZ (pad4 0)) ((trimZ (pad4 0)).length - 1) = 48) := by
        intro hh
        have : ∀ n, ∀ l : List UInt8, l.length = n → ¬ (0 < (trimZ l).length ∧ byt (trimZ l) ((trimZ l).length - 1) = 48) := by
          intro n
          induction n using Nat.strongRecOn with
          | _ n ih =>
            intro l hl
            by_cases h : 0 < l.length ∧ byt l (l.length - 1) = 48
            · rw [trimZ_on l h]; exact ih (l.length - 1) (by omega) _ (by rw [List.length_take]; omega)
            · rw [trimZ_off l h]; exact h
        exact this _ _ rfl hh
      apply hlast
      refine ⟨h0, ?_⟩
      have hm : byt (trimZ (pad4 0)) ((trimZ (pad4 0)).length - 1) ∈ trimZ (pad4 0) ++ List.replicate j 48 := by
        apply List.mem_append_left
        rw [byt_get _ _ (by omega)]
        exact List.getElem_mem _
      rw [← hj, e0, List.mem_replicate] at hm
      exact hm.2

/-! the text of a number -/
def textI (u : Int) : List UInt8 := if vld u then (if u < 0 then [45] else []) ++ (Lib.decDigits (u.natAbs / 10000) ++ fracL (u.natAbs % 10000)) else [63]
theorem textI_val (u : Int) (h : vld u = true) : textI u = (if u < 0 then [45] else []) ++ (Lib.decDigits (u.natAbs / 10000) ++ fracL (u.natAbs % 10000)) := by unfold textI; rw [if_pos h]
theorem fracL_len (f : Nat) (h : f < 10000) : (fracL f).length ≤ 5 := by
  obtain ⟨k, -, -, hl, -, -⟩ := frac_parts f h
  unfold fracL; split
  · simp
  · rw [List.length_cons]; omega
theorem textI_len (u : Int) : (textI u).length ≤ 18 := by
  unfold textI
  split
  · rename_i h
    have ha := abs_lt h
    have h1 := fracL_len (u.natAbs % 10000) (by omega)
    have h2 := (dec_len (u.natAbs / 10000) 12 (by omega) (by omega)).2
    rw [List.length_append, List.length_append]
    split <;> simp <;> omega
  · simp
/-- whole digits and decimal places, with a sign -/
def cutW (l : List UInt8) : List UInt8 := l.takeWhile (fun c => c != 46)
def cutP (l : List UInt8) : List UInt8 := (l.dropWhile (fun c => c != 46)).drop 1
def candI (l : List UInt8) : Int :=
  let m := if l.head? = some 45 then l.drop 1 else l
  let n := valD (cutW m) * 10000 + valD (cutP m) * 10 ^ (4 - (cutP m).length)
  if l.head? = some 45 then -(n : Int) else n
def parseI (l : List UInt8) : Int × Int := if vld (candI l) && textI (candI l) == l then (candI l, 0) else (0, 8)
theorem dgt_ne46 {c : UInt8} (h : dgt c) : (c != 46) = true := by
  have : c ≠ 46 := by intro e; subst e; exact absurd h.1 (by decide)
  simpa using this
theorem cut_app (d r : List UInt8) (h : ∀ c ∈ d, (c != 46) = true) : cutW (d ++ r) = d ++ cutW r ∧ cutP (d ++ r) = cutP r := by
  unfold cutW cutP
  rw [List.takeWhile_append_of_pos h, List.dropWhile_append_of_pos h]; exact ⟨rfl, rfl⟩
theorem cut_frac (f : Nat) : cutW (fracL f) = [] ∧ cutP (fracL f) = trimZ (pad4 f) := by
  unfold fracL
  split
  · rename_i h; rw [h]; exact ⟨rfl, rfl⟩
  · exact ⟨rfl, rfl⟩
theorem head_dec (u : Nat) (r : List UInt8) : ∃ c m, Lib.decDigits u ++ r = c :: m ∧ dgt c := by
  have hl := (dec_len u (u + 1) (by omega) (by have := @Nat.lt_pow_self u 10 (by decide); rw [Nat.pow_succ]; omega)).1
  have hd := dec_dgt u
  match hm : Lib.decDigits u with
  | [] => rw [hm] at hl; simp at hl
  | c :: m => exact ⟨c, m ++ r, rfl, hd c (by rw [hm]; exact List.mem_cons_self ..)⟩
theorem body_cut (a f : Nat) : cutW (Lib.decDigits a ++ fracL f) = Lib.decDigits a ∧ cutP (Lib.decDigits a ++ fracL f) = trimZ (pad4 f) := by
  have h := cut_app (Lib.decDigits a) (fracL f) (fun c hc => dgt_ne46 (dec_dgt a c hc))
  have g := cut_frac f
  rw [h.1, h.2, g.1, g.2, List.append_nil]; exact ⟨rfl, rfl⟩
theorem candI_text (u : Int) (h : vld u = true) : candI (textI u) = u := by
  have hf : u.natAbs % 10000 < 10000 := by omega
  have hb := body_cut (u.natAbs / 10000) (u.natAbs % 10000)
  obtain ⟨k, hk, -, hl, hv, -⟩ := frac_parts (u.natAbs % 10000) hf
  have hn : valD (Lib.decDigits (u.natAbs / 10000)) * 10000 + valD (trimZ (pad4 (u.natAbs % 10000))) * 10 ^ (4 - (trimZ (pad4 (u.natAbs % 10000))).length) = u.natAbs := by
    rw [dec_val, show 4 - (trimZ (pad4 (u.natAbs % 10000))).length = k by omega, hv]; omega
  rw [textI_val u h]
  by_cases hu : u < 0
  · rw [if_pos hu]
    unfold candI
    rw [if_pos (by rfl), if_pos (by rfl)]
    simp only [List.cons_append, List.nil_append, List.drop_succ_cons, List.drop_zero]
    rw [hb.1, hb.2, hn]; omega
  · rw [if_neg hu, List.nil_append]
    obtain ⟨c, m, e, hc⟩ := head_dec (u.natAbs / 10000) (fracL (u.natAbs % 10000))
    have hne : ¬ (Lib.decDigits (u.natAbs / 10000) ++ fracL (u.natAbs % 10000)).head? = some 45 := by
      rw [e]; intro hx
      have : c = 45 := by simpa using hx
      subst this; exact absurd hc.1 (by decide)
    unfold candI
    rw [if_neg hne, if_neg hne, hb.1, hb.2, hn]; omega
theorem parseI_text (u : Int) (h : vld u = true) : parseI (textI u) = (u, 0) := by
  unfold parseI; rw [candI_text u h, if_pos (by simp [h])]
/-- a reader that finds each valid number's own text, and checks -/
theorem parseI_of (l : List UInt8) (u : Int) (h : ∀ v, vld v = true → textI v = l → u = v) : parseI l = if vld u = true ∧ textI u = l then (u, 0) else (0, 8) := by
  split
  · rename_i hc; rw [← hc.2]; exact parseI_text u hc.1
  · rename_i hc
    unfold parseI
    rw [if_neg]
    intro hx
    rw [Bool.and_eq_true, beq_iff_eq] at hx
    have := h _ hx.1 hx.2
    rw [this] at hc
    exact hc hx
theorem parseI_no (l : List UInt8) (h : ∀ v, vld v = true → textI v ≠ l) : parseI l = (0, 8) := by
  unfold parseI
  rw [if_neg]
  intro hx
  rw [Bool.and_eq_true, beq_iff_eq] at hx
  exact h _ hx.1 hx.2
theorem parseI_long (l : List UInt8) (h : 18 < l.length) : parseI l = (0, 8) :=
  parseI_no l fun v _ e => by have := textI_len v; rw [e] at this; omega
theorem textI_inj {u v : Int} (hu : vld u = true) (hv : vld v = true) (h : textI u = textI v) : u = v := by
  have := candI_text u hu; rw [h, candI_text v hv] at this; exact this.symm
end
section
theorem forall_u8 {P : UInt8 → Prop} (h : ∀ n : Fin 256, P (UInt8.ofFin n)) (c : UInt8) : P c := by
  have := h c.toFin
  simpa using this

def letterB (c : UInt8) : Bool := (97 ≤ c && c ≤ 122) || (65 ≤ c && c ≤ 90)
def digitB (c : UInt8) : Bool := 48 ≤ c && c ≤ 57
def hexDig (n : UInt8) : UInt8 := if n < 10 then 48 + n else 87 + n
def escB (c : UInt8) : List UInt8 :=
  if c = 34 ∨ c = 92 then [92, c] else if c = 10 then [92, 110] else if c = 9 then [92, 116] else if c = 13 then [92, 114]
  else if c < 32 ∨ 126 < c then [92, 120, hexDig (c >>> 4), hexDig (c &&& 15)] else [c]
def quoteL (s : List UInt8) : List UInt8 := 34 :: (s.flatMap escB ++ [34])
/-- the value of a hexadecimal digit -/
def hexVal (c : UInt8) : Option UInt8 :=
  if digitB c then some (c - 48) else if 97 ≤ c && c ≤ 102 then some (c - 87) else if 65 ≤ c && c ≤ 70 then some (c - 55) else none
def hexTwo (h l : UInt8) : Option UInt8 :=
  match hexVal h, hexVal l with
  | some a, some b => some (16 * a + b)
  | _, _ => none
/-- the byte that an escape at the head stands for and its length; 0 if none -/
def unesc : List UInt8 → UInt8 × Nat
  | _ :: b :: r =>
    if b = 34 ∨ b = 92 then (b, 2) else if b = 110 then (10, 2) else if b = 116 then (9, 2) else if b = 114 then (13, 2)
    else if b = 120 then
      match r with
      | h :: l :: _ => (match hexTwo h l with | some x => (x, 4) | none => (0, 0))
      | _ => (0, 0)
    else (0, 0)
  | _ => (0, 0)
/-- the reading behind the first quote: bytes still to be passed over, the offset, what has been read: the string, the error, its offset -/
def scan : List UInt8 → Nat → Nat → List UInt8 → List UInt8 × Nat × Nat
  | [], _, i, _ => ([], 8, i)
  | _ :: t, k + 1, i, acc => scan t k i acc
  | c :: t, 0, i, acc =>
    if c = 34 then (match t with | [] => (acc, 0, 0) | _ :: _ => ([], 8, i + 1))
    else if c = 92 then
      (if (unesc (c :: t)).2 = 0 then ([], 8, i) else scan t ((unesc (c :: t)).2 - 1) (i + (unesc (c :: t)).2) (acc ++ [(unesc (c :: t)).1]))
    else if c < 32 ∨ 126 < c then ([], 8, i)
    else scan t 0 (i + 1) (acc ++ [c])
def unqL (s : List UInt8) : List UInt8 × Nat × Nat :=
  if 65536 < s.length then ([], 2, 0) else
  match s with
  | [] => ([], 8, 0)
  | c :: t => if c = 34 then scan t 0 1 [] else ([], 8, 0)
def wordsL : List (List UInt8) :=
  [[110,117,108,108],[116,114,117,101],[102,97,108,115,101],[98,111,111,108],[105,110,116],[110,117,109,98,101,114],[115,116,114,105,110,103],[108,101,116],[105,102],[102,111,114],[105,110],[112,97,99,107,97,103,101],[105,109,112,111,114,116]]
def idTail (s : List UInt8) : Bool :=
  match s with
  | [] => false
  | c :: _ => letterB c && s.all fun c => letterB c || c == 95 || digitB c
def identB (s : List UInt8) : Bool :=
  if 32 < s.length ∨ wordsL.contains s then false else
  match s with
  | [] => false
  | c :: t => if c = 35 ∨ c = 95 then idTail t else idTail s
def labelL (s : List UInt8) : List UInt8 := if identB s then s else quoteL s
def unlabelL (s : List UInt8) : List UInt8 × Nat × Nat := if identB s then (s, 0, 0) else unqL s

theorem scan_skip : ∀ (k : Nat) (l : List UInt8) (i : Nat) (acc : List UInt8), k ≤ l.length → scan l k i acc = scan (l.drop k) 0 i acc
  | 0, _, _, _, _ => rfl
  | _ + 1, [], _, _, h => by simp at h
  | k + 1, _ :: t, i, acc, h => by rw [scan, List.drop_succ_cons]; exact scan_skip k t i acc (by simpa using h)

theorem esc_cases : ∀ c : UInt8, (escB c = [c] ∧ c ≠ 34 ∧ c ≠ 92 ∧ ¬ c < 32 ∧ ¬ 126 < c) ∨ (∃ b, escB c = [92, b] ∧ ∀ r, unesc (92 :: b :: r) = (c, 2)) ∨
    (∃ h l, escB c = [92, 120, h, l] ∧ hexTwo h l = some c) := by
  intro c
  by_cases h1 : c = 34 ∨ c = 92
  · refine .inr (.inl ⟨c, by simp [escB, h1], fun r => by simp [unesc, h1]⟩)
  by_cases h2 : c = 10
  · subst h2; exact .inr (.inl ⟨110, by decide, fun r => by simp [unesc]⟩)
  by_cases h3 : c = 9
  · subst h3; exact .inr (.inl ⟨116, by decide, fun r => by simp [unesc]⟩)
  by_cases h4 : c = 13
  · subst h4; exact .inr (.inl ⟨114, by decide, fun r => by simp [unesc]⟩)
  by_cases h5 : c < 32 ∨ 126 < c
  · refine .inr (.inr ⟨hexDig (c >>> 4), hexDig (c &&& 15), by simp [escB, h1, h2, h3, h4, h5], ?_⟩)
    exact forall_u8 (P := fun c => hexTwo (hexDig (c >>> 4)) (hexDig (c &&& 15)) = some c) (by decide +kernel) c
  · refine .inl ⟨by simp [escB, h1, h2, h3, h4, h5], ?_⟩
    simp only [not_or] at h1 h5
    exact ⟨h1.1, h1.2, h5.1, h5.2⟩

theorem scan_esc (c : UInt8) (r : List UInt8) (i : Nat) (acc : List UInt8) : scan (escB c ++ r) 0 i acc = scan r 0 (i + (escB c).length) (acc ++ [c]) := by
  rcases esc_cases c with ⟨h, h1, h2, h3, h4⟩ | ⟨b, h, hu⟩ | ⟨x, y, h, hu⟩
  · rw [h]; simp [scan, h1, h2, h3, h4]
  · rw [h]
    have := hu r
    simp only [List.cons_append, List.nil_append, List.length_cons, List.length_nil]
    rw [scan]
    simp [this, scan]
  · rw [h]
    have h2 : unesc (92 :: 120 :: x :: y :: r) = (c, 4) := by simp [unesc, hu]
    simp only [List.cons_append, List.nil_append, List.length_cons, List.length_nil]
    rw [scan]
    simp [h2, scan]

theorem scan_quote : ∀ (s : List UInt8) (r : List UInt8) (i : Nat) (acc : List UInt8), scan (s.flatMap escB ++ r) 0 i acc = scan r 0 (i + (s.flatMap escB).length) (acc ++ s)
  | [], r, i, acc => by simp
  | c :: s, r, i, acc => by
    rw [List.flatMap_cons, List.append_assoc, scan_esc, scan_quote s r]
    simp [Nat.add_assoc]

theorem esc_len (c : UInt8) : 1 ≤ (escB c).length ∧ (escB c).length ≤ 4 := by
  rcases esc_cases c with ⟨h, _⟩ | ⟨b, h, hu⟩ | ⟨x, y, h, hu⟩ <;> rw [h] <;> simp

theorem flat_len : ∀ s : List UInt8, s.length ≤ (s.flatMap escB).length ∧ (s.flatMap escB).length ≤ 4 * s.length
  | [] => by simp
  | c :: s => by
    have := flat_len s; have := esc_len c
    simp only [List.flatMap_cons, List.length_append, List.length_cons]; omega

theorem quoteL_length (s : List UInt8) : (quoteL s).length = (s.flatMap escB).length + 2 := by
  unfold quoteL
  rw [List.length_cons, List.length_append]; rfl
theorem quote_len (s : List UInt8) : s.length + 2 ≤ (quoteL s).length ∧ (quoteL s).length ≤ 4 * s.length + 2 := by
  have := flat_len s
  rw [quoteL_length]; omega

theorem unq_quote (s : List UInt8) (h : (quoteL s).length ≤ 65536) : unqL (quoteL s) = (s, 0, 0) := by
  unfold unqL
  rw [if_neg (by omega)]
  show (if (34 : UInt8) = 34 then scan (s.flatMap escB ++ [34]) 0 1 [] else _) = _
  rw [if_pos rfl, scan_quote]; simp [scan]

theorem esc_print : ∀ c : UInt8, ∀ x ∈ escB c, 32 ≤ x ∧ x ≤ 126 :=
  forall_u8 (P := fun c => ∀ x ∈ escB c, 32 ≤ x ∧ x ≤ 126) (by decide +kernel)

theorem quote_print (s : List UInt8) : ∀ x ∈ quoteL s, 32 ≤ x ∧ x ≤ 126 := by
  intro x hx
  simp only [quoteL, List.mem_cons, List.mem_append, List.mem_flatMap, List.not_mem_nil, or_false] at hx
  rcases hx with rfl | ⟨c, _, h⟩ | rfl
  · decide
  · exact esc_print c x h
  · decide

theorem ident_quote (s : List UInt8) : identB (quoteL s) = false := by
  unfold identB
  split
  · rfl
  · simp only [quoteL]; rw [if_neg (by decide)]; simp [idTail, letterB]

theorem unlabel_label (s : List UInt8) (h : (quoteL s).length ≤ 65536) : unlabelL (labelL s) = (s, 0, 0) := by
  unfold unlabelL labelL
  by_cases hi : identB s = true
  · simp [hi]
  · simp [hi, ident_quote, unq_quote s h]

theorem label_same (s : List UInt8) : (labelL s = s) = (identB s = true) := by
  unfold labelL
  by_cases hi : identB s = true
  · simp [hi]
  · simp only [hi]
    simp only [Bool.false_eq_true, ite_false, eq_iff_iff, iff_false]
    intro h
    have := quote_len s
    rw [h] at this; omega

theorem quote_inj {a b : List UInt8} (ha : (quoteL a).length ≤ 65536) (h : quoteL a = quoteL b) : a = b := by
  have h1 := unq_quote a ha
  have h2 := unq_quote b (by rw [← h]; exact ha)
  rw [h] at h1; rw [h1] at h2; exact (Prod.mk.inj h2).1
theorem label_inj {a b : List UInt8} (ha : (quoteL a).length ≤ 65536) (hb : (quoteL b).length ≤ 65536) (h : labelL a = labelL b) : a = b := by
  have h1 := unlabel_label a ha
  have h2 := unlabel_label b hb
  rw [h] at h1; rw [h1] at h2; exact (Prod.mk.inj h2).1

theorem quote_join (a b : List UInt8) : quoteL (a ++ b) = (quoteL a).take ((quoteL a).length - 1) ++ (quoteL b).drop 1 := by
  have h : (quoteL a).take ((quoteL a).length - 1) = 34 :: a.flatMap escB := by
    unfold quoteL
    rw [← List.cons_append, List.length_append]
    simp
  rw [h]; simp [quoteL]

theorem unq_more (s more : List UInt8) (h : (quoteL s ++ more).length ≤ 65536) (hm : more ≠ []) : unqL (quoteL s ++ more) = ([], 8, (quoteL s).length) := by
  unfold unqL
  rw [if_neg (by omega)]
  have e : quoteL s ++ more = 34 :: (s.flatMap escB ++ (34 :: more)) := by simp [quoteL]
  rw [e]
  show (if (34 : UInt8) = 34 then scan (s.flatMap escB ++ (34 :: more)) 0 1 [] else _) = _
  rw [if_pos rfl, scan_quote]
  obtain ⟨m, ms, rfl⟩ := List.exists_cons_of_ne_nil hm
  simp [scan, quoteL]; omega

/-- a cut of the escaped text: the scan ends with the error at the end or at the backslash of the cut escape -/
theorem scan_cut : ∀ (s : List UInt8) (m i : Nat) (acc : List UInt8), m ≤ (s.flatMap escB).length →
    ∃ at_, scan ((s.flatMap escB).take m) 0 i acc = ([], 8, i + at_) ∧ at_ ≤ m ∧ (at_ = m ∨ ((s.flatMap escB)[at_]? = some 92 ∧ m ≤ at_ + 3))
  | [], m, i, acc, h => ⟨0, by simp [scan], Nat.zero_le _, .inl (by simp at h; exact h.symm)⟩
  | c :: s, m, i, acc, h => by
    rw [List.flatMap_cons] at h ⊢
    by_cases hm : (escB c).length ≤ m
    · obtain ⟨a, ha, hb, hc⟩ := scan_cut s (m - (escB c).length) (i + (escB c).length) (acc ++ [c]) (by rw [List.length_append] at h; omega)
      refine ⟨(escB c).length + a, ?_, by omega, ?_⟩
      · rw [List.take_append, List.take_of_length_le hm, scan_esc, ha]; simp [Nat.add_assoc]
      · rcases hc with hc | ⟨hc, hd⟩
        · exact .inl (by omega)
        · refine .inr ⟨?_, by omega⟩
          rw [List.getElem?_append_right (by omega)]; simpa using hc
    · have hlen := esc_len c
      rw [List.take_append_of_le_length (by omega)]
      by_cases h0 : m = 0
      · subst h0; exact ⟨0, by simp [scan], Nat.le_refl _, .inl rfl⟩
      · refine ⟨0, ?_, by omega, .inr ?_⟩
        · rcases esc_cases c with ⟨h, _⟩ | ⟨b, h, _⟩ | ⟨x, y, h, _⟩
          · rw [h] at hm; simp at hm; omega
          · rw [h] at hm ⊢
            obtain rfl : m = 1 := by simp at hm; omega
            simp [scan, unesc]
          · rw [h] at hm ⊢
            simp at hm
            have : m = 1 ∨ m = 2 ∨ m = 3 := by omega
            rcases this with rfl | rfl | rfl <;> simp [scan, unesc]
        · rcases esc_cases c with ⟨h, _⟩ | ⟨b, h, _⟩ | ⟨x, y, h, _⟩
          · rw [h] at hm; simp at hm; omega
          · rw [h] at hm ⊢; simp at hm ⊢; omega
          · rw [h] at hm ⊢; simp at hm ⊢; omega

theorem unq_cut (s : List UInt8) (k : Nat) (hk : k < (quoteL s).length) (hl : (quoteL s).length ≤ 65536) :
    ∃ at_, unqL ((quoteL s).take k) = ([], 8, at_) ∧ at_ ≤ k ∧ (at_ = k ∨ (0 < k ∧ (quoteL s)[at_]? = some 92 ∧ k ≤ at_ + 3)) := by
  cases k with
  | zero => exact ⟨0, by simp [unqL], Nat.le_refl _, .inl rfl⟩
  | succ k =>
    have hk' : k ≤ (s.flatMap escB).length := by rw [quoteL_length] at hk; omega
    obtain ⟨a, ha, hb, hc⟩ := scan_cut s k 1 [] hk'
    refine ⟨1 + a, ?_, by omega, ?_⟩
    · unfold unqL
      rw [if_neg (by rw [List.length_take]; omega)]
      simp only [quoteL, List.take_succ_cons, if_true]
      rw [List.take_append_of_le_length hk', ha]
    · rcases hc with rfl | ⟨hc, hd⟩
      · exact .inl (by omega)
      · refine .inr ⟨by omega, ?_, by omega⟩
        have hlt : a < (s.flatMap escB).length := by
          rcases Nat.lt_or_ge a (s.flatMap escB).length with h | h
          · exact h
          · rw [List.getElem?_eq_none h] at hc; cases hc
        simp only [quoteL]
        rw [Nat.add_comm, List.getElem?_cons_succ, List.getElem?_append_left hlt, hc]

/-- plain bytes -/
theorem scan_plain (c : UInt8) (h1 : c ≠ 34) (h2 : c ≠ 92) (h3 : ¬ c < 32) (h4 : ¬ 126 < c) : ∀ (n : Nat) (r : List UInt8) (i : Nat) (acc : List UInt8),
    scan (List.replicate n c ++ r) 0 i acc = scan r 0 (i + n) (acc ++ List.replicate n c)
  | 0, r, i, acc => by simp
  | n + 1, r, i, acc => by
    rw [List.replicate_succ, List.cons_append, scan.eq_def]
    simp only []
    rw [if_neg h1, if_neg h2, if_neg (by simp [h3, h4]), scan_plain c h1 h2 h3 h4 n]
    rw [show i + 1 + n = i + (n + 1) by omega]; simp
theorem unq_plain (c : UInt8) (h1 : c ≠ 34) (h2 : c ≠ 92) (h3 : ¬ c < 32) (h4 : ¬ 126 < c) (n : Nat) (hn : n + 2 ≤ 65536) :
    unqL (34 :: (List.replicate n c ++ [34])) = (List.replicate n c, 0, 0) := by
  unfold unqL
  rw [if_neg (by simp; omega)]
  simp only [if_true]
  rw [scan_plain c h1 h2 h3 h4]; simp [scan]
end
section
open Go

structure Stp where
  lab : List UInt8
  idx : Int
deriving DecidableEq
def okS (x : Stp) : Bool := if x.lab = [] then decide (0 ≤ x.idx) && decide (x.idx ≤ 1000000) else decide (x.idx = 0)
def okL (l : List Stp) : Bool := l.all okS
def bitS (x : Stp) (first : Bool) : List UInt8 := if x.lab = [] then 91 :: (Lib.decDigits x.idx.toNat ++ [93]) else if first then labelL x.lab else 46 :: labelL x.lab
def restS (l : List Stp) : List UInt8 := l.flatMap (bitS · false)
def bodyS : List Stp → List UInt8
  | [] => []
  | x :: r => bitS x true ++ restS r
def textS (l : List Stp) : List UInt8 := if okL l = false then [63] else if l = [] then [46] else bodyS l

/-! the order -/
theorem less_eq : ∀ (x y : List UInt8), Op.bytesLess x y = decide (x < y)
  | [], [] => by simp [Op.bytesLess]
  | _ :: _, [] => by simp [Op.bytesLess]
  | [], _ :: _ => by simp [Op.bytesLess]
  | a :: x, b :: y => by
    rw [Op.bytesLess, less_eq x y]
    simp only [List.cons_lt_cons_iff]
    by_cases h1 : a < b <;> by_cases h2 : a = b <;> by_cases h3 : x < y <;> simp [h1, h2, h3]
theorem less_irr (x : List UInt8) : Op.bytesLess x x = false := by rw [less_eq]; simp
theorem less_trans {x y z : List UInt8} (h1 : Op.bytesLess x y = true) (h2 : Op.bytesLess y z = true) : Op.bytesLess x z = true := by
  rw [less_eq, decide_eq_true_eq] at *; exact List.lt_trans h1 h2
theorem less_asym {x y : List UInt8} (h1 : Op.bytesLess x y = true) : Op.bytesLess y x = false := by
  cases h : Op.bytesLess y x with
  | false => rfl
  | true => have := less_trans h1 h; rw [less_irr] at this; cases this
theorem less_total {x y : List UInt8} (h : x ≠ y) (h1 : Op.bytesLess x y = false) : Op.bytesLess y x = true := by
  rw [less_eq, decide_eq_false_iff_not] at h1
  rw [less_eq, decide_eq_true_eq]
  rcases Decidable.em (y < x) with h' | h'
  · exact h'
  · exact absurd (List.le_antisymm (show x ≤ y from h') (show y ≤ x from h1)) h
def oneS (x y : Stp) : Int :=
  if x = y then 0 else if x.lab ≠ [] ∧ y.lab = [] then -1 else if x.lab = [] ∧ y.lab ≠ [] then 1
  else if x.lab ≠ y.lab then (if Op.bytesLess x.lab y.lab then -1 else 1) else if x.idx < y.idx then -1 else 1
def cmpS : List Stp → List Stp → Int
  | x :: xs, y :: ys => if x = y then cmpS xs ys else oneS x y
  | [], [] => 0
  | [], _ :: _ => -1
  | _ :: _, [] => 1
theorem oneS_zero (x y : Stp) : oneS x y = 0 ↔ x = y := by
  unfold oneS
  constructor
  · intro h
    (repeat' split at h) <;> first | assumption | (exfalso; revert h; decide)
  · rintro rfl; simp
theorem oneS_range (x y : Stp) : oneS x y = -1 ∨ oneS x y = 0 ∨ oneS x y = 1 := by
  unfold oneS
  repeat' split
  all_goals simp
theorem stp_ext {x y : Stp} (h1 : x.lab = y.lab) (h2 : x.idx = y.idx) : x = y := by cases x; cases y; simp_all
/-- less, by the label and the index -/
def ltS (x y : Stp) : Prop := (x.lab ≠ [] ∧ y.lab = []) ∨ (x.lab ≠ [] ∧ y.lab ≠ [] ∧ Op.bytesLess x.lab y.lab = true) ∨ (x.lab = y.lab ∧ x.idx < y.idx)
theorem oneS_lt (x y : Stp) : oneS x y = -1 ↔ ltS x y := by
  unfold oneS ltS
  by_cases he : x = y
  · subst he; simp [less_irr]
  rw [if_neg he]
  by_cases h1 : x.lab = [] <;> by_cases h2 : y.lab = []
  · have hx : ¬ x.idx = y.idx := fun h => he (stp_ext (h1.trans h2.symm) h)
    by_cases h3 : x.idx < y.idx <;> simp [h1, h2, h3]
  · simp [h1, h2, Ne.symm h2]
  · simp [h1, h2]
  · by_cases h3 : x.lab = y.lab
    · have hx : ¬ x.idx = y.idx := fun h => he (stp_ext h3 h)
      have h4 := less_irr y.lab
      by_cases h5 : x.idx < y.idx <;> simp [h3, h2, h4, h5]
    · cases h4 : Op.bytesLess x.lab y.lab <;> simp [h1, h2, h3, h4]
theorem ltS_trans {x y z : Stp} (h1 : ltS x y) (h2 : ltS y z) : ltS x z := by
  unfold ltS at *
  rcases h1 with ⟨a, b⟩ | ⟨a, b, c⟩ | ⟨a, b⟩ <;> rcases h2 with ⟨d, e⟩ | ⟨d, e, f⟩ | ⟨d, e⟩
  · exact absurd b d
  · exact absurd b d
  · exact .inl ⟨a, by rw [← d]; exact b⟩
  · exact .inl ⟨a, e⟩
  · exact .inr (.inl ⟨a, e, less_trans c f⟩)
  · exact .inr (.inl ⟨a, by rw [← d]; exact b, by rw [← d]; exact c⟩)
  · exact .inl ⟨by rw [a]; exact d, e⟩
  · exact .inr (.inl ⟨by rw [a]; exact d, e, by rw [a]; exact f⟩)
  · exact .inr (.inr ⟨a.trans d, by omega⟩)
theorem ltS_irr (x : Stp) : ¬ ltS x x := by
  unfold ltS
  rintro (⟨a, b⟩ | ⟨a, b, c⟩ | ⟨a, b⟩)
  · exact a b
  · rw [less_irr] at c; cases c
  · omega
theorem ltS_total {x y : Stp} (h : x ≠ y) (h1 : ¬ ltS x y) : ltS y x := by
  have := oneS_range x y
  unfold ltS at *
  by_cases h2 : x.lab = y.lab
  · have : x.idx ≠ y.idx := fun e => h (stp_ext h2 e)
    exact .inr (.inr ⟨h2.symm, by have : ¬ x.idx < y.idx := fun e => h1 (.inr (.inr ⟨h2, e⟩)); omega⟩)
  · by_cases h3 : y.lab = []
    · by_cases h4 : x.lab = []
      · exact absurd (h4.trans h3.symm) h2
      · exact absurd (.inl ⟨h4, h3⟩) h1
    · by_cases h4 : x.lab = []
      · exact .inl ⟨h3, h4⟩
      · refine .inr (.inl ⟨h3, h4, less_total h2 ?_⟩)
        cases h5 : Op.bytesLess x.lab y.lab with
        | false => rfl
        | true => exact absurd (.inr (.inl ⟨h4, h3, h5⟩)) h1
theorem oneS_neg (x y : Stp) : oneS y x = -oneS x y := by
  by_cases he : x = y
  · subst he; rw [(oneS_zero x x).2 rfl]; rfl
  · by_cases h : ltS x y
    · rw [(oneS_lt x y).2 h]
      have h0 : oneS y x ≠ 0 := fun e => he ((oneS_zero y x).1 e).symm
      have h1 : oneS y x ≠ -1 := fun e => ltS_irr x (ltS_trans h ((oneS_lt y x).1 e))
      have := oneS_range y x
      omega
    · have h' := ltS_total he h
      rw [(oneS_lt y x).2 h']
      have h0 : oneS x y ≠ 0 := fun e => he ((oneS_zero x y).1 e)
      have h1 : oneS x y ≠ -1 := fun e => h ((oneS_lt x y).1 e)
      have := oneS_range x y
      omega
theorem cmpS_range : ∀ a b : List Stp, cmpS a b = -1 ∨ cmpS a b = 0 ∨ cmpS a b = 1
  | [], [] => by simp [cmpS]
  | [], _ :: _ => by simp [cmpS]
  | _ :: _, [] => by simp [cmpS]
  | x :: xs, y :: ys => by
    rw [cmpS]; split
    · exact cmpS_range xs ys
    · exact oneS_range x y
theorem cmpS_zero : ∀ a b : List Stp, cmpS a b = 0 ↔ a = b
  | [], [] => by simp [cmpS]
  | [], _ :: _ => by simp [cmpS]
  | _ :: _, [] => by simp [cmpS]
  | x :: xs, y :: ys => by
    rw [cmpS]; split
    · rename_i h; rw [cmpS_zero xs ys, h]; simp
    · rename_i h; rw [oneS_zero]; simp [h]
theorem cmpS_neg : ∀ a b : List Stp, cmpS b a = -cmpS a b
  | [], [] => by simp [cmpS]
  | [], _ :: _ => by simp [cmpS]
  | _ :: _, [] => by simp [cmpS]
  | x :: xs, y :: ys => by
    rw [cmpS, cmpS]
    by_cases h : x = y
    · rw [if_pos h, if_pos h.symm]; exact cmpS_neg xs ys
    · rw [if_neg h, if_neg (Ne.symm h)]; exact oneS_neg x y
theorem cmpS_trans : ∀ a b c : List Stp, cmpS a b ≤ 0 → cmpS b c ≤ 0 → cmpS a c ≤ 0 ∧ ((cmpS a b = 0 ∧ cmpS b c = 0) ∨ cmpS a c < 0)
  | [], [], [], _, _ => by simp [cmpS]
  | [], [], _ :: _, _, _ => by simp [cmpS]
  | [], _ :: _, [], _, h => by simp [cmpS] at h
  | [], _ :: _, _ :: _, _, _ => by simp [cmpS]
  | _ :: _, [], _, h, _ => by simp [cmpS] at h
  | _ :: _, _ :: _, [], _, h => by simp [cmpS] at h
  | x :: xs, y :: ys, z :: zs, h1, h2 => by
    rw [cmpS] at h1 h2 ⊢
    rw [cmpS, cmpS]
    by_cases hxy : x = y
    · subst hxy
      rw [if_pos rfl] at h1 ⊢
      by_cases hyz : x = z
      · subst hyz
        rw [if_pos rfl] at h2
        simp only [if_true]
        exact cmpS_trans xs ys zs h1 h2
      · rw [if_neg hyz] at h2 ⊢
        have := oneS_range x z
        have h0 : oneS x z ≠ 0 := fun e => hyz ((oneS_zero x z).1 e)
        omega
    · rw [if_neg hxy] at h1 ⊢
      have r1 := oneS_range x y
      have h0 : oneS x y ≠ 0 := fun e => hxy ((oneS_zero x y).1 e)
      have l1 : ltS x y := (oneS_lt x y).1 (by omega)
      by_cases hyz : y = z
      · subst hyz
        rw [if_neg hxy]
        omega
      · rw [if_neg hyz] at h2
        have r2 := oneS_range y z
        have h3 : oneS y z ≠ 0 := fun e => hyz ((oneS_zero y z).1 e)
        have l2 : ltS y z := (oneS_lt y z).1 (by omega)
        have l3 := ltS_trans l1 l2
        have hxz : x ≠ z := fun e => ltS_irr x (by rw [e] at l3 ⊢; exact l3)
        rw [if_neg hxz, (oneS_lt x z).2 l3]
        omega
end
section

inductive Dat where
  | mk (k n : Int) (s : List UInt8) (its : List Dat) (mem : List (List UInt8 × Dat))
def Dat.k : Dat → Int
  | .mk k _ _ _ _ => k
def Dat.n : Dat → Int
  | .mk _ n _ _ _ => n
def Dat.s : Dat → List UInt8
  | .mk _ _ s _ _ => s
def Dat.its : Dat → List Dat
  | .mk _ _ _ its _ => its
def Dat.mem : Dat → List (List UInt8 × Dat)
  | .mk _ _ _ _ mem => mem
theorem dat_it {d x : Dat} (h : x ∈ d.its) : SizeOf.sizeOf x < SizeOf.sizeOf d := by
  cases d with
  | mk k n s its mem =>
    have := List.sizeOf_lt_of_mem (show x ∈ its from h)
    simp only [Dat.mk.sizeOf_spec]; omega
theorem dat_me {d x : Dat} {l : List UInt8} (h : (l, x) ∈ d.mem) : SizeOf.sizeOf x < SizeOf.sizeOf d := by
  cases d with
  | mk k n s its mem =>
    have := List.sizeOf_lt_of_mem (show (l, x) ∈ mem from h)
    simp only [Dat.mk.sizeOf_spec, Prod.mk.sizeOf_spec] at *; omega
theorem dat_mg {d : Dat} {p : List UInt8 × Dat} (h : p ∈ d.mem) : SizeOf.sizeOf p.2 < SizeOf.sizeOf d := dat_me (l := p.1) (x := p.2) h
/-- nothing -/
def dat0 : Dat := .mk 0 0 [] [] []

/-- only the fields that the kind uses are set -/
def plainB (d : Dat) : Bool :=
  decide (1 ≤ d.k) && decide (d.k ≤ 6) && (decide (d.k = 2) || decide (d.k = 3) || decide (d.n = 0)) && (decide (d.k = 4) || decide (d.s = [])) && (decide (d.k = 5) || d.its.isEmpty) && (decide (d.k = 6) || d.mem.isEmpty)
def badNum (d : Dat) : Bool := (decide (d.k = 2) && !decide (d.n = 0) && !decide (d.n = 1)) || (decide (d.k = 3) && !vld d.n)
/-- the labels ascend -/
def ascM : List (List UInt8 × Dat) → Bool
  | [] => true
  | x :: r => (match r with | [] => true | y :: _ => Op.bytesLess x.1 y.1) && ascM r
/-- the first error of a part alone -/
def ownE (d : Dat) : Nat := if plainB d = false then 11 else if badNum d = true then 1 else if ascM d.mem = false then 6 else 0
/-! the first error -/
mutual
def chk : Dat → Nat → Nat
  | .mk k n s its mem, lv => if 16 < lv then 9 else if ownE (.mk k n s its mem) = 0 then (if chkI its (lv + 1) = 0 then chkM mem (lv + 1) else chkI its (lv + 1)) else ownE (.mk k n s its mem)
termination_by structural d => d
def chkI : List Dat → Nat → Nat
  | [], _ => 0
  | x :: r, lv => if chk x lv = 0 then chkI r lv else chk x lv
termination_by structural d => d
def chkM : List (List UInt8 × Dat) → Nat → Nat
  | [], _ => 0
  | (_, x) :: r, lv => if chk x lv = 0 then chkM r lv else chk x lv
termination_by structural d => d
end
theorem chk_eq (d : Dat) (lv : Nat) : chk d lv = if 16 < lv then 9 else if ownE d = 0 then (if chkI d.its (lv + 1) = 0 then chkM d.mem (lv + 1) else chkI d.its (lv + 1)) else ownE d := by
  cases d with | mk k n s its mem => rw [chk]; rfl
/-! the number of parts, or more than most -/
mutual
def szD : Dat → Int → Int
  | .mk _ _ _ its mem, m => szM mem m (szI its m 1)
termination_by structural d => d
def szI : List Dat → Int → Int → Int
  | [], _, n => n
  | x :: r, m, n => if n ≤ m then szI r m (n + szD x (m - n)) else n
termination_by structural d => d
def szM : List (List UInt8 × Dat) → Int → Int → Int
  | [], _, n => n
  | (_, x) :: r, m, n => if n ≤ m then szM r m (n + szD x (m - n)) else n
termination_by structural d => d
end
theorem szD_eq (d : Dat) (m : Int) : szD d m = szM d.mem m (szI d.its m 1) := by
  cases d with | mk k n s its mem => rw [szD]; rfl
/-! all texts have at most 80 bytes -/
mutual
def shD : Dat → Bool
  | .mk _ _ s its mem => decide (s.length ≤ 80) && shI its && shM mem
termination_by structural d => d
def shI : List Dat → Bool
  | [] => true
  | x :: r => shD x && shI r
termination_by structural d => d
def shM : List (List UInt8 × Dat) → Bool
  | [] => true
  | (l, x) :: r => decide (l.length ≤ 80) && shD x && shM r
termination_by structural d => d
end
theorem shD_eq (d : Dat) : shD d = (decide (d.s.length ≤ 80) && shI d.its && shM d.mem) := by
  cases d with | mk k n s its mem => rw [shD]; rfl
def smallD (d : Dat) : Bool := decide (szD d 40 ≤ 40) && shD d
/-! no member has an empty label -/
mutual
def lbD : Dat → Bool
  | .mk _ _ _ its mem => lbI its && lbM mem
termination_by structural d => d
def lbI : List Dat → Bool
  | [] => true
  | x :: r => lbD x && lbI r
termination_by structural d => d
def lbM : List (List UInt8 × Dat) → Bool
  | [] => true
  | (l, x) :: r => !l.isEmpty && lbD x && lbM r
termination_by structural d => d
end
theorem lbD_eq (d : Dat) : lbD d = (lbI d.its && lbM d.mem) := by
  cases d with | mk k n s its mem => rw [lbD]; rfl
/-! the paths to the leaves -/
mutual
def lvD : Dat → List (List Stp)
  | .mk _ _ _ its mem => if its.isEmpty && mem.isEmpty then [[]] else lvI its 0 ++ lvM mem
termination_by structural d => d
def lvI : List Dat → Nat → List (List Stp)
  | [], _ => []
  | x :: r, i => (lvD x).map (fun p => ⟨[], (i : Int)⟩ :: p) ++ lvI r (i + 1)
termination_by structural d => d
def lvM : List (List UInt8 × Dat) → List (List Stp)
  | [] => []
  | (l, x) :: r => (lvD x).map (fun p => ⟨l, 0⟩ :: p) ++ lvM r
termination_by structural d => d
end
theorem lvD_eq (d : Dat) : lvD d = if d.its.isEmpty && d.mem.isEmpty then [[]] else lvI d.its 0 ++ lvM d.mem := by
  cases d with | mk k n s its mem => rw [lvD]; rfl
/-- the member with a label -/
def findM (l : List UInt8) : List (List UInt8 × Dat) → Option Dat
  | [] => none
  | (k, x) :: r => if k = l then some x else findM l r
/-- the part to which a step leads -/
def stpD (d : Dat) (s : Stp) : Option Dat :=
  if s.lab = [] then (if 0 ≤ s.idx then d.its[s.idx.toNat]? else none) else findM s.lab d.mem
def getD : Dat → List Stp → Option Dat
  | d, [] => some d
  | d, s :: r => (stpD d s).bind fun x => getD x r
/-- the entries of data -/
def entsD (d : Dat) : List (List Stp × Dat) := (lvD d).map fun p => (p, (getD d p).getD dat0)
/-- what Flatten answers -/
def flatD (d : Dat) : List (List Stp × Dat) × Nat := if chk d 1 ≠ 0 then ([], chk d 1) else if lbD d = false then ([], 5) else (entsD d, 0)

/-! plain laws -/
theorem chkI_zero {its : List Dat} {lv : Nat} : chkI its lv = 0 ↔ ∀ x ∈ its, chk x lv = 0 := by
  induction its with
  | nil => rw [chkI]; simp
  | cons x r ih =>
    rw [chkI]
    by_cases h : chk x lv = 0
    · rw [if_pos h, ih]; simp [h]
    · rw [if_neg h]; simp [h]
theorem chkM_zero {mem : List (List UInt8 × Dat)} {lv : Nat} : chkM mem lv = 0 ↔ ∀ x ∈ mem, chk x.2 lv = 0 := by
  induction mem with
  | nil => rw [chkM]; simp
  | cons p r ih =>
    obtain ⟨l, x⟩ := p
    rw [chkM]
    by_cases h : chk x lv = 0
    · rw [if_pos h, ih]; simp [h]
    · rw [if_neg h]; simp [h]
theorem ownE_pos {d : Dat} (h : ownE d ≠ 0) : ownE d = 11 ∨ ownE d = 1 ∨ ownE d = 6 := by
  unfold ownE at *
  split
  · exact .inl rfl
  · split
    · exact .inr (.inl rfl)
    · split
      · exact .inr (.inr rfl)
      · next h1 h2 h3 => rw [if_neg h1, if_neg h2, if_neg h3] at h; exact absurd rfl h
theorem chk_zero {d : Dat} {lv : Nat} : chk d lv = 0 ↔ lv ≤ 16 ∧ ownE d = 0 ∧ (∀ x ∈ d.its, chk x (lv + 1) = 0) ∧ ∀ x ∈ d.mem, chk x.2 (lv + 1) = 0 := by
  rw [chk_eq, ← chkI_zero, ← chkM_zero]
  by_cases h1 : 16 < lv
  · rw [if_pos h1]; simp; omega
  · rw [if_neg h1]
    by_cases h2 : ownE d = 0
    · rw [if_pos h2]
      by_cases h3 : chkI d.its (lv + 1) = 0
      · rw [if_pos h3]; simp [h2, h3]; omega
      · rw [if_neg h3]; simp [h3]
    · rw [if_neg h2]; simp [h2]
theorem ascM_cons {x : List UInt8 × Dat} {r : List (List UInt8 × Dat)} : ascM (x :: r) = true ↔ (∀ y ∈ r, Op.bytesLess x.1 y.1 = true) ∧ ascM r = true := by
  induction r generalizing x with
  | nil => simp [ascM]
  | cons y t ih =>
    rw [ascM]
    simp only [Bool.and_eq_true]
    constructor
    · rintro ⟨h1, h2⟩
      refine ⟨?_, h2⟩
      intro z hz
      rcases List.mem_cons.1 hz with rfl | hz
      · exact h1
      · exact less_trans h1 ((ih.1 h2).1 z hz)
    · rintro ⟨h1, h2⟩
      exact ⟨h1 y (List.mem_cons_self ..), h2⟩
end
section

abbrev Ent := List Stp × Dat
/-! which clash -/
def clashP (a b : Ent) : Prop := a.1 <+: b.1 ∨ b.1 <+: a.1
instance (a b : Ent) : Decidable (clashP a b) := by unfold clashP; exact inferInstance
/-- a path is a prefix of another one -/
def twiceB (l : List Ent) : Bool := !decide (l.Pairwise fun a b => ¬ clashP a b)
/-- a path is a prefix of the next one -/
def adjB : List Ent → Bool
  | [] => false
  | [_] => false
  | a :: b :: r => decide (a.1 <+: b.1) || adjB (b :: r)
theorem pre_mid : ∀ a b c : List Stp, cmpS a b ≤ 0 → cmpS b c ≤ 0 → a <+: c → a <+: b
  | [], _, _, _, _, _ => List.nil_prefix
  | x :: a, [], _, h, _, _ => by simp [cmpS] at h
  | x :: a, y :: b, [], _, h, _ => by simp [cmpS] at h
  | x :: a, y :: b, z :: c, h1, h2, h3 => by
    obtain ⟨rfl, h4⟩ := List.cons_prefix_cons.1 h3
    rw [cmpS] at h1 h2
    by_cases hxy : x = y
    · subst hxy
      rw [if_pos rfl] at h1 h2
      exact List.cons_prefix_cons.2 ⟨rfl, pre_mid a b c h1 h2 h4⟩
    · rw [if_neg hxy] at h1
      rw [if_neg (Ne.symm hxy)] at h2
      have r1 := oneS_range x y
      have n := oneS_neg x y
      have h0 : oneS x y ≠ 0 := fun e => hxy ((oneS_zero x y).1 e)
      omega
theorem cmp_pre : ∀ {a b : List Stp}, a <+: b → cmpS a b ≤ 0
  | [], [], _ => by simp [cmpS]
  | [], _ :: _, _ => by simp [cmpS]
  | _ :: _, [], h => by simp at h
  | x :: a, y :: b, h => by
    obtain ⟨rfl, h4⟩ := List.cons_prefix_cons.1 h
    rw [cmpS, if_pos rfl]; exact cmp_pre h4
theorem adj_no : ∀ {s : List Ent}, s.Pairwise (fun a b => cmpS a.1 b.1 ≤ 0) → adjB s = false → s.Pairwise fun a b => ¬ clashP a b
  | [], _, _ => List.Pairwise.nil
  | [a], _, _ => List.pairwise_singleton ..
  | a :: c :: t, hs, h => by
    rw [adjB, Bool.or_eq_false_iff] at h
    obtain ⟨h1, h2⟩ := h
    obtain ⟨hs1, hs2⟩ := List.pairwise_cons.1 hs
    refine List.pairwise_cons.2 ⟨?_, adj_no hs2 h2⟩
    have key : ∀ b ∈ c :: t, ¬ a.1 <+: b.1 := by
      intro b hb hp
      have hc : ¬ a.1 <+: c.1 := by simpa using h1
      rcases List.mem_cons.1 hb with rfl | hb
      · exact hc hp
      · exact hc (pre_mid a.1 c.1 b.1 (hs1 c (List.mem_cons_self ..)) ((List.pairwise_cons.1 hs2).1 b hb) hp)
    intro b hb hcl
    rcases hcl with hp | hp
    · exact key b hb hp
    · have e : cmpS a.1 b.1 = 0 := by
        have h3 := cmp_pre hp
        have h4 := hs1 b hb
        have := cmpS_neg a.1 b.1
        omega
      rw [cmpS_zero] at e
      exact key b hb (by rw [e]; exact List.prefix_refl _)
theorem adj_yes : ∀ {s : List Ent}, adjB s = true → ¬ s.Pairwise fun a b => ¬ clashP a b
  | [], h, _ => by simp [adjB] at h
  | [_], h, _ => by simp [adjB] at h
  | a :: b :: t, h, hp => by
    obtain ⟨h1, h2⟩ := List.pairwise_cons.1 hp
    rw [adjB, Bool.or_eq_true] at h
    rcases h with h | h
    · exact h1 b (List.mem_cons_self ..) (.inl (by simpa using h))
    · exact adj_yes h h2
theorem clash_symm {a b : Ent} (h : ¬ clashP a b) : ¬ clashP b a := fun h2 => h h2.symm
theorem adj_twice {l s : List Ent} (hp : s.Perm l) (hs : s.Pairwise (fun a b => cmpS a.1 b.1 ≤ 0)) : adjB s = twiceB l := by
  have hq : (s.Pairwise fun a b => ¬ clashP a b) ↔ (l.Pairwise fun a b => ¬ clashP a b) := hp.pairwise_iff fun h => clash_symm h
  unfold twiceB
  cases h : adjB s with
  | true =>
    have := adj_yes h
    rw [hq] at this
    rw [decide_eq_false this]; rfl
  | false =>
    have := adj_no hs h
    rw [hq] at this
    rw [decide_eq_true this]; rfl
theorem twice_perm {l l' : List Ent} (h : l.Perm l') : twiceB l = twiceB l' := by
  have hq : (l.Pairwise fun a b => ¬ clashP a b) ↔ (l'.Pairwise fun a b => ¬ clashP a b) := h.pairwise_iff fun h => clash_symm h
  unfold twiceB
  rw [decide_eq_decide.2 hq]

/-! the groups -/
/-- the entries behind a step -/
def cutS (s : Stp) (e : Ent) : Option Ent :=
  match e.1 with
  | [] => none
  | t :: r => if t = s then some (r, e.2) else none
def blw (l : List Ent) (s : Stp) : List Ent := l.filterMap (cutS s)
/-- the first step -/
def hdS (e : Ent) : Stp := e.1.headD ⟨[], 0⟩
def insS (x : Stp) : List Stp → List Stp
  | [] => [x]
  | y :: r => if x = y then y :: r else if oneS x y < 0 then x :: y :: r else y :: insS x r
/-- the first steps in ascending order, each once -/
def grp (l : List Ent) : List Stp := l.foldr (fun e g => insS (hdS e) g) []
theorem ins_mem {x y : Stp} : ∀ {g : List Stp}, y ∈ insS x g ↔ y = x ∨ y ∈ g
  | [] => by simp [insS]
  | z :: r => by
    rw [insS]
    by_cases h : x = z
    · rw [if_pos h, h]; simp
    · rw [if_neg h]
      by_cases h2 : oneS x z < 0
      · rw [if_pos h2]; simp
      · rw [if_neg h2, List.mem_cons, ins_mem, List.mem_cons]
        constructor
        · rintro (h | h | h)
          · exact .inr (.inl h)
          · exact .inl h
          · exact .inr (.inr h)
        · rintro (h | h | h)
          · exact .inr (.inl h)
          · exact .inl h
          · exact .inr (.inr h)
theorem one_neg {x y : Stp} : oneS x y < 0 ↔ ltS x y := by
  rw [← oneS_lt]
  have := oneS_range x y
  omega
theorem ins_sort {x : Stp} : ∀ {g : List Stp}, g.Pairwise ltS → (insS x g).Pairwise ltS
  | [], _ => List.pairwise_singleton ..
  | z :: r, h => by
    obtain ⟨h1, h2⟩ := List.pairwise_cons.1 h
    rw [insS]
    by_cases e : x = z
    · rw [if_pos e]; exact h
    · rw [if_neg e]
      by_cases hl : oneS x z < 0
      · rw [if_pos hl]
        have hxz := one_neg.1 hl
        refine List.pairwise_cons.2 ⟨?_, h⟩
        intro y hy
        rcases List.mem_cons.1 hy with rfl | hy
        · exact hxz
        · exact ltS_trans hxz (h1 y hy)
      · rw [if_neg hl]
        have hzx := ltS_total e (fun h => hl (one_neg.2 h))
        refine List.pairwise_cons.2 ⟨?_, ins_sort h2⟩
        intro y hy
        rcases ins_mem.1 hy with rfl | hy
        · exact hzx
        · exact h1 y hy
theorem grp_mem {l : List Ent} {s : Stp} : s ∈ grp l ↔ ∃ e ∈ l, hdS e = s := by
  induction l with
  | nil => simp [grp]
  | cons a r ih =>
    have : grp (a :: r) = insS (hdS a) (grp r) := rfl
    rw [this, ins_mem, ih]
    constructor
    · rintro (h | ⟨e, h1, h2⟩)
      · exact ⟨a, List.mem_cons_self .., h.symm⟩
      · exact ⟨e, List.mem_cons_of_mem _ h1, h2⟩
    · rintro ⟨e, h1, h2⟩
      rcases List.mem_cons.1 h1 with rfl | h1
      · exact .inl h2.symm
      · exact .inr ⟨e, h1, h2⟩
theorem grp_sort (l : List Ent) : (grp l).Pairwise ltS := by
  induction l with
  | nil => exact List.Pairwise.nil
  | cons a r ih => exact ins_sort ih
theorem sort_one : ∀ {a b : List Stp}, a.Pairwise ltS → b.Pairwise ltS → (∀ x, x ∈ a ↔ x ∈ b) → a = b
  | [], [], _, _, _ => rfl
  | [], y :: b, _, _, h => absurd ((h y).2 (List.mem_cons_self ..)) (by simp)
  | x :: a, [], _, _, h => absurd ((h x).1 (List.mem_cons_self ..)) (by simp)
  | x :: a, y :: b, ha, hb, h => by
    obtain ⟨ha1, ha2⟩ := List.pairwise_cons.1 ha
    obtain ⟨hb1, hb2⟩ := List.pairwise_cons.1 hb
    have e : x = y := by
      rcases List.mem_cons.1 ((h x).1 (List.mem_cons_self ..)) with e | e
      · exact e
      · rcases List.mem_cons.1 ((h y).2 (List.mem_cons_self ..)) with e2 | e2
        · exact e2.symm
        · exact absurd (ltS_trans (hb1 x e) (ha1 y e2)) (ltS_irr y)
    subst e
    rw [sort_one ha2 hb2 fun z => ?_]
    constructor
    · intro hz
      rcases List.mem_cons.1 ((h z).1 (List.mem_cons_of_mem _ hz)) with e | e
      · subst e; exact absurd (ha1 z hz) (ltS_irr z)
      · exact e
    · intro hz
      rcases List.mem_cons.1 ((h z).2 (List.mem_cons_of_mem _ hz)) with e | e
      · subst e; exact absurd (hb1 z hz) (ltS_irr z)
      · exact e
theorem grp_perm {l l' : List Ent} (h : l.Perm l') : grp l = grp l' :=
  sort_one (grp_sort l) (grp_sort l') fun x => by rw [grp_mem, grp_mem]; exact ⟨fun ⟨e, h1, h2⟩ => ⟨e, h.mem_iff.1 h1, h2⟩, fun ⟨e, h1, h2⟩ => ⟨e, h.mem_iff.2 h1, h2⟩⟩

/-! what is built -/
/-- the steps are the indices from i on -/
def idxFrom : List Stp → Nat → Bool
  | [], _ => true
  | s :: r, i => decide (s.lab = []) && decide (s.idx = (i : Int)) && idxFrom r (i + 1)
def allLab (g : List Stp) : Bool := g.all fun s => decide (s.lab ≠ [])
def bldAll (f : List Ent → Option Dat) (l : List Ent) : List Stp → Option (List (Stp × Dat))
  | [] => some []
  | s :: r => (f (blw l s)).bind fun x => (bldAll f l r).map fun t => (s, x) :: t
def bld : Nat → List Ent → Option Dat
  | 0, _ => none
  | f + 1, l =>
    match l with
    | [([], d)] => some d
    | _ =>
      if allLab (grp l) then (bldAll (bld f) l (grp l)).map fun t => .mk 6 0 [] [] (t.map fun p => (p.1.lab, p.2))
      else if idxFrom (grp l) 0 then (bldAll (bld f) l (grp l)).map fun t => .mk 5 0 [] (t.map fun p => p.2) []
      else none
/-- a leaf -/
def leafB (d : Dat) : Bool := decide (chk d 1 = 0) && d.its.isEmpty && d.mem.isEmpty
def kindsB (l : List Ent) : Bool := l.all fun e => okL e.1 && leafB e.2
/-- the length of the longest path -/
def maxP (l : List Ent) : Nat := l.foldr (fun e m => max e.1.length m) 0
theorem maxP_le {l : List Ent} {e : Ent} (h : e ∈ l) : e.1.length ≤ maxP l := by
  induction l with
  | nil => simp at h
  | cons a r ih =>
    have : maxP (a :: r) = max a.1.length (maxP r) := rfl
    rcases List.mem_cons.1 h with rfl | h
    · omega
    · have := ih h; omega
/-- what Build answers -/
def buildD (l : List Ent) : Dat × Nat :=
  if kindsB l = false then (dat0, 11) else if twiceB l = true then (dat0, 6) else if l = [] then (dat0, 19)
  else match bld (maxP l + 1) l with
    | none => (dat0, 19)
    | some d => if chk d 1 = 0 then (d, 0) else (dat0, 9)
end
section

/-- an entry behind a step -/
def preE (s : Stp) (e : Ent) : Ent := (s :: e.1, e.2)
def entI : List Dat → Nat → List Ent
  | [], _ => []
  | x :: r, i => (entsD x).map (preE ⟨[], (i : Int)⟩) ++ entI r (i + 1)
def entM : List (List UInt8 × Dat) → List Ent
  | [] => []
  | p :: r => (entsD p.2).map (preE ⟨p.1, 0⟩) ++ entM r
theorem ents_leaf {d : Dat} (hi : d.its = []) (hm : d.mem = []) : entsD d = [([], d)] := by
  unfold entsD; rw [lvD_eq, hi, hm]; rfl
theorem lvI_ents (d : Dat) : ∀ (its : List Dat) (i : Nat), (∀ j, j < its.length → d.its[i + j]? = its[j]?) → (lvI its i).map (fun p => ((p, (getD d p).getD dat0) : Ent)) = entI its i
  | [], _, _ => by rw [lvI]; rfl
  | x :: r, i, h => by
    rw [lvI, entI, List.map_append, lvI_ents d r (i + 1) (fun j hj => by
      have := h (j + 1) (by simpa using hj)
      rw [show i + 1 + j = i + (j + 1) by omega, this]; simp)]
    congr 1
    unfold entsD
    rw [List.map_map, List.map_map]
    apply List.map_congr_left
    intro p _
    have hx : stpD d ⟨[], (i : Int)⟩ = some x := by
      unfold stpD
      rw [if_pos rfl, if_pos (by simp)]
      have := h 0 (by simp)
      simpa using this
    simp only [Function.comp_apply, preE, getD, hx, Option.bind_some]
theorem lvM_ents (d : Dat) : ∀ (mem : List (List UInt8 × Dat)), (∀ p ∈ mem, p.1 ≠ [] ∧ findM p.1 d.mem = some p.2) → (lvM mem).map (fun p => ((p, (getD d p).getD dat0) : Ent)) = entM mem
  | [], _ => by rw [lvM]; rfl
  | (l, x) :: r, h => by
    rw [lvM, entM, List.map_append, lvM_ents d r (fun p hp => h p (List.mem_cons_of_mem _ hp))]
    congr 1
    unfold entsD
    rw [List.map_map, List.map_map]
    apply List.map_congr_left
    intro p _
    obtain ⟨h1, h2⟩ := h (l, x) (List.mem_cons_self ..)
    have hx : stpD d ⟨l, 0⟩ = some x := by
      unfold stpD
      rw [if_neg h1]; exact h2
    simp only [Function.comp_apply, preE, getD, hx, Option.bind_some]
theorem find_asc : ∀ {mem : List (List UInt8 × Dat)}, ascM mem = true → ∀ p ∈ mem, findM p.1 mem = some p.2
  | [], _, p, h => by simp at h
  | (l, x) :: r, h, p, hp => by
    obtain ⟨h1, h2⟩ := ascM_cons.1 h
    rw [findM]
    rcases List.mem_cons.1 hp with rfl | hp
    · rw [if_pos rfl]
    · have hb := h1 p hp
      rw [if_neg (fun e => by simp only at e hb; rw [e, less_irr] at hb; cases hb)]
      exact find_asc h2 p hp
theorem lbI_all {its : List Dat} : lbI its = true ↔ ∀ x ∈ its, lbD x = true := by
  induction its with
  | nil => rw [lbI]; simp
  | cons x r ih => rw [lbI, Bool.and_eq_true, ih]; simp
theorem lbM_all {mem : List (List UInt8 × Dat)} : lbM mem = true ↔ ∀ p ∈ mem, p.1 ≠ [] ∧ lbD p.2 = true := by
  induction mem with
  | nil => rw [lbM]; simp
  | cons p r ih =>
    obtain ⟨l, x⟩ := p
    rw [lbM, Bool.and_eq_true, Bool.and_eq_true, ih]
    constructor
    · rintro ⟨⟨h1, h2⟩, h3⟩ q hq
      rcases List.mem_cons.1 hq with rfl | hq
      · exact ⟨by simpa using h1, h2⟩
      · exact h3 q hq
    · intro h
      have h0 := h (l, x) (List.mem_cons_self ..)
      exact ⟨⟨by simpa using h0.1, h0.2⟩, fun q hq => h q (List.mem_cons_of_mem _ hq)⟩
/-- the entries of a list or struct -/
theorem ents_parts {d : Dat} (ha : ascM d.mem = true) (hb : lbD d = true) (hn : (d.its.isEmpty && d.mem.isEmpty) = false) : entsD d = entI d.its 0 ++ entM d.mem := by
  rw [lbD_eq, Bool.and_eq_true] at hb
  have h1 := lvI_ents d d.its 0 (fun j _ => by rw [Nat.zero_add])
  have h2 := lvM_ents d d.mem (fun p hp => ⟨((lbM_all.1 hb.2) p hp).1, find_asc ha p hp⟩)
  unfold entsD
  rw [lvD_eq, hn]
  simp only [Bool.false_eq_true, if_false, List.map_append]
  rw [h1, h2]
theorem lv_ne : ∀ (n : Nat) (d : Dat), SizeOf.sizeOf d < n → lvD d ≠ []
  | 0, _, h => absurd h (Nat.not_lt_zero _)
  | n + 1, d, h => by
    rw [lvD_eq]
    by_cases hn : (d.its.isEmpty && d.mem.isEmpty) = true
    · rw [if_pos hn]; simp
    · rw [if_neg hn]
      intro e
      obtain ⟨e1, e2⟩ := List.append_eq_nil_iff.1 e
      cases hi : d.its with
      | cons x r =>
        rw [hi, lvI] at e1
        have := lv_ne n x (by have := dat_it (d := d) (x := x) (by rw [hi]; exact List.mem_cons_self ..); omega)
        simp [this] at e1
      | nil =>
        cases hm : d.mem with
        | nil => rw [hi, hm] at hn; exact hn rfl
        | cons p r =>
          obtain ⟨l, x⟩ := p
          rw [hm, lvM] at e2
          have := lv_ne n x (by have := dat_me (d := d) (l := l) (x := x) (by rw [hm]; exact List.mem_cons_self ..); omega)
          simp [this] at e2
theorem ents_ne (d : Dat) : entsD d ≠ [] := by
  unfold entsD
  have := lv_ne (SizeOf.sizeOf d + 1) d (Nat.lt_succ_self _)
  simpa using this

/-! what lies behind a step -/
theorem blw_app (a b : List Ent) (s : Stp) : blw (a ++ b) s = blw a s ++ blw b s := List.filterMap_append ..
theorem blw_pre (L : List Ent) (t s : Stp) : blw (L.map (preE t)) s = if t = s then L else [] := by
  unfold blw
  rw [List.filterMap_map]
  by_cases h : t = s
  · rw [if_pos h]
    have : (cutS s ∘ preE t) = some := by funext e; simp [cutS, preE, h]
    rw [this, List.filterMap_some]
  · rw [if_neg h]
    have : (cutS s ∘ preE t) = fun _ => none := by funext e; simp [cutS, preE, h]
    rw [this]; simp
theorem blw_I : ∀ (its : List Dat) (i j : Nat) (h : j < its.length), blw (entI its i) ⟨[], ((i + j : Nat) : Int)⟩ = entsD its[j]
  | x :: r, i, 0, _ => by
    simp only [Nat.add_zero]
    rw [entI, blw_app, blw_pre, if_pos rfl]
    have hz : ∀ (its : List Dat) (k : Nat), i < k → blw (entI its k) ⟨[], (i : Int)⟩ = [] := by
      intro its
      induction its with
      | nil => intro k _; rfl
      | cons y t ih =>
        intro k hk
        rw [entI, blw_app, blw_pre, if_neg (fun e => by injection e with _ e; omega), ih (k + 1) (by omega)]
        rfl
    rw [hz r (i + 1) (by omega)]; simp
  | x :: r, i, j + 1, h => by
    rw [entI, blw_app, blw_pre, if_neg (fun e => by injection e with _ e; omega), List.nil_append]
    have := blw_I r (i + 1) j (by simpa using h)
    rw [show i + 1 + j = i + (j + 1) by omega] at this
    rw [this]; rfl
theorem blw_M : ∀ (mem : List (List UInt8 × Dat)), ascM mem = true → ∀ p ∈ mem, blw (entM mem) ⟨p.1, 0⟩ = entsD p.2
  | [], _, p, h => by simp at h
  | q :: r, ha, p, hp => by
    obtain ⟨h1, h2⟩ := ascM_cons.1 ha
    rw [entM, blw_app, blw_pre]
    rcases List.mem_cons.1 hp with rfl | hp
    · rw [if_pos rfl]
      have hz : ∀ (t : List (List UInt8 × Dat)), (∀ y ∈ t, Op.bytesLess p.1 y.1 = true) → blw (entM t) ⟨p.1, 0⟩ = [] := by
        intro t
        induction t with
        | nil => intro _; rfl
        | cons y t ih =>
          intro hy
          rw [entM, blw_app, blw_pre, if_neg (fun e => by
            injection e with e _
            have := hy y (List.mem_cons_self ..)
            rw [← e, less_irr] at this; cases this), ih fun z hz => hy z (List.mem_cons_of_mem _ hz)]
          rfl
      rw [hz r h1]; simp
    · have hne : ¬ (⟨q.1, 0⟩ : Stp) = ⟨p.1, 0⟩ := by
        intro e
        injection e with e _
        have := h1 p hp
        rw [e, less_irr] at this; cases this
      rw [if_neg hne, List.nil_append]
      exact blw_M r h2 p hp
/-! the groups of the entries of data -/
def idxL (i : Nat) : Nat → List Stp
  | 0 => []
  | n + 1 => ⟨[], (i : Int)⟩ :: idxL (i + 1) n
theorem idxL_mem : ∀ (n i : Nat) (s : Stp), s ∈ idxL i n ↔ ∃ j, j < n ∧ s = ⟨[], ((i + j : Nat) : Int)⟩
  | 0, i, s => by simp [idxL]
  | n + 1, i, s => by
    rw [idxL, List.mem_cons, idxL_mem n (i + 1) s]
    constructor
    · rintro (h | ⟨j, h1, h2⟩)
      · exact ⟨0, by omega, h⟩
      · exact ⟨j + 1, by omega, by rw [h2, show i + 1 + j = i + (j + 1) by omega]⟩
    · rintro ⟨j, h1, h2⟩
      cases j with
      | zero => exact .inl h2
      | succ j => exact .inr ⟨j, by omega, by rw [h2, show i + 1 + j = i + (j + 1) by omega]⟩
theorem idxL_sort : ∀ (n i : Nat), (idxL i n).Pairwise ltS
  | 0, _ => List.Pairwise.nil
  | n + 1, i => by
    refine List.pairwise_cons.2 ⟨?_, idxL_sort n (i + 1)⟩
    intro s hs
    obtain ⟨j, -, rfl⟩ := (idxL_mem n (i + 1) s).1 hs
    exact .inr (.inr ⟨rfl, by show (i : Int) < ((i + 1 + j : Nat) : Int); omega⟩)
theorem idxL_from : ∀ (n i : Nat), idxFrom (idxL i n) i = true
  | 0, _ => rfl
  | n + 1, i => by rw [idxL, idxFrom, idxL_from n (i + 1)]; simp
theorem entI_mem : ∀ (its : List Dat) (i : Nat) (e : Ent), e ∈ entI its i ↔ ∃ (j : Nat) (h : j < its.length), ∃ e' ∈ entsD its[j], e = preE ⟨[], ((i + j : Nat) : Int)⟩ e'
  | [], i, e => by simp [entI]
  | x :: r, i, e => by
    rw [entI, List.mem_append, List.mem_map, entI_mem r (i + 1) e]
    constructor
    · rintro (⟨e', h1, h2⟩ | ⟨j, h, e', h1, h2⟩)
      · exact ⟨0, by simp, e', h1, h2.symm⟩
      · exact ⟨j + 1, by simpa using h, e', h1, by rw [h2, show i + 1 + j = i + (j + 1) by omega]⟩
    · rintro ⟨j, h, e', h1, h2⟩
      cases j with
      | zero => exact .inl ⟨e', h1, h2.symm⟩
      | succ j => exact .inr ⟨j, by simpa using h, e', h1, by rw [h2, show i + 1 + j = i + (j + 1) by omega]⟩
theorem entM_mem : ∀ (mem : List (List UInt8 × Dat)) (e : Ent), e ∈ entM mem ↔ ∃ p ∈ mem, ∃ e' ∈ entsD p.2, e = preE ⟨p.1, 0⟩ e'
  | [], e => by simp [entM]
  | q :: r, e => by
    rw [entM, List.mem_append, List.mem_map, entM_mem r e]
    constructor
    · rintro (⟨e', h1, h2⟩ | ⟨p, h, e', h1, h2⟩)
      · exact ⟨q, List.mem_cons_self .., e', h1, h2.symm⟩
      · exact ⟨p, List.mem_cons_of_mem _ h, e', h1, h2⟩
    · rintro ⟨p, h, e', h1, h2⟩
      rcases List.mem_cons.1 h with rfl | h
      · exact .inl ⟨e', h1, h2.symm⟩
      · exact .inr ⟨p, h, e', h1, h2⟩
theorem grp_I (its : List Dat) : grp (entI its 0) = idxL 0 its.length := by
  apply sort_one (grp_sort _) (idxL_sort _ _)
  intro s
  rw [grp_mem, idxL_mem]
  constructor
  · rintro ⟨e, he, rfl⟩
    obtain ⟨j, h, e', -, rfl⟩ := (entI_mem its 0 e).1 he
    exact ⟨j, h, rfl⟩
  · rintro ⟨j, h, rfl⟩
    obtain ⟨e', he'⟩ := List.exists_mem_of_ne_nil _ (ents_ne its[j])
    exact ⟨_, (entI_mem its 0 _).2 ⟨j, h, e', he', rfl⟩, rfl⟩
def labS (p : List UInt8 × Dat) : Stp := ⟨p.1, 0⟩
theorem mem_sort : ∀ {mem : List (List UInt8 × Dat)}, ascM mem = true → (∀ p ∈ mem, p.1 ≠ []) → (mem.map labS).Pairwise ltS
  | [], _, _ => List.Pairwise.nil
  | q :: r, h, hl => by
    obtain ⟨h1, h2⟩ := ascM_cons.1 h
    rw [List.map_cons]
    refine List.pairwise_cons.2 ⟨?_, mem_sort h2 fun p hp => hl p (List.mem_cons_of_mem _ hp)⟩
    intro s hs
    obtain ⟨p, hp, rfl⟩ := List.mem_map.1 hs
    exact .inr (.inl ⟨hl q (List.mem_cons_self ..), hl p (List.mem_cons_of_mem _ hp), h1 p hp⟩)
theorem grp_M {mem : List (List UInt8 × Dat)} (h : ascM mem = true) (hl : ∀ p ∈ mem, p.1 ≠ []) : grp (entM mem) = mem.map labS := by
  apply sort_one (grp_sort _) (mem_sort h hl)
  intro s
  rw [grp_mem, List.mem_map]
  constructor
  · rintro ⟨e, he, rfl⟩
    obtain ⟨p, hp, e', -, rfl⟩ := (entM_mem mem e).1 he
    exact ⟨p, hp, rfl⟩
  · rintro ⟨p, hp, rfl⟩
    obtain ⟨e', he'⟩ := List.exists_mem_of_ne_nil _ (ents_ne p.2)
    exact ⟨_, (entM_mem mem _).2 ⟨p, hp, e', he', rfl⟩, rfl⟩
theorem bld_step {f : Nat} {l : List Ent} (h : ∀ e ∈ l, e.1 ≠ []) : bld (f + 1) l =
    if allLab (grp l) then (bldAll (bld f) l (grp l)).map fun t => .mk 6 0 [] [] (t.map fun p => (p.1.lab, p.2))
    else if idxFrom (grp l) 0 then (bldAll (bld f) l (grp l)).map fun t => .mk 5 0 [] (t.map fun p => p.2) []
    else none := by
  rw [bld]
  intro d e
  exact h ([], d) (by rw [e]; exact List.mem_cons_self ..) rfl
theorem all_I {f : List Ent → Option Dat} {l : List Ent} : ∀ (its : List Dat) (i : Nat), (∀ (j : Nat) (h : j < its.length), f (blw l ⟨[], ((i + j : Nat) : Int)⟩) = some its[j]) → ∃ t, bldAll f l (idxL i its.length) = some t ∧ t.map (fun p => p.2) = its
  | [], _, _ => ⟨[], rfl, rfl⟩
  | x :: r, i, h => by
    obtain ⟨t, h1, h2⟩ := all_I (f := f) (l := l) r (i + 1) fun j hj => by
      have := h (j + 1) (by simpa using hj)
      rw [show i + 1 + j = i + (j + 1) by omega, this]; rfl
    have h0 := h 0 (by simp)
    refine ⟨(⟨[], (i : Int)⟩, x) :: t, ?_, by rw [List.map_cons, h2]⟩
    rw [List.length_cons, idxL, bldAll, show f (blw l ⟨[], (i : Int)⟩) = some x from h0, Option.bind_some, h1]; rfl
theorem all_M {f : List Ent → Option Dat} {l : List Ent} : ∀ (mem : List (List UInt8 × Dat)), (∀ p ∈ mem, f (blw l ⟨p.1, 0⟩) = some p.2) → ∃ t, bldAll f l (mem.map labS) = some t ∧ t.map (fun p => (p.1.lab, p.2)) = mem
  | [], _ => ⟨[], rfl, rfl⟩
  | q :: r, h => by
    obtain ⟨t, h1, h2⟩ := all_M (f := f) (l := l) r fun p hp => h p (List.mem_cons_of_mem _ hp)
    have h0 := h q (List.mem_cons_self ..)
    refine ⟨(labS q, q.2) :: t, ?_, by rw [List.map_cons, h2]; rfl⟩
    rw [List.map_cons, bldAll, show f (blw l (labS q)) = some q.2 from h0, Option.bind_some, h1]; rfl
theorem own_zero {d : Dat} (h : ownE d = 0) : plainB d = true ∧ badNum d = false ∧ ascM d.mem = true := by
  unfold ownE at h
  by_cases h1 : plainB d = false
  · rw [if_pos h1] at h; cases h
  · rw [if_neg h1] at h
    by_cases h2 : badNum d = true
    · rw [if_pos h2] at h; cases h
    · rw [if_neg h2] at h
      by_cases h3 : ascM d.mem = false
      · rw [if_pos h3] at h; cases h
      · exact ⟨by simpa using h1, by simpa using h2, by simpa using h3⟩
theorem plain_iff {d : Dat} : plainB d = true ↔ (1 ≤ d.k ∧ d.k ≤ 6) ∧ (d.k = 2 ∨ d.k = 3 ∨ d.n = 0) ∧ (d.k = 4 ∨ d.s = []) ∧ (d.k = 5 ∨ d.its = []) ∧ (d.k = 6 ∨ d.mem = []) := by
  unfold plainB
  simp [Bool.and_eq_true, and_assoc, or_assoc, List.isEmpty_iff]
/-- Build of the entries of data, in whatever order -/
theorem bld_flat : ∀ (n : Nat) (d : Dat) (lv : Nat) (L : List Ent) (f : Nat), SizeOf.sizeOf d < n → chk d lv = 0 → lbD d = true → L.Perm (entsD d) → (∀ e ∈ L, e.1.length < f) → bld f L = some d
  | 0, _, _, _, _, h, _, _, _, _ => absurd h (Nat.not_lt_zero _)
  | n + 1, d, lv, L, f, hn, hc, hb, hp, hf => by
    obtain ⟨-, ho, hci, hcm⟩ := chk_zero.1 hc
    obtain ⟨hpl, hbn, hasc⟩ := own_zero ho
    obtain ⟨hk, hnn, hss, hii, hmm⟩ := plain_iff.1 hpl
    cases he : (d.its.isEmpty && d.mem.isEmpty) with
    | true =>
      rw [Bool.and_eq_true, List.isEmpty_iff, List.isEmpty_iff] at he
      rw [ents_leaf he.1 he.2] at hp
      rw [List.perm_singleton.1 hp] at hf ⊢
      have := hf ([], d) (List.mem_cons_self ..)
      obtain ⟨f, rfl⟩ : ∃ g, f = g + 1 := ⟨f - 1, by simp at this; omega⟩
      rfl
    | false =>
      rw [ents_parts hasc hb he] at hp
      have hbb := hb
      rw [lbD_eq, Bool.and_eq_true] at hbb
      have hne : ∀ e ∈ L, e.1 ≠ [] := by
        intro e hx
        rcases List.mem_append.1 (hp.mem_iff.1 hx) with h | h
        · obtain ⟨j, -, e', -, rfl⟩ := (entI_mem _ _ _).1 h; simp [preE]
        · obtain ⟨p, -, e', -, rfl⟩ := (entM_mem _ _).1 h; simp [preE]
      have hL : L ≠ [] := by
        intro e
        rw [e] at hp
        have := hp.symm.eq_nil
        rw [← ents_parts hasc hb he] at this
        exact ents_ne d this
      obtain ⟨e0, he0⟩ := List.exists_mem_of_ne_nil L hL
      have hf0 := hf e0 he0
      obtain ⟨f, rfl⟩ : ∃ g, f = g + 1 := ⟨f - 1, by omega⟩
      have hblw : ∀ s, ∀ e ∈ blw L s, e.1.length < f := by
        intro s e hx
        obtain ⟨a, ha, hcut⟩ := List.mem_filterMap.1 hx
        unfold cutS at hcut
        split at hcut
        · cases hcut
        · next t r h1 =>
          split at hcut
          · injection hcut with hcut
            subst hcut
            have := hf a ha
            rw [h1] at this
            simp at this
            exact this
          · cases hcut
      obtain ⟨G, hG⟩ : ∃ G, grp L = G := ⟨_, rfl⟩
      have hG2 := hG.symm.trans (grp_perm hp)
      rw [bld_step hne, hG]
      clear hG
      cases d with
      | mk k nn s its mem =>
        simp only [Dat.k, Dat.n, Dat.s, Dat.its, Dat.mem] at *
        by_cases h5 : k = 5
        · have hm0 : mem = [] := hmm.resolve_left (by omega)
          have hs0 : s = [] := hss.resolve_left (by omega)
          have hn0 : nn = 0 := by omega
          subst hm0; subst hs0; subst hn0; subst h5
          simp only [entM, List.append_nil] at hp hG2
          rw [grp_I] at hG2
          subst hG2
          have hlen : its ≠ [] := by intro e; rw [e] at he; simp at he
          have hal : allLab (idxL 0 its.length) = false := by
            cases its with
            | nil => exact absurd rfl hlen
            | cons x r => rfl
          obtain ⟨t, h1, h2⟩ := all_I (f := bld f) (l := L) its 0 (fun j hj => by
            have hq : (blw L ⟨[], ((0 + j : Nat) : Int)⟩).Perm (entsD its[j]) := by
              rw [← blw_I its 0 j hj]; exact hp.filterMap _
            refine bld_flat n its[j] (lv + 1) _ f ?_ (hci _ (List.getElem_mem hj)) (lbI_all.1 hbb.1 _ (List.getElem_mem hj)) hq (hblw _)
            have := dat_it (d := .mk 5 0 [] its []) (x := its[j]) (List.getElem_mem hj)
            omega)
          rw [hal, idxL_from, h1]
          simp [h2]
        · have hi0 : its = [] := hii.resolve_left h5
          subst hi0
          have hm1 : mem ≠ [] := by intro e; rw [e] at he; simp at he
          have hk6 : k = 6 := hmm.resolve_right hm1
          have hs0 : s = [] := hss.resolve_left (by omega)
          have hn0 : nn = 0 := by omega
          subst hs0; subst hn0; subst hk6
          have hlab : ∀ p ∈ mem, p.1 ≠ [] := fun p hp => ((lbM_all.1 hbb.2) p hp).1
          simp only [entI, List.nil_append] at hp hG2
          rw [grp_M hasc hlab] at hG2
          subst hG2
          have hal : allLab (mem.map labS) = true := by
            unfold allLab
            rw [List.all_eq_true]
            intro s hs
            obtain ⟨p, hp, rfl⟩ := List.mem_map.1 hs
            exact decide_eq_true (hlab p hp)
          obtain ⟨t, h1, h2⟩ := all_M (f := bld f) (l := L) mem (fun p hpm => by
            have hq : (blw L ⟨p.1, 0⟩).Perm (entsD p.2) := by
              rw [← blw_M mem hasc p hpm]; exact hp.filterMap _
            refine bld_flat n p.2 (lv + 1) _ f ?_ (hcm p hpm) ((lbM_all.1 hbb.2) p hpm).2 hq (hblw _)
            have := dat_mg (d := .mk 6 0 [] [] mem) (p := p) hpm
            omega)
          rw [hal, h1]
          simp [h2]
end
section

/-! all lists and texts have at most a million elements -/
mutual
def limD : Dat → Bool
  | .mk _ _ s its mem => decide (s.length ≤ 1000000) && decide (its.length ≤ 1000000) && decide (mem.length ≤ 1000000) && limI its && limM mem
termination_by structural d => d
def limI : List Dat → Bool
  | [] => true
  | x :: r => limD x && limI r
termination_by structural d => d
def limM : List (List UInt8 × Dat) → Bool
  | [] => true
  | (l, x) :: r => decide (l.length ≤ 1000000) && limD x && limM r
termination_by structural d => d
end
theorem limI_all {its : List Dat} : limI its = true ↔ ∀ x ∈ its, limD x = true := by
  induction its with
  | nil => rw [limI]; simp
  | cons x r ih => rw [limI, Bool.and_eq_true, ih]; simp
theorem limM_all {mem : List (List UInt8 × Dat)} : limM mem = true ↔ ∀ p ∈ mem, p.1.length ≤ 1000000 ∧ limD p.2 = true := by
  induction mem with
  | nil => rw [limM]; simp
  | cons p r ih =>
    obtain ⟨l, x⟩ := p
    rw [limM, Bool.and_eq_true, Bool.and_eq_true, ih]
    constructor
    · rintro ⟨⟨h1, h2⟩, h3⟩ q hq
      rcases List.mem_cons.1 hq with rfl | hq
      · exact ⟨by simpa using h1, h2⟩
      · exact h3 q hq
    · intro h
      have h0 := h (l, x) (List.mem_cons_self ..)
      exact ⟨⟨by simpa using h0.1, h0.2⟩, fun q hq => h q (List.mem_cons_of_mem _ hq)⟩
theorem lim_iff {d : Dat} : limD d = true ↔ d.s.length ≤ 1000000 ∧ d.its.length ≤ 1000000 ∧ d.mem.length ≤ 1000000 ∧ (∀ x ∈ d.its, limD x = true) ∧ ∀ p ∈ d.mem, p.1.length ≤ 1000000 ∧ limD p.2 = true := by
  rw [← limI_all, ← limM_all]
  cases d with
  | mk k n s its mem => rw [limD]; simp only [Bool.and_eq_true, decide_eq_true_eq, and_assoc]; rfl
/-! the number of parts -/
mutual
def trD : Dat → Nat
  | .mk _ _ _ its mem => 1 + trI its + trM mem
termination_by structural d => d
def trI : List Dat → Nat
  | [] => 0
  | x :: r => trD x + trI r
termination_by structural d => d
def trM : List (List UInt8 × Dat) → Nat
  | [] => 0
  | (_, x) :: r => trD x + trM r
termination_by structural d => d
end
theorem trD_eq (d : Dat) : trD d = 1 + trI d.its + trM d.mem := by
  cases d with | mk k n s its mem => rw [trD]; rfl
theorem trI_len : ∀ its : List Dat, its.length ≤ trI its
  | [] => by rw [trI]; exact Nat.le_refl _
  | x :: r => by
    have := trI_len r
    have h := trD_eq x
    rw [trI, List.length_cons]; omega
theorem trM_len : ∀ mem : List (List UInt8 × Dat), mem.length ≤ trM mem
  | [] => by rw [trM]; exact Nat.le_refl _
  | (l, x) :: r => by
    have := trM_len r
    have h := trD_eq x
    rw [trM, List.length_cons]; omega
theorem trI_mem {x : Dat} : ∀ {its : List Dat}, x ∈ its → trD x ≤ trI its
  | y :: r, h => by
    rw [trI]
    rcases List.mem_cons.1 h with rfl | h
    · omega
    · have := trI_mem h; omega
theorem trM_mem {p : List UInt8 × Dat} : ∀ {mem : List (List UInt8 × Dat)}, p ∈ mem → trD p.2 ≤ trM mem
  | (l, y) :: r, h => by
    rw [trM]
    rcases List.mem_cons.1 h with rfl | h
    · simp only; omega
    · have := trM_mem h; omega
/-! what size counts -/
theorem sz_true : ∀ (n : Nat),
    (∀ (d : Dat) (m : Int), SizeOf.sizeOf d < n → (szD d m = trD d ∨ m < szD d m) ∧ (szD d m ≤ m + 1 ∨ szD d m = 1) ∧ 1 ≤ szD d m)
  | 0 => fun _ _ h => absurd h (Nat.not_lt_zero _)
  | n + 1 => by
    intro d m hn
    have ih := sz_true n
    have hI : ∀ (its : List Dat) (k : Int), 1 ≤ k → (∀ x ∈ its, SizeOf.sizeOf x < n) → (szI its m k = k + trI its ∨ m < szI its m k) ∧ (szI its m k ≤ m + 1 ∨ szI its m k = k) ∧ k ≤ szI its m k := by
      intro its
      induction its with
      | nil => intro k h1 _; rw [szI, trI]; omega
      | cons x r ihr =>
        intro k h1 h2
        rw [szI, trI]
        by_cases hk : k ≤ m
        · rw [if_pos hk]
          obtain ⟨a1, a2, a3⟩ := ih x (m - k) (h2 x (List.mem_cons_self ..))
          obtain ⟨b1, b2, b3⟩ := ihr (k + szD x (m - k)) (by omega) fun y hy => h2 y (List.mem_cons_of_mem _ hy)
          omega
        · rw [if_neg hk]; omega
    have hM : ∀ (mem : List (List UInt8 × Dat)) (k : Int), 1 ≤ k → (∀ p ∈ mem, SizeOf.sizeOf p.2 < n) → (szM mem m k = k + trM mem ∨ m < szM mem m k) ∧ (szM mem m k ≤ m + 1 ∨ szM mem m k = k) ∧ k ≤ szM mem m k := by
      intro mem
      induction mem with
      | nil => intro k h1 _; rw [szM, trM]; omega
      | cons p r ihr =>
        obtain ⟨l, x⟩ := p
        intro k h1 h2
        rw [szM, trM]
        by_cases hk : k ≤ m
        · rw [if_pos hk]
          obtain ⟨a1, a2, a3⟩ := ih x (m - k) (h2 (l, x) (List.mem_cons_self ..))
          obtain ⟨b1, b2, b3⟩ := ihr (k + szD x (m - k)) (by omega) fun y hy => h2 y (List.mem_cons_of_mem _ hy)
          omega
        · rw [if_neg hk]; omega
    have h1 := hI d.its 1 (by omega) fun x hx => by have := dat_it hx; omega
    have h2 := hM d.mem (szI d.its m 1) (by omega) fun p hp => by have := dat_mg hp; omega
    rw [szD_eq, trD_eq]
    omega
theorem sz_small {d : Dat} (h : szD d 40 ≤ 40) : trD d ≤ 40 := by
  have := sz_true (SizeOf.sizeOf d + 1) d 40 (Nat.lt_succ_self _)
  omega
theorem sz_range (d : Dat) (m : Int) : 1 ≤ szD d m ∧ (szD d m ≤ m + 1 ∨ szD d m = 1) := by
  have := sz_true (SizeOf.sizeOf d + 1) d m (Nat.lt_succ_self _)
  omega
theorem shI_all {its : List Dat} : shI its = true ↔ ∀ x ∈ its, shD x = true := by
  induction its with
  | nil => rw [shI]; simp
  | cons x r ih => rw [shI, Bool.and_eq_true, ih]; simp
theorem shM_all {mem : List (List UInt8 × Dat)} : shM mem = true ↔ ∀ p ∈ mem, p.1.length ≤ 80 ∧ shD p.2 = true := by
  induction mem with
  | nil => rw [shM]; simp
  | cons p r ih =>
    obtain ⟨l, x⟩ := p
    rw [shM, Bool.and_eq_true, Bool.and_eq_true, ih]
    constructor
    · rintro ⟨⟨h1, h2⟩, h3⟩ q hq
      rcases List.mem_cons.1 hq with rfl | hq
      · exact ⟨by simpa using h1, h2⟩
      · exact h3 q hq
    · intro h
      have h0 := h (l, x) (List.mem_cons_self ..)
      exact ⟨⟨by simpa using h0.1, h0.2⟩, fun q hq => h q (List.mem_cons_of_mem _ hq)⟩
theorem lim_of : ∀ (n : Nat) (d : Dat), SizeOf.sizeOf d < n → trD d ≤ 1000000 → shD d = true → limD d = true
  | 0, _, h, _, _ => absurd h (Nat.not_lt_zero _)
  | n + 1, d, hn, ht, hs => by
    rw [shD_eq, Bool.and_eq_true, Bool.and_eq_true, decide_eq_true_eq] at hs
    have he := trD_eq d
    have hi := trI_len d.its
    have hm := trM_len d.mem
    refine lim_iff.2 ⟨by omega, by omega, by omega, fun x hx => ?_, fun p hp => ?_⟩
    · have := trI_mem hx
      exact lim_of n x (by have := dat_it hx; omega) (by omega) (shI_all.1 hs.1.2 x hx)
    · have := trM_mem hp
      obtain ⟨h1, h2⟩ := shM_all.1 hs.2 p hp
      exact ⟨by omega, lim_of n p.2 (by have := dat_mg hp; omega) (by omega) h2⟩
theorem small_lim {d : Dat} (h : smallD d = true) : limD d = true := by
  unfold smallD at h
  rw [Bool.and_eq_true, decide_eq_true_eq] at h
  exact lim_of _ d (Nat.lt_succ_self _) (by have := sz_small h.1; omega) h.2
/-! a part of valid data is valid -/
theorem chk_mono : ∀ (n : Nat) (d : Dat) (a b : Nat), SizeOf.sizeOf d < n → b ≤ a → chk d a = 0 → chk d b = 0
  | 0, _, _, _, h, _, _ => absurd h (Nat.not_lt_zero _)
  | n + 1, d, a, b, hn, hab, h => by
    obtain ⟨h1, h2, h3, h4⟩ := chk_zero.1 h
    exact chk_zero.2 ⟨by omega, h2, fun x hx => chk_mono n x (a + 1) (b + 1) (by have := dat_it hx; omega) (by omega) (h3 x hx), fun p hp => chk_mono n p.2 (a + 1) (b + 1) (by have := dat_mg hp; omega) (by omega) (h4 p hp)⟩
theorem leaf_iff {d : Dat} : leafB d = true ↔ chk d 1 = 0 ∧ d.its = [] ∧ d.mem = [] := by
  unfold leafB
  rw [Bool.and_eq_true, Bool.and_eq_true, decide_eq_true_eq, List.isEmpty_iff, List.isEmpty_iff, and_assoc]
theorem ok_cons {s : Stp} {l : List Stp} : okL (s :: l) = true ↔ okS s = true ∧ okL l = true := by unfold okL; simp
/-- the entries of data are valid -/
theorem ents_kind : ∀ (n : Nat) (d : Dat) (lv : Nat), SizeOf.sizeOf d < n → chk d (lv + 1) = 0 → lbD d = true → limD d = true → ∀ e ∈ entsD d, okL e.1 = true ∧ leafB e.2 = true
  | 0, _, _, h, _, _, _ => absurd h (Nat.not_lt_zero _)
  | n + 1, d, lv, hn, hc, hb, hl => by
    obtain ⟨-, ho, hci, hcm⟩ := chk_zero.1 hc
    obtain ⟨hpl, hbn, hasc⟩ := own_zero ho
    obtain ⟨-, hl1, hl2, hl3, hl4⟩ := lim_iff.1 hl
    intro e he
    cases hk : (d.its.isEmpty && d.mem.isEmpty) with
    | true =>
      rw [Bool.and_eq_true, List.isEmpty_iff, List.isEmpty_iff] at hk
      rw [ents_leaf hk.1 hk.2] at he
      rw [List.mem_singleton.1 he]
      exact ⟨rfl, leaf_iff.2 ⟨chk_mono _ d (lv + 1) 1 (Nat.lt_succ_self _) (by omega) hc, hk.1, hk.2⟩⟩
    | false =>
      rw [ents_parts hasc hb hk] at he
      have hbb := hb
      rw [lbD_eq, Bool.and_eq_true] at hbb
      rcases List.mem_append.1 he with h | h
      · obtain ⟨j, hj, e', he', rfl⟩ := (entI_mem _ _ _).1 h
        have hm := List.getElem_mem hj
        obtain ⟨q1, q2⟩ := ents_kind n d.its[j] (lv + 1) (by have := dat_it hm; omega) (hci _ hm) (lbI_all.1 hbb.1 _ hm) (hl3 _ hm) e' he'
        refine ⟨ok_cons.2 ⟨?_, q1⟩, q2⟩
        unfold okS
        rw [if_pos rfl]
        simp only [Bool.and_eq_true, decide_eq_true_eq]
        omega
      · obtain ⟨p, hp, e', he', rfl⟩ := (entM_mem _ _).1 h
        obtain ⟨b1, b2⟩ := lbM_all.1 hbb.2 p hp
        obtain ⟨q1, q2⟩ := ents_kind n p.2 (lv + 1) (by have := dat_mg hp; omega) (hcm _ hp) b2 (hl4 _ hp).2 e' he'
        refine ⟨ok_cons.2 ⟨?_, q1⟩, q2⟩
        unfold okS
        rw [if_neg b1]; simp
/-- an entry behind one step clashes with one behind another never -/
theorem clash_pre {s t : Stp} {a b : Ent} : clashP (preE s a) (preE t b) ↔ s = t ∧ clashP a b := by
  unfold clashP preE
  simp only [List.cons_prefix_cons]
  constructor
  · rintro (⟨h1, h2⟩ | ⟨h1, h2⟩)
    · exact ⟨h1, .inl h2⟩
    · exact ⟨h1.symm, .inr h2⟩
  · rintro ⟨h1, h2 | h2⟩
    · exact .inl ⟨h1, h2⟩
    · exact .inr ⟨h1.symm, h2⟩
theorem pre_pair {s : Stp} {L : List Ent} (h : L.Pairwise fun a b => ¬ clashP a b) : (L.map (preE s)).Pairwise fun a b => ¬ clashP a b := by
  rw [List.pairwise_map]
  exact h.imp fun h1 h2 => h1 (clash_pre.1 h2).2
theorem entI_pair : ∀ (its : List Dat) (i : Nat), (∀ x ∈ its, (entsD x).Pairwise fun a b => ¬ clashP a b) → (entI its i).Pairwise fun a b => ¬ clashP a b
  | [], _, _ => List.Pairwise.nil
  | x :: r, i, h => by
    rw [entI, List.pairwise_append]
    refine ⟨pre_pair (h x (List.mem_cons_self ..)), entI_pair r (i + 1) fun y hy => h y (List.mem_cons_of_mem _ hy), ?_⟩
    intro a ha b hb hc
    obtain ⟨a', -, rfl⟩ := List.mem_map.1 ha
    obtain ⟨j, -, b', -, rfl⟩ := (entI_mem _ _ _).1 hb
    have := (clash_pre.1 hc).1
    injection this with _ e
    omega
theorem entM_pair : ∀ (mem : List (List UInt8 × Dat)), ascM mem = true → (∀ p ∈ mem, (entsD p.2).Pairwise fun a b => ¬ clashP a b) → (entM mem).Pairwise fun a b => ¬ clashP a b
  | [], _, _ => List.Pairwise.nil
  | q :: r, ha, h => by
    obtain ⟨h1, h2⟩ := ascM_cons.1 ha
    rw [entM, List.pairwise_append]
    refine ⟨pre_pair (h q (List.mem_cons_self ..)), entM_pair r h2 fun y hy => h y (List.mem_cons_of_mem _ hy), ?_⟩
    intro a ha b hb hc
    obtain ⟨a', -, rfl⟩ := List.mem_map.1 ha
    obtain ⟨p, hp, b', -, rfl⟩ := (entM_mem _ _).1 hb
    have := (clash_pre.1 hc).1
    injection this with e _
    have h3 := h1 p hp
    rw [e, less_irr] at h3; cases h3
theorem ents_pair : ∀ (n : Nat) (d : Dat) (lv : Nat), SizeOf.sizeOf d < n → chk d lv = 0 → lbD d = true → (entsD d).Pairwise fun a b => ¬ clashP a b
  | 0, _, _, h, _, _ => absurd h (Nat.not_lt_zero _)
  | n + 1, d, lv, hn, hc, hb => by
    obtain ⟨-, ho, hci, hcm⟩ := chk_zero.1 hc
    obtain ⟨hpl, hbn, hasc⟩ := own_zero ho
    obtain ⟨-, -, -, hii, hmm⟩ := plain_iff.1 hpl
    cases hk : (d.its.isEmpty && d.mem.isEmpty) with
    | true =>
      rw [Bool.and_eq_true, List.isEmpty_iff, List.isEmpty_iff] at hk
      rw [ents_leaf hk.1 hk.2]
      exact List.pairwise_singleton ..
    | false =>
      rw [ents_parts hasc hb hk]
      have hbb := hb
      rw [lbD_eq, Bool.and_eq_true] at hbb
      have p1 := entI_pair d.its 0 fun x hx => ents_pair n x (lv + 1) (by have := dat_it hx; omega) (hci x hx) (lbI_all.1 hbb.1 x hx)
      have p2 := entM_pair d.mem hasc fun p hp => ents_pair n p.2 (lv + 1) (by have := dat_mg hp; omega) (hcm p hp) ((lbM_all.1 hbb.2) p hp).2
      rw [List.pairwise_append]
      refine ⟨p1, p2, ?_⟩
      intro a ha b hb' hcl
      obtain ⟨j, -, a', -, rfl⟩ := (entI_mem _ _ _).1 ha
      obtain ⟨p, hp, b', -, rfl⟩ := (entM_mem _ _).1 hb'
      have := (clash_pre.1 hcl).1
      injection this with e _
      exact ((lbM_all.1 hbb.2) p hp).1 e.symm
theorem twice_no {l : List Ent} (h : l.Pairwise fun a b => ¬ clashP a b) : twiceB l = false := by
  unfold twiceB; rw [decide_eq_true h]; rfl
/-- THE LAW OF Build AND Flatten -/
theorem build_flat {d : Dat} (hc : chk d 1 = 0) (hb : lbD d = true) (hl : limD d = true) {L : List Ent} (hp : L.Perm (entsD d)) : buildD L = (d, 0) := by
  have hk : kindsB L = true := by
    unfold kindsB
    rw [List.all_eq_true]
    intro e he
    obtain ⟨h1, h2⟩ := ents_kind _ d 0 (Nat.lt_succ_self _) hc hb hl e (hp.mem_iff.1 he)
    rw [h1, h2]; rfl
  have ht : twiceB L = false := by
    rw [twice_perm hp]
    exact twice_no (ents_pair _ d 1 (Nat.lt_succ_self _) hc hb)
  have hn : L ≠ [] := by
    intro e
    rw [e] at hp
    exact ents_ne d hp.symm.eq_nil
  have hbl := bld_flat _ d 1 L (maxP L + 1) (Nat.lt_succ_self _) hc hb hp fun e he => Nat.lt_succ_of_le (maxP_le he)
  unfold buildD
  rw [if_neg (by rw [hk]; decide), if_neg (by rw [ht]; decide), if_neg hn, hbl]
  simp only [hc, if_true]
/-- one more at or below another one -/
theorem build_clash {L : List Ent} {e x : Ent} (hk : kindsB L = true) (he : e ∈ L) (hx : okL x.1 = true ∧ leafB x.2 = true) (hp : e.1 <+: x.1) : buildD (L ++ [x]) = (dat0, 6) := by
  have hk2 : kindsB (L ++ [x]) = true := by
    unfold kindsB at *
    rw [List.all_append, hk, Bool.true_and]
    simp [hx.1, hx.2]
  have ht : twiceB (L ++ [x]) = true := by
    unfold twiceB
    rw [decide_eq_false]
    · rfl
    · intro h
      rw [List.pairwise_append] at h
      exact h.2.2 e he x (List.mem_singleton.2 rfl) (.inl hp)
  unfold buildD
  rw [if_neg (by rw [hk2]; decide), if_pos ht]
theorem flat_kinds {d : Dat} (hc : chk d 1 = 0) (hb : lbD d = true) (hl : limD d = true) : kindsB (entsD d) = true := by
  unfold kindsB
  rw [List.all_eq_true]
  intro e he
  obtain ⟨h1, h2⟩ := ents_kind _ d 0 (Nat.lt_succ_self _) hc hb hl e he
  rw [h1, h2]; rfl
end
section

def noClash (l : List Ent) : Prop := l.Pairwise fun a b => ¬ clashP a b
theorem twice_iff {l : List Ent} : twiceB l = false ↔ noClash l := by
  unfold twiceB noClash
  by_cases h : l.Pairwise fun a b => ¬ clashP a b
  · rw [decide_eq_true h]; exact ⟨fun _ => h, fun _ => rfl⟩
  · rw [decide_eq_false h]; exact ⟨fun e => absurd e (by decide), fun e => absurd e h⟩
/-- where a path is empty it is the only one -/
theorem clash_one {l : List Ent} (h : noClash l) {e : Ent} (he : e ∈ l) (h0 : e.1 = []) : l = [e] := by
  obtain ⟨a, b, rfl⟩ := List.append_of_mem he
  unfold noClash at h
  rw [List.pairwise_append] at h
  obtain ⟨-, h2, h3⟩ := h
  have hb : b = [] := by
    cases b with
    | nil => rfl
    | cons x r => exact absurd (.inl (by rw [h0]; exact List.nil_prefix)) ((List.pairwise_cons.1 h2).1 x (List.mem_cons_self ..))
  have ha : a = [] := by
    cases a with
    | nil => rfl
    | cons x r => exact absurd (.inr (by rw [h0]; exact List.nil_prefix)) (h3 x (List.mem_cons_self ..) e (List.mem_cons_self ..))
  rw [ha, hb]; rfl
/-- the entries behind the first steps, put together again -/
def joinG (l : List Ent) (G : List Stp) : List Ent := G.flatMap fun s => (blw l s).map (preE s)
theorem blw_cons (e : Ent) (l : List Ent) (s : Stp) : blw (e :: l) s = (match cutS s e with | none => [] | some x => [x]) ++ blw l s := by
  unfold blw
  rw [List.filterMap_cons]
  cases cutS s e <;> rfl
theorem cut_head {e : Ent} (h : e.1 ≠ []) : cutS (hdS e) e = some (e.1.tail, e.2) ∧ preE (hdS e) (e.1.tail, e.2) = e := by
  obtain ⟨p, d⟩ := e
  cases p with
  | nil => exact absurd rfl h
  | cons s r => simp [cutS, hdS, preE]
theorem cut_other {e : Ent} {s : Stp} (h : e.1 ≠ []) (hs : hdS e ≠ s) : cutS s e = none := by
  obtain ⟨p, d⟩ := e
  cases p with
  | nil => exact absurd rfl h
  | cons t r =>
    have : t ≠ s := hs
    simp [cutS, this]
theorem join_skip (e : Ent) (l : List Ent) (he : e.1 ≠ []) : ∀ G : List Stp, hdS e ∉ G → joinG (e :: l) G = joinG l G
  | [], _ => rfl
  | s :: r, h => by
    unfold joinG at *
    rw [List.flatMap_cons, List.flatMap_cons]
    have h1 : hdS e ≠ s := fun x => h (by rw [x]; exact List.mem_cons_self ..)
    rw [blw_cons, cut_other he h1]
    have := join_skip e l he r (fun x => h (List.mem_cons_of_mem _ x))
    unfold joinG at this
    rw [this]; rfl
theorem join_hit (e : Ent) (l : List Ent) (he : e.1 ≠ []) : ∀ G : List Stp, G.Pairwise ltS → hdS e ∈ G → (joinG (e :: l) G).Perm (e :: joinG l G)
  | [], _, h => by simp at h
  | s :: r, hp, h => by
    obtain ⟨h1, h2⟩ := List.pairwise_cons.1 hp
    by_cases hs : hdS e = s
    · have hn : hdS e ∉ r := by
        intro hm
        have := h1 _ hm
        rw [hs] at this
        exact ltS_irr s this
      have e1 := join_skip e l he r hn
      unfold joinG at e1 ⊢
      rw [List.flatMap_cons, List.flatMap_cons, e1, blw_cons]
      rw [← hs, (cut_head he).1]
      simp only [List.singleton_append, List.map_cons, List.cons_append]
      rw [(cut_head he).2, List.nil_append]
    · have hm : hdS e ∈ r := by
        rcases List.mem_cons.1 h with h | h
        · exact absurd h hs
        · exact h
      have ih := join_hit e l he r h2 hm
      unfold joinG at ih ⊢
      rw [List.flatMap_cons, List.flatMap_cons, blw_cons, cut_other he hs]
      simp only [List.nil_append]
      exact (ih.append_left _).trans List.perm_middle
theorem join_all : ∀ (l : List Ent) (G : List Stp), (∀ e ∈ l, e.1 ≠ [] ∧ hdS e ∈ G) → G.Pairwise ltS → (joinG l G).Perm l
  | [], G, _, _ => by
    have : ∀ G, joinG [] G = [] := by
      intro G
      unfold joinG
      induction G with
      | nil => rfl
      | cons s r ih => rw [List.flatMap_cons, ih]; rfl
    rw [this]
  | e :: l, G, h, hp => by
    obtain ⟨h1, h2⟩ := h e (List.mem_cons_self ..)
    exact (join_hit e l h1 G hp h2).trans ((join_all l G (fun x hx => h x (List.mem_cons_of_mem _ hx)) hp).cons e)
/-! what goes down to the entries behind a step -/
theorem blw_mem {l : List Ent} {s : Stp} {e : Ent} : e ∈ blw l s ↔ preE s e ∈ l := by
  unfold blw
  rw [List.mem_filterMap]
  constructor
  · rintro ⟨a, ha, hc⟩
    obtain ⟨p, d⟩ := a
    unfold cutS at hc
    cases p with
    | nil => cases hc
    | cons t r =>
      simp only at hc
      by_cases h : t = s
      · rw [if_pos h] at hc
        injection hc with hc
        subst hc; subst h
        exact ha
      · rw [if_neg h] at hc; cases hc
  · intro h
    exact ⟨_, h, by simp [cutS, preE]⟩
theorem blw_pair {l : List Ent} (s : Stp) (h : noClash l) : noClash (blw l s) := by
  unfold noClash blw at *
  rw [List.pairwise_filterMap]
  refine h.imp ?_
  intro a b hab a' ha' b' hb' hc
  apply hab
  have e1 : a = preE s a' := by
    obtain ⟨p, d⟩ := a
    unfold cutS at ha'
    cases p with
    | nil => cases ha'
    | cons t r =>
      simp only at ha'
      by_cases h : t = s
      · rw [if_pos h] at ha'; injection ha' with ha'; subst ha'; subst h; rfl
      · rw [if_neg h] at ha'; cases ha'
  have e2 : b = preE s b' := by
    obtain ⟨p, d⟩ := b
    unfold cutS at hb'
    cases p with
    | nil => cases hb'
    | cons t r =>
      simp only at hb'
      by_cases h : t = s
      · rw [if_pos h] at hb'; injection hb' with hb'; subst hb'; subst h; rfl
      · rw [if_neg h] at hb'; cases hb'
  rw [e1, e2, clash_pre]
  exact ⟨rfl, hc⟩
/-- what is asked of entries -/
def entOK (e : Ent) : Prop := okL e.1 = true ∧ leafB e.2 = true ∧ limD e.2 = true ∧ ∀ x ∈ e.1, x.lab.length ≤ 1000000
theorem kinds_all {l : List Ent} : kindsB l = true ↔ ∀ e ∈ l, okL e.1 = true ∧ leafB e.2 = true := by
  unfold kindsB
  rw [List.all_eq_true]
  simp only [Bool.and_eq_true]
theorem ok_pre {s : Stp} {e : Ent} (h : entOK (preE s e)) : okS s = true ∧ s.lab.length ≤ 1000000 ∧ entOK e := by
  obtain ⟨h1, h2, h3, h4⟩ := h
  obtain ⟨k1, k2⟩ := ok_cons.1 h1
  exact ⟨k1, h4 s (List.mem_cons_self ..), k2, h2, h3, fun x hx => h4 x (List.mem_cons_of_mem _ hx)⟩
theorem blw_len (l : List Ent) (s : Stp) : (blw l s).length ≤ l.length := List.length_filterMap_le ..
theorem grp_len (l : List Ent) : (grp l).length ≤ l.length := by
  induction l with
  | nil => exact Nat.le_refl _
  | cons a r ih =>
    have h : ∀ (x : Stp) (g : List Stp), (insS x g).length ≤ g.length + 1 := by
      intro x g
      induction g with
      | nil => simp [insS]
      | cons y t iht =>
        rw [insS]
        split
        · simp
        · split
          · simp
          · simp only [List.length_cons]; omega
    have := h (hdS a) (grp r)
    show (insS (hdS a) (grp r)).length ≤ (a :: r).length
    rw [List.length_cons]; omega
/-- valid but for its depth -/
def soundD (d : Dat) : Prop := ∀ b, chk d b = 0 ∨ chk d b = 9
theorem sound_parts {d : Dat} (ho : ownE d = 0) (hi : ∀ x ∈ d.its, soundD x) (hm : ∀ p ∈ d.mem, soundD p.2) : soundD d := by
  intro b
  rw [chk_eq]
  by_cases h : 16 < b
  · rw [if_pos h]; exact .inr rfl
  · rw [if_neg h, if_pos ho]
    have hI : ∀ its : List Dat, (∀ x ∈ its, soundD x) → chkI its (b + 1) = 0 ∨ chkI its (b + 1) = 9 := by
      intro its
      induction its with
      | nil => intro _; rw [chkI]; exact .inl rfl
      | cons x r ih =>
        intro hx
        rw [chkI]
        by_cases h0 : chk x (b + 1) = 0
        · rw [if_pos h0]; exact ih fun y hy => hx y (List.mem_cons_of_mem _ hy)
        · rw [if_neg h0]; exact hx x (List.mem_cons_self ..) _
    have hM : ∀ mem : List (List UInt8 × Dat), (∀ p ∈ mem, soundD p.2) → chkM mem (b + 1) = 0 ∨ chkM mem (b + 1) = 9 := by
      intro mem
      induction mem with
      | nil => intro _; rw [chkM]; exact .inl rfl
      | cons p r ih =>
        obtain ⟨l, x⟩ := p
        intro hx
        rw [chkM]
        by_cases h0 : chk x (b + 1) = 0
        · rw [if_pos h0]; exact ih fun y hy => hx y (List.mem_cons_of_mem _ hy)
        · rw [if_neg h0]; exact hx (l, x) (List.mem_cons_self ..) _
    by_cases h0 : chkI d.its (b + 1) = 0
    · rw [if_pos h0]; exact hM d.mem hm
    · rw [if_neg h0]; exact hI d.its hi
theorem sound_leaf {d : Dat} (h : leafB d = true) : soundD d := by
  obtain ⟨h1, h2, h3⟩ := leaf_iff.1 h
  exact sound_parts (chk_zero.1 h1).2.1 (by rw [h2]; simp) (by rw [h3]; simp)
/-- what Build hands back of a group -/
def goodD (d : Dat) (L : List Ent) : Prop := (entsD d).Perm L ∧ lbD d = true ∧ limD d = true ∧ soundD d
theorem bldAll_some {f : List Ent → Option Dat} {l : List Ent} : ∀ {G : List Stp} {t : List (Stp × Dat)}, bldAll f l G = some t → t.map (fun p => p.1) = G ∧ ∀ p ∈ t, f (blw l p.1) = some p.2
  | [], t, h => by
    rw [bldAll] at h; injection h with h; subst h
    exact ⟨rfl, fun p hp => by simp at hp⟩
  | s :: r, t, h => by
    rw [bldAll] at h
    cases hf : f (blw l s) with
    | none => rw [hf] at h; cases h
    | some x =>
      rw [hf, Option.bind_some] at h
      cases hr : bldAll f l r with
      | none => rw [hr] at h; cases h
      | some u =>
        rw [hr] at h
        injection h with h
        subst h
        obtain ⟨h1, h2⟩ := bldAll_some hr
        refine ⟨by rw [List.map_cons, h1], fun p hp => ?_⟩
        rcases List.mem_cons.1 hp with rfl | hp
        · exact hf
        · exact h2 p hp
theorem idx_asc : ∀ {t : List (Stp × Dat)} {i : Nat}, idxFrom (t.map fun p => p.1) i = true → (∀ p ∈ t, p.1.lab = []) ∧ entI (t.map fun p => p.2) i = t.flatMap fun p => (entsD p.2).map (preE p.1)
  | [], _, _ => ⟨by simp, rfl⟩
  | (s, x) :: r, i, h => by
    rw [List.map_cons, idxFrom, Bool.and_eq_true, Bool.and_eq_true, decide_eq_true_eq, decide_eq_true_eq] at h
    obtain ⟨⟨h1, h2⟩, h3⟩ := h
    obtain ⟨k1, k2⟩ := idx_asc h3
    refine ⟨fun p hp => ?_, ?_⟩
    · rcases List.mem_cons.1 hp with rfl | hp
      · exact h1
      · exact k1 p hp
    · rw [List.map_cons, entI, k2, List.flatMap_cons]
      have : s = ⟨[], (i : Int)⟩ := stp_ext h1 h2
      rw [this]
theorem flat_good {l : List Ent} {t : List (Stp × Dat)} (ht : ∀ p ∈ t, (entsD p.2).Perm (blw l p.1)) : (t.flatMap fun p => (entsD p.2).map (preE p.1)).Perm (joinG l (t.map fun p => p.1)) := by
  induction t with
  | nil => exact List.Perm.refl _
  | cons p r ih =>
    unfold joinG at *
    rw [List.flatMap_cons, List.map_cons, List.flatMap_cons]
    exact ((ht p (List.mem_cons_self ..)).map _).append (ih fun q hq => ht q (List.mem_cons_of_mem _ hq))
theorem lab_asc : ∀ {t : List (Stp × Dat)}, (t.map fun p => p.1).Pairwise ltS → (∀ p ∈ t, p.1.lab ≠ [] ∧ p.1.idx = 0) → ascM (t.map fun p => (p.1.lab, p.2)) = true
  | [], _, _ => rfl
  | q :: r, h, hl => by
    rw [List.map_cons] at h ⊢
    obtain ⟨h1, h2⟩ := List.pairwise_cons.1 h
    rw [ascM_cons]
    refine ⟨?_, lab_asc h2 fun p hp => hl p (List.mem_cons_of_mem _ hp)⟩
    intro y hy
    obtain ⟨p, hp, rfl⟩ := List.mem_map.1 hy
    have h3 := h1 p.1 (List.mem_map.2 ⟨p, hp, rfl⟩)
    have k1 := hl q (List.mem_cons_self ..)
    have k2 := hl p (List.mem_cons_of_mem _ hp)
    rcases h3 with ⟨-, b⟩ | ⟨-, -, c⟩ | ⟨a, b⟩
    · exact absurd b k2.1
    · exact c
    · omega
theorem entM_flat : ∀ {t : List (Stp × Dat)}, (∀ p ∈ t, p.1.idx = 0) → entM (t.map fun p => (p.1.lab, p.2)) = t.flatMap fun p => (entsD p.2).map (preE p.1)
  | [], _ => rfl
  | q :: r, h => by
    rw [List.map_cons, entM, entM_flat fun p hp => h p (List.mem_cons_of_mem _ hp), List.flatMap_cons]
    have : (⟨q.1.lab, 0⟩ : Stp) = q.1 := stp_ext rfl (h q (List.mem_cons_self ..)).symm
    simp only
    rw [this]
theorem flat_bld : ∀ (f : Nat) (L : List Ent) (d : Dat), bld f L = some d → L ≠ [] → noClash L → (∀ e ∈ L, entOK e) → L.length ≤ 1000000 → goodD d L
  | 0, _, _, h, _, _, _, _ => by rw [bld] at h; cases h
  | f + 1, L, d, h, hn, hc, hk, hl => by
    by_cases h0 : ∃ e ∈ L, e.1 = []
    · obtain ⟨e, he, h0⟩ := h0
      have e1 := clash_one hc he h0
      obtain ⟨p, x⟩ := e
      have hp : p = [] := h0
      subst hp
      subst e1
      have hx : bld (f + 1) [([], x)] = some x := rfl
      rw [hx] at h
      injection h with h
      subst h
      obtain ⟨-, k2, k3, -⟩ := hk _ he
      obtain ⟨-, l2, l3⟩ := leaf_iff.1 k2
      refine ⟨by rw [ents_leaf l2 l3], ?_, k3, sound_leaf k2⟩
      rw [lbD_eq, l2, l3, lbI, lbM]; rfl
    · have hne : ∀ e ∈ L, e.1 ≠ [] := fun e he h1 => h0 ⟨e, he, h1⟩
      have hG := grp_sort L
      have hjoin : (joinG L (grp L)).Perm L := join_all L (grp L) (fun e he => ⟨hne e he, grp_mem.2 ⟨e, he, rfl⟩⟩) hG
      have hgn : grp L ≠ [] := by
        intro e
        rw [e] at hjoin
        exact hn hjoin.symm.eq_nil
      have hgl := grp_len L
      -- what a group gives
      have hgrp : ∀ s ∈ grp L, okS s = true ∧ s.lab.length ≤ 1000000 ∧ ∀ x, bld f (blw L s) = some x → goodD x (blw L s) := by
        intro s hs
        obtain ⟨e, he, hes⟩ := grp_mem.1 hs
        have hpe : preE s (e.1.tail, e.2) = e := by rw [← hes]; exact (cut_head (hne e he)).2
        have hk1 := hk e he
        rw [← hpe] at hk1
        obtain ⟨q1, q2, -⟩ := ok_pre hk1
        refine ⟨q1, q2, fun x hx => flat_bld f _ x hx ?_ (blw_pair s hc) (fun y hy => (ok_pre (hk _ (blw_mem.1 hy))).2.2) (Nat.le_trans (blw_len L s) hl)⟩
        intro e0
        have : (e.1.tail, e.2) ∈ blw L s := blw_mem.2 (by rw [hpe]; exact he)
        rw [e0] at this; simp at this
      rw [bld_step hne] at h
      by_cases hal : allLab (grp L) = true
      · rw [if_pos hal] at h
        cases ht : bldAll (bld f) L (grp L) with
        | none => rw [ht] at h; cases h
        | some t =>
          rw [ht] at h
          injection h with h
          subst h
          obtain ⟨t1, t2⟩ := bldAll_some ht
          have hmem : ∀ p ∈ t, p.1 ∈ grp L := fun p hp => by rw [← t1]; exact List.mem_map.2 ⟨p, hp, rfl⟩
          have hlab : ∀ p ∈ t, p.1.lab ≠ [] ∧ p.1.idx = 0 := by
            intro p hp
            have h1 := (List.all_eq_true.1 hal) _ (hmem p hp)
            have h1' : p.1.lab ≠ [] := of_decide_eq_true h1
            have h2 := (hgrp _ (hmem p hp)).1
            unfold okS at h2
            rw [if_neg h1'] at h2
            exact ⟨h1', of_decide_eq_true h2⟩
          have hgood : ∀ p ∈ t, goodD p.2 (blw L p.1) := fun p hp => (hgrp _ (hmem p hp)).2.2 _ (t2 p hp)
          have hasc : ascM (t.map fun p => (p.1.lab, p.2)) = true := lab_asc (by rw [t1]; exact hG) hlab
          have htn : t ≠ [] := by intro e; rw [e] at t1; exact hgn t1.symm
          have hlb : lbD (.mk 6 0 [] [] (t.map fun p => (p.1.lab, p.2))) = true := by
            rw [lbD_eq]
            show (lbI [] && lbM (t.map fun p => (p.1.lab, p.2))) = true
            rw [lbI, Bool.true_and, lbM_all]
            intro q hq
            obtain ⟨p, hp, rfl⟩ := List.mem_map.1 hq
            exact ⟨(hlab p hp).1, (hgood p hp).2.1⟩
          refine ⟨?_, hlb, ?_, ?_⟩
          · rw [ents_parts (d := Dat.mk 6 0 [] [] (t.map fun (p : Stp × Dat) => (p.1.lab, p.2))) hasc hlb (by
              cases t with
              | nil => exact absurd rfl htn
              | cons a b => rfl)]
            show (entI [] 0 ++ entM (t.map fun p => (p.1.lab, p.2))).Perm L
            rw [entI, List.nil_append, entM_flat fun p hp => (hlab p hp).2]
            have := flat_good (l := L) (t := t) fun p hp => (hgood p hp).1
            rw [t1] at this
            exact this.trans hjoin
          · refine lim_iff.2 ⟨Nat.zero_le _, Nat.zero_le _, ?_, by intro x hx; simp [Dat.its] at hx, ?_⟩
            · show (t.map fun p => (p.1.lab, p.2)).length ≤ 1000000
              have : t.length = (grp L).length := by rw [← t1, List.length_map]
              rw [List.length_map]; omega
            · intro q hq
              obtain ⟨p, hp, rfl⟩ := List.mem_map.1 (show q ∈ t.map fun p => (p.1.lab, p.2) from hq)
              exact ⟨(hgrp _ (hmem p hp)).2.1, (hgood p hp).2.2.1⟩
          · refine sound_parts ?_ (by intro x hx; simp [Dat.its] at hx) ?_
            · unfold ownE
              have h1 : plainB (.mk 6 0 [] [] (t.map fun p => (p.1.lab, p.2))) = true := plain_iff.2 ⟨⟨show (1 : Int) ≤ 6 by decide, show (6 : Int) ≤ 6 by decide⟩, .inr (.inr rfl), .inr rfl, .inr rfl, .inl rfl⟩
              have h2 : badNum (.mk 6 0 [] [] (t.map fun p => (p.1.lab, p.2))) = false := rfl
              rw [if_neg (by rw [h1]; decide), if_neg (by rw [h2]; decide), if_neg (by show ¬ ascM (t.map fun p => (p.1.lab, p.2)) = false; rw [hasc]; decide)]
            · intro q hq
              obtain ⟨p, hp, rfl⟩ := List.mem_map.1 (show q ∈ t.map fun p => (p.1.lab, p.2) from hq)
              exact (hgood p hp).2.2.2
      · rw [if_neg hal] at h
        by_cases hix : idxFrom (grp L) 0 = true
        · rw [if_pos hix] at h
          cases ht : bldAll (bld f) L (grp L) with
          | none => rw [ht] at h; cases h
          | some t =>
            rw [ht] at h
            injection h with h
            subst h
            obtain ⟨t1, t2⟩ := bldAll_some ht
            have hmem : ∀ p ∈ t, p.1 ∈ grp L := fun p hp => by rw [← t1]; exact List.mem_map.2 ⟨p, hp, rfl⟩
            have hgood : ∀ p ∈ t, goodD p.2 (blw L p.1) := fun p hp => (hgrp _ (hmem p hp)).2.2 _ (t2 p hp)
            have htn : t ≠ [] := by intro e; rw [e] at t1; exact hgn t1.symm
            have hi2 := idx_asc (t := t) (i := 0) (by rw [t1]; exact hix)
            have hlb : lbD (.mk 5 0 [] (t.map fun p => p.2) []) = true := by
              rw [lbD_eq]
              show (lbI (t.map fun p => p.2) && lbM []) = true
              rw [lbM, Bool.and_true, lbI_all]
              intro q hq
              obtain ⟨p, hp, rfl⟩ := List.mem_map.1 hq
              exact (hgood p hp).2.1
            refine ⟨?_, hlb, ?_, ?_⟩
            · rw [ents_parts (d := .mk 5 0 [] (t.map fun p => p.2) []) rfl hlb (by
                cases t with
                | nil => exact absurd rfl htn
                | cons a b => rfl)]
              show (entI (t.map fun p => p.2) 0 ++ entM []).Perm L
              rw [entM, List.append_nil, hi2.2]
              have := flat_good (l := L) (t := t) fun p hp => (hgood p hp).1
              rw [t1] at this
              exact this.trans hjoin
            · refine lim_iff.2 ⟨Nat.zero_le _, ?_, Nat.zero_le _, ?_, by intro x hx; simp [Dat.mem] at hx⟩
              · show (t.map fun p => p.2).length ≤ 1000000
                have : t.length = (grp L).length := by rw [← t1, List.length_map]
                rw [List.length_map]; omega
              · intro q hq
                obtain ⟨p, hp, rfl⟩ := List.mem_map.1 (show q ∈ t.map fun p => p.2 from hq)
                exact (hgood p hp).2.2.1
            · refine sound_parts ?_ ?_ (by intro x hx; simp [Dat.mem] at hx)
              · unfold ownE
                have h1 : plainB (.mk 5 0 [] (t.map fun p => p.2) []) = true := plain_iff.2 ⟨⟨show (1 : Int) ≤ 5 by decide, show (5 : Int) ≤ 6 by decide⟩, .inr (.inr rfl), .inr rfl, .inl rfl, .inr rfl⟩
                have h2 : badNum (.mk 5 0 [] (t.map fun p => p.2) []) = false := rfl
                rw [if_neg (by rw [h1]; decide), if_neg (by rw [h2]; decide), if_neg (by show ¬ ascM [] = false; decide)]
              · intro q hq
                obtain ⟨p, hp, rfl⟩ := List.mem_map.1 (show q ∈ t.map fun p => p.2 from hq)
                exact (hgood p hp).2.2.2
        · rw [if_neg hix] at h; cases h
/-- THE LAW OF Flatten AND Build -/
theorem flat_build {L : List Ent} {d : Dat} (h : buildD L = (d, 0)) (hk : ∀ e ∈ L, limD e.2 = true ∧ ∀ x ∈ e.1, x.lab.length ≤ 1000000) (hl : L.length ≤ 1000000) : (entsD d).Perm L ∧ chk d 1 = 0 ∧ lbD d = true ∧ limD d = true ∧ kindsB L = true := by
  unfold buildD at h
  by_cases h1 : kindsB L = false
  · rw [if_pos h1] at h; injection h with _ h; cases h
  · rw [if_neg h1] at h
    have hkk : kindsB L = true := by simpa using h1
    by_cases h2 : twiceB L = true
    · rw [if_pos h2] at h; injection h with _ h; cases h
    · rw [if_neg h2] at h
      have hcc : noClash L := twice_iff.1 (by simpa using h2)
      by_cases h3 : L = []
      · rw [if_pos h3] at h; injection h with _ h; cases h
      · rw [if_neg h3] at h
        cases hb : bld (maxP L + 1) L with
        | none => rw [hb] at h; injection h with _ h; cases h
        | some x =>
          rw [hb] at h
          simp only at h
          by_cases h4 : chk x 1 = 0
          · rw [if_pos h4] at h
            injection h with h _
            subst h
            have hg := flat_bld _ L x hb h3 hcc (fun e he => ⟨(kinds_all.1 hkk e he).1, (kinds_all.1 hkk e he).2, (hk e he).1, (hk e he).2⟩) hl
            exact ⟨hg.1, h4, hg.2.1, hg.2.2.1, hkk⟩
          · rw [if_neg h4] at h; injection h with _ h; cases h
end
section
open Go

/-- the pieces between the bytes c -/
def splitC (c : UInt8) : List UInt8 → List (List UInt8)
  | [] => [[]]
  | b :: r => if b = c then [] :: splitC c r else
    match splitC c r with
    | [] => [[b]]
    | p :: ps => (b :: p) :: ps
theorem splitC_ne (c : UInt8) (l : List UInt8) : splitC c l ≠ [] := by
  cases l with
  | nil => simp [splitC]
  | cons b r =>
    unfold splitC
    split
    · simp
    · split <;> simp
theorem splitC_app (c : UInt8) (a r : List UInt8) (h : ∀ x ∈ a, x ≠ c) : splitC c (a ++ c :: r) = a :: splitC c r := by
  induction a with
  | nil => simp [splitC]
  | cons b a ih =>
    have hb := h b (List.mem_cons_self ..)
    rw [List.cons_append, splitC, if_neg hb, ih (fun x hx => h x (List.mem_cons_of_mem _ hx))]
theorem splitC_one (c : UInt8) (a : List UInt8) (h : ∀ x ∈ a, x ≠ c) : splitC c a = [a] := by
  induction a with
  | nil => rfl
  | cons b a ih =>
    have hb := h b (List.mem_cons_self ..)
    rw [splitC, if_neg hb, ih (fun x hx => h x (List.mem_cons_of_mem _ hx))]
theorem indexByte_hit (c : UInt8) (a r : List UInt8) (h : ∀ x ∈ a, x ≠ c) : Lib.indexByte (a ++ c :: r) c = a.length := by
  induction a with
  | nil => simp [Lib.indexByte]
  | cons b a ih =>
    have hb := h b (List.mem_cons_self ..)
    rw [List.cons_append, Lib.indexByte, if_neg (by simpa using hb), ih (fun x hx => h x (List.mem_cons_of_mem _ hx)), if_neg (by simp), List.length_cons]
    omega
theorem split_mem (c : UInt8) (l : List UInt8) (h : c ∈ l) : ∃ a r, l = a ++ c :: r ∧ ∀ x ∈ a, x ≠ c := by
  induction l with
  | nil => cases h
  | cons b l ih =>
    by_cases hb : b = c
    · exact ⟨[], l, by rw [hb]; rfl, by simp⟩
    · have h' : c ∈ l := by
        rcases List.mem_cons.1 h with h1 | h1
        · exact absurd h1.symm hb
        · exact h1
      obtain ⟨a, r, e, ha⟩ := ih h'
      exact ⟨b :: a, r, by rw [e]; rfl, by
        intro x hx
        rcases List.mem_cons.1 hx with h1 | h1
        · rw [h1]; exact hb
        · exact ha x h1⟩
theorem splitK_one (c : UInt8) (l : List UInt8) : Lib.splitK [c] 0 (l.count c) l = splitC c l := by
  induction hn : l.length using Nat.strongRecOn generalizing l with
  | _ n ih =>
    by_cases h : c ∈ l
    · obtain ⟨a, r, e, ha⟩ := split_mem c l h
      have hc : l.count c = r.count c + 1 := by
        rw [e, List.count_append, List.count_cons_self, List.count_eq_zero.2 (fun hx => ha c hx rfl)]; omega
      have hi : Lib.index l [c] = a.length := by rw [Lib.index_one, e]; exact indexByte_hit c a r ha
      rw [hc, Lib.splitK, hi, if_neg (by simp)]
      rw [show ((a.length : Nat) : Int).toNat + 0 = a.length by omega, show ((a.length : Nat) : Int).toNat + [c].length = a.length + 1 by simp]
      have e1 : l.take a.length = a := by rw [e]; simp
      have e2 : l.drop (a.length + 1) = r := by rw [e, ← List.drop_drop]; simp
      rw [e1, e2, ih r.length (by rw [← hn, e]; simp; omega) r rfl, e, splitC_app c a r ha]
    · rw [List.count_eq_zero.2 h, Lib.splitK, splitC_one c l (fun x hx e => h (e ▸ hx))]
theorem splitC_len (c : UInt8) (l : List UInt8) : (splitC c l).length = l.count c + 1 := by
  induction hn : l.length using Nat.strongRecOn generalizing l with
  | _ n ih =>
    by_cases h : c ∈ l
    · obtain ⟨a, r, e, ha⟩ := split_mem c l h
      have hc : l.count c = r.count c + 1 := by
        rw [e, List.count_append, List.count_cons_self, List.count_eq_zero.2 (fun hx => ha c hx rfl)]; omega
      rw [hc]
      conv => lhs; rw [e, splitC_app c a r ha]
      rw [List.length_cons, ih r.length (by rw [← hn, e]; simp; omega) r rfl]
    · rw [List.count_eq_zero.2 h, splitC_one c l (fun x hx e => h (e ▸ hx))]; rfl
theorem countB_one (c : UInt8) (l : List UInt8) : Lib.countB (S l) (S [c]) + 1 = (splitC c l).length := by
  rw [splitC_len, ← Lib.count_one]; rfl
theorem splitB_one (c : UInt8) (l : List UInt8) : Lib.splitB (S [c]) 0 (Lib.countB (S l) (S [c])) (S l) = (splitC c l).map S := by
  have h := Lib.splitB_data (S [c]) 0 (Lib.countB (S l) (S [c])) (S l)
  have h2 : Lib.splitK (S [c]).data.toList 0 (Lib.countB (S l) (S [c])) (S l).data.toList = splitC c l := by
    rw [← splitK_one, ← Lib.count_one]; rfl
  rw [h2] at h
  rw [← h, List.map_map]
  conv => lhs; rw [← List.map_id (Lib.splitB (S [c]) 0 (Lib.countB (S l) (S [c])) (S l))]
  apply List.map_congr_left
  intro x _
  cases x; rfl
/-- the pieces are no longer than the text -/
theorem splitC_mem_len (c : UInt8) (l : List UInt8) : ∀ p ∈ splitC c l, p.length ≤ l.length := by
  induction l with
  | nil => simp [splitC]
  | cons b r ih =>
    unfold splitC
    split
    · intro p hp
      rcases List.mem_cons.1 hp with h | h
      · rw [h]; simp
      · have := ih p h; simp; omega
    · split
      · intro p hp; simp at hp; rw [hp]; simp
      · rename_i q qs hq
        intro p hp
        rcases List.mem_cons.1 hp with h | h
        · have := ih q (by rw [hq]; exact List.mem_cons_self ..)
          rw [h]; simp; omega
        · have := ih p (by rw [hq]; exact List.mem_cons_of_mem _ h)
          simp; omega
end
end Go.Proofs.YtoahmganodehkaaGreatDoor
