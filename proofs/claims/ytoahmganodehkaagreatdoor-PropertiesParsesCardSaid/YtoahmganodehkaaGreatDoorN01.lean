import Derived.OrdersHeld
import Derived.ProofKit
import Derived.WalkKit
import Derived.WalkSpells
import Derived.WalkLawsBesides
import Derived.Lib.Hide
import Derived.Lib.AppendStr
import Derived.BigQuiet
import Derived.Deep.QuietTactic
import Derived.Lib.ItoaNum
import Derived.Lib.ParseIntB
import Derived.Lib.Split
import Derived.Lib.SplitLaws
import Derived.Lib.IndexBytes
import Derived.Lib.IndexMore
import Derived.Lib.ItoaMem
namespace Go.Proofs.YtoahmganodehkaaGreatDoor
set_option linter.unusedSimpArgs false
set_option linter.unusedVariables false
section
open Go.RowKit
theorem gA {α : Type _} {xs : List α} {i : Nat} (h : i < xs.toArray.size) : xs.toArray[i] = xs[i]'h := rfl
theorem gB {α : Type _} {a : α} {as : List α} (h : 0 < (a :: as).length) : (a :: as)[0] = a := rfl
theorem gC {α : Type _} {a : α} {as : List α} {i : Nat} (h : i + 1 < (a :: as).length) : (a :: as)[i + 1] = as[i]'(Nat.lt_of_succ_lt_succ h) := rfl
theorem pB {α : Type _} (l : List α) (i : Nat) (a : α) : l.toArray.setIfInBounds i a = (l.set i a).toArray := List.setIfInBounds_toArray ..
theorem pC {α : Type _} {x : α} {l : List α} {a : α} : (x :: l).set 0 a = a :: l := rfl
theorem pD {α : Type _} {x : α} {l : List α} {i : Nat} {a : α} : (x :: l).set (i + 1) a = x :: l.set i a := rfl
section
variable {P : Program} {md : Region.Mode} {ops : Array Oper} {Q : Exit → Act → World → Prop} {S : World → Prop}
theorem tR {i : Nat} {oi : Oper} {v : Value} {fuel : Nat} {listed : Array Bool} {a : Act} {w : World} (hS : S w) (h : wpAnyH P md ops Q S fuel (listed.setIfInBounds i true) (a.put oi.dst v) w)
   (hi : ops[i]? = some oi := by exact rfl) (hs : Region.noSelect ops = true := by kernel_rfl) (hf : Region.free md ops listed i = true := by kernel_rfl) (hr : (Region.ready md ops listed).contains i = true := by kernel_rfl)
   (hQ : ∀ c a w, Q (.panic c) (a.put oi.dst v) w → Q (.panic c) a w := by exact fun _ _ _ h => h) (hy : YieldsIf P ops S oi v a := by exact Or.inr ⟨by rfl, rfl⟩) : wpAnyH P md ops Q S (fuel + 1) listed a w :=
 wpAnyH_take hi hs hf hr hQ hy hS h
theorem tL {i : Nat} {oi : Oper} {v : Value} {fuel : Nat} {listed : Array Bool} {a : Act} {w : World} (hS : S w) (h : wpAnyH P md ops Q S fuel (listed.setIfInBounds i true) (a.put oi.dst v) w)
   (hi : ops[i]? = some oi := by exact rfl) (hs : Region.noSelect ops = true := by kernel_rfl) (hf : Region.free md ops listed i = true := by kernel_rfl) (hr : (Region.ready md ops listed).contains i = true := by kernel_rfl)
   (hQ : ∀ c a w, Q (.panic c) (a.put oi.dst v) w → Q (.panic c) a w := by exact fun _ _ _ h => h)
   (hy : YieldsIf P ops S oi v a := by exact Or.inl ⟨by rfl, by (intro v hSw; (try dsimp only at hSw); try simp only [List.getElem_toArray, List.getElem_cons_zero, List.getElem_cons_succ]; go_simp; (try with_reducible rfl))⟩) : wpAnyH P md ops Q S (fuel + 1) listed a w :=
 wpAnyH_take hi hs hf hr hQ hy hS h
end
end
section
end
section
def vld (u : Int) : Bool := decide (-1000000000000000 ≤ u) && decide (u ≤ 1000000000000000)
theorem vld_iff (u : Int) : vld u = true ↔ -1000000000000000 ≤ u ∧ u ≤ 1000000000000000 := by simp [vld]
theorem abs_lt {u : Int} (h : vld u = true) : u.natAbs ≤ 1000000000000000 := by rw [vld_iff] at h; omega
theorem long_div (a b : Nat) (hb : 0 < b) : (a * 10000) / b = a / b * 10000 + (a % b * 10000) / b ∧ (a * 10000) % b = (a % b * 10000) % b := by
 have e : a * 10000 = a % b * 10000 + b * (a / b * 10000) := by
   conv => lhs; rw [← Nat.div_add_mod a b]
   rw [Nat.add_mul, Nat.mul_assoc]; omega
 rw [e, Nat.add_mul_div_left _ _ hb, Nat.add_mul_mod_self_left]
 exact ⟨Nat.add_comm _ _, rfl⟩
theorem long_step (r b d x : Nat) (h : d * b + r = x) : (d * 10 + r * 10 / b) * b + r * 10 % b = x * 10 := by
 have h1 := Nat.div_add_mod (r * 10) b
 rw [Nat.add_mul, Nat.mul_comm (r * 10 / b) b, Nat.mul_right_comm]
 omega
end
section
open Go.RowKit
def S (l : List UInt8) : ByteArray := ⟨l.toArray⟩
def byt (l : List UInt8) (k : Nat) : UInt8 := l.getD k 0
def sl (l : List UInt8) (a b : Nat) : List UInt8 := (l.drop a).take (b - a)
def ct (a b : List UInt8) : List UInt8 := a ++ b
theorem S_data (l : List UInt8) : (S l).data.toList = l := rfl
@[go_sem] theorem S_size (l : List UInt8) : (S l).size = l.length := rfl
@[go_sem] theorem S_toList (l : List UInt8) : (S l).toList = l := ByteArray.toList_mk l
theorem S_get? (l : List UInt8) (k : Nat) (h : k < (S l).size) : (S l)[k]'h = byt l k := by
 have h' : k < l.length := h
 have e : (S l)[k]'h = l[k]'h' := rfl
 rw [e]; simp [byt, List.getD, List.getElem?_eq_getElem h']
@[go_sem] theorem S_get (l : List UInt8) (k : Nat) (h : k < (S l).size) : (S l)[k]'h = byt l k := S_get? l k h
@[go_sem] theorem S_extract (l : List UInt8) (a b : Nat) : (S l).extract a b = S (sl l a b) := by
 unfold S sl; rw [ByteArray.extract_mk]
@[go_sem] theorem S_append (a b : List UInt8) : S a ++ S b = S (ct a b) := by
 unfold S ct; rw [ByteArray.mk_append_mk]
@[go_sem] theorem S_append_mk (a b : List UInt8) : S a ++ ByteArray.mk b.toArray = S (ct a b) := S_append a b
@[go_sem] theorem mk_append_S (a b : List UInt8) : ByteArray.mk a.toArray ++ S b = S (ct a b) := S_append a b
@[go_sem] theorem mk_append_mk (a b : List UInt8) : ByteArray.mk a.toArray ++ ByteArray.mk b.toArray = S (ct a b) := S_append a b
@[go_sem] theorem mk_extract (l : List UInt8) (a b : Nat) : (ByteArray.mk l.toArray).extract a b = S (sl l a b) := S_extract l a b
theorem ct_eq (a b : List UInt8) : ct a b = a ++ b := rfl
@[go_sem] theorem ct_len (a b : List UInt8) : (ct a b).length = a.length + b.length := List.length_append
theorem sl_len (l : List UInt8) (a b : Nat) (h : a ≤ b) (hb : b ≤ l.length) : (sl l a b).length = b - a := by
 unfold sl; rw [List.length_take, List.length_drop]; omega
theorem sl_le (l : List UInt8) (a b : Nat) : (sl l a b).length ≤ b - a := by unfold sl; rw [List.length_take]; omega
theorem sl_from (l : List UInt8) (a : Nat) : sl l a l.length = l.drop a := by
 unfold sl; rw [List.take_of_length_le]; rw [List.length_drop]; omega
theorem sl_to (l : List UInt8) (b : Nat) : sl l 0 b = l.take b := by unfold sl; rfl
theorem byt_lt (l : List UInt8) (k : Nat) : (byt l k).toNat < 256 := (byt l k).toNat_lt
theorem byt_get (l : List UInt8) (k : Nat) (h : k < l.length) : byt l k = l[k] := by simp [byt, List.getD, List.getElem?_eq_getElem h]
theorem drop_byt (l : List UInt8) (k : Nat) (h : k < l.length) : l.drop k = byt l k :: l.drop (k + 1) := by
 rw [byt_get l k h]; exact List.drop_eq_getElem_cons h
theorem take_byt (l : List UInt8) (k : Nat) (h : k < l.length) : l.take (k + 1) = l.take k ++ [byt l k] := by
 rw [byt_get l k h, List.take_succ_eq_append_getElem h]
theorem u8_eq {c : UInt8} {n : Nat} (hn : n < 256) : ((c.toNat : Int) == (n : Int)) = decide (c = UInt8.ofNat n) := by
 by_cases h : c = UInt8.ofNat n
 · subst h; simp [Nat.mod_eq_of_lt hn]
 · have : c.toNat ≠ n := fun e => h (by rw [← e]; simp)
   simp [h]; omega
theorem u8_ofNat_toNat (n : Nat) (hn : n < 256) : (UInt8.ofNat n).toNat = n := by simp [Nat.mod_eq_of_lt hn]
theorem u8_ne {c d : UInt8} (h : ¬ c = d) : ((c.toNat : Int) == (d.toNat : Int)) = false := by
 have : c.toNat ≠ d.toNat := fun e => h (UInt8.toNat_inj.1 e)
 simp; omega
theorem encode_S (c : UInt8) (h : c.toNat < 128) : Utf8.encode (c.toNat : Int) = S [c] := by
 unfold Utf8.encode
 have hv : Utf8.valid (c.toNat : Int) = true := by simp [Utf8.valid]; omega
 simp [hv, h, S]
def bcells (l : List UInt8) : List Value := l.map fun c => Value.int .u8 (c.toNat : Int)
theorem bcells_append (a b : List UInt8) : bcells a ++ bcells b = bcells (a ++ b) := (List.map_append ..).symm
section
variable {P : Program}
theorem conv_at (w : World) (src dst e : TypeId) (a : Addr) (cap : Nat) (l : List UInt8) (hs : P.underlying src = some (.slice e)) (he : P.underlying e = some (.int .u8)) (hd : P.underlying dst = some .string)
   (hc : ∀ j u, (bcells l)[j]? = some u → w.cell? (a.add j) = some u) :
   (convert src dst (.slice (some a) l.length cap)).run P w = .ok (.string (S l)) w :=
 run_convert_bytes_back w src dst e a cap l hs he hd fun j hj => hc j _ (by simp [bcells, List.getElem?_eq_getElem hj])
theorem conv_nil (w : World) (src dst e : TypeId) (hs : P.underlying src = some (.slice e)) (he : P.underlying e = some (.int .u8)) (hd : P.underlying dst = some .string) :
   (convert src dst (.slice none 0 0)).run P w = .ok (.string (S [])) w := by
 rw [run_convert_bytes_string w src dst e none 0 0 hs he hd]
 unfold Conv.bytesToString
 simp [Sem.run_pure, S]
 rfl
theorem conv_own (w : World) (src dst e : TypeId) (base : Nat) (v : Value) (l : List UInt8) (hs : P.underlying src = some (.slice e)) (he : P.underlying e = some (.int .u8)) (hd : P.underlying dst = some .string)
   (hown : w.ownsRow base e 1 v l.length (bcells l)) : (convert src dst v).run P w = .ok (.string (S l)) w := by
 rcases hown.2 with ⟨rfl, h0⟩ | ⟨g, cap, cur, rfl, _⟩
 · obtain rfl := List.eq_nil_of_length_eq_zero h0
   exact conv_nil w src dst e hs he hd
 · exact conv_at w src dst e _ cap l hs he hd (hown.cells (g := g) rfl)
theorem conv_one (w : World) (src dst e t : TypeId) (c : UInt8) (cap : Nat) (hs : P.underlying src = some (.slice e)) (he : P.underlying e = some (.int .u8)) (hd : P.underlying dst = some .string) :
   (convert src dst (.slice (some ⟨w.heap.size, 0, none⟩) 1 cap)).run P (w.alloc (.cells #[.int .u8 (c.toNat : Int)] t)) = .ok (.string (S [c])) (w.alloc (.cells #[.int .u8 (c.toNat : Int)] t)) :=
 conv_at _ src dst e _ cap [c] hs he hd (cell_one_new _ _ _)
end
theorem below_drewN {B : Nat} {a w : World} (h : Below B a w) (n : Nat) : Below B a (w.drewN n) := ⟨h.os, h.tape, h.output, h.size, h.block⟩
theorem quiet_left {P : Program} {f : FuncId} {args : Array Value} {w : World} {n : Nat} {v : Value}
   (h : Calls P f args (w.drewN n) fun e w' => e = .returned v ∧ w.drewN n = w') : Calls P f args (w.drewN n) fun e w'' => e = .returned v ∧ ∃ m, w'' = w.drewN m :=
 h.mono fun _ _ ⟨he, hm⟩ => ⟨he, n, hm.symm⟩
theorem ownsRow_pos {W : World} {base : Nat} {e : TypeId} {size : Nat} {v : Value} {k : Nat} {xs : List Value} (h : W.ownsRow base e size v k xs) (hk : 0 < k) : ∃ g cap, v = .slice (some ⟨g, 0, none⟩) k cap := by
 rcases h.2 with ⟨_, h0⟩ | ⟨g, cap, _, rfl, _⟩
 · omega
 · exact ⟨g, cap, rfl⟩
theorem own_base {W : World} {base : Nat} {e : TypeId} {size : Nat} {v : Value} {k : Nat} {xs : List Value} (h : W.ownsRow base e size v k xs) : ∀ j, v.ownBlock = some j → base ≤ j ∧ ∃ cur, W.heap[j]? = some (.cells cur e (0, 0)) := by
 intro j ej
 rcases h.2 with ⟨rfl, _⟩ | ⟨g, cap, cur, rfl, hb, hg, _⟩
 · simp [Value.ownBlock] at ej
 · obtain rfl : g = j := by simpa [Value.ownBlock] using ej
   exact ⟨hb, cur, hg⟩
theorem own_below1 {B : Nat} {w0 W w1 : World} {e : TypeId} {size : Nat} {v : Value} {k : Nat} {xs : List Value} {o : Obj} (hB : Below B w0 W) (h : W.ownsRow B e size v k xs) (hgrow : (W.alloc o).grownBy w1 v.ownBlock)
   (hs : B ≤ W.heap.size) : Below B w0 w1 :=
 (hB.alloc hs _).grown hgrow (by simp; omega) (fun j ej => (own_base h j ej).1)
theorem own_under {W w1 : World} {base : Nat} {e : TypeId} {size : Nat} {v : Value} {k : Nat} {xs : List Value} (h : W.ownsRow base e size v k xs) (hb : Below W.heap.size W w1) : w1.ownsRow base e size v k xs := by
 refine ⟨h.1, ?_⟩
 rcases h.2 with hn | ⟨g, cap, cur, rfl, hb0, hg, hr⟩
 · exact .inl hn
 · exact .inr ⟨g, cap, cur, rfl, hb0, (hb.block g (Array.getElem?_eq_some_iff.1 hg).1).trans hg, hr⟩
def Two (W : World) (B : Nat) (t : TypeId) (u v : Value) : Prop := W.heap[B]? = some (.cells #[u, v] t (0, 0))
theorem Two.lt {W : World} {B : Nat} {t : TypeId} {u v : Value} (h : Two W B t u v) : B < W.heap.size := (Array.getElem?_eq_some_iff.1 h).1
theorem Two.cell0 {W : World} {B : Nat} {t : TypeId} {u v : Value} (h : Two W B t u v) : W.cell? ⟨B, 0, none⟩ = some u := by simp [World.cell?, show W.heap[B]? = _ from h]
theorem Two.cell1 {W : World} {B : Nat} {t : TypeId} {u v : Value} (h : Two W B t u v) : W.cell? ⟨B, 1, none⟩ = some v := by simp [World.cell?, show W.heap[B]? = _ from h]
theorem Two.frozen0 {W : World} {B : Nat} {t : TypeId} {u v : Value} (h : Two W B t u v) : W.frozen? ⟨B, 0, none⟩ = false := by simp [World.frozen?, show W.heap[B]? = _ from h]
theorem Two.frozen1 {W : World} {B : Nat} {t : TypeId} {u v : Value} (h : Two W B t u v) : W.frozen? ⟨B, 1, none⟩ = false := by simp [World.frozen?, show W.heap[B]? = _ from h]
theorem Two.new (W : World) (t : TypeId) (u v : Value) : Two (W.alloc (.cells #[u, v] t)) W.heap.size t u v := heap_alloc_new W _
theorem Two.kept {W W' : World} {row : Option Nat} {B : Nat} {t : TypeId} {u v : Value} (h : Two W B t u v) (hg : W.grownBy W' row) (hne : some B ≠ row) : Two W' B t u v := (hg.block B h.lt hne).trans h
theorem Two.below {W W' : World} {B : Nat} {t : TypeId} {u v : Value} (h : Two W B t u v) (hb : Below W.heap.size W W') : Two W' B t u v := (hb.block B h.lt).trans h
theorem ret_S {a b : List UInt8} (h : a = b) : Ending.returned (.string (S a)) = .returned (.string (S b)) := by rw [h]
end
section
open Go
def dgt (c : UInt8) : Prop := 48 ≤ c.toNat ∧ c.toNat ≤ 57
instance (c : UInt8) : Decidable (dgt c) := by unfold dgt; infer_instance
def dch (d : Nat) : UInt8 := UInt8.ofNat (48 + d)
def valA (a : Nat) (l : List UInt8) : Nat := l.foldl (fun a c => a * 10 + (c.toNat - 48)) a
def valD (l : List UInt8) : Nat := valA 0 l
theorem dch_nat (d : Nat) (h : d < 10) : (dch d).toNat = 48 + d := by unfold dch; exact u8_ofNat_toNat _ (by omega)
theorem dch_dgt (d : Nat) (h : d < 10) : dgt (dch d) := by unfold dgt; rw [dch_nat d h]; omega
theorem valA_cons (a : Nat) (c : UInt8) (l : List UInt8) : valA a (c :: l) = valA (a * 10 + (c.toNat - 48)) l := List.foldl_cons ..
theorem valA_app (a : Nat) (l m : List UInt8) : valA a (l ++ m) = valA (valA a l) m := List.foldl_append
theorem valA_eq (a : Nat) (l : List UInt8) : valA a l = a * 10 ^ l.length + valD l := by
 induction l generalizing a with
 | nil => simp [valA, valD]
 | cons c l ih =>
   rw [valD, valA_cons, valA_cons, ih, ih (0 * 10 + _), List.length_cons, Nat.pow_succ]
   rw [Nat.add_mul, Nat.add_mul, Nat.mul_assoc a 10, Nat.mul_comm 10]; omega
theorem valD_app (l m : List UInt8) : valD (l ++ m) = valD l * 10 ^ m.length + valD m := by
 rw [valD, valA_app, valA_eq]; rfl
theorem valD_one (c : UInt8) : valD [c] = c.toNat - 48 := by simp [valD, valA]
def strLen (v : Value) : Nat := match v with
 | .string s => s.size
 | _ => 0
theorem dec_val (u : Nat) : valD (Lib.decDigits u) = u := by
 induction u using Nat.strongRecOn with
 | _ u ih =>
   rw [Lib.decDigits]
   split
   · rename_i h; rw [valD_one]; have := dch_nat u h; unfold dch at this; omega
   · rename_i h
     rw [valD_app, ih (u / 10) (by omega), valD_one]
     have := dch_nat (u % 10) (by omega); unfold dch at this
     simp only [List.length_cons, List.length_nil, Nat.zero_add, Nat.pow_one]; omega
theorem dec_dgt (u : Nat) : ∀ c ∈ Lib.decDigits u, dgt c := by
 induction u using Nat.strongRecOn with
 | _ u ih =>
   rw [Lib.decDigits]
   split
   · rename_i h; intro c hc; rw [List.mem_singleton] at hc; rw [hc]; exact dch_dgt u h
   · rename_i h
     intro c hc
     rw [List.mem_append, List.mem_singleton] at hc
     rcases hc with hc | hc
     · exact ih _ (by omega) c hc
     · rw [hc]; exact dch_dgt _ (by omega)
theorem dec_len (u k : Nat) (hk : 0 < k) (h : u < 10 ^ k) : 0 < (Lib.decDigits u).length ∧ (Lib.decDigits u).length ≤ k := by
 induction u using Nat.strongRecOn generalizing k with
 | _ u ih =>
   rw [Lib.decDigits]
   split
   · simp; omega
   · rename_i hu
     obtain ⟨k, rfl⟩ : ∃ k', k = k' + 1 := ⟨k - 1, by omega⟩
     have hk1 : 0 < k := by rcases Nat.eq_zero_or_pos k with rfl | h0; (simp at h; omega); exact h0
     rw [Nat.pow_succ] at h
     have := ih (u / 10) (by omega) k hk1 (by omega)
     simp; omega
def digs (n least : Nat) : List UInt8 := if n = 0 ∧ least = 0 then [] else digs (n / 10) (least - 1) ++ [dch (n % 10)]
termination_by n + least
decreasing_by omega
theorem digs_nil : digs 0 0 = [] := by rw [digs]; simp
theorem digs_more (n least : Nat) (h : ¬ (n = 0 ∧ least = 0)) : digs n least = digs (n / 10) (least - 1) ++ [dch (n % 10)] := by rw [digs, if_neg h]
theorem digs_zero (n : Nat) (h : 0 < n) : digs n 0 = Lib.decDigits n := by
 induction n using Nat.strongRecOn with
 | _ n ih =>
   rw [digs_more n 0 (by omega), Lib.decDigits]
   split
   · rename_i hn; rw [show n / 10 = 0 by omega, digs_nil, List.nil_append, show n % 10 = n by omega]; rfl
   · rw [ih (n / 10) (by omega) (by omega)]; rfl
theorem digs_one (n : Nat) : digs n 1 = Lib.decDigits n := by
 rw [digs_more n 1 (by omega), Lib.decDigits]
 split
 · rename_i hn; rw [show n / 10 = 0 by omega, digs_nil, List.nil_append, show n % 10 = n by omega]; rfl
 · rw [digs_zero _ (by omega)]; rfl
def pad4 (f : Nat) : List UInt8 := [dch (f / 1000 % 10), dch (f / 100 % 10), dch (f / 10 % 10), dch (f % 10)]
theorem digs_four (f : Nat) (h : f < 10000) : digs f 4 = pad4 f := by
 rw [digs_more _ _ (by omega), digs_more _ _ (by omega), digs_more _ _ (by omega), digs_more _ _ (by omega)]
 rw [show f / 10 / 10 / 10 / 10 = 0 by omega, digs_nil, show f / 10 / 10 / 10 = f / 1000 by omega, show f / 10 / 10 = f / 100 by omega]
 rfl
theorem dec_10000 (f : Nat) (h : f < 10000) : Lib.decDigits (10000 + f) = 49 :: pad4 f := by
 rw [Lib.decDigits, dif_neg (by omega), Lib.decDigits, dif_neg (by omega), Lib.decDigits, dif_neg (by omega), Lib.decDigits, dif_neg (by omega), Lib.decDigits, dif_pos (by omega)]
 rw [show (10000 + f) / 10 / 10 / 10 / 10 = 1 by omega, show (10000 + f) / 10 / 10 / 10 % 10 = f / 1000 % 10 by omega, show (10000 + f) / 10 / 10 % 10 = f / 100 % 10 by omega, show (10000 + f) / 10 % 10 = f / 10 % 10 by omega, show (10000 + f) % 10 = f % 10 by omega]
 rfl
theorem pad4_val (f : Nat) (h : f < 10000) : valD (pad4 f) = f := by
 simp only [pad4, valD, valA, List.foldl_cons, List.foldl_nil]
 rw [dch_nat _ (by omega), dch_nat _ (by omega), dch_nat _ (by omega), dch_nat _ (by omega)]; omega
theorem pad4_dgt (f : Nat) : ∀ c ∈ pad4 f, dgt c := by
 intro c hc
 simp only [pad4, List.mem_cons, List.not_mem_nil, or_false] at hc
 rcases hc with rfl | rfl | rfl | rfl <;> exact dch_dgt _ (by omega)
def trimZ (l : List UInt8) : List UInt8 := if h : 0 < l.length ∧ byt l (l.length - 1) = 48 then trimZ (l.take (l.length - 1)) else l
termination_by l.length
decreasing_by rw [List.length_take]; omega
theorem take_last (l : List UInt8) (h : 0 < l.length) : l = l.take (l.length - 1) ++ [byt l (l.length - 1)] := by
 rw [← take_byt l _ (by omega), show l.length - 1 + 1 = l.length by omega, List.take_length]
theorem trimZ_on (l : List UInt8) (h : 0 < l.length ∧ byt l (l.length - 1) = 48) : trimZ l = trimZ (l.take (l.length - 1)) := by rw [trimZ, dif_pos h]
theorem trimZ_off (l : List UInt8) (h : ¬ (0 < l.length ∧ byt l (l.length - 1) = 48)) : trimZ l = l := by rw [trimZ, dif_neg h]
theorem trimZ_rep (l : List UInt8) : ∃ k, l = trimZ l ++ List.replicate k 48 := by
 induction hn : l.length using Nat.strongRecOn generalizing l with
 | _ n ih =>
   by_cases h : 0 < l.length ∧ byt l (l.length - 1) = 48
   · obtain ⟨k, hk⟩ := ih (l.length - 1) (by omega) (l.take (l.length - 1)) (by rw [List.length_take]; omega)
     refine ⟨k + 1, ?_⟩
     rw [trimZ_on l h, List.replicate_succ', ← List.append_assoc, ← hk]
     conv => lhs; rw [take_last l h.1]
     rw [h.2]
   · exact ⟨0, by rw [trimZ_off l h]; simp⟩
theorem valD_zeros (k : Nat) : valD (List.replicate k 48) = 0 := by
 induction k with
 | zero => rfl
 | succ k ih => rw [List.replicate_succ', valD_app, ih, valD_one]; rfl
def fracL (f : Nat) : List UInt8 := if trimZ (pad4 f) = [] then [] else 46 :: trimZ (pad4 f)
theorem frac_parts (f : Nat) (h : f < 10000) : ∃ k, k ≤ 4 ∧ pad4 f = trimZ (pad4 f) ++ List.replicate k 48 ∧ (trimZ (pad4 f)).length + k = 4 ∧ valD (trimZ (pad4 f)) * 10 ^ k = f ∧ ∀ c ∈ trimZ (pad4 f), dgt c := by
 obtain ⟨k, hk⟩ := trimZ_rep (pad4 f)
 have hl : (trimZ (pad4 f)).length + k = 4 := by
   have := congrArg List.length hk
   rw [List.length_append, List.length_replicate] at this
   rw [← this]; rfl
 refine ⟨k, by omega, hk, hl, ?_, ?_⟩
 · have := pad4_val f h
   rw [hk, valD_app, valD_zeros, List.length_replicate] at this; omega
 · intro c hc
   exact pad4_dgt f c (by rw [hk]; exact List.mem_append_left _ hc)
theorem trim_nil (f : Nat) (h : f < 10000) : trimZ (pad4 f) = [] ↔ f = 0 := by
 obtain ⟨k, -, -, hl, hv, -⟩ := frac_parts f h
 constructor
 · intro e; rw [e] at hv; rw [← hv]; simp [valD, valA]
 · intro e
   subst e
   rcases Nat.eq_zero_or_pos (trimZ (pad4 0)).length with h0 | h0
   · exact List.eq_nil_of_length_eq_zero h0
   · exfalso
     have e0 : pad4 0 = List.replicate 4 48 := by decide
     obtain ⟨j, hj⟩ := trimZ_rep (pad4 0)
     have hlast : ¬ (0 < (trimZ (pad4 0)).length ∧ byt (trimZ (pad4 0)) ((trimZ (pad4 0)).length - 1) = 48) := by
       intro hh
       have : ∀ n, ∀ l : List UInt8, l.length = n → ¬ (0 < (trimZ l).length ∧ byt (trimZ l) ((trimZ l).length - 1) = 48) := by
         intro n
         induction n using Nat.strongRecOn with
         | _ n ih =>
           intro l hl
           by_cases h : 0 < l.length ∧ byt l (l.length - 1) = 48
           · rw [trimZ_on l h]; exact ih (l.length - 1) (by omega) _ (by rw [List.length_take]; omega)
           · rw [trimZ_off l h]; exact h
       exact this _ _ rfl hh
     apply hlast
     refine ⟨h0, ?_⟩
     have hm : byt (trimZ (pad4 0)) ((trimZ (pad4 0)).length - 1) ∈ trimZ (pad4 0) ++ List.replicate j 48 := by
       apply List.mem_append_left
       rw [byt_get _ _ (by omega)]
       exact List.getElem_mem _
     rw [← hj, e0, List.mem_replicate] at hm
     exact hm.2
def textI (u : Int) : List UInt8 := if vld u then (if u < 0 then [45] else []) ++ (Lib.decDigits (u.natAbs / 10000) ++ fracL (u.natAbs % 10000)) else [63]
theorem textI_val (u : Int) (h : vld u = true) : textI u = (if u < 0 then [45] else []) ++ (Lib.decDigits (u.natAbs / 10000) ++ fracL (u.natAbs % 10000)) := by unfold textI; rw [if_pos h]
theorem fracL_len (f : Nat) (h : f < 10000) : (fracL f).length ≤ 5 := by
 obtain ⟨k, -, -, hl, -, -⟩ := frac_parts f h
 unfold fracL; split
 · simp
 · rw [List.length_cons]; omega
theorem textI_len (u : Int) : (textI u).length ≤ 18 := by
 unfold textI
 split
 · rename_i h
   have ha := abs_lt h
   have h1 := fracL_len (u.natAbs % 10000) (by omega)
   have h2 := (dec_len (u.natAbs / 10000) 12 (by omega) (by omega)).2
   rw [List.length_append, List.length_append]
   split <;> simp <;> omega
 · simp
def cutW (l : List UInt8) : List UInt8 := l.takeWhile (fun c => c != 46)
def cutP (l : List UInt8) : List UInt8 := (l.dropWhile (fun c => c != 46)).drop 1
def candI (l : List UInt8) : Int :=
 let m := if l.head? = some 45 then l.drop 1 else l
 let n := valD (cutW m) * 10000 + valD (cutP m) * 10 ^ (4 - (cutP m).length)
 if l.head? = some 45 then -(n : Int) else n
def parseI (l : List UInt8) : Int × Int := if vld (candI l) && textI (candI l) == l then (candI l, 0) else (0, 8)
theorem dgt_ne46 {c : UInt8} (h : dgt c) : (c != 46) = true := by
 have : c ≠ 46 := by intro e; subst e; exact absurd h.1 (by decide)
 simpa using this
theorem cut_app (d r : List UInt8) (h : ∀ c ∈ d, (c != 46) = true) : cutW (d ++ r) = d ++ cutW r ∧ cutP (d ++ r) = cutP r := by
 unfold cutW cutP
 rw [List.takeWhile_append_of_pos h, List.dropWhile_append_of_pos h]; exact ⟨rfl, rfl⟩
theorem cut_frac (f : Nat) : cutW (fracL f) = [] ∧ cutP (fracL f) = trimZ (pad4 f) := by
 unfold fracL
 split
 · rename_i h; rw [h]; exact ⟨rfl, rfl⟩
 · exact ⟨rfl, rfl⟩
theorem head_dec (u : Nat) (r : List UInt8) : ∃ c m, Lib.decDigits u ++ r = c :: m ∧ dgt c := by
 have hl := (dec_len u (u + 1) (by omega) (by have := @Nat.lt_pow_self u 10 (by decide); rw [Nat.pow_succ]; omega)).1
 have hd := dec_dgt u
 match hm : Lib.decDigits u with
 | [] => rw [hm] at hl; simp at hl
 | c :: m => exact ⟨c, m ++ r, rfl, hd c (by rw [hm]; exact List.mem_cons_self ..)⟩
theorem body_cut (a f : Nat) : cutW (Lib.decDigits a ++ fracL f) = Lib.decDigits a ∧ cutP (Lib.decDigits a ++ fracL f) = trimZ (pad4 f) := by
 have h := cut_app (Lib.decDigits a) (fracL f) (fun c hc => dgt_ne46 (dec_dgt a c hc))
 have g := cut_frac f
 rw [h.1, h.2, g.1, g.2, List.append_nil]; exact ⟨rfl, rfl⟩
theorem candI_text (u : Int) (h : vld u = true) : candI (textI u) = u := by
 have hf : u.natAbs % 10000 < 10000 := by omega
 have hb := body_cut (u.natAbs / 10000) (u.natAbs % 10000)
 obtain ⟨k, hk, -, hl, hv, -⟩ := frac_parts (u.natAbs % 10000) hf
 have hn : valD (Lib.decDigits (u.natAbs / 10000)) * 10000 + valD (trimZ (pad4 (u.natAbs % 10000))) * 10 ^ (4 - (trimZ (pad4 (u.natAbs % 10000))).length) = u.natAbs := by
   rw [dec_val, show 4 - (trimZ (pad4 (u.natAbs % 10000))).length = k by omega, hv]; omega
 rw [textI_val u h]
 by_cases hu : u < 0
 · rw [if_pos hu]
   unfold candI
   rw [if_pos (by rfl), if_pos (by rfl)]
   simp only [List.cons_append, List.nil_append, List.drop_succ_cons, List.drop_zero]
   rw [hb.1, hb.2, hn]; omega
 · rw [if_neg hu, List.nil_append]
   obtain ⟨c, m, e, hc⟩ := head_dec (u.natAbs / 10000) (fracL (u.natAbs % 10000))
   have hne : ¬ (Lib.decDigits (u.natAbs / 10000) ++ fracL (u.natAbs % 10000)).head? = some 45 := by
     rw [e]; intro hx
     have : c = 45 := by simpa using hx
     subst this; exact absurd hc.1 (by decide)
   unfold candI
   rw [if_neg hne, if_neg hne, hb.1, hb.2, hn]; omega
theorem parseI_text (u : Int) (h : vld u = true) : parseI (textI u) = (u, 0) := by
 unfold parseI; rw [candI_text u h, if_pos (by simp [h])]
theorem parseI_of (l : List UInt8) (u : Int) (h : ∀ v, vld v = true → textI v = l → u = v) : parseI l = if vld u = true ∧ textI u = l then (u, 0) else (0, 8) := by
 split
 · rename_i hc; rw [← hc.2]; exact parseI_text u hc.1
 · rename_i hc
   unfold parseI
   rw [if_neg]
   intro hx
   rw [Bool.and_eq_true, beq_iff_eq] at hx
   have := h _ hx.1 hx.2
   rw [this] at hc
   exact hc hx
theorem parseI_no (l : List UInt8) (h : ∀ v, vld v = true → textI v ≠ l) : parseI l = (0, 8) := by
 unfold parseI
 rw [if_neg]
 intro hx
 rw [Bool.and_eq_true, beq_iff_eq] at hx
 exact h _ hx.1 hx.2
theorem parseI_long (l : List UInt8) (h : 18 < l.length) : parseI l = (0, 8) :=
 parseI_no l fun v _ e => by have := textI_len v; rw [e] at this; omega
end
section
theorem forall_u8 {P : UInt8 → Prop} (h : ∀ n : Fin 256, P (UInt8.ofFin n)) (c : UInt8) : P c := by
 have := h c.toFin
 simpa using this
def letterB (c : UInt8) : Bool := (97 ≤ c && c ≤ 122) || (65 ≤ c && c ≤ 90)
def digitB (c : UInt8) : Bool := 48 ≤ c && c ≤ 57
def hexDig (n : UInt8) : UInt8 := if n < 10 then 48 + n else 87 + n
def escB (c : UInt8) : List UInt8 :=
 if c = 34 ∨ c = 92 then [92, c] else if c = 10 then [92, 110] else if c = 9 then [92, 116] else if c = 13 then [92, 114]
 else if c < 32 ∨ 126 < c then [92, 120, hexDig (c >>> 4), hexDig (c &&& 15)] else [c]
def quoteL (s : List UInt8) : List UInt8 := 34 :: (s.flatMap escB ++ [34])
def hexVal (c : UInt8) : Option UInt8 :=
 if digitB c then some (c - 48) else if 97 ≤ c && c ≤ 102 then some (c - 87) else if 65 ≤ c && c ≤ 70 then some (c - 55) else none
def hexTwo (h l : UInt8) : Option UInt8 :=
 match hexVal h, hexVal l with
 | some a, some b => some (16 * a + b)
 | _, _ => none
def unesc : List UInt8 → UInt8 × Nat
 | _ :: b :: r =>
   if b = 34 ∨ b = 92 then (b, 2) else if b = 110 then (10, 2) else if b = 116 then (9, 2) else if b = 114 then (13, 2)
   else if b = 120 then
     match r with
     | h :: l :: _ => (match hexTwo h l with | some x => (x, 4) | none => (0, 0))
     | _ => (0, 0)
   else (0, 0)
 | _ => (0, 0)
def scan : List UInt8 → Nat → Nat → List UInt8 → List UInt8 × Nat × Nat
 | [], _, i, _ => ([], 8, i)
 | _ :: t, k + 1, i, acc => scan t k i acc
 | c :: t, 0, i, acc =>
   if c = 34 then (match t with | [] => (acc, 0, 0) | _ :: _ => ([], 8, i + 1))
   else if c = 92 then
     (if (unesc (c :: t)).2 = 0 then ([], 8, i) else scan t ((unesc (c :: t)).2 - 1) (i + (unesc (c :: t)).2) (acc ++ [(unesc (c :: t)).1]))
   else if c < 32 ∨ 126 < c then ([], 8, i)
   else scan t 0 (i + 1) (acc ++ [c])
def unqL (s : List UInt8) : List UInt8 × Nat × Nat :=
 if 65536 < s.length then ([], 2, 0) else
 match s with
 | [] => ([], 8, 0)
 | c :: t => if c = 34 then scan t 0 1 [] else ([], 8, 0)
def wordsL : List (List UInt8) :=
 [[110,117,108,108],[116,114,117,101],[102,97,108,115,101],[98,111,111,108],[105,110,116],[110,117,109,98,101,114],[115,116,114,105,110,103],[108,101,116],[105,102],[102,111,114],[105,110],[112,97,99,107,97,103,101],[105,109,112,111,114,116]]
def idTail (s : List UInt8) : Bool :=
 match s with
 | [] => false
 | c :: _ => letterB c && s.all fun c => letterB c || c == 95 || digitB c
def identB (s : List UInt8) : Bool :=
 if 32 < s.length ∨ wordsL.contains s then false else
 match s with
 | [] => false
 | c :: t => if c = 35 ∨ c = 95 then idTail t else idTail s
def labelL (s : List UInt8) : List UInt8 := if identB s then s else quoteL s
theorem scan_skip : ∀ (k : Nat) (l : List UInt8) (i : Nat) (acc : List UInt8), k ≤ l.length → scan l k i acc = scan (l.drop k) 0 i acc
 | 0, _, _, _, _ => rfl
 | _ + 1, [], _, _, h => by simp at h
 | k + 1, _ :: t, i, acc, h => by rw [scan, List.drop_succ_cons]; exact scan_skip k t i acc (by simpa using h)
theorem esc_cases : ∀ c : UInt8, (escB c = [c] ∧ c ≠ 34 ∧ c ≠ 92 ∧ ¬ c < 32 ∧ ¬ 126 < c) ∨ (∃ b, escB c = [92, b] ∧ ∀ r, unesc (92 :: b :: r) = (c, 2)) ∨
   (∃ h l, escB c = [92, 120, h, l] ∧ hexTwo h l = some c) := by
 intro c
 by_cases h1 : c = 34 ∨ c = 92
 · refine .inr (.inl ⟨c, by simp [escB, h1], fun r => by simp [unesc, h1]⟩)
 by_cases h2 : c = 10
 · subst h2; exact .inr (.inl ⟨110, by decide, fun r => by simp [unesc]⟩)
 by_cases h3 : c = 9
 · subst h3; exact .inr (.inl ⟨116, by decide, fun r => by simp [unesc]⟩)
 by_cases h4 : c = 13
 · subst h4; exact .inr (.inl ⟨114, by decide, fun r => by simp [unesc]⟩)
 by_cases h5 : c < 32 ∨ 126 < c
 · refine .inr (.inr ⟨hexDig (c >>> 4), hexDig (c &&& 15), by simp [escB, h1, h2, h3, h4, h5], ?_⟩)
   exact forall_u8 (P := fun c => hexTwo (hexDig (c >>> 4)) (hexDig (c &&& 15)) = some c) (by decide +kernel) c
 · refine .inl ⟨by simp [escB, h1, h2, h3, h4, h5], ?_⟩
   simp only [not_or] at h1 h5
   exact ⟨h1.1, h1.2, h5.1, h5.2⟩
theorem scan_esc (c : UInt8) (r : List UInt8) (i : Nat) (acc : List UInt8) : scan (escB c ++ r) 0 i acc = scan r 0 (i + (escB c).length) (acc ++ [c]) := by
 rcases esc_cases c with ⟨h, h1, h2, h3, h4⟩ | ⟨b, h, hu⟩ | ⟨x, y, h, hu⟩
 · rw [h]; simp [scan, h1, h2, h3, h4]
 · rw [h]
   have := hu r
   simp only [List.cons_append, List.nil_append, List.length_cons, List.length_nil]
   rw [scan]
   simp [this, scan]
 · rw [h]
   have h2 : unesc (92 :: 120 :: x :: y :: r) = (c, 4) := by simp [unesc, hu]
   simp only [List.cons_append, List.nil_append, List.length_cons, List.length_nil]
   rw [scan]
   simp [h2, scan]
theorem scan_quote : ∀ (s : List UInt8) (r : List UInt8) (i : Nat) (acc : List UInt8), scan (s.flatMap escB ++ r) 0 i acc = scan r 0 (i + (s.flatMap escB).length) (acc ++ s)
 | [], r, i, acc => by simp
 | c :: s, r, i, acc => by
   rw [List.flatMap_cons, List.append_assoc, scan_esc, scan_quote s r]
   simp [Nat.add_assoc]
theorem esc_len (c : UInt8) : 1 ≤ (escB c).length ∧ (escB c).length ≤ 4 := by
 rcases esc_cases c with ⟨h, _⟩ | ⟨b, h, hu⟩ | ⟨x, y, h, hu⟩ <;> rw [h] <;> simp
theorem flat_len : ∀ s : List UInt8, s.length ≤ (s.flatMap escB).length ∧ (s.flatMap escB).length ≤ 4 * s.length
 | [] => by simp
 | c :: s => by
   have := flat_len s; have := esc_len c
   simp only [List.flatMap_cons, List.length_append, List.length_cons]; omega
theorem quoteL_length (s : List UInt8) : (quoteL s).length = (s.flatMap escB).length + 2 := by
 unfold quoteL
 rw [List.length_cons, List.length_append]; rfl
theorem quote_len (s : List UInt8) : s.length + 2 ≤ (quoteL s).length ∧ (quoteL s).length ≤ 4 * s.length + 2 := by
 have := flat_len s
 rw [quoteL_length]; omega
theorem unq_quote (s : List UInt8) (h : (quoteL s).length ≤ 65536) : unqL (quoteL s) = (s, 0, 0) := by
 unfold unqL
 rw [if_neg (by omega)]
 show (if (34 : UInt8) = 34 then scan (s.flatMap escB ++ [34]) 0 1 [] else _) = _
 rw [if_pos rfl, scan_quote]; simp [scan]
end
section
open Go
structure Stp where
 lab : List UInt8
 idx : Int
deriving DecidableEq
def okS (x : Stp) : Bool := if x.lab = [] then decide (0 ≤ x.idx) && decide (x.idx ≤ 1000000) else decide (x.idx = 0)
def okL (l : List Stp) : Bool := l.all okS
def bitS (x : Stp) (first : Bool) : List UInt8 := if x.lab = [] then 91 :: (Lib.decDigits x.idx.toNat ++ [93]) else if first then labelL x.lab else 46 :: labelL x.lab
def restS (l : List Stp) : List UInt8 := l.flatMap (bitS · false)
def bodyS : List Stp → List UInt8
 | [] => []
 | x :: r => bitS x true ++ restS r
def textS (l : List Stp) : List UInt8 := if okL l = false then [63] else if l = [] then [46] else bodyS l
theorem less_eq : ∀ (x y : List UInt8), Op.bytesLess x y = decide (x < y)
 | [], [] => by simp [Op.bytesLess]
 | _ :: _, [] => by simp [Op.bytesLess]
 | [], _ :: _ => by simp [Op.bytesLess]
 | a :: x, b :: y => by
   rw [Op.bytesLess, less_eq x y]
   simp only [List.cons_lt_cons_iff]
   by_cases h1 : a < b <;> by_cases h2 : a = b <;> by_cases h3 : x < y <;> simp [h1, h2, h3]
theorem less_irr (x : List UInt8) : Op.bytesLess x x = false := by rw [less_eq]; simp
theorem less_trans {x y z : List UInt8} (h1 : Op.bytesLess x y = true) (h2 : Op.bytesLess y z = true) : Op.bytesLess x z = true := by
 rw [less_eq, decide_eq_true_eq] at *; exact List.lt_trans h1 h2
theorem less_total {x y : List UInt8} (h : x ≠ y) (h1 : Op.bytesLess x y = false) : Op.bytesLess y x = true := by
 rw [less_eq, decide_eq_false_iff_not] at h1
 rw [less_eq, decide_eq_true_eq]
 rcases Decidable.em (y < x) with h' | h'
 · exact h'
 · exact absurd (List.le_antisymm (show x ≤ y from h') (show y ≤ x from h1)) h
def oneS (x y : Stp) : Int :=
 if x = y then 0 else if x.lab ≠ [] ∧ y.lab = [] then -1 else if x.lab = [] ∧ y.lab ≠ [] then 1
 else if x.lab ≠ y.lab then (if Op.bytesLess x.lab y.lab then -1 else 1) else if x.idx < y.idx then -1 else 1
def cmpS : List Stp → List Stp → Int
 | x :: xs, y :: ys => if x = y then cmpS xs ys else oneS x y
 | [], [] => 0
 | [], _ :: _ => -1
 | _ :: _, [] => 1
theorem oneS_zero (x y : Stp) : oneS x y = 0 ↔ x = y := by
 unfold oneS
 constructor
 · intro h
   (repeat' split at h) <;> first | assumption | (exfalso; revert h; decide)
 · rintro rfl; simp
theorem oneS_range (x y : Stp) : oneS x y = -1 ∨ oneS x y = 0 ∨ oneS x y = 1 := by
 unfold oneS
 repeat' split
 all_goals simp
theorem stp_ext {x y : Stp} (h1 : x.lab = y.lab) (h2 : x.idx = y.idx) : x = y := by cases x; cases y; simp_all
def ltS (x y : Stp) : Prop := (x.lab ≠ [] ∧ y.lab = []) ∨ (x.lab ≠ [] ∧ y.lab ≠ [] ∧ Op.bytesLess x.lab y.lab = true) ∨ (x.lab = y.lab ∧ x.idx < y.idx)
theorem oneS_lt (x y : Stp) : oneS x y = -1 ↔ ltS x y := by
 unfold oneS ltS
 by_cases he : x = y
 · subst he; simp [less_irr]
 rw [if_neg he]
 by_cases h1 : x.lab = [] <;> by_cases h2 : y.lab = []
 · have hx : ¬ x.idx = y.idx := fun h => he (stp_ext (h1.trans h2.symm) h)
   by_cases h3 : x.idx < y.idx <;> simp [h1, h2, h3]
 · simp [h1, h2, Ne.symm h2]
 · simp [h1, h2]
 · by_cases h3 : x.lab = y.lab
   · have hx : ¬ x.idx = y.idx := fun h => he (stp_ext h3 h)
     have h4 := less_irr y.lab
     by_cases h5 : x.idx < y.idx <;> simp [h3, h2, h4, h5]
   · cases h4 : Op.bytesLess x.lab y.lab <;> simp [h1, h2, h3, h4]
theorem ltS_trans {x y z : Stp} (h1 : ltS x y) (h2 : ltS y z) : ltS x z := by
 unfold ltS at *
 rcases h1 with ⟨a, b⟩ | ⟨a, b, c⟩ | ⟨a, b⟩ <;> rcases h2 with ⟨d, e⟩ | ⟨d, e, f⟩ | ⟨d, e⟩
 · exact absurd b d
 · exact absurd b d
 · exact .inl ⟨a, by rw [← d]; exact b⟩
 · exact .inl ⟨a, e⟩
 · exact .inr (.inl ⟨a, e, less_trans c f⟩)
 · exact .inr (.inl ⟨a, by rw [← d]; exact b, by rw [← d]; exact c⟩)
 · exact .inl ⟨by rw [a]; exact d, e⟩
 · exact .inr (.inl ⟨by rw [a]; exact d, e, by rw [a]; exact f⟩)
 · exact .inr (.inr ⟨a.trans d, by omega⟩)
theorem ltS_irr (x : Stp) : ¬ ltS x x := by
 unfold ltS
 rintro (⟨a, b⟩ | ⟨a, b, c⟩ | ⟨a, b⟩)
 · exact a b
 · rw [less_irr] at c; cases c
 · omega
theorem ltS_total {x y : Stp} (h : x ≠ y) (h1 : ¬ ltS x y) : ltS y x := by
 have := oneS_range x y
 unfold ltS at *
 by_cases h2 : x.lab = y.lab
 · have : x.idx ≠ y.idx := fun e => h (stp_ext h2 e)
   exact .inr (.inr ⟨h2.symm, by have : ¬ x.idx < y.idx := fun e => h1 (.inr (.inr ⟨h2, e⟩)); omega⟩)
 · by_cases h3 : y.lab = []
   · by_cases h4 : x.lab = []
     · exact absurd (h4.trans h3.symm) h2
     · exact absurd (.inl ⟨h4, h3⟩) h1
   · by_cases h4 : x.lab = []
     · exact .inl ⟨h3, h4⟩
     · refine .inr (.inl ⟨h3, h4, less_total h2 ?_⟩)
       cases h5 : Op.bytesLess x.lab y.lab with
       | false => rfl
       | true => exact absurd (.inr (.inl ⟨h4, h3, h5⟩)) h1
theorem oneS_neg (x y : Stp) : oneS y x = -oneS x y := by
 by_cases he : x = y
 · subst he; rw [(oneS_zero x x).2 rfl]; rfl
 · by_cases h : ltS x y
   · rw [(oneS_lt x y).2 h]
     have h0 : oneS y x ≠ 0 := fun e => he ((oneS_zero y x).1 e).symm
     have h1 : oneS y x ≠ -1 := fun e => ltS_irr x (ltS_trans h ((oneS_lt y x).1 e))
     have := oneS_range y x
     omega
   · have h' := ltS_total he h
     rw [(oneS_lt y x).2 h']
     have h0 : oneS x y ≠ 0 := fun e => he ((oneS_zero x y).1 e)
     have h1 : oneS x y ≠ -1 := fun e => h ((oneS_lt x y).1 e)
     have := oneS_range x y
     omega
theorem cmpS_zero : ∀ a b : List Stp, cmpS a b = 0 ↔ a = b
 | [], [] => by simp [cmpS]
 | [], _ :: _ => by simp [cmpS]
 | _ :: _, [] => by simp [cmpS]
 | x :: xs, y :: ys => by
   rw [cmpS]; split
   · rename_i h; rw [cmpS_zero xs ys, h]; simp
   · rename_i h; rw [oneS_zero]; simp [h]
theorem cmpS_neg : ∀ a b : List Stp, cmpS b a = -cmpS a b
 | [], [] => by simp [cmpS]
 | [], _ :: _ => by simp [cmpS]
 | _ :: _, [] => by simp [cmpS]
 | x :: xs, y :: ys => by
   rw [cmpS, cmpS]
   by_cases h : x = y
   · rw [if_pos h, if_pos h.symm]; exact cmpS_neg xs ys
   · rw [if_neg h, if_neg (Ne.symm h)]; exact oneS_neg x y
theorem cmpS_trans : ∀ a b c : List Stp, cmpS a b ≤ 0 → cmpS b c ≤ 0 → cmpS a c ≤ 0 ∧ ((cmpS a b = 0 ∧ cmpS b c = 0) ∨ cmpS a c < 0)
 | [], [], [], _, _ => by simp [cmpS]
 | [], [], _ :: _, _, _ => by simp [cmpS]
 | [], _ :: _, [], _, h => by simp [cmpS] at h
 | [], _ :: _, _ :: _, _, _ => by simp [cmpS]
 | _ :: _, [], _, h, _ => by simp [cmpS] at h
 | _ :: _, _ :: _, [], _, h => by simp [cmpS] at h
 | x :: xs, y :: ys, z :: zs, h1, h2 => by
   rw [cmpS] at h1 h2 ⊢
   rw [cmpS, cmpS]
   by_cases hxy : x = y
   · subst hxy
     rw [if_pos rfl] at h1 ⊢
     by_cases hyz : x = z
     · subst hyz
       rw [if_pos rfl] at h2
       simp only [if_true]
       exact cmpS_trans xs ys zs h1 h2
     · rw [if_neg hyz] at h2 ⊢
       have := oneS_range x z
       have h0 : oneS x z ≠ 0 := fun e => hyz ((oneS_zero x z).1 e)
       omega
   · rw [if_neg hxy] at h1 ⊢
     have r1 := oneS_range x y
     have h0 : oneS x y ≠ 0 := fun e => hxy ((oneS_zero x y).1 e)
     have l1 : ltS x y := (oneS_lt x y).1 (by omega)
     by_cases hyz : y = z
     · subst hyz
       rw [if_neg hxy]
       omega
     · rw [if_neg hyz] at h2
       have r2 := oneS_range y z
       have h3 : oneS y z ≠ 0 := fun e => hyz ((oneS_zero y z).1 e)
       have l2 : ltS y z := (oneS_lt y z).1 (by omega)
       have l3 := ltS_trans l1 l2
       have hxz : x ≠ z := fun e => ltS_irr x (by rw [e] at l3 ⊢; exact l3)
       rw [if_neg hxz, (oneS_lt x z).2 l3]
       omega
end
section
inductive Dat where
 | mk (k n : Int) (s : List UInt8) (its : List Dat) (mem : List (List UInt8 × Dat))
def Dat.k : Dat → Int
 | .mk k _ _ _ _ => k
def Dat.n : Dat → Int
 | .mk _ n _ _ _ => n
def Dat.s : Dat → List UInt8
 | .mk _ _ s _ _ => s
def Dat.its : Dat → List Dat
 | .mk _ _ _ its _ => its
def Dat.mem : Dat → List (List UInt8 × Dat)
 | .mk _ _ _ _ mem => mem
theorem dat_it {d x : Dat} (h : x ∈ d.its) : SizeOf.sizeOf x < SizeOf.sizeOf d := by
 cases d with
 | mk k n s its mem =>
   have := List.sizeOf_lt_of_mem (show x ∈ its from h)
   simp only [Dat.mk.sizeOf_spec]; omega
theorem dat_me {d x : Dat} {l : List UInt8} (h : (l, x) ∈ d.mem) : SizeOf.sizeOf x < SizeOf.sizeOf d := by
 cases d with
 | mk k n s its mem =>
   have := List.sizeOf_lt_of_mem (show (l, x) ∈ mem from h)
   simp only [Dat.mk.sizeOf_spec, Prod.mk.sizeOf_spec] at *; omega
theorem dat_mg {d : Dat} {p : List UInt8 × Dat} (h : p ∈ d.mem) : SizeOf.sizeOf p.2 < SizeOf.sizeOf d := dat_me (l := p.1) (x := p.2) h
def dat0 : Dat := .mk 0 0 [] [] []
def plainB (d : Dat) : Bool :=
 decide (1 ≤ d.k) && decide (d.k ≤ 6) && (decide (d.k = 2) || decide (d.k = 3) || decide (d.n = 0)) && (decide (d.k = 4) || decide (d.s = [])) && (decide (d.k = 5) || d.its.isEmpty) && (decide (d.k = 6) || d.mem.isEmpty)
def badNum (d : Dat) : Bool := (decide (d.k = 2) && !decide (d.n = 0) && !decide (d.n = 1)) || (decide (d.k = 3) && !vld d.n)
def ascM : List (List UInt8 × Dat) → Bool
 | [] => true
 | x :: r => (match r with | [] => true | y :: _ => Op.bytesLess x.1 y.1) && ascM r
def ownE (d : Dat) : Nat := if plainB d = false then 11 else if badNum d = true then 1 else if ascM d.mem = false then 6 else 0
mutual
def chk : Dat → Nat → Nat
 | .mk k n s its mem, lv => if 16 < lv then 9 else if ownE (.mk k n s its mem) = 0 then (if chkI its (lv + 1) = 0 then chkM mem (lv + 1) else chkI its (lv + 1)) else ownE (.mk k n s its mem)
termination_by structural d => d
def chkI : List Dat → Nat → Nat
 | [], _ => 0
 | x :: r, lv => if chk x lv = 0 then chkI r lv else chk x lv
termination_by structural d => d
def chkM : List (List UInt8 × Dat) → Nat → Nat
 | [], _ => 0
 | (_, x) :: r, lv => if chk x lv = 0 then chkM r lv else chk x lv
termination_by structural d => d
end
theorem chk_eq (d : Dat) (lv : Nat) : chk d lv = if 16 < lv then 9 else if ownE d = 0 then (if chkI d.its (lv + 1) = 0 then chkM d.mem (lv + 1) else chkI d.its (lv + 1)) else ownE d := by
 cases d with | mk k n s its mem => rw [chk]; rfl
mutual
def lbD : Dat → Bool
 | .mk _ _ _ its mem => lbI its && lbM mem
termination_by structural d => d
def lbI : List Dat → Bool
 | [] => true
 | x :: r => lbD x && lbI r
termination_by structural d => d
def lbM : List (List UInt8 × Dat) → Bool
 | [] => true
 | (l, x) :: r => !l.isEmpty && lbD x && lbM r
termination_by structural d => d
end
theorem lbD_eq (d : Dat) : lbD d = (lbI d.its && lbM d.mem) := by
 cases d with | mk k n s its mem => rw [lbD]; rfl
mutual
def lvD : Dat → List (List Stp)
 | .mk _ _ _ its mem => if its.isEmpty && mem.isEmpty then [[]] else lvI its 0 ++ lvM mem
termination_by structural d => d
def lvI : List Dat → Nat → List (List Stp)
 | [], _ => []
 | x :: r, i => (lvD x).map (fun p => ⟨[], (i : Int)⟩ :: p) ++ lvI r (i + 1)
termination_by structural d => d
def lvM : List (List UInt8 × Dat) → List (List Stp)
 | [] => []
 | (l, x) :: r => (lvD x).map (fun p => ⟨l, 0⟩ :: p) ++ lvM r
termination_by structural d => d
end
theorem lvD_eq (d : Dat) : lvD d = if d.its.isEmpty && d.mem.isEmpty then [[]] else lvI d.its 0 ++ lvM d.mem := by
 cases d with | mk k n s its mem => rw [lvD]; rfl
def findM (l : List UInt8) : List (List UInt8 × Dat) → Option Dat
 | [] => none
 | (k, x) :: r => if k = l then some x else findM l r
def stpD (d : Dat) (s : Stp) : Option Dat :=
 if s.lab = [] then (if 0 ≤ s.idx then d.its[s.idx.toNat]? else none) else findM s.lab d.mem
def getD : Dat → List Stp → Option Dat
 | d, [] => some d
 | d, s :: r => (stpD d s).bind fun x => getD x r
def entsD (d : Dat) : List (List Stp × Dat) := (lvD d).map fun p => (p, (getD d p).getD dat0)
def flatD (d : Dat) : List (List Stp × Dat) × Nat := if chk d 1 ≠ 0 then ([], chk d 1) else if lbD d = false then ([], 5) else (entsD d, 0)
theorem chkI_zero {its : List Dat} {lv : Nat} : chkI its lv = 0 ↔ ∀ x ∈ its, chk x lv = 0 := by
 induction its with
 | nil => rw [chkI]; simp
 | cons x r ih =>
   rw [chkI]
   by_cases h : chk x lv = 0
   · rw [if_pos h, ih]; simp [h]
   · rw [if_neg h]; simp [h]
theorem chkM_zero {mem : List (List UInt8 × Dat)} {lv : Nat} : chkM mem lv = 0 ↔ ∀ x ∈ mem, chk x.2 lv = 0 := by
 induction mem with
 | nil => rw [chkM]; simp
 | cons p r ih =>
   obtain ⟨l, x⟩ := p
   rw [chkM]
   by_cases h : chk x lv = 0
   · rw [if_pos h, ih]; simp [h]
   · rw [if_neg h]; simp [h]
theorem chk_zero {d : Dat} {lv : Nat} : chk d lv = 0 ↔ lv ≤ 16 ∧ ownE d = 0 ∧ (∀ x ∈ d.its, chk x (lv + 1) = 0) ∧ ∀ x ∈ d.mem, chk x.2 (lv + 1) = 0 := by
 rw [chk_eq, ← chkI_zero, ← chkM_zero]
 by_cases h1 : 16 < lv
 · rw [if_pos h1]; simp; omega
 · rw [if_neg h1]
   by_cases h2 : ownE d = 0
   · rw [if_pos h2]
     by_cases h3 : chkI d.its (lv + 1) = 0
     · rw [if_pos h3]; simp [h2, h3]; omega
     · rw [if_neg h3]; simp [h3]
   · rw [if_neg h2]; simp [h2]
theorem ascM_cons {x : List UInt8 × Dat} {r : List (List UInt8 × Dat)} : ascM (x :: r) = true ↔ (∀ y ∈ r, Op.bytesLess x.1 y.1 = true) ∧ ascM r = true := by
 induction r generalizing x with
 | nil => simp [ascM]
 | cons y t ih =>
   rw [ascM]
   simp only [Bool.and_eq_true]
   constructor
   · rintro ⟨h1, h2⟩
     refine ⟨?_, h2⟩
     intro z hz
     rcases List.mem_cons.1 hz with rfl | hz
     · exact h1
     · exact less_trans h1 ((ih.1 h2).1 z hz)
   · rintro ⟨h1, h2⟩
     exact ⟨h1 y (List.mem_cons_self ..), h2⟩
end
section
abbrev Ent := List Stp × Dat
def clashP (a b : Ent) : Prop := a.1 <+: b.1 ∨ b.1 <+: a.1
instance (a b : Ent) : Decidable (clashP a b) := by unfold clashP; exact inferInstance
def twiceB (l : List Ent) : Bool := !decide (l.Pairwise fun a b => ¬ clashP a b)
def adjB : List Ent → Bool
 | [] => false
 | [_] => false
 | a :: b :: r => decide (a.1 <+: b.1) || adjB (b :: r)
theorem pre_mid : ∀ a b c : List Stp, cmpS a b ≤ 0 → cmpS b c ≤ 0 → a <+: c → a <+: b
 | [], _, _, _, _, _ => List.nil_prefix
 | x :: a, [], _, h, _, _ => by simp [cmpS] at h
 | x :: a, y :: b, [], _, h, _ => by simp [cmpS] at h
 | x :: a, y :: b, z :: c, h1, h2, h3 => by
   obtain ⟨rfl, h4⟩ := List.cons_prefix_cons.1 h3
   rw [cmpS] at h1 h2
   by_cases hxy : x = y
   · subst hxy
     rw [if_pos rfl] at h1 h2
     exact List.cons_prefix_cons.2 ⟨rfl, pre_mid a b c h1 h2 h4⟩
   · rw [if_neg hxy] at h1
     rw [if_neg (Ne.symm hxy)] at h2
     have r1 := oneS_range x y
     have n := oneS_neg x y
     have h0 : oneS x y ≠ 0 := fun e => hxy ((oneS_zero x y).1 e)
     omega
theorem cmp_pre : ∀ {a b : List Stp}, a <+: b → cmpS a b ≤ 0
 | [], [], _ => by simp [cmpS]
 | [], _ :: _, _ => by simp [cmpS]
 | _ :: _, [], h => by simp at h
 | x :: a, y :: b, h => by
   obtain ⟨rfl, h4⟩ := List.cons_prefix_cons.1 h
   rw [cmpS, if_pos rfl]; exact cmp_pre h4
theorem adj_no : ∀ {s : List Ent}, s.Pairwise (fun a b => cmpS a.1 b.1 ≤ 0) → adjB s = false → s.Pairwise fun a b => ¬ clashP a b
 | [], _, _ => List.Pairwise.nil
 | [a], _, _ => List.pairwise_singleton ..
 | a :: c :: t, hs, h => by
   rw [adjB, Bool.or_eq_false_iff] at h
   obtain ⟨h1, h2⟩ := h
   obtain ⟨hs1, hs2⟩ := List.pairwise_cons.1 hs
   refine List.pairwise_cons.2 ⟨?_, adj_no hs2 h2⟩
   have key : ∀ b ∈ c :: t, ¬ a.1 <+: b.1 := by
     intro b hb hp
     have hc : ¬ a.1 <+: c.1 := by simpa using h1
     rcases List.mem_cons.1 hb with rfl | hb
     · exact hc hp
     · exact hc (pre_mid a.1 c.1 b.1 (hs1 c (List.mem_cons_self ..)) ((List.pairwise_cons.1 hs2).1 b hb) hp)
   intro b hb hcl
   rcases hcl with hp | hp
   · exact key b hb hp
   · have e : cmpS a.1 b.1 = 0 := by
       have h3 := cmp_pre hp
       have h4 := hs1 b hb
       have := cmpS_neg a.1 b.1
       omega
     rw [cmpS_zero] at e
     exact key b hb (by rw [e]; exact List.prefix_refl _)
theorem adj_yes : ∀ {s : List Ent}, adjB s = true → ¬ s.Pairwise fun a b => ¬ clashP a b
 | [], h, _ => by simp [adjB] at h
 | [_], h, _ => by simp [adjB] at h
 | a :: b :: t, h, hp => by
   obtain ⟨h1, h2⟩ := List.pairwise_cons.1 hp
   rw [adjB, Bool.or_eq_true] at h
   rcases h with h | h
   · exact h1 b (List.mem_cons_self ..) (.inl (by simpa using h))
   · exact adj_yes h h2
theorem clash_symm {a b : Ent} (h : ¬ clashP a b) : ¬ clashP b a := fun h2 => h h2.symm
theorem adj_twice {l s : List Ent} (hp : s.Perm l) (hs : s.Pairwise (fun a b => cmpS a.1 b.1 ≤ 0)) : adjB s = twiceB l := by
 have hq : (s.Pairwise fun a b => ¬ clashP a b) ↔ (l.Pairwise fun a b => ¬ clashP a b) := hp.pairwise_iff fun h => clash_symm h
 unfold twiceB
 cases h : adjB s with
 | true =>
   have := adj_yes h
   rw [hq] at this
   rw [decide_eq_false this]; rfl
 | false =>
   have := adj_no hs h
   rw [hq] at this
   rw [decide_eq_true this]; rfl
def cutS (s : Stp) (e : Ent) : Option Ent :=
 match e.1 with
 | [] => none
 | t :: r => if t = s then some (r, e.2) else none
def blw (l : List Ent) (s : Stp) : List Ent := l.filterMap (cutS s)
def hdS (e : Ent) : Stp := e.1.headD ⟨[], 0⟩
def insS (x : Stp) : List Stp → List Stp
 | [] => [x]
 | y :: r => if x = y then y :: r else if oneS x y < 0 then x :: y :: r else y :: insS x r
def grp (l : List Ent) : List Stp := l.foldr (fun e g => insS (hdS e) g) []
theorem ins_mem {x y : Stp} : ∀ {g : List Stp}, y ∈ insS x g ↔ y = x ∨ y ∈ g
 | [] => by simp [insS]
 | z :: r => by
   rw [insS]
   by_cases h : x = z
   · rw [if_pos h, h]; simp
   · rw [if_neg h]
     by_cases h2 : oneS x z < 0
     · rw [if_pos h2]; simp
     · rw [if_neg h2, List.mem_cons, ins_mem, List.mem_cons]
       constructor
       · rintro (h | h | h)
         · exact .inr (.inl h)
         · exact .inl h
         · exact .inr (.inr h)
       · rintro (h | h | h)
         · exact .inr (.inl h)
         · exact .inl h
         · exact .inr (.inr h)
theorem one_neg {x y : Stp} : oneS x y < 0 ↔ ltS x y := by
 rw [← oneS_lt]
 have := oneS_range x y
 omega
theorem ins_sort {x : Stp} : ∀ {g : List Stp}, g.Pairwise ltS → (insS x g).Pairwise ltS
 | [], _ => List.pairwise_singleton ..
 | z :: r, h => by
   obtain ⟨h1, h2⟩ := List.pairwise_cons.1 h
   rw [insS]
   by_cases e : x = z
   · rw [if_pos e]; exact h
   · rw [if_neg e]
     by_cases hl : oneS x z < 0
     · rw [if_pos hl]
       have hxz := one_neg.1 hl
       refine List.pairwise_cons.2 ⟨?_, h⟩
       intro y hy
       rcases List.mem_cons.1 hy with rfl | hy
       · exact hxz
       · exact ltS_trans hxz (h1 y hy)
     · rw [if_neg hl]
       have hzx := ltS_total e (fun h => hl (one_neg.2 h))
       refine List.pairwise_cons.2 ⟨?_, ins_sort h2⟩
       intro y hy
       rcases ins_mem.1 hy with rfl | hy
       · exact hzx
       · exact h1 y hy
theorem grp_mem {l : List Ent} {s : Stp} : s ∈ grp l ↔ ∃ e ∈ l, hdS e = s := by
 induction l with
 | nil => simp [grp]
 | cons a r ih =>
   have : grp (a :: r) = insS (hdS a) (grp r) := rfl
   rw [this, ins_mem, ih]
   constructor
   · rintro (h | ⟨e, h1, h2⟩)
     · exact ⟨a, List.mem_cons_self .., h.symm⟩
     · exact ⟨e, List.mem_cons_of_mem _ h1, h2⟩
   · rintro ⟨e, h1, h2⟩
     rcases List.mem_cons.1 h1 with rfl | h1
     · exact .inl h2.symm
     · exact .inr ⟨e, h1, h2⟩
theorem grp_sort (l : List Ent) : (grp l).Pairwise ltS := by
 induction l with
 | nil => exact List.Pairwise.nil
 | cons a r ih => exact ins_sort ih
theorem sort_one : ∀ {a b : List Stp}, a.Pairwise ltS → b.Pairwise ltS → (∀ x, x ∈ a ↔ x ∈ b) → a = b
 | [], [], _, _, _ => rfl
 | [], y :: b, _, _, h => absurd ((h y).2 (List.mem_cons_self ..)) (by simp)
 | x :: a, [], _, _, h => absurd ((h x).1 (List.mem_cons_self ..)) (by simp)
 | x :: a, y :: b, ha, hb, h => by
   obtain ⟨ha1, ha2⟩ := List.pairwise_cons.1 ha
   obtain ⟨hb1, hb2⟩ := List.pairwise_cons.1 hb
   have e : x = y := by
     rcases List.mem_cons.1 ((h x).1 (List.mem_cons_self ..)) with e | e
     · exact e
     · rcases List.mem_cons.1 ((h y).2 (List.mem_cons_self ..)) with e2 | e2
       · exact e2.symm
       · exact absurd (ltS_trans (hb1 x e) (ha1 y e2)) (ltS_irr y)
   subst e
   rw [sort_one ha2 hb2 fun z => ?_]
   constructor
   · intro hz
     rcases List.mem_cons.1 ((h z).1 (List.mem_cons_of_mem _ hz)) with e | e
     · subst e; exact absurd (ha1 z hz) (ltS_irr z)
     · exact e
   · intro hz
     rcases List.mem_cons.1 ((h z).2 (List.mem_cons_of_mem _ hz)) with e | e
     · subst e; exact absurd (hb1 z hz) (ltS_irr z)
     · exact e
def idxFrom : List Stp → Nat → Bool
 | [], _ => true
 | s :: r, i => decide (s.lab = []) && decide (s.idx = (i : Int)) && idxFrom r (i + 1)
def allLab (g : List Stp) : Bool := g.all fun s => decide (s.lab ≠ [])
def bldAll (f : List Ent → Option Dat) (l : List Ent) : List Stp → Option (List (Stp × Dat))
 | [] => some []
 | s :: r => (f (blw l s)).bind fun x => (bldAll f l r).map fun t => (s, x) :: t
def bld : Nat → List Ent → Option Dat
 | 0, _ => none
 | f + 1, l =>
   match l with
   | [([], d)] => some d
   | _ =>
     if allLab (grp l) then (bldAll (bld f) l (grp l)).map fun t => .mk 6 0 [] [] (t.map fun p => (p.1.lab, p.2))
     else if idxFrom (grp l) 0 then (bldAll (bld f) l (grp l)).map fun t => .mk 5 0 [] (t.map fun p => p.2) []
     else none
def leafB (d : Dat) : Bool := decide (chk d 1 = 0) && d.its.isEmpty && d.mem.isEmpty
def kindsB (l : List Ent) : Bool := l.all fun e => okL e.1 && leafB e.2
def maxP (l : List Ent) : Nat := l.foldr (fun e m => max e.1.length m) 0
theorem maxP_le {l : List Ent} {e : Ent} (h : e ∈ l) : e.1.length ≤ maxP l := by
 induction l with
 | nil => simp at h
 | cons a r ih =>
   have : maxP (a :: r) = max a.1.length (maxP r) := rfl
   rcases List.mem_cons.1 h with rfl | h
   · omega
   · have := ih h; omega
def buildD (l : List Ent) : Dat × Nat :=
 if kindsB l = false then (dat0, 11) else if twiceB l = true then (dat0, 6) else if l = [] then (dat0, 19)
 else match bld (maxP l + 1) l with
   | none => (dat0, 19)
   | some d => if chk d 1 = 0 then (d, 0) else (dat0, 9)
end
section
def preE (s : Stp) (e : Ent) : Ent := (s :: e.1, e.2)
def entI : List Dat → Nat → List Ent
 | [], _ => []
 | x :: r, i => (entsD x).map (preE ⟨[], (i : Int)⟩) ++ entI r (i + 1)
def entM : List (List UInt8 × Dat) → List Ent
 | [] => []
 | p :: r => (entsD p.2).map (preE ⟨p.1, 0⟩) ++ entM r
theorem ents_leaf {d : Dat} (hi : d.its = []) (hm : d.mem = []) : entsD d = [([], d)] := by
 unfold entsD; rw [lvD_eq, hi, hm]; rfl
theorem lvI_ents (d : Dat) : ∀ (its : List Dat) (i : Nat), (∀ j, j < its.length → d.its[i + j]? = its[j]?) → (lvI its i).map (fun p => ((p, (getD d p).getD dat0) : Ent)) = entI its i
 | [], _, _ => by rw [lvI]; rfl
 | x :: r, i, h => by
   rw [lvI, entI, List.map_append, lvI_ents d r (i + 1) (fun j hj => by
     have := h (j + 1) (by simpa using hj)
     rw [show i + 1 + j = i + (j + 1) by omega, this]; simp)]
   congr 1
   unfold entsD
   rw [List.map_map, List.map_map]
   apply List.map_congr_left
   intro p _
   have hx : stpD d ⟨[], (i : Int)⟩ = some x := by
     unfold stpD
     rw [if_pos rfl, if_pos (by simp)]
     have := h 0 (by simp)
     simpa using this
   simp only [Function.comp_apply, preE, getD, hx, Option.bind_some]
theorem lvM_ents (d : Dat) : ∀ (mem : List (List UInt8 × Dat)), (∀ p ∈ mem, p.1 ≠ [] ∧ findM p.1 d.mem = some p.2) → (lvM mem).map (fun p => ((p, (getD d p).getD dat0) : Ent)) = entM mem
 | [], _ => by rw [lvM]; rfl
 | (l, x) :: r, h => by
   rw [lvM, entM, List.map_append, lvM_ents d r (fun p hp => h p (List.mem_cons_of_mem _ hp))]
   congr 1
   unfold entsD
   rw [List.map_map, List.map_map]
   apply List.map_congr_left
   intro p _
   obtain ⟨h1, h2⟩ := h (l, x) (List.mem_cons_self ..)
   have hx : stpD d ⟨l, 0⟩ = some x := by
     unfold stpD
     rw [if_neg h1]; exact h2
   simp only [Function.comp_apply, preE, getD, hx, Option.bind_some]
theorem find_asc : ∀ {mem : List (List UInt8 × Dat)}, ascM mem = true → ∀ p ∈ mem, findM p.1 mem = some p.2
 | [], _, p, h => by simp at h
 | (l, x) :: r, h, p, hp => by
   obtain ⟨h1, h2⟩ := ascM_cons.1 h
   rw [findM]
   rcases List.mem_cons.1 hp with rfl | hp
   · rw [if_pos rfl]
   · have hb := h1 p hp
     rw [if_neg (fun e => by simp only at e hb; rw [e, less_irr] at hb; cases hb)]
     exact find_asc h2 p hp
theorem lbI_all {its : List Dat} : lbI its = true ↔ ∀ x ∈ its, lbD x = true := by
 induction its with
 | nil => rw [lbI]; simp
 | cons x r ih => rw [lbI, Bool.and_eq_true, ih]; simp
theorem lbM_all {mem : List (List UInt8 × Dat)} : lbM mem = true ↔ ∀ p ∈ mem, p.1 ≠ [] ∧ lbD p.2 = true := by
 induction mem with
 | nil => rw [lbM]; simp
 | cons p r ih =>
   obtain ⟨l, x⟩ := p
   rw [lbM, Bool.and_eq_true, Bool.and_eq_true, ih]
   constructor
   · rintro ⟨⟨h1, h2⟩, h3⟩ q hq
     rcases List.mem_cons.1 hq with rfl | hq
     · exact ⟨by simpa using h1, h2⟩
     · exact h3 q hq
   · intro h
     have h0 := h (l, x) (List.mem_cons_self ..)
     exact ⟨⟨by simpa using h0.1, h0.2⟩, fun q hq => h q (List.mem_cons_of_mem _ hq)⟩
theorem ents_parts {d : Dat} (ha : ascM d.mem = true) (hb : lbD d = true) (hn : (d.its.isEmpty && d.mem.isEmpty) = false) : entsD d = entI d.its 0 ++ entM d.mem := by
 rw [lbD_eq, Bool.and_eq_true] at hb
 have h1 := lvI_ents d d.its 0 (fun j _ => by rw [Nat.zero_add])
 have h2 := lvM_ents d d.mem (fun p hp => ⟨((lbM_all.1 hb.2) p hp).1, find_asc ha p hp⟩)
 unfold entsD
 rw [lvD_eq, hn]
 simp only [Bool.false_eq_true, if_false, List.map_append]
 rw [h1, h2]
def idxL (i : Nat) : Nat → List Stp
 | 0 => []
 | n + 1 => ⟨[], (i : Int)⟩ :: idxL (i + 1) n
theorem idxL_mem : ∀ (n i : Nat) (s : Stp), s ∈ idxL i n ↔ ∃ j, j < n ∧ s = ⟨[], ((i + j : Nat) : Int)⟩
 | 0, i, s => by simp [idxL]
 | n + 1, i, s => by
   rw [idxL, List.mem_cons, idxL_mem n (i + 1) s]
   constructor
   · rintro (h | ⟨j, h1, h2⟩)
     · exact ⟨0, by omega, h⟩
     · exact ⟨j + 1, by omega, by rw [h2, show i + 1 + j = i + (j + 1) by omega]⟩
   · rintro ⟨j, h1, h2⟩
     cases j with
     | zero => exact .inl h2
     | succ j => exact .inr ⟨j, by omega, by rw [h2, show i + 1 + j = i + (j + 1) by omega]⟩
theorem idxL_sort : ∀ (n i : Nat), (idxL i n).Pairwise ltS
 | 0, _ => List.Pairwise.nil
 | n + 1, i => by
   refine List.pairwise_cons.2 ⟨?_, idxL_sort n (i + 1)⟩
   intro s hs
   obtain ⟨j, -, rfl⟩ := (idxL_mem n (i + 1) s).1 hs
   exact .inr (.inr ⟨rfl, by show (i : Int) < ((i + 1 + j : Nat) : Int); omega⟩)
theorem idxL_from : ∀ (n i : Nat), idxFrom (idxL i n) i = true
 | 0, _ => rfl
 | n + 1, i => by rw [idxL, idxFrom, idxL_from n (i + 1)]; simp
theorem entI_mem : ∀ (its : List Dat) (i : Nat) (e : Ent), e ∈ entI its i ↔ ∃ (j : Nat) (h : j < its.length), ∃ e' ∈ entsD its[j], e = preE ⟨[], ((i + j : Nat) : Int)⟩ e'
 | [], i, e => by simp [entI]
 | x :: r, i, e => by
   rw [entI, List.mem_append, List.mem_map, entI_mem r (i + 1) e]
   constructor
   · rintro (⟨e', h1, h2⟩ | ⟨j, h, e', h1, h2⟩)
     · exact ⟨0, by simp, e', h1, h2.symm⟩
     · exact ⟨j + 1, by simpa using h, e', h1, by rw [h2, show i + 1 + j = i + (j + 1) by omega]⟩
   · rintro ⟨j, h, e', h1, h2⟩
     cases j with
     | zero => exact .inl ⟨e', h1, h2.symm⟩
     | succ j => exact .inr ⟨j, by simpa using h, e', h1, by rw [h2, show i + 1 + j = i + (j + 1) by omega]⟩
theorem entM_mem : ∀ (mem : List (List UInt8 × Dat)) (e : Ent), e ∈ entM mem ↔ ∃ p ∈ mem, ∃ e' ∈ entsD p.2, e = preE ⟨p.1, 0⟩ e'
 | [], e => by simp [entM]
 | q :: r, e => by
   rw [entM, List.mem_append, List.mem_map, entM_mem r e]
   constructor
   · rintro (⟨e', h1, h2⟩ | ⟨p, h, e', h1, h2⟩)
     · exact ⟨q, List.mem_cons_self .., e', h1, h2.symm⟩
     · exact ⟨p, List.mem_cons_of_mem _ h, e', h1, h2⟩
   · rintro ⟨p, h, e', h1, h2⟩
     rcases List.mem_cons.1 h with rfl | h
     · exact .inl ⟨e', h1, h2.symm⟩
     · exact .inr ⟨p, h, e', h1, h2⟩
theorem bld_step {f : Nat} {l : List Ent} (h : ∀ e ∈ l, e.1 ≠ []) : bld (f + 1) l =
   if allLab (grp l) then (bldAll (bld f) l (grp l)).map fun t => .mk 6 0 [] [] (t.map fun p => (p.1.lab, p.2))
   else if idxFrom (grp l) 0 then (bldAll (bld f) l (grp l)).map fun t => .mk 5 0 [] (t.map fun p => p.2) []
   else none := by
 rw [bld]
 intro d e
 exact h ([], d) (by rw [e]; exact List.mem_cons_self ..) rfl
theorem own_zero {d : Dat} (h : ownE d = 0) : plainB d = true ∧ badNum d = false ∧ ascM d.mem = true := by
 unfold ownE at h
 by_cases h1 : plainB d = false
 · rw [if_pos h1] at h; cases h
 · rw [if_neg h1] at h
   by_cases h2 : badNum d = true
   · rw [if_pos h2] at h; cases h
   · rw [if_neg h2] at h
     by_cases h3 : ascM d.mem = false
     · rw [if_pos h3] at h; cases h
     · exact ⟨by simpa using h1, by simpa using h2, by simpa using h3⟩
theorem plain_iff {d : Dat} : plainB d = true ↔ (1 ≤ d.k ∧ d.k ≤ 6) ∧ (d.k = 2 ∨ d.k = 3 ∨ d.n = 0) ∧ (d.k = 4 ∨ d.s = []) ∧ (d.k = 5 ∨ d.its = []) ∧ (d.k = 6 ∨ d.mem = []) := by
 unfold plainB
 simp [Bool.and_eq_true, and_assoc, or_assoc, List.isEmpty_iff]
end
section
mutual
def limD : Dat → Bool
 | .mk _ _ s its mem => decide (s.length ≤ 1000000) && decide (its.length ≤ 1000000) && decide (mem.length ≤ 1000000) && limI its && limM mem
termination_by structural d => d
def limI : List Dat → Bool
 | [] => true
 | x :: r => limD x && limI r
termination_by structural d => d
def limM : List (List UInt8 × Dat) → Bool
 | [] => true
 | (l, x) :: r => decide (l.length ≤ 1000000) && limD x && limM r
termination_by structural d => d
end
theorem limI_all {its : List Dat} : limI its = true ↔ ∀ x ∈ its, limD x = true := by
 induction its with
 | nil => rw [limI]; simp
 | cons x r ih => rw [limI, Bool.and_eq_true, ih]; simp
theorem limM_all {mem : List (List UInt8 × Dat)} : limM mem = true ↔ ∀ p ∈ mem, p.1.length ≤ 1000000 ∧ limD p.2 = true := by
 induction mem with
 | nil => rw [limM]; simp
 | cons p r ih =>
   obtain ⟨l, x⟩ := p
   rw [limM, Bool.and_eq_true, Bool.and_eq_true, ih]
   constructor
   · rintro ⟨⟨h1, h2⟩, h3⟩ q hq
     rcases List.mem_cons.1 hq with rfl | hq
     · exact ⟨by simpa using h1, h2⟩
     · exact h3 q hq
   · intro h
     have h0 := h (l, x) (List.mem_cons_self ..)
     exact ⟨⟨by simpa using h0.1, h0.2⟩, fun q hq => h q (List.mem_cons_of_mem _ hq)⟩
theorem lim_iff {d : Dat} : limD d = true ↔ d.s.length ≤ 1000000 ∧ d.its.length ≤ 1000000 ∧ d.mem.length ≤ 1000000 ∧ (∀ x ∈ d.its, limD x = true) ∧ ∀ p ∈ d.mem, p.1.length ≤ 1000000 ∧ limD p.2 = true := by
 rw [← limI_all, ← limM_all]
 cases d with
 | mk k n s its mem => rw [limD]; simp only [Bool.and_eq_true, decide_eq_true_eq, and_assoc]; rfl
theorem chk_mono : ∀ (n : Nat) (d : Dat) (a b : Nat), SizeOf.sizeOf d < n → b ≤ a → chk d a = 0 → chk d b = 0
 | 0, _, _, _, h, _, _ => absurd h (Nat.not_lt_zero _)
 | n + 1, d, a, b, hn, hab, h => by
   obtain ⟨h1, h2, h3, h4⟩ := chk_zero.1 h
   exact chk_zero.2 ⟨by omega, h2, fun x hx => chk_mono n x (a + 1) (b + 1) (by have := dat_it hx; omega) (by omega) (h3 x hx), fun p hp => chk_mono n p.2 (a + 1) (b + 1) (by have := dat_mg hp; omega) (by omega) (h4 p hp)⟩
theorem leaf_iff {d : Dat} : leafB d = true ↔ chk d 1 = 0 ∧ d.its = [] ∧ d.mem = [] := by
 unfold leafB
 rw [Bool.and_eq_true, Bool.and_eq_true, decide_eq_true_eq, List.isEmpty_iff, List.isEmpty_iff, and_assoc]
theorem ok_cons {s : Stp} {l : List Stp} : okL (s :: l) = true ↔ okS s = true ∧ okL l = true := by unfold okL; simp
theorem ents_kind : ∀ (n : Nat) (d : Dat) (lv : Nat), SizeOf.sizeOf d < n → chk d (lv + 1) = 0 → lbD d = true → limD d = true → ∀ e ∈ entsD d, okL e.1 = true ∧ leafB e.2 = true
 | 0, _, _, h, _, _, _ => absurd h (Nat.not_lt_zero _)
 | n + 1, d, lv, hn, hc, hb, hl => by
   obtain ⟨-, ho, hci, hcm⟩ := chk_zero.1 hc
   obtain ⟨hpl, hbn, hasc⟩ := own_zero ho
   obtain ⟨-, hl1, hl2, hl3, hl4⟩ := lim_iff.1 hl
   intro e he
   cases hk : (d.its.isEmpty && d.mem.isEmpty) with
   | true =>
     rw [Bool.and_eq_true, List.isEmpty_iff, List.isEmpty_iff] at hk
     rw [ents_leaf hk.1 hk.2] at he
     rw [List.mem_singleton.1 he]
     exact ⟨rfl, leaf_iff.2 ⟨chk_mono _ d (lv + 1) 1 (Nat.lt_succ_self _) (by omega) hc, hk.1, hk.2⟩⟩
   | false =>
     rw [ents_parts hasc hb hk] at he
     have hbb := hb
     rw [lbD_eq, Bool.and_eq_true] at hbb
     rcases List.mem_append.1 he with h | h
     · obtain ⟨j, hj, e', he', rfl⟩ := (entI_mem _ _ _).1 h
       have hm := List.getElem_mem hj
       obtain ⟨q1, q2⟩ := ents_kind n d.its[j] (lv + 1) (by have := dat_it hm; omega) (hci _ hm) (lbI_all.1 hbb.1 _ hm) (hl3 _ hm) e' he'
       refine ⟨ok_cons.2 ⟨?_, q1⟩, q2⟩
       unfold okS
       rw [if_pos rfl]
       simp only [Bool.and_eq_true, decide_eq_true_eq]
       omega
     · obtain ⟨p, hp, e', he', rfl⟩ := (entM_mem _ _).1 h
       obtain ⟨b1, b2⟩ := lbM_all.1 hbb.2 p hp
       obtain ⟨q1, q2⟩ := ents_kind n p.2 (lv + 1) (by have := dat_mg hp; omega) (hcm _ hp) b2 (hl4 _ hp).2 e' he'
       refine ⟨ok_cons.2 ⟨?_, q1⟩, q2⟩
       unfold okS
       rw [if_neg b1]; simp
theorem clash_pre {s t : Stp} {a b : Ent} : clashP (preE s a) (preE t b) ↔ s = t ∧ clashP a b := by
 unfold clashP preE
 simp only [List.cons_prefix_cons]
 constructor
 · rintro (⟨h1, h2⟩ | ⟨h1, h2⟩)
   · exact ⟨h1, .inl h2⟩
   · exact ⟨h1.symm, .inr h2⟩
 · rintro ⟨h1, h2 | h2⟩
   · exact .inl ⟨h1, h2⟩
   · exact .inr ⟨h1.symm, h2⟩
end
section
def noClash (l : List Ent) : Prop := l.Pairwise fun a b => ¬ clashP a b
theorem twice_iff {l : List Ent} : twiceB l = false ↔ noClash l := by
 unfold twiceB noClash
 by_cases h : l.Pairwise fun a b => ¬ clashP a b
 · rw [decide_eq_true h]; exact ⟨fun _ => h, fun _ => rfl⟩
 · rw [decide_eq_false h]; exact ⟨fun e => absurd e (by decide), fun e => absurd e h⟩
theorem clash_one {l : List Ent} (h : noClash l) {e : Ent} (he : e ∈ l) (h0 : e.1 = []) : l = [e] := by
 obtain ⟨a, b, rfl⟩ := List.append_of_mem he
 unfold noClash at h
 rw [List.pairwise_append] at h
 obtain ⟨-, h2, h3⟩ := h
 have hb : b = [] := by
   cases b with
   | nil => rfl
   | cons x r => exact absurd (.inl (by rw [h0]; exact List.nil_prefix)) ((List.pairwise_cons.1 h2).1 x (List.mem_cons_self ..))
 have ha : a = [] := by
   cases a with
   | nil => rfl
   | cons x r => exact absurd (.inr (by rw [h0]; exact List.nil_prefix)) (h3 x (List.mem_cons_self ..) e (List.mem_cons_self ..))
 rw [ha, hb]; rfl
def joinG (l : List Ent) (G : List Stp) : List Ent := G.flatMap fun s => (blw l s).map (preE s)
theorem blw_cons (e : Ent) (l : List Ent) (s : Stp) : blw (e :: l) s = (match cutS s e with | none => [] | some x => [x]) ++ blw l s := by
 unfold blw
 rw [List.filterMap_cons]
 cases cutS s e <;> rfl
theorem cut_head {e : Ent} (h : e.1 ≠ []) : cutS (hdS e) e = some (e.1.tail, e.2) ∧ preE (hdS e) (e.1.tail, e.2) = e := by
 obtain ⟨p, d⟩ := e
 cases p with
 | nil => exact absurd rfl h
 | cons s r => simp [cutS, hdS, preE]
theorem cut_other {e : Ent} {s : Stp} (h : e.1 ≠ []) (hs : hdS e ≠ s) : cutS s e = none := by
 obtain ⟨p, d⟩ := e
 cases p with
 | nil => exact absurd rfl h
 | cons t r =>
   have : t ≠ s := hs
   simp [cutS, this]
theorem join_skip (e : Ent) (l : List Ent) (he : e.1 ≠ []) : ∀ G : List Stp, hdS e ∉ G → joinG (e :: l) G = joinG l G
 | [], _ => rfl
 | s :: r, h => by
   unfold joinG at *
   rw [List.flatMap_cons, List.flatMap_cons]
   have h1 : hdS e ≠ s := fun x => h (by rw [x]; exact List.mem_cons_self ..)
   rw [blw_cons, cut_other he h1]
   have := join_skip e l he r (fun x => h (List.mem_cons_of_mem _ x))
   unfold joinG at this
   rw [this]; rfl
theorem join_hit (e : Ent) (l : List Ent) (he : e.1 ≠ []) : ∀ G : List Stp, G.Pairwise ltS → hdS e ∈ G → (joinG (e :: l) G).Perm (e :: joinG l G)
 | [], _, h => by simp at h
 | s :: r, hp, h => by
   obtain ⟨h1, h2⟩ := List.pairwise_cons.1 hp
   by_cases hs : hdS e = s
   · have hn : hdS e ∉ r := by
       intro hm
       have := h1 _ hm
       rw [hs] at this
       exact ltS_irr s this
     have e1 := join_skip e l he r hn
     unfold joinG at e1 ⊢
     rw [List.flatMap_cons, List.flatMap_cons, e1, blw_cons]
     rw [← hs, (cut_head he).1]
     simp only [List.singleton_append, List.map_cons, List.cons_append]
     rw [(cut_head he).2, List.nil_append]
   · have hm : hdS e ∈ r := by
       rcases List.mem_cons.1 h with h | h
       · exact absurd h hs
       · exact h
     have ih := join_hit e l he r h2 hm
     unfold joinG at ih ⊢
     rw [List.flatMap_cons, List.flatMap_cons, blw_cons, cut_other he hs]
     simp only [List.nil_append]
     exact (ih.append_left _).trans List.perm_middle
theorem join_all : ∀ (l : List Ent) (G : List Stp), (∀ e ∈ l, e.1 ≠ [] ∧ hdS e ∈ G) → G.Pairwise ltS → (joinG l G).Perm l
 | [], G, _, _ => by
   have : ∀ G, joinG [] G = [] := by
     intro G
     unfold joinG
     induction G with
     | nil => rfl
     | cons s r ih => rw [List.flatMap_cons, ih]; rfl
   rw [this]
 | e :: l, G, h, hp => by
   obtain ⟨h1, h2⟩ := h e (List.mem_cons_self ..)
   exact (join_hit e l h1 G hp h2).trans ((join_all l G (fun x hx => h x (List.mem_cons_of_mem _ hx)) hp).cons e)
theorem blw_mem {l : List Ent} {s : Stp} {e : Ent} : e ∈ blw l s ↔ preE s e ∈ l := by
 unfold blw
 rw [List.mem_filterMap]
 constructor
 · rintro ⟨a, ha, hc⟩
   obtain ⟨p, d⟩ := a
   unfold cutS at hc
   cases p with
   | nil => cases hc
   | cons t r =>
     simp only at hc
     by_cases h : t = s
     · rw [if_pos h] at hc
       injection hc with hc
       subst hc; subst h
       exact ha
     · rw [if_neg h] at hc; cases hc
 · intro h
   exact ⟨_, h, by simp [cutS, preE]⟩
theorem blw_pair {l : List Ent} (s : Stp) (h : noClash l) : noClash (blw l s) := by
 unfold noClash blw at *
 rw [List.pairwise_filterMap]
 refine h.imp ?_
 intro a b hab a' ha' b' hb' hc
 apply hab
 have e1 : a = preE s a' := by
   obtain ⟨p, d⟩ := a
   unfold cutS at ha'
   cases p with
   | nil => cases ha'
   | cons t r =>
     simp only at ha'
     by_cases h : t = s
     · rw [if_pos h] at ha'; injection ha' with ha'; subst ha'; subst h; rfl
     · rw [if_neg h] at ha'; cases ha'
 have e2 : b = preE s b' := by
   obtain ⟨p, d⟩ := b
   unfold cutS at hb'
   cases p with
   | nil => cases hb'
   | cons t r =>
     simp only at hb'
     by_cases h : t = s
     · rw [if_pos h] at hb'; injection hb' with hb'; subst hb'; subst h; rfl
     · rw [if_neg h] at hb'; cases hb'
 rw [e1, e2, clash_pre]
 exact ⟨rfl, hc⟩
def entOK (e : Ent) : Prop := okL e.1 = true ∧ leafB e.2 = true ∧ limD e.2 = true ∧ ∀ x ∈ e.1, x.lab.length ≤ 1000000
theorem kinds_all {l : List Ent} : kindsB l = true ↔ ∀ e ∈ l, okL e.1 = true ∧ leafB e.2 = true := by
 unfold kindsB
 rw [List.all_eq_true]
 simp only [Bool.and_eq_true]
theorem ok_pre {s : Stp} {e : Ent} (h : entOK (preE s e)) : okS s = true ∧ s.lab.length ≤ 1000000 ∧ entOK e := by
 obtain ⟨h1, h2, h3, h4⟩ := h
 obtain ⟨k1, k2⟩ := ok_cons.1 h1
 exact ⟨k1, h4 s (List.mem_cons_self ..), k2, h2, h3, fun x hx => h4 x (List.mem_cons_of_mem _ hx)⟩
theorem blw_len (l : List Ent) (s : Stp) : (blw l s).length ≤ l.length := List.length_filterMap_le ..
theorem grp_len (l : List Ent) : (grp l).length ≤ l.length := by
 induction l with
 | nil => exact Nat.le_refl _
 | cons a r ih =>
   have h : ∀ (x : Stp) (g : List Stp), (insS x g).length ≤ g.length + 1 := by
     intro x g
     induction g with
     | nil => simp [insS]
     | cons y t iht =>
       rw [insS]
       split
       · simp
       · split
         · simp
         · simp only [List.length_cons]; omega
   have := h (hdS a) (grp r)
   show (insS (hdS a) (grp r)).length ≤ (a :: r).length
   rw [List.length_cons]; omega
def soundD (d : Dat) : Prop := ∀ b, chk d b = 0 ∨ chk d b = 9
theorem sound_parts {d : Dat} (ho : ownE d = 0) (hi : ∀ x ∈ d.its, soundD x) (hm : ∀ p ∈ d.mem, soundD p.2) : soundD d := by
 intro b
 rw [chk_eq]
 by_cases h : 16 < b
 · rw [if_pos h]; exact .inr rfl
 · rw [if_neg h, if_pos ho]
   have hI : ∀ its : List Dat, (∀ x ∈ its, soundD x) → chkI its (b + 1) = 0 ∨ chkI its (b + 1) = 9 := by
     intro its
     induction its with
     | nil => intro _; rw [chkI]; exact .inl rfl
     | cons x r ih =>
       intro hx
       rw [chkI]
       by_cases h0 : chk x (b + 1) = 0
       · rw [if_pos h0]; exact ih fun y hy => hx y (List.mem_cons_of_mem _ hy)
       · rw [if_neg h0]; exact hx x (List.mem_cons_self ..) _
   have hM : ∀ mem : List (List UInt8 × Dat), (∀ p ∈ mem, soundD p.2) → chkM mem (b + 1) = 0 ∨ chkM mem (b + 1) = 9 := by
     intro mem
     induction mem with
     | nil => intro _; rw [chkM]; exact .inl rfl
     | cons p r ih =>
       obtain ⟨l, x⟩ := p
       intro hx
       rw [chkM]
       by_cases h0 : chk x (b + 1) = 0
       · rw [if_pos h0]; exact ih fun y hy => hx y (List.mem_cons_of_mem _ hy)
       · rw [if_neg h0]; exact hx (l, x) (List.mem_cons_self ..) _
   by_cases h0 : chkI d.its (b + 1) = 0
   · rw [if_pos h0]; exact hM d.mem hm
   · rw [if_neg h0]; exact hI d.its hi
theorem sound_leaf {d : Dat} (h : leafB d = true) : soundD d := by
 obtain ⟨h1, h2, h3⟩ := leaf_iff.1 h
 exact sound_parts (chk_zero.1 h1).2.1 (by rw [h2]; simp) (by rw [h3]; simp)
def goodD (d : Dat) (L : List Ent) : Prop := (entsD d).Perm L ∧ lbD d = true ∧ limD d = true ∧ soundD d
theorem bldAll_some {f : List Ent → Option Dat} {l : List Ent} : ∀ {G : List Stp} {t : List (Stp × Dat)}, bldAll f l G = some t → t.map (fun p => p.1) = G ∧ ∀ p ∈ t, f (blw l p.1) = some p.2
 | [], t, h => by
   rw [bldAll] at h; injection h with h; subst h
   exact ⟨rfl, fun p hp => by simp at hp⟩
 | s :: r, t, h => by
   rw [bldAll] at h
   cases hf : f (blw l s) with
   | none => rw [hf] at h; cases h
   | some x =>
     rw [hf, Option.bind_some] at h
     cases hr : bldAll f l r with
     | none => rw [hr] at h; cases h
     | some u =>
       rw [hr] at h
       injection h with h
       subst h
       obtain ⟨h1, h2⟩ := bldAll_some hr
       refine ⟨by rw [List.map_cons, h1], fun p hp => ?_⟩
       rcases List.mem_cons.1 hp with rfl | hp
       · exact hf
       · exact h2 p hp
theorem idx_asc : ∀ {t : List (Stp × Dat)} {i : Nat}, idxFrom (t.map fun p => p.1) i = true → (∀ p ∈ t, p.1.lab = []) ∧ entI (t.map fun p => p.2) i = t.flatMap fun p => (entsD p.2).map (preE p.1)
 | [], _, _ => ⟨by simp, rfl⟩
 | (s, x) :: r, i, h => by
   rw [List.map_cons, idxFrom, Bool.and_eq_true, Bool.and_eq_true, decide_eq_true_eq, decide_eq_true_eq] at h
   obtain ⟨⟨h1, h2⟩, h3⟩ := h
   obtain ⟨k1, k2⟩ := idx_asc h3
   refine ⟨fun p hp => ?_, ?_⟩
   · rcases List.mem_cons.1 hp with rfl | hp
     · exact h1
     · exact k1 p hp
   · rw [List.map_cons, entI, k2, List.flatMap_cons]
     have : s = ⟨[], (i : Int)⟩ := stp_ext h1 h2
     rw [this]
theorem flat_good {l : List Ent} {t : List (Stp × Dat)} (ht : ∀ p ∈ t, (entsD p.2).Perm (blw l p.1)) : (t.flatMap fun p => (entsD p.2).map (preE p.1)).Perm (joinG l (t.map fun p => p.1)) := by
 induction t with
 | nil => exact List.Perm.refl _
 | cons p r ih =>
   unfold joinG at *
   rw [List.flatMap_cons, List.map_cons, List.flatMap_cons]
   exact ((ht p (List.mem_cons_self ..)).map _).append (ih fun q hq => ht q (List.mem_cons_of_mem _ hq))
theorem lab_asc : ∀ {t : List (Stp × Dat)}, (t.map fun p => p.1).Pairwise ltS → (∀ p ∈ t, p.1.lab ≠ [] ∧ p.1.idx = 0) → ascM (t.map fun p => (p.1.lab, p.2)) = true
 | [], _, _ => rfl
 | q :: r, h, hl => by
   rw [List.map_cons] at h ⊢
   obtain ⟨h1, h2⟩ := List.pairwise_cons.1 h
   rw [ascM_cons]
   refine ⟨?_, lab_asc h2 fun p hp => hl p (List.mem_cons_of_mem _ hp)⟩
   intro y hy
   obtain ⟨p, hp, rfl⟩ := List.mem_map.1 hy
   have h3 := h1 p.1 (List.mem_map.2 ⟨p, hp, rfl⟩)
   have k1 := hl q (List.mem_cons_self ..)
   have k2 := hl p (List.mem_cons_of_mem _ hp)
   rcases h3 with ⟨-, b⟩ | ⟨-, -, c⟩ | ⟨a, b⟩
   · exact absurd b k2.1
   · exact c
   · omega
theorem entM_flat : ∀ {t : List (Stp × Dat)}, (∀ p ∈ t, p.1.idx = 0) → entM (t.map fun p => (p.1.lab, p.2)) = t.flatMap fun p => (entsD p.2).map (preE p.1)
 | [], _ => rfl
 | q :: r, h => by
   rw [List.map_cons, entM, entM_flat fun p hp => h p (List.mem_cons_of_mem _ hp), List.flatMap_cons]
   have : (⟨q.1.lab, 0⟩ : Stp) = q.1 := stp_ext rfl (h q (List.mem_cons_self ..)).symm
   simp only
   rw [this]
theorem flat_bld : ∀ (f : Nat) (L : List Ent) (d : Dat), bld f L = some d → L ≠ [] → noClash L → (∀ e ∈ L, entOK e) → L.length ≤ 1000000 → goodD d L
 | 0, _, _, h, _, _, _, _ => by rw [bld] at h; cases h
 | f + 1, L, d, h, hn, hc, hk, hl => by
   by_cases h0 : ∃ e ∈ L, e.1 = []
   · obtain ⟨e, he, h0⟩ := h0
     have e1 := clash_one hc he h0
     obtain ⟨p, x⟩ := e
     have hp : p = [] := h0
     subst hp
     subst e1
     have hx : bld (f + 1) [([], x)] = some x := rfl
     rw [hx] at h
     injection h with h
     subst h
     obtain ⟨-, k2, k3, -⟩ := hk _ he
     obtain ⟨-, l2, l3⟩ := leaf_iff.1 k2
     refine ⟨by rw [ents_leaf l2 l3], ?_, k3, sound_leaf k2⟩
     rw [lbD_eq, l2, l3, lbI, lbM]; rfl
   · have hne : ∀ e ∈ L, e.1 ≠ [] := fun e he h1 => h0 ⟨e, he, h1⟩
     have hG := grp_sort L
     have hjoin : (joinG L (grp L)).Perm L := join_all L (grp L) (fun e he => ⟨hne e he, grp_mem.2 ⟨e, he, rfl⟩⟩) hG
     have hgn : grp L ≠ [] := by
       intro e
       rw [e] at hjoin
       exact hn hjoin.symm.eq_nil
     have hgl := grp_len L
     -- what a group gives
     have hgrp : ∀ s ∈ grp L, okS s = true ∧ s.lab.length ≤ 1000000 ∧ ∀ x, bld f (blw L s) = some x → goodD x (blw L s) := by
       intro s hs
       obtain ⟨e, he, hes⟩ := grp_mem.1 hs
       have hpe : preE s (e.1.tail, e.2) = e := by rw [← hes]; exact (cut_head (hne e he)).2
       have hk1 := hk e he
       rw [← hpe] at hk1
       obtain ⟨q1, q2, -⟩ := ok_pre hk1
       refine ⟨q1, q2, fun x hx => flat_bld f _ x hx ?_ (blw_pair s hc) (fun y hy => (ok_pre (hk _ (blw_mem.1 hy))).2.2) (Nat.le_trans (blw_len L s) hl)⟩
       intro e0
       have : (e.1.tail, e.2) ∈ blw L s := blw_mem.2 (by rw [hpe]; exact he)
       rw [e0] at this; simp at this
     rw [bld_step hne] at h
     by_cases hal : allLab (grp L) = true
     · rw [if_pos hal] at h
       cases ht : bldAll (bld f) L (grp L) with
       | none => rw [ht] at h; cases h
       | some t =>
         rw [ht] at h
         injection h with h
         subst h
         obtain ⟨t1, t2⟩ := bldAll_some ht
         have hmem : ∀ p ∈ t, p.1 ∈ grp L := fun p hp => by rw [← t1]; exact List.mem_map.2 ⟨p, hp, rfl⟩
         have hlab : ∀ p ∈ t, p.1.lab ≠ [] ∧ p.1.idx = 0 := by
           intro p hp
           have h1 := (List.all_eq_true.1 hal) _ (hmem p hp)
           have h1' : p.1.lab ≠ [] := of_decide_eq_true h1
           have h2 := (hgrp _ (hmem p hp)).1
           unfold okS at h2
           rw [if_neg h1'] at h2
           exact ⟨h1', of_decide_eq_true h2⟩
         have hgood : ∀ p ∈ t, goodD p.2 (blw L p.1) := fun p hp => (hgrp _ (hmem p hp)).2.2 _ (t2 p hp)
         have hasc : ascM (t.map fun p => (p.1.lab, p.2)) = true := lab_asc (by rw [t1]; exact hG) hlab
         have htn : t ≠ [] := by intro e; rw [e] at t1; exact hgn t1.symm
         have hlb : lbD (.mk 6 0 [] [] (t.map fun p => (p.1.lab, p.2))) = true := by
           rw [lbD_eq]
           show (lbI [] && lbM (t.map fun p => (p.1.lab, p.2))) = true
           rw [lbI, Bool.true_and, lbM_all]
           intro q hq
           obtain ⟨p, hp, rfl⟩ := List.mem_map.1 hq
           exact ⟨(hlab p hp).1, (hgood p hp).2.1⟩
         refine ⟨?_, hlb, ?_, ?_⟩
         · rw [ents_parts (d := Dat.mk 6 0 [] [] (t.map fun (p : Stp × Dat) => (p.1.lab, p.2))) hasc hlb (by
             cases t with
             | nil => exact absurd rfl htn
             | cons a b => rfl)]
           show (entI [] 0 ++ entM (t.map fun p => (p.1.lab, p.2))).Perm L
           rw [entI, List.nil_append, entM_flat fun p hp => (hlab p hp).2]
           have := flat_good (l := L) (t := t) fun p hp => (hgood p hp).1
           rw [t1] at this
           exact this.trans hjoin
         · refine lim_iff.2 ⟨Nat.zero_le _, Nat.zero_le _, ?_, by intro x hx; simp [Dat.its] at hx, ?_⟩
           · show (t.map fun p => (p.1.lab, p.2)).length ≤ 1000000
             have : t.length = (grp L).length := by rw [← t1, List.length_map]
             rw [List.length_map]; omega
           · intro q hq
             obtain ⟨p, hp, rfl⟩ := List.mem_map.1 (show q ∈ t.map fun p => (p.1.lab, p.2) from hq)
             exact ⟨(hgrp _ (hmem p hp)).2.1, (hgood p hp).2.2.1⟩
         · refine sound_parts ?_ (by intro x hx; simp [Dat.its] at hx) ?_
           · unfold ownE
             have h1 : plainB (.mk 6 0 [] [] (t.map fun p => (p.1.lab, p.2))) = true := plain_iff.2 ⟨⟨show (1 : Int) ≤ 6 by decide, show (6 : Int) ≤ 6 by decide⟩, .inr (.inr rfl), .inr rfl, .inr rfl, .inl rfl⟩
             have h2 : badNum (.mk 6 0 [] [] (t.map fun p => (p.1.lab, p.2))) = false := rfl
             rw [if_neg (by rw [h1]; decide), if_neg (by rw [h2]; decide), if_neg (by show ¬ ascM (t.map fun p => (p.1.lab, p.2)) = false; rw [hasc]; decide)]
           · intro q hq
             obtain ⟨p, hp, rfl⟩ := List.mem_map.1 (show q ∈ t.map fun p => (p.1.lab, p.2) from hq)
             exact (hgood p hp).2.2.2
     · rw [if_neg hal] at h
       by_cases hix : idxFrom (grp L) 0 = true
       · rw [if_pos hix] at h
         cases ht : bldAll (bld f) L (grp L) with
         | none => rw [ht] at h; cases h
         | some t =>
           rw [ht] at h
           injection h with h
           subst h
           obtain ⟨t1, t2⟩ := bldAll_some ht
           have hmem : ∀ p ∈ t, p.1 ∈ grp L := fun p hp => by rw [← t1]; exact List.mem_map.2 ⟨p, hp, rfl⟩
           have hgood : ∀ p ∈ t, goodD p.2 (blw L p.1) := fun p hp => (hgrp _ (hmem p hp)).2.2 _ (t2 p hp)
           have htn : t ≠ [] := by intro e; rw [e] at t1; exact hgn t1.symm
           have hi2 := idx_asc (t := t) (i := 0) (by rw [t1]; exact hix)
           have hlb : lbD (.mk 5 0 [] (t.map fun p => p.2) []) = true := by
             rw [lbD_eq]
             show (lbI (t.map fun p => p.2) && lbM []) = true
             rw [lbM, Bool.and_true, lbI_all]
             intro q hq
             obtain ⟨p, hp, rfl⟩ := List.mem_map.1 hq
             exact (hgood p hp).2.1
           refine ⟨?_, hlb, ?_, ?_⟩
           · rw [ents_parts (d := .mk 5 0 [] (t.map fun p => p.2) []) rfl hlb (by
               cases t with
               | nil => exact absurd rfl htn
               | cons a b => rfl)]
             show (entI (t.map fun p => p.2) 0 ++ entM []).Perm L
             rw [entM, List.append_nil, hi2.2]
             have := flat_good (l := L) (t := t) fun p hp => (hgood p hp).1
             rw [t1] at this
             exact this.trans hjoin
           · refine lim_iff.2 ⟨Nat.zero_le _, ?_, Nat.zero_le _, ?_, by intro x hx; simp [Dat.mem] at hx⟩
             · show (t.map fun p => p.2).length ≤ 1000000
               have : t.length = (grp L).length := by rw [← t1, List.length_map]
               rw [List.length_map]; omega
             · intro q hq
               obtain ⟨p, hp, rfl⟩ := List.mem_map.1 (show q ∈ t.map fun p => p.2 from hq)
               exact (hgood p hp).2.2.1
           · refine sound_parts ?_ ?_ (by intro x hx; simp [Dat.mem] at hx)
             · unfold ownE
               have h1 : plainB (.mk 5 0 [] (t.map fun p => p.2) []) = true := plain_iff.2 ⟨⟨show (1 : Int) ≤ 5 by decide, show (5 : Int) ≤ 6 by decide⟩, .inr (.inr rfl), .inr rfl, .inl rfl, .inr rfl⟩
               have h2 : badNum (.mk 5 0 [] (t.map fun p => p.2) []) = false := rfl
               rw [if_neg (by rw [h1]; decide), if_neg (by rw [h2]; decide), if_neg (by show ¬ ascM [] = false; decide)]
             · intro q hq
               obtain ⟨p, hp, rfl⟩ := List.mem_map.1 (show q ∈ t.map fun p => p.2 from hq)
               exact (hgood p hp).2.2.2
       · rw [if_neg hix] at h; cases h
theorem flat_build {L : List Ent} {d : Dat} (h : buildD L = (d, 0)) (hk : ∀ e ∈ L, limD e.2 = true ∧ ∀ x ∈ e.1, x.lab.length ≤ 1000000) (hl : L.length ≤ 1000000) : (entsD d).Perm L ∧ chk d 1 = 0 ∧ lbD d = true ∧ limD d = true ∧ kindsB L = true := by
 unfold buildD at h
 by_cases h1 : kindsB L = false
 · rw [if_pos h1] at h; injection h with _ h; cases h
 · rw [if_neg h1] at h
   have hkk : kindsB L = true := by simpa using h1
   by_cases h2 : twiceB L = true
   · rw [if_pos h2] at h; injection h with _ h; cases h
   · rw [if_neg h2] at h
     have hcc : noClash L := twice_iff.1 (by simpa using h2)
     by_cases h3 : L = []
     · rw [if_pos h3] at h; injection h with _ h; cases h
     · rw [if_neg h3] at h
       cases hb : bld (maxP L + 1) L with
       | none => rw [hb] at h; injection h with _ h; cases h
       | some x =>
         rw [hb] at h
         simp only at h
         by_cases h4 : chk x 1 = 0
         · rw [if_pos h4] at h
           injection h with h _
           subst h
           have hg := flat_bld _ L x hb h3 hcc (fun e he => ⟨(kinds_all.1 hkk e he).1, (kinds_all.1 hkk e he).2, (hk e he).1, (hk e he).2⟩) hl
           exact ⟨hg.1, h4, hg.2.1, hg.2.2.1, hkk⟩
         · rw [if_neg h4] at h; injection h with _ h; cases h
end
section
open Go
def splitC (c : UInt8) : List UInt8 → List (List UInt8)
 | [] => [[]]
 | b :: r => if b = c then [] :: splitC c r else
   match splitC c r with
   | [] => [[b]]
   | p :: ps => (b :: p) :: ps
theorem splitC_app (c : UInt8) (a r : List UInt8) (h : ∀ x ∈ a, x ≠ c) : splitC c (a ++ c :: r) = a :: splitC c r := by
 induction a with
 | nil => simp [splitC]
 | cons b a ih =>
   have hb := h b (List.mem_cons_self ..)
   rw [List.cons_append, splitC, if_neg hb, ih (fun x hx => h x (List.mem_cons_of_mem _ hx))]
theorem splitC_one (c : UInt8) (a : List UInt8) (h : ∀ x ∈ a, x ≠ c) : splitC c a = [a] := by
 induction a with
 | nil => rfl
 | cons b a ih =>
   have hb := h b (List.mem_cons_self ..)
   rw [splitC, if_neg hb, ih (fun x hx => h x (List.mem_cons_of_mem _ hx))]
theorem indexByte_hit (c : UInt8) (a r : List UInt8) (h : ∀ x ∈ a, x ≠ c) : Lib.indexByte (a ++ c :: r) c = a.length := by
 induction a with
 | nil => simp [Lib.indexByte]
 | cons b a ih =>
   have hb := h b (List.mem_cons_self ..)
   rw [List.cons_append, Lib.indexByte, if_neg (by simpa using hb), ih (fun x hx => h x (List.mem_cons_of_mem _ hx)), if_neg (by simp), List.length_cons]
   omega
theorem split_mem (c : UInt8) (l : List UInt8) (h : c ∈ l) : ∃ a r, l = a ++ c :: r ∧ ∀ x ∈ a, x ≠ c := by
 induction l with
 | nil => cases h
 | cons b l ih =>
   by_cases hb : b = c
   · exact ⟨[], l, by rw [hb]; rfl, by simp⟩
   · have h' : c ∈ l := by
       rcases List.mem_cons.1 h with h1 | h1
       · exact absurd h1.symm hb
       · exact h1
     obtain ⟨a, r, e, ha⟩ := ih h'
     exact ⟨b :: a, r, by rw [e]; rfl, by
       intro x hx
       rcases List.mem_cons.1 hx with h1 | h1
       · rw [h1]; exact hb
       · exact ha x h1⟩
theorem splitK_one (c : UInt8) (l : List UInt8) : Lib.splitK [c] 0 (l.count c) l = splitC c l := by
 induction hn : l.length using Nat.strongRecOn generalizing l with
 | _ n ih =>
   by_cases h : c ∈ l
   · obtain ⟨a, r, e, ha⟩ := split_mem c l h
     have hc : l.count c = r.count c + 1 := by
       rw [e, List.count_append, List.count_cons_self, List.count_eq_zero.2 (fun hx => ha c hx rfl)]; omega
     have hi : Lib.index l [c] = a.length := by rw [Lib.index_one, e]; exact indexByte_hit c a r ha
     rw [hc, Lib.splitK, hi, if_neg (by simp)]
     rw [show ((a.length : Nat) : Int).toNat + 0 = a.length by omega, show ((a.length : Nat) : Int).toNat + [c].length = a.length + 1 by simp]
     have e1 : l.take a.length = a := by rw [e]; simp
     have e2 : l.drop (a.length + 1) = r := by rw [e, ← List.drop_drop]; simp
     rw [e1, e2, ih r.length (by rw [← hn, e]; simp; omega) r rfl, e, splitC_app c a r ha]
   · rw [List.count_eq_zero.2 h, Lib.splitK, splitC_one c l (fun x hx e => h (e ▸ hx))]
theorem splitC_len (c : UInt8) (l : List UInt8) : (splitC c l).length = l.count c + 1 := by
 induction hn : l.length using Nat.strongRecOn generalizing l with
 | _ n ih =>
   by_cases h : c ∈ l
   · obtain ⟨a, r, e, ha⟩ := split_mem c l h
     have hc : l.count c = r.count c + 1 := by
       rw [e, List.count_append, List.count_cons_self, List.count_eq_zero.2 (fun hx => ha c hx rfl)]; omega
     rw [hc]
     conv => lhs; rw [e, splitC_app c a r ha]
     rw [List.length_cons, ih r.length (by rw [← hn, e]; simp; omega) r rfl]
   · rw [List.count_eq_zero.2 h, splitC_one c l (fun x hx e => h (e ▸ hx))]; rfl
theorem countB_one (c : UInt8) (l : List UInt8) : Lib.countB (S l) (S [c]) + 1 = (splitC c l).length := by
 rw [splitC_len, ← Lib.count_one]; rfl
theorem splitB_one (c : UInt8) (l : List UInt8) : Lib.splitB (S [c]) 0 (Lib.countB (S l) (S [c])) (S l) = (splitC c l).map S := by
 have h := Lib.splitB_data (S [c]) 0 (Lib.countB (S l) (S [c])) (S l)
 have h2 : Lib.splitK (S [c]).data.toList 0 (Lib.countB (S l) (S [c])) (S l).data.toList = splitC c l := by
   rw [← splitK_one, ← Lib.count_one]; rfl
 rw [h2] at h
 rw [← h, List.map_map]
 conv => lhs; rw [← List.map_id (Lib.splitB (S [c]) 0 (Lib.countB (S l) (S [c])) (S l))]
 apply List.map_congr_left
 intro x _
 cases x; rfl
theorem splitC_mem_len (c : UInt8) (l : List UInt8) : ∀ p ∈ splitC c l, p.length ≤ l.length := by
 induction l with
 | nil => simp [splitC]
 | cons b r ih =>
   unfold splitC
   split
   · intro p hp
     rcases List.mem_cons.1 hp with h | h
     · rw [h]; simp
     · have := ih p h; simp; omega
   · split
     · intro p hp; simp at hp; rw [hp]; simp
     · rename_i q qs hq
       intro p hp
       rcases List.mem_cons.1 hp with h | h
       · have := ih q (by rw [hq]; exact List.mem_cons_self ..)
         rw [h]; simp; omega
       · have := ih p (by rw [hq]; exact List.mem_cons_of_mem _ h)
         simp; omega
end
section
def leafT (d : Dat) : List UInt8 :=
 if d.k = 1 then [110, 117, 108, 108] else if d.k = 2 then (if d.n = 1 then [116, 114, 117, 101] else [102, 97, 108, 115, 101])
 else if d.k = 3 then textI d.n else if d.k = 4 then quoteL d.s else if d.k = 5 then [91, 93] else [123, 125]
def scalarP (s : List UInt8) : Option Dat :=
 if s = [110, 117, 108, 108] then some (.mk 1 0 [] [] [])
 else if s = [116, 114, 117, 101] then some (.mk 2 1 [] [] [])
 else if s = [102, 97, 108, 115, 101] then some (.mk 2 0 [] [] [])
 else if s = [91, 93] then some (.mk 5 0 [] [] [])
 else if s = [123, 125] then some (.mk 6 0 [] [] [])
 else if (parseI s).2 = 0 then some (.mk 3 (parseI s).1 [] [] [])
 else if (unqL s).2.1 = 0 ∧ quoteL (unqL s).1 = s then some (.mk 4 0 (unqL s).1 [] [])
 else none
theorem leaf_own {k n : Int} {s : List UInt8} (h : ownE (.mk k n s [] []) = 0) : leafB (.mk k n s [] []) = true :=
 leaf_iff.2 ⟨chk_zero.2 ⟨by decide, h, by intro x hx; simp [Dat.its] at hx, by intro x hx; simp [Dat.mem] at hx⟩, rfl, rfl⟩
theorem parse_vld {s : List UInt8} (h : (parseI s).2 = 0) : vld (parseI s).1 = true ∧ textI (parseI s).1 = s := by
 by_cases hx : ∃ v, vld v = true ∧ textI v = s
 · obtain ⟨v, hv, rfl⟩ := hx
   rw [parseI_text v hv]; exact ⟨hv, rfl⟩
 · rw [parseI_no s fun v hv e => hx ⟨v, hv, e⟩] at h
   cases h
theorem scalar_some {s : List UInt8} {d : Dat} (h : scalarP s = some d) : leafT d = s ∧ leafB d = true ∧ d.s.length ≤ s.length := by
 unfold scalarP at h
 split at h
 · next e => injection h with h; subst h; exact ⟨e.symm, leaf_own (by decide), Nat.zero_le _⟩
 · split at h
   · next e => injection h with h; subst h; exact ⟨e.symm, leaf_own (by decide), Nat.zero_le _⟩
   · split at h
     · next e => injection h with h; subst h; exact ⟨e.symm, leaf_own (by decide), Nat.zero_le _⟩
     · split at h
       · next e => injection h with h; subst h; exact ⟨e.symm, leaf_own (by decide), Nat.zero_le _⟩
       · split at h
         · next e => injection h with h; subst h; exact ⟨e.symm, leaf_own (by decide), Nat.zero_le _⟩
         · split at h
           · next e =>
             obtain ⟨h1, h2⟩ := parse_vld e
             injection h with h; subst h
             refine ⟨h2, leaf_own ?_, Nat.zero_le _⟩
             unfold ownE
             have p1 : plainB (.mk 3 (parseI s).1 [] [] []) = true := plain_iff.2 ⟨⟨show (1 : Int) ≤ 3 by decide, show (3 : Int) ≤ 6 by decide⟩, .inr (.inl rfl), .inr rfl, .inr rfl, .inr rfl⟩
             have p2 : badNum (.mk 3 (parseI s).1 [] [] []) = false := by
               unfold badNum
               show ((decide ((3 : Int) = 2) && _ && _) || (decide ((3 : Int) = 3) && !vld (parseI s).1)) = false
               rw [h1]; simp
             rw [if_neg (by rw [p1]; decide), if_neg (by rw [p2]; decide)]; rfl
           · split at h
             · next e =>
               injection h with h; subst h
               refine ⟨e.2, leaf_own ?_, ?_⟩
               · unfold ownE
                 have p1 : plainB (.mk 4 0 (unqL s).1 [] []) = true := plain_iff.2 ⟨⟨show (1 : Int) ≤ 4 by decide, show (4 : Int) ≤ 6 by decide⟩, .inr (.inr rfl), .inl rfl, .inr rfl, .inr rfl⟩
                 have p2 : badNum (.mk 4 0 (unqL s).1 [] []) = false := rfl
                 rw [if_neg (by rw [p1]; decide), if_neg (by rw [p2]; decide)]; rfl
               · have := (quote_len (unqL s).1).1
                 rw [e.2] at this
                 show (unqL s).1.length ≤ s.length
                 omega
             · cases h
section
variable (pp : List UInt8 → List Stp × Nat × Nat)
def scanE (s : List UInt8) : Nat → Nat → Option (Nat × Dat)
 | 0, _ => none
 | f + 1, i => if i + 3 ≤ s.length then (if sl s i (i + 3) = [32, 61, 32] then (match scalarP (s.drop (i + 3)) with | some d => some (i, d) | none => scanE s f (i + 1)) else scanE s f (i + 1)) else none
def entryP (s : List UInt8) : Option Ent :=
 match scanE s (s.length + 1) 0 with
 | none => none
 | some (i, d) => if (pp (s.take i)).2.1 = 0 then some ((pp (s.take i)).1, d) else none
def skipB (l : List UInt8) : Bool := l.isEmpty || [47, 47].isPrefixOf l
def linesP : List (List UInt8) → Nat → Except Nat (List Ent)
 | [], _ => .ok []
 | l :: r, n => if skipB l = true then linesP r (n + 1) else
   match entryP pp l with
   | none => .error n
   | some e => match linesP r (n + 1) with
     | .error k => .error k
     | .ok L => .ok (e :: L)
def parseD (s : List UInt8) : Dat × Nat × Nat :=
 if 65536 < s.length then (dat0, 2, 0)
 else match linesP pp (splitC 10 s) 1 with
   | .error n => (dat0, 19, n)
   | .ok L => ((buildD L).1, (buildD L).2, 0)
def lineT (e : Ent) : List UInt8 := textS e.1 ++ [32, 61, 32] ++ leafT e.2
def linesT (L : List Ent) : List UInt8 := L.flatMap fun e => lineT e ++ [10]
def textD (d : Dat) : List UInt8 × Nat := if (flatD d).2 = 0 then (linesT (flatD d).1, 0) else ([], (flatD d).2)
def PpOk : Prop := ∀ s, s.length ≤ 65536 → (pp s).2.1 = 0 → okL (pp s).1 = true ∧ textS (pp s).1 = s ∧ ∀ x ∈ (pp s).1, x.lab.length ≤ s.length
variable {pp}
theorem scanE_some {s : List UInt8} : ∀ {f i j : Nat} {d : Dat}, scanE s f i = some (j, d) → j + 3 ≤ s.length ∧ sl s j (j + 3) = [32, 61, 32] ∧ scalarP (s.drop (j + 3)) = some d
 | 0, _, _, _, h => by cases h
 | f + 1, i, j, d, h => by
   rw [scanE] at h
   by_cases h1 : i + 3 ≤ s.length
   · rw [if_pos h1] at h
     by_cases h2 : sl s i (i + 3) = [32, 61, 32]
     · rw [if_pos h2] at h
       cases h3 : scalarP (s.drop (i + 3)) with
       | some d' =>
         rw [h3] at h
         injection h with h; injection h with ha hb
         subst ha; subst hb
         exact ⟨h1, h2, h3⟩
       | none => rw [h3] at h; exact scanE_some h
     · rw [if_neg h2] at h; exact scanE_some h
   · rw [if_neg h1] at h; cases h
theorem entry_some (hp : PpOk pp) {s : List UInt8} {e : Ent} (hs : s.length ≤ 65536) (h : entryP pp s = some e) : lineT e = s ∧ okL e.1 = true ∧ leafB e.2 = true ∧ e.2.s.length ≤ s.length ∧ ∀ x ∈ e.1, x.lab.length ≤ s.length := by
 unfold entryP at h
 cases hx : scanE s (s.length + 1) 0 with
 | none => rw [hx] at h; cases h
 | some r =>
   obtain ⟨i, d⟩ := r
   rw [hx] at h
   simp only at h
   obtain ⟨h1, h2, h3⟩ := scanE_some hx
   by_cases h4 : (pp (s.take i)).2.1 = 0
   · rw [if_pos h4] at h
     injection h with h
     subst h
     have hti : (s.take i).length ≤ i := List.length_take_le ..
     obtain ⟨q1, q2, q3⟩ := hp (s.take i) (by omega) h4
     obtain ⟨r1, r2, r3⟩ := scalar_some h3
     rw [List.length_drop] at r3
     refine ⟨?_, q1, r2, by simp only; omega, fun x hx => by have := q3 x hx; omega⟩
     unfold lineT
     simp only
     rw [q2, r1, ← h2]
     have e1 : s.take i ++ sl s i (i + 3) = s.take (i + 3) := by
       unfold sl
       rw [show i + 3 - i = 3 by omega, ← List.take_add]
     rw [e1, List.take_append_drop]
   · rw [if_neg h4] at h; cases h
theorem linesT_sum (L : List Ent) : (linesT L).length = (L.map fun e => (lineT e).length + 1).sum := by
 unfold linesT
 induction L with
 | nil => rfl
 | cons e r ih => rw [List.flatMap_cons, List.length_append, ih]; simp
end
end
section
open Go.RowKit
def btw : List UInt8 := [32, 61, 32]
theorem occ_sl (s : List UInt8) (a j : Nat) : Lib.occAt (s.drop a) btw j = true ↔ sl s (a + j) (a + j + 3) = btw := by
 unfold Lib.occAt sl
 rw [List.drop_drop, show a + j + 3 - (a + j) = 3 by omega, List.isPrefixOf_iff_prefix, List.prefix_iff_eq_take]
 exact ⟨fun h => h.symm, fun h => h.symm⟩
theorem scanE_no (s : List UInt8) : ∀ (f a : Nat), (∀ j, Lib.occAt (s.drop a) btw j = false) → scanE s f a = none
 | 0, _, _ => rfl
 | f + 1, a, h => by
   rw [scanE]
   by_cases h1 : a + 3 ≤ s.length
   · rw [if_pos h1, if_neg, scanE_no s f (a + 1)]
     · intro j
       cases h2 : Lib.occAt (s.drop (a + 1)) btw j with
       | false => rfl
       | true =>
         have h3 := (occ_sl s (a + 1) j).1 h2
         have h4 := h (1 + j)
         rw [show a + 1 + j = a + (1 + j) by omega] at h3
         rw [(occ_sl s a (1 + j)).2 h3] at h4
         cases h4
     · intro h2
       have h4 := h 0
       rw [(occ_sl s a 0).2 h2] at h4
       cases h4
   · rw [if_neg h1]
theorem scanE_skip (s : List UInt8) : ∀ (n f a : Nat), (∀ j, j < n → Lib.occAt (s.drop a) btw j = false) → a + n + 3 ≤ s.length → scanE s (f + n) a = scanE s f (a + n)
 | 0, _, _, _, _ => rfl
 | n + 1, f, a, h, hl => by
   rw [show f + (n + 1) = f + n + 1 by omega, scanE, if_pos (by omega), if_neg, scanE_skip s n f (a + 1) ?_ (by omega), show a + 1 + n = a + (n + 1) by omega]
   · intro j hj
     cases h2 : Lib.occAt (s.drop (a + 1)) btw j with
     | false => rfl
     | true =>
       have h3 := (occ_sl s (a + 1) j).1 h2
       have h4 := h (1 + j) (by omega)
       rw [show a + 1 + j = a + (1 + j) by omega] at h3
       rw [(occ_sl s a (1 + j)).2 h3] at h4
       cases h4
   · intro h2
     have h4 := h 0 (by omega)
     rw [(occ_sl s a 0).2 h2] at h4
     cases h4
theorem scan_look (s : List UInt8) (a : Nat) (ha : a ≤ s.length) :
   (Lib.index (s.drop a) btw = -1 ∧ scanE s (s.length + 1 - a) a = none) ∨
   ∃ n : Nat, Lib.index (s.drop a) btw = (n : Int) ∧ a + n + 3 ≤ s.length ∧ scanE s (s.length + 1 - a) a = (match scalarP (s.drop (a + n + 3)) with | some d => some (a + n, d) | none => scanE s (s.length + 1 - (a + n + 1)) (a + n + 1)) := by
 rcases Lib.index_spec (s.drop a) btw with ⟨h1, h2⟩ | ⟨n, h1, h2, h3, h4⟩
 · refine .inl ⟨h1, scanE_no s _ a fun j => ?_⟩
   rcases Nat.lt_or_ge (s.drop a).length j with hj | hj
   · cases h5 : Lib.occAt (s.drop a) btw j with
     | false => rfl
     | true =>
       unfold Lib.occAt at h5
       rw [List.drop_of_length_le (Nat.le_of_lt hj)] at h5
       cases h5
   · exact h2 j hj
 · have h5 := (occ_sl s a n).1 h3
   have h6 : a + n + 3 ≤ s.length := by
     have := congrArg List.length h5
     unfold sl at this
     rw [List.length_take, List.length_drop] at this
     change _ = 3 at this
     omega
   refine .inr ⟨n, h1, h6, ?_⟩
   have e1 : s.length + 1 - a = (s.length - a - n + 1 - 1) + 1 + n := by omega
   rw [e1, scanE_skip s n _ a (fun j hj => h4 j hj) h6, scanE, if_pos h6, if_pos (show sl s (a + n) (a + n + 3) = [32, 61, 32] from h5)]
   rw [show s.length - a - n + 1 - 1 = s.length + 1 - (a + n + 1) by omega]
   try (cases scalarP (s.drop (a + n + 3)) <;> rfl)
end
section
open Go.RowKit
def Blk (W : World) (B : Nat) (cs : Array Value) (t : TypeId) : Prop := W.heap[B]? = some (.cells cs t (0, 0))
theorem Blk.lt {W : World} {B : Nat} {cs : Array Value} {t : TypeId} (h : Blk W B cs t) : B < W.heap.size := (Array.getElem?_eq_some_iff.1 h).1
theorem Blk.cell {W : World} {B : Nat} {cs : Array Value} {t : TypeId} (h : Blk W B cs t) (i : Nat) : W.cell? ⟨B, i, none⟩ = cs[i]? := by simp [World.cell?, show W.heap[B]? = _ from h]
theorem Blk.frozen {W : World} {B : Nat} {cs : Array Value} {t : TypeId} (h : Blk W B cs t) (i : Nat) : W.frozen? ⟨B, i, none⟩ = false := by simp [World.frozen?, show W.heap[B]? = _ from h]
theorem Blk.new (W : World) (cs : Array Value) (t : TypeId) : Blk (W.alloc (.cells cs t)) W.heap.size cs t := heap_alloc_new W _
theorem Blk.below {W W' : World} {B : Nat} {cs : Array Value} {t : TypeId} (h : Blk W B cs t) (hb : Below W.heap.size W W') : Blk W' B cs t := (hb.block B h.lt).trans h
theorem Blk.underB {W W' : World} {B N : Nat} {cs : Array Value} {t : TypeId} (h : Blk W B cs t) (hb : Below N W W') (hN : B < N) : Blk W' B cs t := (hb.block B hN).trans h
theorem Blk.kept {W W' : World} {row : Option Nat} {B : Nat} {cs : Array Value} {t : TypeId} (h : Blk W B cs t) (hg : W.grownBy W' row) (hne : some B ≠ row) : Blk W' B cs t := (hg.block B h.lt hne).trans h
theorem below_new {w w1 : World} {cs : Array Value} {t : TypeId} (hb : Below (w.alloc (.cells cs t)).heap.size (w.alloc (.cells cs t)) w1) : Blk w1 w.heap.size cs t ∧ Below w.heap.size w w1 :=
 ⟨(Blk.new w cs t).below hb, ((Below.refl _ _).alloc (Nat.le_refl _) _).trans (hb.mono (by simp))⟩
theorem Blk.set {W : World} {B : Nat} {cs : Array Value} {t : TypeId} (h : Blk W B cs t) (i : Nat) (v : Value) : Blk (W.setCell ⟨B, i, none⟩ v) B (cs.setIfInBounds i v) t := by
 have hl := h.lt
 unfold Blk at h ⊢
 simp only [World.setCell, Array.getElem?_modify, if_true, h, Option.map_some]
 rfl
theorem Blk.set_other {W : World} {B B' : Nat} {cs : Array Value} {t : TypeId} (h : Blk W B cs t) (i : Nat) (v : Value) (hne : B' ≠ B) : Blk (W.setCell ⟨B', i, none⟩ v) B cs t := by
 unfold Blk at h ⊢
 simp only [World.setCell, Array.getElem?_modify, if_neg hne, h]
theorem Blk.alloc {W : World} {B : Nat} {cs : Array Value} {t : TypeId} (h : Blk W B cs t) (o : Obj) : Blk (W.alloc o) B cs t := by
 have hl := h.lt
 unfold Blk at h ⊢
 simp only [World.alloc]
 rw [Array.getElem?_push_lt hl]; rw [Array.getElem?_eq_getElem hl] at h; exact h
theorem Blk.drew {W : World} {B : Nat} {cs : Array Value} {t : TypeId} (h : Blk W B cs t) : Blk W.drew B cs t := h
theorem below_drew {B : Nat} {a w : World} (h : Below B a w) : Below B a w.drew := below_drewN h 1
end
section
open Go.RowKit
structure DCell (W : World) (B o : Nat) (d : Dat) (vi vm : Value) : Prop where
 c0 : W.cell? ⟨B, o, none⟩ = some (.int .i64 d.k)
 c1 : W.cell? ⟨B, o + 1, none⟩ = some (.int .i64 d.n)
 c2 : W.cell? ⟨B, o + 2, none⟩ = some (.string (S d.s))
 c3 : W.cell? ⟨B, o + 3, none⟩ = some vi
 c4 : W.cell? ⟨B, o + 4, none⟩ = some vm
theorem DCell.below {W W' : World} {B o : Nat} {d : Dat} {vi vm : Value} (h : DCell W B o d vi vm) (hb : Below W.heap.size W W') (hB : B < W.heap.size) : DCell W' B o d vi vm :=
 ⟨(hb.cell (p := ⟨B, o, none⟩) hB).trans h.c0, (hb.cell (p := ⟨B, o + 1, none⟩) hB).trans h.c1, (hb.cell (p := ⟨B, o + 2, none⟩) hB).trans h.c2, (hb.cell (p := ⟨B, o + 3, none⟩) hB).trans h.c3, (hb.cell (p := ⟨B, o + 4, none⟩) hB).trans h.c4⟩
inductive Rep (W : World) (ok : Nat → Prop) : Dat → Value → Value → Prop
 | mk {d : Dat} (p q : Option Addr) (cap caq B o B' o' : Nat) (vi vm ui um : Nat → Value)
   (hl : d.its.length ≤ maxLen ∧ d.mem.length ≤ maxLen)
   (hp : 0 < d.its.length → p = some ⟨B, o, none⟩ ∧ d.its.length ≤ cap ∧ B < W.heap.size ∧ ok B)
   (hc : ∀ (j : Nat) (h : j < d.its.length), DCell W B (o + j * 5) d.its[j] (vi j) (vm j))
   (hr : ∀ (j : Nat) (h : j < d.its.length), Rep W ok d.its[j] (vi j) (vm j))
   (hq : 0 < d.mem.length → q = some ⟨B', o', none⟩ ∧ d.mem.length ≤ caq ∧ B' < W.heap.size ∧ ok B')
   (hd : ∀ (j : Nat) (h : j < d.mem.length), W.cell? ⟨B', o' + j * 6, none⟩ = some (.string (S d.mem[j].1)) ∧ DCell W B' (o' + j * 6 + 1) d.mem[j].2 (ui j) (um j))
   (hs : ∀ (j : Nat) (h : j < d.mem.length), Rep W ok d.mem[j].2 (ui j) (um j)) :
   Rep W ok d (.slice p d.its.length cap) (.slice q d.mem.length caq)
theorem Rep.under {W W' : World} {ok : Nat → Prop} (hb : Below W.heap.size W W') {d : Dat} {vi vm : Value} (h : Rep W ok d vi vm) : Rep W' ok d vi vm := by
 induction h with
 | mk p q cap caq B o B' o' vi vm ui um hl hp hc hr hq hd hs ihr ihs =>
   refine .mk p q cap caq B o B' o' vi vm ui um hl (fun h => ?_) (fun j h => ?_) ihr (fun h => ?_) (fun j h => ?_) ihs
   · obtain ⟨h1, h2, h3, h4⟩ := hp h; exact ⟨h1, h2, Nat.lt_of_lt_of_le h3 hb.size, h4⟩
   · exact (hc j h).below hb (hp (by omega)).2.2.1
   · obtain ⟨h1, h2, h3, h4⟩ := hq h; exact ⟨h1, h2, Nat.lt_of_lt_of_le h3 hb.size, h4⟩
   · obtain ⟨-, -, h3, -⟩ := hq (by omega)
     exact ⟨(hb.cell (p := ⟨B', o' + j * 6, none⟩) h3).trans (hd j h).1, (hd j h).2.below hb h3⟩
theorem Rep.mono {W : World} {ok ok' : Nat → Prop} (hk : ∀ B, B < W.heap.size → ok B → ok' B) {d : Dat} {vi vm : Value} (h : Rep W ok d vi vm) : Rep W ok' d vi vm := by
 induction h with
 | mk p q cap caq B o B' o' vi vm ui um hl hp hc hr hq hd hs ihr ihs =>
   refine .mk p q cap caq B o B' o' vi vm ui um hl (fun h => ?_) hc ihr (fun h => ?_) hd ihs
   · obtain ⟨h1, h2, h3, h4⟩ := hp h; exact ⟨h1, h2, h3, hk B h3 h4⟩
   · obtain ⟨h1, h2, h3, h4⟩ := hq h; exact ⟨h1, h2, h3, hk B' h3 h4⟩
theorem grown_cell {W W' : World} {row : Option Nat} (hg : W.grownBy W' row) {B : Nat} (hB : B < W.heap.size) (hne : some B ≠ row) (o : Nat) : W'.cell? ⟨B, o, none⟩ = W.cell? ⟨B, o, none⟩ := World.cell?_of_block (hg.block B hB hne)
theorem Rep.grown {W W' : World} {row : Option Nat} {ok : Nat → Prop} (hg : W.grownBy W' row) (hk : ∀ B, ok B → some B ≠ row) {d : Dat} {vi vm : Value} (h : Rep W ok d vi vm) : Rep W' ok d vi vm := by
 induction h with
 | mk p q cap caq B o B' o' vi vm ui um hl hp hc hr hq hd hs ihr ihs =>
   refine .mk p q cap caq B o B' o' vi vm ui um hl (fun h => ?_) (fun j h => ?_) ihr (fun h => ?_) (fun j h => ?_) ihs
   · obtain ⟨h1, h2, h3, h4⟩ := hp h; exact ⟨h1, h2, Nat.lt_of_lt_of_le h3 hg.size, h4⟩
   · obtain ⟨-, -, h3, h4⟩ := hp (by omega)
     have k := grown_cell hg h3 (hk B h4)
     have c := hc j h
     exact ⟨(k _).trans c.c0, (k _).trans c.c1, (k _).trans c.c2, (k _).trans c.c3, (k _).trans c.c4⟩
   · obtain ⟨h1, h2, h3, h4⟩ := hq h; exact ⟨h1, h2, Nat.lt_of_lt_of_le h3 hg.size, h4⟩
   · obtain ⟨-, -, h3, h4⟩ := hq (by omega)
     have k := grown_cell hg h3 (hk B' h4)
     have c := (hd j h).2
     exact ⟨(k _).trans (hd j h).1, (k _).trans c.c0, (k _).trans c.c1, (k _).trans c.c2, (k _).trans c.c3, (k _).trans c.c4⟩
def dv (d : Dat) (vi vm : Value) : Value := .agg #[.int .i64 d.k, .int .i64 d.n, .string (S d.s), vi, vm]
theorem Rep.items {W : World} {ok : Nat → Prop} {d : Dat} {vi vm : Value} (h : Rep W ok d vi vm) : ∃ p cap, vi = .slice p d.its.length cap ∧ d.its.length ≤ maxLen ∧
   ∀ (j : Nat) (h : j < d.its.length), ∃ B o xi xm, p = some ⟨B, o, none⟩ ∧ d.its.length ≤ cap ∧ B < W.heap.size ∧ DCell W B (o + j * 5) d.its[j] xi xm ∧ Rep W ok d.its[j] xi xm := by
 cases h with
 | mk p q cap caq B o B' o' vi vm ui um hl hp hc hr hq hd hs =>
   refine ⟨p, cap, rfl, hl.1, fun j h => ?_⟩
   obtain ⟨h1, h2, h3, -⟩ := hp (by omega)
   exact ⟨B, o, _, _, h1, h2, h3, hc j h, hr j h⟩
theorem Rep.members {W : World} {ok : Nat → Prop} {d : Dat} {vi vm : Value} (h : Rep W ok d vi vm) : ∃ q caq, vm = .slice q d.mem.length caq ∧ d.mem.length ≤ maxLen ∧
   ∀ (j : Nat) (h : j < d.mem.length), ∃ B o xi xm, q = some ⟨B, o, none⟩ ∧ d.mem.length ≤ caq ∧ B < W.heap.size ∧ W.cell? ⟨B, o + j * 6, none⟩ = some (.string (S d.mem[j].1)) ∧ DCell W B (o + j * 6 + 1) d.mem[j].2 xi xm ∧ Rep W ok d.mem[j].2 xi xm := by
 cases h with
 | mk p q cap caq B o B' o' vi vm ui um hl hp hc hr hq hd hs =>
   refine ⟨q, caq, rfl, hl.2, fun j h => ?_⟩
   obtain ⟨h1, h2, h3, -⟩ := hq (by omega)
   exact ⟨B', o', _, _, h1, h2, h3, (hd j h).1, (hd j h).2, hs j h⟩
theorem rep_leaf (W : World) (ok : Nat → Prop) {d : Dat} (hi : d.its = []) (hm : d.mem = []) (p q : Option Addr) (cap caq : Nat) : Rep W ok d (.slice p 0 cap) (.slice q 0 caq) := by
 have h := Rep.mk (W := W) (ok := ok) (d := d) p q cap caq 0 0 0 0 (fun _ => .nilFunc) (fun _ => .nilFunc) (fun _ => .nilFunc) (fun _ => .nilFunc) (by rw [hi, hm]; exact ⟨Nat.zero_le _, Nat.zero_le _⟩) (by rw [hi]; intro h; simp at h) (by rw [hi]; intro j h; simp at h) (by rw [hi]; intro j h; simp at h) (by rw [hm]; intro h; simp at h) (by rw [hm]; intro j h; simp at h) (by rw [hm]; intro j h; simp at h)
 rw [hi, hm] at h
 exact h
def cells5 (t : Dat × Value × Value) : List Value := [.int .i64 t.1.k, .int .i64 t.1.n, .string (S t.1.s), t.2.1, t.2.2]
def flat5 (T : List (Dat × Value × Value)) : List Value := T.flatMap cells5
def cells6 (t : List UInt8 × Dat × Value × Value) : List Value := .string (S t.1) :: cells5 t.2
def flat6 (T : List (List UInt8 × Dat × Value × Value)) : List Value := T.flatMap cells6
theorem flat5_snoc (T : List (Dat × Value × Value)) (t : Dat × Value × Value) : flat5 (T ++ [t]) = flat5 T ++ cells5 t := by unfold flat5; simp
theorem flat6_snoc (T : List (List UInt8 × Dat × Value × Value)) (t : List UInt8 × Dat × Value × Value) : flat6 (T ++ [t]) = flat6 T ++ cells6 t := by unfold flat6; simp
theorem flat5_get : ∀ (T : List (Dat × Value × Value)) (j : Nat) (h : j < T.length) (i : Nat), i < 5 → (flat5 T)[j * 5 + i]? = (cells5 T[j])[i]?
 | t :: r, 0, _, i, hi => by
   unfold flat5
   rw [List.flatMap_cons, Nat.zero_mul, Nat.zero_add, List.getElem?_append_left (by simp [cells5]; omega)]; rfl
 | t :: r, j + 1, h, i, hi => by
   have := flat5_get r j (by simpa using h) i hi
   unfold flat5 at *
   rw [List.flatMap_cons, List.getElem?_append_right (by simp [cells5]; omega), show (j + 1) * 5 + i - (cells5 t).length = j * 5 + i by simp [cells5]; omega, this]; rfl
theorem flat6_get : ∀ (T : List (List UInt8 × Dat × Value × Value)) (j : Nat) (h : j < T.length) (i : Nat), i < 6 → (flat6 T)[j * 6 + i]? = (cells6 T[j])[i]?
 | t :: r, 0, _, i, hi => by
   unfold flat6
   rw [List.flatMap_cons, Nat.zero_mul, Nat.zero_add, List.getElem?_append_left (by simp [cells6, cells5]; omega)]; rfl
 | t :: r, j + 1, h, i, hi => by
   have := flat6_get r j (by simpa using h) i hi
   unfold flat6 at *
   rw [List.flatMap_cons, List.getElem?_append_right (by simp [cells6, cells5]; omega), show (j + 1) * 6 + i - (cells6 t).length = j * 6 + i by simp [cells6, cells5]; omega, this]; rfl
theorem own_head {W : World} {base : Nat} {e : TypeId} {s : Nat} {v : Value} {k : Nat} {xs : List Value} (h : W.ownsRow base e s v k xs) : (v = .slice none 0 0 ∧ k = 0) ∨ ∃ g cap, v = .slice (some ⟨g, 0, none⟩) k cap ∧ base ≤ g ∧ k ≤ cap ∧ g < W.heap.size ∧ v.ownBlock = some g := by
 rcases h.2 with h2 | ⟨g, cap, cur, rfl, hb, hg, hc, -⟩
 · exact .inl h2
 · exact .inr ⟨g, cap, rfl, hb, hc, (Array.getElem?_eq_some_iff.1 hg).1, by simp [Value.ownBlock]⟩
theorem rep_own {W : World} {base : Nat} {e f : TypeId} {ok : Nat → Prop} {k n : Int} {s : List UInt8} {vi vm : Value} {T : List (Dat × Value × Value)} {U : List (List UInt8 × Dat × Value × Value)}
   (hi : W.ownsRow base e 5 vi T.length (flat5 T)) (hm : W.ownsRow base f 6 vm U.length (flat6 U)) (hl : T.length ≤ maxLen ∧ U.length ≤ maxLen) (hok : ∀ B, base ≤ B → ok B)
   (ht : ∀ t ∈ T, Rep W ok t.1 t.2.1 t.2.2) (hu : ∀ t ∈ U, Rep W ok t.2.1 t.2.2.1 t.2.2.2) :
   Rep W ok (.mk k n s (T.map fun t => t.1) (U.map fun t => (t.1, t.2.1))) vi vm := by
 have ci : ∃ p cap B, vi = .slice p T.length cap ∧ (0 < T.length → p = some ⟨B, 0, none⟩ ∧ T.length ≤ cap ∧ B < W.heap.size ∧ ok B) ∧ ∀ (j : Nat) (h : j < T.length), DCell W B (0 + j * 5) T[j].1 T[j].2.1 T[j].2.2 := by
   rcases own_head hi with ⟨rfl, h0⟩ | ⟨g, cap, rfl, hb, hc, hg, -⟩
   · exact ⟨none, 0, 0, by rw [h0], by omega, fun j h => by omega⟩
   · refine ⟨_, cap, g, rfl, fun _ => ⟨rfl, hc, hg, hok g hb⟩, fun j h => ?_⟩
     have c0 := hi.cells (g := g) rfl (j * 5 + 0) _ (flat5_get T j h 0 (by omega))
     have c1 := hi.cells (g := g) rfl (j * 5 + 1) _ (flat5_get T j h 1 (by omega))
     have c2 := hi.cells (g := g) rfl (j * 5 + 2) _ (flat5_get T j h 2 (by omega))
     have c3 := hi.cells (g := g) rfl (j * 5 + 3) _ (flat5_get T j h 3 (by omega))
     have c4 := hi.cells (g := g) rfl (j * 5 + 4) _ (flat5_get T j h 4 (by omega))
     rw [Lib.add_plain, Nat.zero_add] at c0 c1 c2 c3 c4
     rw [Nat.zero_add]
     exact ⟨c0, c1, c2, c3, c4⟩
 have cm : ∃ p cap B, vm = .slice p U.length cap ∧ (0 < U.length → p = some ⟨B, 0, none⟩ ∧ U.length ≤ cap ∧ B < W.heap.size ∧ ok B) ∧ ∀ (j : Nat) (h : j < U.length), W.cell? ⟨B, 0 + j * 6, none⟩ = some (.string (S U[j].1)) ∧ DCell W B (0 + j * 6 + 1) U[j].2.1 U[j].2.2.1 U[j].2.2.2 := by
   rcases own_head hm with ⟨rfl, h0⟩ | ⟨g, cap, rfl, hb, hc, hg, -⟩
   · exact ⟨none, 0, 0, by rw [h0], by omega, fun j h => by omega⟩
   · refine ⟨_, cap, g, rfl, fun _ => ⟨rfl, hc, hg, hok g hb⟩, fun j h => ?_⟩
     have c0 := hm.cells (g := g) rfl (j * 6 + 0) _ (flat6_get U j h 0 (by omega))
     have c1 := hm.cells (g := g) rfl (j * 6 + 1) _ (flat6_get U j h 1 (by omega))
     have c2 := hm.cells (g := g) rfl (j * 6 + 2) _ (flat6_get U j h 2 (by omega))
     have c3 := hm.cells (g := g) rfl (j * 6 + 3) _ (flat6_get U j h 3 (by omega))
     have c4 := hm.cells (g := g) rfl (j * 6 + 4) _ (flat6_get U j h 4 (by omega))
     have c5 := hm.cells (g := g) rfl (j * 6 + 5) _ (flat6_get U j h 5 (by omega))
     rw [Lib.add_plain, Nat.zero_add] at c0 c1 c2 c3 c4 c5
     rw [Nat.zero_add]
     exact ⟨c0, c1, c2, c3, c4, c5⟩
 obtain ⟨p, cap, B, rfl, p1, p2⟩ := ci
 obtain ⟨q, caq, B', rfl, q1, q2⟩ := cm
 have h := Rep.mk (W := W) (ok := ok) (d := .mk k n s (T.map fun t => t.1) (U.map fun t => (t.1, t.2.1))) p q cap caq B 0 B' 0 (fun j => (T.getD j (dat0, .nilFunc, .nilFunc)).2.1) (fun j => (T.getD j (dat0, .nilFunc, .nilFunc)).2.2) (fun j => (U.getD j ([], dat0, .nilFunc, .nilFunc)).2.2.1) (fun j => (U.getD j ([], dat0, .nilFunc, .nilFunc)).2.2.2)
   (by simp only [Dat.its, Dat.mem, List.length_map]; exact hl) (by simp only [Dat.its, List.length_map]; exact p1)
   (fun j h => by
     simp only [Dat.its, List.length_map] at h
     simp only [Dat.its, List.getElem_map, List.getD, List.getElem?_eq_getElem h, Option.getD_some]
     exact p2 j h)
   (fun j h => by
     simp only [Dat.its, List.length_map] at h
     simp only [Dat.its, List.getElem_map, List.getD, List.getElem?_eq_getElem h, Option.getD_some]
     exact ht _ (List.getElem_mem h))
   (by simp only [Dat.mem, List.length_map]; exact q1)
   (fun j h => by
     simp only [Dat.mem, List.length_map] at h
     simp only [Dat.mem, List.getElem_map, List.getD, List.getElem?_eq_getElem h, Option.getD_some]
     exact q2 j h)
   (fun j h => by
     simp only [Dat.mem, List.length_map] at h
     simp only [Dat.mem, List.getElem_map, List.getD, List.getElem?_eq_getElem h, Option.getD_some]
     exact hu _ (List.getElem_mem h))
 simp only [Dat.its, Dat.mem, List.length_map] at h
 exact h
end
end Go.Proofs.YtoahmganodehkaaGreatDoor
