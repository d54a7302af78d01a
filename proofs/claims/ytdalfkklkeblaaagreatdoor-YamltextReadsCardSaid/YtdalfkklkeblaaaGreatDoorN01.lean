import Derived.WalkKit
import Derived.WalkSpells
import Derived.WalkLawsBesides
import Derived.Lib.Hide
import Derived.Lib.AppendStr
import Derived.BigQuiet
import Derived.Deep.QuietTactic
import Derived.Test.YtdalfkklkeblaaaGreatDoorChecked
import Derived.Lib.ItoaNum
import Derived.Lib.ParseIntB
import Derived.Lib.AppendIntMem
import Derived.Lib.SmallJoins
import Derived.Test.YtdalfkklkeblaaaGreatDoorProg
import Derived.Handy
import Derived.Lib.ItoaWalk
import Derived.BigCall
import Derived.BigGuard
import Derived.Test.YtdalfkklkeblaaaGreatDoorShelf
import Derived.LoopTactic
import Derived.Outline
import Derived.Deep.DeepCutAuto
import Derived.Deep.CutBlock
import Derived.OrdersHeld
import Derived.ProofKit
import Derived.RangeFuncNested
import Derived.RangeFuncBound
import Derived.RangeFuncCalls
import Derived.RangeFuncLeaves
import Derived.RangeFuncBox
import Derived.Shelf.Abstract
import Derived.Shelf.RegionOpen
import Derived.OwnWalkIn
import Derived.TacticsInMore
import Derived.LoopNIn
import Derived.LoopIn
import Derived.Maps.AppendAt
namespace Go.Proofs.YtdalfkklkeblaaaGreatDoor
set_option linter.unusedSimpArgs false
set_option linter.unusedVariables false
section
open Go.RowKit
def S (l : List UInt8) : ByteArray := ⟨l.toArray⟩
def byt (l : List UInt8) (k : Nat) : UInt8 := l.getD k 0
def sl (l : List UInt8) (a b : Nat) : List UInt8 := (l.drop a).take (b - a)
def ct (a b : List UInt8) : List UInt8 := a ++ b
theorem S_ex (s : ByteArray) : ∃ l, s = S l := ⟨s.data.toList, by cases s; simp [S]⟩
theorem S_data (l : List UInt8) : (S l).data.toList = l := rfl
@[go_sem] theorem S_size (l : List UInt8) : (S l).size = l.length := rfl
@[go_sem] theorem S_toList (l : List UInt8) : (S l).toList = l := ByteArray.toList_mk l
theorem S_get? (l : List UInt8) (k : Nat) (h : k < (S l).size) : (S l)[k]'h = byt l k := by
 have h' : k < l.length := h
 have e : (S l)[k]'h = l[k]'h' := rfl
 rw [e]; simp [byt, List.getD, List.getElem?_eq_getElem h']
@[go_sem] theorem S_get (l : List UInt8) (k : Nat) (h : k < (S l).size) : (S l)[k]'h = byt l k := S_get? l k h
@[go_sem] theorem S_extract (l : List UInt8) (a b : Nat) : (S l).extract a b = S (sl l a b) := by
 unfold S sl; rw [ByteArray.extract_mk]
@[go_sem] theorem S_append (a b : List UInt8) : S a ++ S b = S (ct a b) := by
 unfold S ct; rw [ByteArray.mk_append_mk]
@[go_sem] theorem S_append_mk (a b : List UInt8) : S a ++ ByteArray.mk b.toArray = S (ct a b) := S_append a b
@[go_sem] theorem mk_append_S (a b : List UInt8) : ByteArray.mk a.toArray ++ S b = S (ct a b) := S_append a b
@[go_sem] theorem mk_append_mk (a b : List UInt8) : ByteArray.mk a.toArray ++ ByteArray.mk b.toArray = S (ct a b) := S_append a b
@[go_sem] theorem mk_extract (l : List UInt8) (a b : Nat) : (ByteArray.mk l.toArray).extract a b = S (sl l a b) := S_extract l a b
theorem ct_eq (a b : List UInt8) : ct a b = a ++ b := rfl
@[go_sem] theorem ct_len (a b : List UInt8) : (ct a b).length = a.length + b.length := List.length_append
theorem sl_le (l : List UInt8) (a b : Nat) : (sl l a b).length ≤ b - a := by unfold sl; rw [List.length_take]; omega
theorem sl_from (l : List UInt8) (a : Nat) : sl l a l.length = l.drop a := by
 unfold sl; rw [List.take_of_length_le]; rw [List.length_drop]; omega
theorem sl_to (l : List UInt8) (b : Nat) : sl l 0 b = l.take b := by unfold sl; rfl
theorem byt_get (l : List UInt8) (k : Nat) (h : k < l.length) : byt l k = l[k] := by simp [byt, List.getD, List.getElem?_eq_getElem h]
theorem drop_byt (l : List UInt8) (k : Nat) (h : k < l.length) : l.drop k = byt l k :: l.drop (k + 1) := by
 rw [byt_get l k h]; exact List.drop_eq_getElem_cons h
theorem take_byt (l : List UInt8) (k : Nat) (h : k < l.length) : l.take (k + 1) = l.take k ++ [byt l k] := by
 rw [byt_get l k h, List.take_succ_eq_append_getElem h]
theorem u8_ofNat_toNat (n : Nat) (hn : n < 256) : (UInt8.ofNat n).toNat = n := by simp [Nat.mod_eq_of_lt hn]
theorem u8_ne {c d : UInt8} (h : ¬ c = d) : ((c.toNat : Int) == (d.toNat : Int)) = false := by
 have : c.toNat ≠ d.toNat := fun e => h (UInt8.toNat_inj.1 e)
 simp; omega
theorem encode_S (c : UInt8) (h : c.toNat < 128) : Utf8.encode (c.toNat : Int) = S [c] := by
 unfold Utf8.encode
 have hv : Utf8.valid (c.toNat : Int) = true := by simp [Utf8.valid]; omega
 simp [hv, h, S]
def bcells (l : List UInt8) : List Value := l.map fun c => Value.int .u8 (c.toNat : Int)
theorem bcells_append (a b : List UInt8) : bcells a ++ bcells b = bcells (a ++ b) := (List.map_append ..).symm
section
variable {P : Program}
theorem conv_at (w : World) (src dst e : TypeId) (a : Addr) (cap : Nat) (l : List UInt8) (hs : P.underlying src = some (.slice e)) (he : P.underlying e = some (.int .u8)) (hd : P.underlying dst = some .string)
   (hc : ∀ j u, (bcells l)[j]? = some u → w.cell? (a.add j) = some u) :
   (convert src dst (.slice (some a) l.length cap)).run P w = .ok (.string (S l)) w :=
 run_convert_bytes_back w src dst e a cap l hs he hd fun j hj => hc j _ (by simp [bcells, List.getElem?_eq_getElem hj])
theorem conv_nil (w : World) (src dst e : TypeId) (hs : P.underlying src = some (.slice e)) (he : P.underlying e = some (.int .u8)) (hd : P.underlying dst = some .string) :
   (convert src dst (.slice none 0 0)).run P w = .ok (.string (S [])) w := by
 rw [run_convert_bytes_string w src dst e none 0 0 hs he hd]
 unfold Conv.bytesToString
 simp [Sem.run_pure, S]
 rfl
theorem conv_own (w : World) (src dst e : TypeId) (base : Nat) (v : Value) (l : List UInt8) (hs : P.underlying src = some (.slice e)) (he : P.underlying e = some (.int .u8)) (hd : P.underlying dst = some .string)
   (hown : w.ownsRow base e 1 v l.length (bcells l)) : (convert src dst v).run P w = .ok (.string (S l)) w := by
 rcases hown.2 with ⟨rfl, h0⟩ | ⟨g, cap, cur, rfl, _⟩
 · obtain rfl := List.eq_nil_of_length_eq_zero h0
   exact conv_nil w src dst e hs he hd
 · exact conv_at w src dst e _ cap l hs he hd (hown.cells (g := g) rfl)
theorem conv_one (w : World) (src dst e t : TypeId) (c : UInt8) (cap : Nat) (hs : P.underlying src = some (.slice e)) (he : P.underlying e = some (.int .u8)) (hd : P.underlying dst = some .string) :
   (convert src dst (.slice (some ⟨w.heap.size, 0, none⟩) 1 cap)).run P (w.alloc (.cells #[.int .u8 (c.toNat : Int)] t)) = .ok (.string (S [c])) (w.alloc (.cells #[.int .u8 (c.toNat : Int)] t)) :=
 conv_at _ src dst e _ cap [c] hs he hd (cell_one_new _ _ _)
end
theorem below_drewN {B : Nat} {a w : World} (h : Below B a w) (n : Nat) : Below B a (w.drewN n) := ⟨h.os, h.tape, h.output, h.size, h.block⟩
theorem quiet_left {P : Program} {f : FuncId} {args : Array Value} {w : World} {n : Nat} {v : Value}
   (h : Calls P f args (w.drewN n) fun e w' => e = .returned v ∧ w.drewN n = w') : Calls P f args (w.drewN n) fun e w'' => e = .returned v ∧ ∃ m, w'' = w.drewN m :=
 h.mono fun _ _ ⟨he, hm⟩ => ⟨he, n, hm.symm⟩
theorem ownsRow_pos {W : World} {base : Nat} {e : TypeId} {size : Nat} {v : Value} {k : Nat} {xs : List Value} (h : W.ownsRow base e size v k xs) (hk : 0 < k) : ∃ g cap, v = .slice (some ⟨g, 0, none⟩) k cap := by
 rcases h.2 with ⟨_, h0⟩ | ⟨g, cap, _, rfl, _⟩
 · omega
 · exact ⟨g, cap, rfl⟩
theorem own_base {W : World} {base : Nat} {e : TypeId} {size : Nat} {v : Value} {k : Nat} {xs : List Value} (h : W.ownsRow base e size v k xs) : ∀ j, v.ownBlock = some j → base ≤ j ∧ ∃ cur, W.heap[j]? = some (.cells cur e (0, 0)) := by
 intro j ej
 rcases h.2 with ⟨rfl, _⟩ | ⟨g, cap, cur, rfl, hb, hg, _⟩
 · simp [Value.ownBlock] at ej
 · obtain rfl : g = j := by simpa [Value.ownBlock] using ej
   exact ⟨hb, cur, hg⟩
theorem own_below1 {B : Nat} {w0 W w1 : World} {e : TypeId} {size : Nat} {v : Value} {k : Nat} {xs : List Value} {o : Obj} (hB : Below B w0 W) (h : W.ownsRow B e size v k xs) (hgrow : (W.alloc o).grownBy w1 v.ownBlock)
   (hs : B ≤ W.heap.size) : Below B w0 w1 :=
 (hB.alloc hs _).grown hgrow (by simp; omega) (fun j ej => (own_base h j ej).1)
theorem own_under {W w1 : World} {base : Nat} {e : TypeId} {size : Nat} {v : Value} {k : Nat} {xs : List Value} (h : W.ownsRow base e size v k xs) (hb : Below W.heap.size W w1) : w1.ownsRow base e size v k xs := by
 refine ⟨h.1, ?_⟩
 rcases h.2 with hn | ⟨g, cap, cur, rfl, hb0, hg, hr⟩
 · exact .inl hn
 · exact .inr ⟨g, cap, cur, rfl, hb0, (hb.block g (Array.getElem?_eq_some_iff.1 hg).1).trans hg, hr⟩
def Two (W : World) (B : Nat) (t : TypeId) (u v : Value) : Prop := W.heap[B]? = some (.cells #[u, v] t (0, 0))
theorem Two.lt {W : World} {B : Nat} {t : TypeId} {u v : Value} (h : Two W B t u v) : B < W.heap.size := (Array.getElem?_eq_some_iff.1 h).1
theorem Two.cell0 {W : World} {B : Nat} {t : TypeId} {u v : Value} (h : Two W B t u v) : W.cell? ⟨B, 0, none⟩ = some u := by simp [World.cell?, show W.heap[B]? = _ from h]
theorem Two.cell1 {W : World} {B : Nat} {t : TypeId} {u v : Value} (h : Two W B t u v) : W.cell? ⟨B, 1, none⟩ = some v := by simp [World.cell?, show W.heap[B]? = _ from h]
theorem Two.frozen0 {W : World} {B : Nat} {t : TypeId} {u v : Value} (h : Two W B t u v) : W.frozen? ⟨B, 0, none⟩ = false := by simp [World.frozen?, show W.heap[B]? = _ from h]
theorem Two.frozen1 {W : World} {B : Nat} {t : TypeId} {u v : Value} (h : Two W B t u v) : W.frozen? ⟨B, 1, none⟩ = false := by simp [World.frozen?, show W.heap[B]? = _ from h]
theorem Two.new (W : World) (t : TypeId) (u v : Value) : Two (W.alloc (.cells #[u, v] t)) W.heap.size t u v := heap_alloc_new W _
theorem Two.kept {W W' : World} {row : Option Nat} {B : Nat} {t : TypeId} {u v : Value} (h : Two W B t u v) (hg : W.grownBy W' row) (hne : some B ≠ row) : Two W' B t u v := (hg.block B h.lt hne).trans h
theorem Two.below {W W' : World} {B : Nat} {t : TypeId} {u v : Value} (h : Two W B t u v) (hb : Below W.heap.size W W') : Two W' B t u v := (hb.block B h.lt).trans h
theorem ret_S {a b : List UInt8} (h : a = b) : Ending.returned (.string (S a)) = .returned (.string (S b)) := by rw [h]
end
section
theorem forall_u8 {P : UInt8 → Prop} (h : ∀ n : Fin 256, P (UInt8.ofFin n)) (c : UInt8) : P c := by
 have := h c.toFin
 simpa using this
def letterB (c : UInt8) : Bool := (97 ≤ c && c ≤ 122) || (65 ≤ c && c ≤ 90)
def digitB (c : UInt8) : Bool := 48 ≤ c && c ≤ 57
def hexDig (n : UInt8) : UInt8 := if n < 10 then 48 + n else 87 + n
def escB (c : UInt8) : List UInt8 :=
 if c = 34 ∨ c = 92 then [92, c] else if c = 10 then [92, 110] else if c = 9 then [92, 116] else if c = 13 then [92, 114]
 else if c < 32 ∨ 126 < c then [92, 120, hexDig (c >>> 4), hexDig (c &&& 15)] else [c]
def quoteL (s : List UInt8) : List UInt8 := 34 :: (s.flatMap escB ++ [34])
def hexVal (c : UInt8) : Option UInt8 :=
 if digitB c then some (c - 48) else if 97 ≤ c && c ≤ 102 then some (c - 87) else if 65 ≤ c && c ≤ 70 then some (c - 55) else none
def hexTwo (h l : UInt8) : Option UInt8 :=
 match hexVal h, hexVal l with
 | some a, some b => some (16 * a + b)
 | _, _ => none
def unesc : List UInt8 → UInt8 × Nat
 | _ :: b :: r =>
   if b = 34 ∨ b = 92 then (b, 2) else if b = 110 then (10, 2) else if b = 116 then (9, 2) else if b = 114 then (13, 2)
   else if b = 120 then
     match r with
     | h :: l :: _ => (match hexTwo h l with | some x => (x, 4) | none => (0, 0))
     | _ => (0, 0)
   else (0, 0)
 | _ => (0, 0)
def scan : List UInt8 → Nat → Nat → List UInt8 → List UInt8 × Nat × Nat
 | [], _, i, _ => ([], 8, i)
 | _ :: t, k + 1, i, acc => scan t k i acc
 | c :: t, 0, i, acc =>
   if c = 34 then (match t with | [] => (acc, 0, 0) | _ :: _ => ([], 8, i + 1))
   else if c = 92 then
     (if (unesc (c :: t)).2 = 0 then ([], 8, i) else scan t ((unesc (c :: t)).2 - 1) (i + (unesc (c :: t)).2) (acc ++ [(unesc (c :: t)).1]))
   else if c < 32 ∨ 126 < c then ([], 8, i)
   else scan t 0 (i + 1) (acc ++ [c])
def unqL (s : List UInt8) : List UInt8 × Nat × Nat :=
 if 65536 < s.length then ([], 2, 0) else
 match s with
 | [] => ([], 8, 0)
 | c :: t => if c = 34 then scan t 0 1 [] else ([], 8, 0)
def wordsL : List (List UInt8) :=
 [[110,117,108,108],[116,114,117,101],[102,97,108,115,101],[98,111,111,108],[105,110,116],[110,117,109,98,101,114],[115,116,114,105,110,103],[108,101,116],[105,102],[102,111,114],[105,110],[112,97,99,107,97,103,101],[105,109,112,111,114,116]]
def idTail (s : List UInt8) : Bool :=
 match s with
 | [] => false
 | c :: _ => letterB c && s.all fun c => letterB c || c == 95 || digitB c
def identB (s : List UInt8) : Bool :=
 if 32 < s.length ∨ wordsL.contains s then false else
 match s with
 | [] => false
 | c :: t => if c = 35 ∨ c = 95 then idTail t else idTail s
theorem scan_skip : ∀ (k : Nat) (l : List UInt8) (i : Nat) (acc : List UInt8), k ≤ l.length → scan l k i acc = scan (l.drop k) 0 i acc
 | 0, _, _, _, _ => rfl
 | _ + 1, [], _, _, h => by simp at h
 | k + 1, _ :: t, i, acc, h => by rw [scan, List.drop_succ_cons]; exact scan_skip k t i acc (by simpa using h)
theorem esc_cases : ∀ c : UInt8, (escB c = [c] ∧ c ≠ 34 ∧ c ≠ 92 ∧ ¬ c < 32 ∧ ¬ 126 < c) ∨ (∃ b, escB c = [92, b] ∧ ∀ r, unesc (92 :: b :: r) = (c, 2)) ∨
   (∃ h l, escB c = [92, 120, h, l] ∧ hexTwo h l = some c) := by
 intro c
 by_cases h1 : c = 34 ∨ c = 92
 · refine .inr (.inl ⟨c, by simp [escB, h1], fun r => by simp [unesc, h1]⟩)
 by_cases h2 : c = 10
 · subst h2; exact .inr (.inl ⟨110, by decide, fun r => by simp [unesc]⟩)
 by_cases h3 : c = 9
 · subst h3; exact .inr (.inl ⟨116, by decide, fun r => by simp [unesc]⟩)
 by_cases h4 : c = 13
 · subst h4; exact .inr (.inl ⟨114, by decide, fun r => by simp [unesc]⟩)
 by_cases h5 : c < 32 ∨ 126 < c
 · refine .inr (.inr ⟨hexDig (c >>> 4), hexDig (c &&& 15), by simp [escB, h1, h2, h3, h4, h5], ?_⟩)
   exact forall_u8 (P := fun c => hexTwo (hexDig (c >>> 4)) (hexDig (c &&& 15)) = some c) (by decide +kernel) c
 · refine .inl ⟨by simp [escB, h1, h2, h3, h4, h5], ?_⟩
   simp only [not_or] at h1 h5
   exact ⟨h1.1, h1.2, h5.1, h5.2⟩
theorem scan_esc (c : UInt8) (r : List UInt8) (i : Nat) (acc : List UInt8) : scan (escB c ++ r) 0 i acc = scan r 0 (i + (escB c).length) (acc ++ [c]) := by
 rcases esc_cases c with ⟨h, h1, h2, h3, h4⟩ | ⟨b, h, hu⟩ | ⟨x, y, h, hu⟩
 · rw [h]; simp [scan, h1, h2, h3, h4]
 · rw [h]
   have := hu r
   simp only [List.cons_append, List.nil_append, List.length_cons, List.length_nil]
   rw [scan]
   simp [this, scan]
 · rw [h]
   have h2 : unesc (92 :: 120 :: x :: y :: r) = (c, 4) := by simp [unesc, hu]
   simp only [List.cons_append, List.nil_append, List.length_cons, List.length_nil]
   rw [scan]
   simp [h2, scan]
theorem scan_quote : ∀ (s : List UInt8) (r : List UInt8) (i : Nat) (acc : List UInt8), scan (s.flatMap escB ++ r) 0 i acc = scan r 0 (i + (s.flatMap escB).length) (acc ++ s)
 | [], r, i, acc => by simp
 | c :: s, r, i, acc => by
   rw [List.flatMap_cons, List.append_assoc, scan_esc, scan_quote s r]
   simp [Nat.add_assoc]
theorem esc_len (c : UInt8) : 1 ≤ (escB c).length ∧ (escB c).length ≤ 4 := by
 rcases esc_cases c with ⟨h, _⟩ | ⟨b, h, hu⟩ | ⟨x, y, h, hu⟩ <;> rw [h] <;> simp
theorem flat_len : ∀ s : List UInt8, s.length ≤ (s.flatMap escB).length ∧ (s.flatMap escB).length ≤ 4 * s.length
 | [] => by simp
 | c :: s => by
   have := flat_len s; have := esc_len c
   simp only [List.flatMap_cons, List.length_append, List.length_cons]; omega
theorem quoteL_length (s : List UInt8) : (quoteL s).length = (s.flatMap escB).length + 2 := by
 unfold quoteL
 rw [List.length_cons, List.length_append]; rfl
theorem quote_len (s : List UInt8) : s.length + 2 ≤ (quoteL s).length ∧ (quoteL s).length ≤ 4 * s.length + 2 := by
 have := flat_len s
 rw [quoteL_length]; omega
theorem unq_quote (s : List UInt8) (h : (quoteL s).length ≤ 65536) : unqL (quoteL s) = (s, 0, 0) := by
 unfold unqL
 rw [if_neg (by omega)]
 show (if (34 : UInt8) = 34 then scan (s.flatMap escB ++ [34]) 0 1 [] else _) = _
 rw [if_pos rfl, scan_quote]; simp [scan]
theorem esc_print : ∀ c : UInt8, ∀ x ∈ escB c, 32 ≤ x ∧ x ≤ 126 :=
 forall_u8 (P := fun c => ∀ x ∈ escB c, 32 ≤ x ∧ x ≤ 126) (by decide +kernel)
theorem quote_print (s : List UInt8) : ∀ x ∈ quoteL s, 32 ≤ x ∧ x ≤ 126 := by
 intro x hx
 simp only [quoteL, List.mem_cons, List.mem_append, List.mem_flatMap, List.not_mem_nil, or_false] at hx
 rcases hx with rfl | ⟨c, _, h⟩ | rfl
 · decide
 · exact esc_print c x h
 · decide
theorem unq_more (s more : List UInt8) (h : (quoteL s ++ more).length ≤ 65536) (hm : more ≠ []) : unqL (quoteL s ++ more) = ([], 8, (quoteL s).length) := by
 unfold unqL
 rw [if_neg (by omega)]
 have e : quoteL s ++ more = 34 :: (s.flatMap escB ++ (34 :: more)) := by simp [quoteL]
 rw [e]
 show (if (34 : UInt8) = 34 then scan (s.flatMap escB ++ (34 :: more)) 0 1 [] else _) = _
 rw [if_pos rfl, scan_quote]
 obtain ⟨m, ms, rfl⟩ := List.exists_cons_of_ne_nil hm
 simp [scan, quoteL]; omega
end
section
open Go.RowKit
theorem infoU8 : (Tryz.prog.info? 5).map (fun i => (i.zero, i.size, i.bytes)) = some (some (.int .u8 0), 1, 1) := by kernel_rfl
set_option maxHeartbeats 400000 in
theorem escape_any (c : UInt8) (w : World) : Calls Tryz.prog 138 #[.int .u8 (c.toNat : Int)] w fun e w' => e = .returned (.string (S (escB c))) ∧ ∃ n, w' = w.drewN n := by
 have hlt := c.toNat_lt
 by_cases h34 : c = 34
 · subst h34
   go_enter Tryz.func138, Tryz.ntmps138
   go_wp2
   go_ret
   exact ⟨rfl, 0, rfl⟩
 by_cases h92 : c = 92
 · subst h92
   go_enter Tryz.func138, Tryz.ntmps138
   go_wp2
   go_ret
   exact ⟨rfl, 0, rfl⟩
 by_cases h10 : c = 10
 · subst h10
   go_enter Tryz.func138, Tryz.ntmps138
   go_wp2
   go_ret
   exact ⟨rfl, 0, rfl⟩
 by_cases h9 : c = 9
 · subst h9
   go_enter Tryz.func138, Tryz.ntmps138
   go_wp2
   go_ret
   exact ⟨rfl, 0, rfl⟩
 by_cases h13 : c = 13
 · subst h13
   go_enter Tryz.func138, Tryz.ntmps138
   go_wp2
   go_ret
   exact ⟨rfl, 0, rfl⟩
 have e34 : ((c.toNat : Int) == 34) = false := u8_ne h34
 have e92 : ((c.toNat : Int) == 92) = false := u8_ne h92
 have e10 : ((c.toNat : Int) == 10) = false := u8_ne h10
 have e9 : ((c.toNat : Int) == 9) = false := u8_ne h9
 have e13 : ((c.toNat : Int) == 13) = false := u8_ne h13
 by_cases hp : c < 32 ∨ 126 < c
 · have hb : ¬ (32 ≤ c.toNat ∧ c.toNat ≤ 126) := by
     rcases hp with h | h <;> rw [UInt8.lt_iff_toNat_lt] at h <;> simp at h <;> omega
   have hd : (decide ((c.toNat : Int) < 32) || decide (126 < (c.toNat : Int))) = true := by simp; omega
   have hx : escB c = [92, 120, hexDig (c >>> 4), hexDig (c &&& 15)] := by simp [escB, h34, h92, h10, h9, h13, hp]
   rw [hx]
   have HX := Lib.hid hx
   clear hx hp h34 h92 h10 h9 h13
   have q2 : (0 : Int) ≤ (c.toNat : Int) / 16 := by omega
   have q3 : (c.toNat : Int) / 16 + 1 ≤ 16 := by omega
   have q6 : (0 : Int) ≤ (c.toNat : Int) % 16 := by omega
   have q7 : (c.toNat : Int) % 16 + 1 ≤ 16 := by omega
   have l1 : (sl [48, 49, 50, 51, 52, 53, 54, 55, 56, 57, 97, 98, 99, 100, 101, 102] (c.toNat / 16) (c.toNat / 16 + 1)).length ≤ 1 := by have := sl_le [48, 49, 50, 51, 52, 53, 54, 55, 56, 57, 97, 98, 99, 100, 101, 102] (c.toNat / 16) (c.toNat / 16 + 1); omega
   have l2 : (sl [48, 49, 50, 51, 52, 53, 54, 55, 56, 57, 97, 98, 99, 100, 101, 102] (c.toNat % 16) (c.toNat % 16 + 1)).length ≤ 1 := by have := sl_le [48, 49, 50, 51, 52, 53, 54, 55, 56, 57, 97, 98, 99, 100, 101, 102] (c.toNat % 16) (c.toNat % 16 + 1); omega
   have hfin : ct (ct [92, 120] (sl [48, 49, 50, 51, 52, 53, 54, 55, 56, 57, 97, 98, 99, 100, 101, 102] (c.toNat / 16) (c.toNat / 16 + 1))) (sl [48, 49, 50, 51, 52, 53, 54, 55, 56, 57, 97, 98, 99, 100, 101, 102] (c.toNat % 16) (c.toNat % 16 + 1)) = [92, 120, hexDig (c >>> 4), hexDig (c &&& 15)] :=
     forall_u8 (P := fun c => ct (ct [92, 120] (sl [48, 49, 50, 51, 52, 53, 54, 55, 56, 57, 97, 98, 99, 100, 101, 102] (c.toNat / 16) (c.toNat / 16 + 1))) (sl [48, 49, 50, 51, 52, 53, 54, 55, 56, 57, 97, 98, 99, 100, 101, 102] (c.toNat % 16) (c.toNat % 16 + 1)) = [92, 120, hexDig (c >>> 4), hexDig (c &&& 15)]) (by decide +kernel) c
   have HF := Lib.hid hfin
   clear hfin
   have q1 : IntKind.u8.wrap ((c.toNat : Int) / 16 + 1) = (c.toNat : Int) / 16 + 1 := IntWalk.u8_in _ (by omega)
   have q4 : bits .and .u8 (c.toNat : Int) 15 = (c.toNat : Int) % 16 := u8_and15 _ (by omega) (by omega)
   have q5 : IntKind.u8.wrap ((c.toNat : Int) % 16 + 1) = (c.toNat : Int) % 16 + 1 := IntWalk.u8_in _ (by omega)
   rcases Nat.lt_or_ge c.toNat 32 with h32 | h32
   · go_enter Tryz.func138, Tryz.ntmps138
     go_wp2
     go_quiet (fail)
     clear q1 q4 q5
     go_wp2
     go_ret
     exact ⟨congrArg (fun x => Ending.returned (.string (S x))) HF.out, _, rfl⟩
   · have h126 : 126 < c.toNat := by omega
     go_enter Tryz.func138, Tryz.ntmps138
     go_wp2
     go_quiet (fail)
     clear q1 q4 q5
     go_wp2
     go_ret
     exact ⟨congrArg (fun x => Ending.returned (.string (S x))) HF.out, _, rfl⟩
 · have hp1 : 32 ≤ c.toNat := by
     have := fun h => hp (.inl h); rw [UInt8.lt_iff_toNat_lt] at this; simp at this; exact this
   have hp2 : c.toNat ≤ 126 := by
     have := fun h => hp (.inr h); rw [UInt8.lt_iff_toNat_lt] at this; simp at this; exact this
   have hx : escB c = [c] := by simp [escB, h34, h92, h10, h9, h13, hp]
   rw [hx]
   have HX := Lib.hid hx
   clear hx hp h34 h92 h10 h9 h13
   go_enter Tryz.func138, Tryz.ntmps138
   go_wp2
   go_ret
   exact ⟨congrArg (fun x => Ending.returned (.string x)) (encode_S c (by omega)), 0, rfl⟩
end
section
open Go.RowKit
theorem letterB_nat (c : UInt8) : letterB c = (decide (97 ≤ c.toNat ∧ c.toNat ≤ 122) || decide (65 ≤ c.toNat ∧ c.toNat ≤ 90)) := by
 unfold letterB
 rw [Bool.eq_iff_iff]; simp [UInt8.le_iff_toNat_le]
theorem digitB_nat (c : UInt8) : digitB c = decide (48 ≤ c.toNat ∧ c.toNat ≤ 57) := by
 unfold digitB
 rw [Bool.eq_iff_iff]; simp [UInt8.le_iff_toNat_le]
theorem ret_bool {a b : Bool} (h : a = b) : Ending.returned (.bool a) = .returned (.bool b) := by rw [h]
theorem ret_i64 {a b : Int} (h : a = b) : Ending.returned (.int .i64 a) = .returned (.int .i64 b) := by rw [h]
set_option maxHeartbeats 400000 in
theorem letter_any (c : UInt8) (w : World) : Calls Tryz.prog 105 #[.int .u8 (c.toNat : Int)] w fun e w' => e = .returned (.bool (letterB c)) ∧ w = w' := by
 have hlt := c.toNat_lt
 have hn := letterB_nat c
 generalize letterB c = b at hn ⊢
 have HN := Lib.hid hn
 clear hn
 go_enter Tryz.func105, Tryz.ntmps105
 go_wp2
 all_goals
   go_ret
   exact ⟨ret_bool (by rw [HN.out, Bool.eq_iff_iff]; first | (simp; omega) | (simp [*]; done)), rfl⟩
set_option maxHeartbeats 400000 in
theorem Letter_any (c : UInt8) (w : World) : Calls Tryz.prog 46 #[.int .u8 (c.toNat : Int)] w fun e w' => e = .returned (.bool (letterB c)) ∧ w = w' := by
 have hlt := c.toNat_lt
 have hn := letterB_nat c
 generalize letterB c = b at hn ⊢
 have HN := Lib.hid hn
 clear hn
 go_enter Tryz.func46, Tryz.ntmps46
 go_wp2
 all_goals
   go_ret
   exact ⟨ret_bool (by rw [HN.out, Bool.eq_iff_iff]; first | (simp; omega) | (simp [*]; done)), rfl⟩
set_option maxHeartbeats 400000 in
theorem Digit_any (c : UInt8) (w : World) : Calls Tryz.prog 47 #[.int .u8 (c.toNat : Int)] w fun e w' => e = .returned (.bool (digitB c)) ∧ w = w' := by
 have hlt := c.toNat_lt
 have hn := digitB_nat c
 generalize digitB c = b at hn ⊢
 have HN := Lib.hid hn
 clear hn
 go_enter Tryz.func47, Tryz.ntmps47
 go_wp2
 all_goals
   go_ret
   exact ⟨ret_bool (by rw [HN.out, Bool.eq_iff_iff]; first | (simp; omega) | (simp [*]; done)), rfl⟩
end
section
end
section
def vld (u : Int) : Bool := decide (-1000000000000000 ≤ u) && decide (u ≤ 1000000000000000)
theorem vld_iff (u : Int) : vld u = true ↔ -1000000000000000 ≤ u ∧ u ≤ 1000000000000000 := by simp [vld]
theorem abs_lt {u : Int} (h : vld u = true) : u.natAbs ≤ 1000000000000000 := by rw [vld_iff] at h; omega
theorem long_div (a b : Nat) (hb : 0 < b) : (a * 10000) / b = a / b * 10000 + (a % b * 10000) / b ∧ (a * 10000) % b = (a % b * 10000) % b := by
 have e : a * 10000 = a % b * 10000 + b * (a / b * 10000) := by
   conv => lhs; rw [← Nat.div_add_mod a b]
   rw [Nat.add_mul, Nat.mul_assoc]; omega
 rw [e, Nat.add_mul_div_left _ _ hb, Nat.add_mul_mod_self_left]
 exact ⟨Nat.add_comm _ _, rfl⟩
theorem long_step (r b d x : Nat) (h : d * b + r = x) : (d * 10 + r * 10 / b) * b + r * 10 % b = x * 10 := by
 have h1 := Nat.div_add_mod (r * 10) b
 rw [Nat.add_mul, Nat.mul_comm (r * 10 / b) b, Nat.mul_right_comm]
 omega
end
section
open Go
def dgt (c : UInt8) : Prop := 48 ≤ c.toNat ∧ c.toNat ≤ 57
instance (c : UInt8) : Decidable (dgt c) := by unfold dgt; infer_instance
def dch (d : Nat) : UInt8 := UInt8.ofNat (48 + d)
def valA (a : Nat) (l : List UInt8) : Nat := l.foldl (fun a c => a * 10 + (c.toNat - 48)) a
def valD (l : List UInt8) : Nat := valA 0 l
theorem dch_nat (d : Nat) (h : d < 10) : (dch d).toNat = 48 + d := by unfold dch; exact u8_ofNat_toNat _ (by omega)
theorem dch_dgt (d : Nat) (h : d < 10) : dgt (dch d) := by unfold dgt; rw [dch_nat d h]; omega
theorem valA_cons (a : Nat) (c : UInt8) (l : List UInt8) : valA a (c :: l) = valA (a * 10 + (c.toNat - 48)) l := List.foldl_cons ..
theorem valA_app (a : Nat) (l m : List UInt8) : valA a (l ++ m) = valA (valA a l) m := List.foldl_append
theorem valA_eq (a : Nat) (l : List UInt8) : valA a l = a * 10 ^ l.length + valD l := by
 induction l generalizing a with
 | nil => simp [valA, valD]
 | cons c l ih =>
   rw [valD, valA_cons, valA_cons, ih, ih (0 * 10 + _), List.length_cons, Nat.pow_succ]
   rw [Nat.add_mul, Nat.add_mul, Nat.mul_assoc a 10, Nat.mul_comm 10]; omega
theorem valD_app (l m : List UInt8) : valD (l ++ m) = valD l * 10 ^ m.length + valD m := by
 rw [valD, valA_app, valA_eq]; rfl
theorem valD_one (c : UInt8) : valD [c] = c.toNat - 48 := by simp [valD, valA]
def strLen (v : Value) : Nat := match v with
 | .string s => s.size
 | _ => 0
theorem dec_val (u : Nat) : valD (Lib.decDigits u) = u := by
 induction u using Nat.strongRecOn with
 | _ u ih =>
   rw [Lib.decDigits]
   split
   · rename_i h; rw [valD_one]; have := dch_nat u h; unfold dch at this; omega
   · rename_i h
     rw [valD_app, ih (u / 10) (by omega), valD_one]
     have := dch_nat (u % 10) (by omega); unfold dch at this
     simp only [List.length_cons, List.length_nil, Nat.zero_add, Nat.pow_one]; omega
theorem dec_dgt (u : Nat) : ∀ c ∈ Lib.decDigits u, dgt c := by
 induction u using Nat.strongRecOn with
 | _ u ih =>
   rw [Lib.decDigits]
   split
   · rename_i h; intro c hc; rw [List.mem_singleton] at hc; rw [hc]; exact dch_dgt u h
   · rename_i h
     intro c hc
     rw [List.mem_append, List.mem_singleton] at hc
     rcases hc with hc | hc
     · exact ih _ (by omega) c hc
     · rw [hc]; exact dch_dgt _ (by omega)
theorem dec_len (u k : Nat) (hk : 0 < k) (h : u < 10 ^ k) : 0 < (Lib.decDigits u).length ∧ (Lib.decDigits u).length ≤ k := by
 induction u using Nat.strongRecOn generalizing k with
 | _ u ih =>
   rw [Lib.decDigits]
   split
   · simp; omega
   · rename_i hu
     obtain ⟨k, rfl⟩ : ∃ k', k = k' + 1 := ⟨k - 1, by omega⟩
     have hk1 : 0 < k := by rcases Nat.eq_zero_or_pos k with rfl | h0; (simp at h; omega); exact h0
     rw [Nat.pow_succ] at h
     have := ih (u / 10) (by omega) k hk1 (by omega)
     simp; omega
def digs (n least : Nat) : List UInt8 := if n = 0 ∧ least = 0 then [] else digs (n / 10) (least - 1) ++ [dch (n % 10)]
termination_by n + least
decreasing_by omega
theorem digs_nil : digs 0 0 = [] := by rw [digs]; simp
theorem digs_more (n least : Nat) (h : ¬ (n = 0 ∧ least = 0)) : digs n least = digs (n / 10) (least - 1) ++ [dch (n % 10)] := by rw [digs, if_neg h]
theorem digs_zero (n : Nat) (h : 0 < n) : digs n 0 = Lib.decDigits n := by
 induction n using Nat.strongRecOn with
 | _ n ih =>
   rw [digs_more n 0 (by omega), Lib.decDigits]
   split
   · rename_i hn; rw [show n / 10 = 0 by omega, digs_nil, List.nil_append, show n % 10 = n by omega]; rfl
   · rw [ih (n / 10) (by omega) (by omega)]; rfl
theorem digs_one (n : Nat) : digs n 1 = Lib.decDigits n := by
 rw [digs_more n 1 (by omega), Lib.decDigits]
 split
 · rename_i hn; rw [show n / 10 = 0 by omega, digs_nil, List.nil_append, show n % 10 = n by omega]; rfl
 · rw [digs_zero _ (by omega)]; rfl
def pad4 (f : Nat) : List UInt8 := [dch (f / 1000 % 10), dch (f / 100 % 10), dch (f / 10 % 10), dch (f % 10)]
theorem digs_four (f : Nat) (h : f < 10000) : digs f 4 = pad4 f := by
 rw [digs_more _ _ (by omega), digs_more _ _ (by omega), digs_more _ _ (by omega), digs_more _ _ (by omega)]
 rw [show f / 10 / 10 / 10 / 10 = 0 by omega, digs_nil, show f / 10 / 10 / 10 = f / 1000 by omega, show f / 10 / 10 = f / 100 by omega]
 rfl
theorem dec_10000 (f : Nat) (h : f < 10000) : Lib.decDigits (10000 + f) = 49 :: pad4 f := by
 rw [Lib.decDigits, dif_neg (by omega), Lib.decDigits, dif_neg (by omega), Lib.decDigits, dif_neg (by omega), Lib.decDigits, dif_neg (by omega), Lib.decDigits, dif_pos (by omega)]
 rw [show (10000 + f) / 10 / 10 / 10 / 10 = 1 by omega, show (10000 + f) / 10 / 10 / 10 % 10 = f / 1000 % 10 by omega, show (10000 + f) / 10 / 10 % 10 = f / 100 % 10 by omega, show (10000 + f) / 10 % 10 = f / 10 % 10 by omega, show (10000 + f) % 10 = f % 10 by omega]
 rfl
theorem pad4_val (f : Nat) (h : f < 10000) : valD (pad4 f) = f := by
 simp only [pad4, valD, valA, List.foldl_cons, List.foldl_nil]
 rw [dch_nat _ (by omega), dch_nat _ (by omega), dch_nat _ (by omega), dch_nat _ (by omega)]; omega
theorem pad4_dgt (f : Nat) : ∀ c ∈ pad4 f, dgt c := by
 intro c hc
 simp only [pad4, List.mem_cons, List.not_mem_nil, or_false] at hc
 rcases hc with rfl | rfl | rfl | rfl <;> exact dch_dgt _ (by omega)
def trimZ (l : List UInt8) : List UInt8 := if h : 0 < l.length ∧ byt l (l.length - 1) = 48 then trimZ (l.take (l.length - 1)) else l
termination_by l.length
decreasing_by rw [List.length_take]; omega
theorem take_last (l : List UInt8) (h : 0 < l.length) : l = l.take (l.length - 1) ++ [byt l (l.length - 1)] := by
 rw [← take_byt l _ (by omega), show l.length - 1 + 1 = l.length by omega, List.take_length]
theorem trimZ_on (l : List UInt8) (h : 0 < l.length ∧ byt l (l.length - 1) = 48) : trimZ l = trimZ (l.take (l.length - 1)) := by rw [trimZ, dif_pos h]
theorem trimZ_off (l : List UInt8) (h : ¬ (0 < l.length ∧ byt l (l.length - 1) = 48)) : trimZ l = l := by rw [trimZ, dif_neg h]
theorem trimZ_rep (l : List UInt8) : ∃ k, l = trimZ l ++ List.replicate k 48 := by
 induction hn : l.length using Nat.strongRecOn generalizing l with
 | _ n ih =>
   by_cases h : 0 < l.length ∧ byt l (l.length - 1) = 48
   · obtain ⟨k, hk⟩ := ih (l.length - 1) (by omega) (l.take (l.length - 1)) (by rw [List.length_take]; omega)
     refine ⟨k + 1, ?_⟩
     rw [trimZ_on l h, List.replicate_succ', ← List.append_assoc, ← hk]
     conv => lhs; rw [take_last l h.1]
     rw [h.2]
   · exact ⟨0, by rw [trimZ_off l h]; simp⟩
theorem valD_zeros (k : Nat) : valD (List.replicate k 48) = 0 := by
 induction k with
 | zero => rfl
 | succ k ih => rw [List.replicate_succ', valD_app, ih, valD_one]; rfl
def fracL (f : Nat) : List UInt8 := if trimZ (pad4 f) = [] then [] else 46 :: trimZ (pad4 f)
theorem frac_parts (f : Nat) (h : f < 10000) : ∃ k, k ≤ 4 ∧ pad4 f = trimZ (pad4 f) ++ List.replicate k 48 ∧ (trimZ (pad4 f)).length + k = 4 ∧ valD (trimZ (pad4 f)) * 10 ^ k = f ∧ ∀ c ∈ trimZ (pad4 f), dgt c := by
 obtain ⟨k, hk⟩ := trimZ_rep (pad4 f)
 have hl : (trimZ (pad4 f)).length + k = 4 := by
   have := congrArg List.length hk
   rw [List.length_append, List.length_replicate] at this
   rw [← this]; rfl
 refine ⟨k, by omega, hk, hl, ?_, ?_⟩
 · have := pad4_val f h
   rw [hk, valD_app, valD_zeros, List.length_replicate] at this; omega
 · intro c hc
   exact pad4_dgt f c (by rw [hk]; exact List.mem_append_left _ hc)
theorem trim_nil (f : Nat) (h : f < 10000) : trimZ (pad4 f) = [] ↔ f = 0 := by
 obtain ⟨k, -, -, hl, hv, -⟩ := frac_parts f h
 constructor
 · intro e; rw [e] at hv; rw [← hv]; simp [valD, valA]
 · intro e
   subst e
   rcases Nat.eq_zero_or_pos (trimZ (pad4 0)).length with h0 | h0
   · exact List.eq_nil_of_length_eq_zero h0
   · exfalso
     have e0 : pad4 0 = List.replicate 4 48 := by decide
     obtain ⟨j, hj⟩ := trimZ_rep (pad4 0)
     have hlast : ¬ (0 < (trimZ (pad4 0)).length ∧ byt (trimZ (pad4 0)) ((trimZ (pad4 0)).length - 1) = 48) := by
       intro hh
       have : ∀ n, ∀ l : List UInt8, l.length = n → ¬ (0 < (trimZ l).length ∧ byt (trimZ l) ((trimZ l).length - 1) = 48) := by
         intro n
         induction n using Nat.strongRecOn with
         | _ n ih =>
           intro l hl
           by_cases h : 0 < l.length ∧ byt l (l.length - 1) = 48
           · rw [trimZ_on l h]; exact ih (l.length - 1) (by omega) _ (by rw [List.length_take]; omega)
           · rw [trimZ_off l h]; exact h
       exact this _ _ rfl hh
     apply hlast
     refine ⟨h0, ?_⟩
     have hm : byt (trimZ (pad4 0)) ((trimZ (pad4 0)).length - 1) ∈ trimZ (pad4 0) ++ List.replicate j 48 := by
       apply List.mem_append_left
       rw [byt_get _ _ (by omega)]
       exact List.getElem_mem _
     rw [← hj, e0, List.mem_replicate] at hm
     exact hm.2
def textI (u : Int) : List UInt8 := if vld u then (if u < 0 then [45] else []) ++ (Lib.decDigits (u.natAbs / 10000) ++ fracL (u.natAbs % 10000)) else [63]
theorem textI_val (u : Int) (h : vld u = true) : textI u = (if u < 0 then [45] else []) ++ (Lib.decDigits (u.natAbs / 10000) ++ fracL (u.natAbs % 10000)) := by unfold textI; rw [if_pos h]
theorem fracL_len (f : Nat) (h : f < 10000) : (fracL f).length ≤ 5 := by
 obtain ⟨k, -, -, hl, -, -⟩ := frac_parts f h
 unfold fracL; split
 · simp
 · rw [List.length_cons]; omega
theorem textI_len (u : Int) : (textI u).length ≤ 18 := by
 unfold textI
 split
 · rename_i h
   have ha := abs_lt h
   have h1 := fracL_len (u.natAbs % 10000) (by omega)
   have h2 := (dec_len (u.natAbs / 10000) 12 (by omega) (by omega)).2
   rw [List.length_append, List.length_append]
   split <;> simp <;> omega
 · simp
def cutW (l : List UInt8) : List UInt8 := l.takeWhile (fun c => c != 46)
def cutP (l : List UInt8) : List UInt8 := (l.dropWhile (fun c => c != 46)).drop 1
def candI (l : List UInt8) : Int :=
 let m := if l.head? = some 45 then l.drop 1 else l
 let n := valD (cutW m) * 10000 + valD (cutP m) * 10 ^ (4 - (cutP m).length)
 if l.head? = some 45 then -(n : Int) else n
def parseI (l : List UInt8) : Int × Int := if vld (candI l) && textI (candI l) == l then (candI l, 0) else (0, 8)
theorem dgt_ne46 {c : UInt8} (h : dgt c) : (c != 46) = true := by
 have : c ≠ 46 := by intro e; subst e; exact absurd h.1 (by decide)
 simpa using this
theorem cut_app (d r : List UInt8) (h : ∀ c ∈ d, (c != 46) = true) : cutW (d ++ r) = d ++ cutW r ∧ cutP (d ++ r) = cutP r := by
 unfold cutW cutP
 rw [List.takeWhile_append_of_pos h, List.dropWhile_append_of_pos h]; exact ⟨rfl, rfl⟩
theorem cut_frac (f : Nat) : cutW (fracL f) = [] ∧ cutP (fracL f) = trimZ (pad4 f) := by
 unfold fracL
 split
 · rename_i h; rw [h]; exact ⟨rfl, rfl⟩
 · exact ⟨rfl, rfl⟩
theorem head_dec (u : Nat) (r : List UInt8) : ∃ c m, Lib.decDigits u ++ r = c :: m ∧ dgt c := by
 have hl := (dec_len u (u + 1) (by omega) (by have := @Nat.lt_pow_self u 10 (by decide); rw [Nat.pow_succ]; omega)).1
 have hd := dec_dgt u
 match hm : Lib.decDigits u with
 | [] => rw [hm] at hl; simp at hl
 | c :: m => exact ⟨c, m ++ r, rfl, hd c (by rw [hm]; exact List.mem_cons_self ..)⟩
theorem body_cut (a f : Nat) : cutW (Lib.decDigits a ++ fracL f) = Lib.decDigits a ∧ cutP (Lib.decDigits a ++ fracL f) = trimZ (pad4 f) := by
 have h := cut_app (Lib.decDigits a) (fracL f) (fun c hc => dgt_ne46 (dec_dgt a c hc))
 have g := cut_frac f
 rw [h.1, h.2, g.1, g.2, List.append_nil]; exact ⟨rfl, rfl⟩
theorem candI_text (u : Int) (h : vld u = true) : candI (textI u) = u := by
 have hf : u.natAbs % 10000 < 10000 := by omega
 have hb := body_cut (u.natAbs / 10000) (u.natAbs % 10000)
 obtain ⟨k, hk, -, hl, hv, -⟩ := frac_parts (u.natAbs % 10000) hf
 have hn : valD (Lib.decDigits (u.natAbs / 10000)) * 10000 + valD (trimZ (pad4 (u.natAbs % 10000))) * 10 ^ (4 - (trimZ (pad4 (u.natAbs % 10000))).length) = u.natAbs := by
   rw [dec_val, show 4 - (trimZ (pad4 (u.natAbs % 10000))).length = k by omega, hv]; omega
 rw [textI_val u h]
 by_cases hu : u < 0
 · rw [if_pos hu]
   unfold candI
   rw [if_pos (by rfl), if_pos (by rfl)]
   simp only [List.cons_append, List.nil_append, List.drop_succ_cons, List.drop_zero]
   rw [hb.1, hb.2, hn]; omega
 · rw [if_neg hu, List.nil_append]
   obtain ⟨c, m, e, hc⟩ := head_dec (u.natAbs / 10000) (fracL (u.natAbs % 10000))
   have hne : ¬ (Lib.decDigits (u.natAbs / 10000) ++ fracL (u.natAbs % 10000)).head? = some 45 := by
     rw [e]; intro hx
     have : c = 45 := by simpa using hx
     subst this; exact absurd hc.1 (by decide)
   unfold candI
   rw [if_neg hne, if_neg hne, hb.1, hb.2, hn]; omega
theorem parseI_text (u : Int) (h : vld u = true) : parseI (textI u) = (u, 0) := by
 unfold parseI; rw [candI_text u h, if_pos (by simp [h])]
theorem parseI_of (l : List UInt8) (u : Int) (h : ∀ v, vld v = true → textI v = l → u = v) : parseI l = if vld u = true ∧ textI u = l then (u, 0) else (0, 8) := by
 split
 · rename_i hc; rw [← hc.2]; exact parseI_text u hc.1
 · rename_i hc
   unfold parseI
   rw [if_neg]
   intro hx
   rw [Bool.and_eq_true, beq_iff_eq] at hx
   have := h _ hx.1 hx.2
   rw [this] at hc
   exact hc hx
theorem parseI_no (l : List UInt8) (h : ∀ v, vld v = true → textI v ≠ l) : parseI l = (0, 8) := by
 unfold parseI
 rw [if_neg]
 intro hx
 rw [Bool.and_eq_true, beq_iff_eq] at hx
 exact h _ hx.1 hx.2
theorem parseI_long (l : List UInt8) (h : 18 < l.length) : parseI l = (0, 8) :=
 parseI_no l fun v _ e => by have := textI_len v; rw [e] at this; omega
end
section
open Go.RowKit
structure NumOk (w : World) : Prop where
 tab : Lib.TabIs Tryz.prog w "internal/strconv.uint64pow10" .u64 Lib.pow10Tab
 es : ∃ tp p, w.var? Tryz.prog "strconv.ErrSyntax" = some #[.iface tp p]
 er : ∃ tp p, w.var? Tryz.prog "strconv.ErrRange" = some #[.iface tp p]
theorem var_on {w w' : World} {n : String} {cs : Array Value} (h : w.var? Tryz.prog n = some cs) (hb : Below w.heap.size w w') : w'.var? Tryz.prog n = some cs := by
 cases hg : Tryz.prog.globalNamed n with
 | none => unfold World.var? at h; rw [hg] at h; cases h
 | some g => exact Go.Joins.var_stays hg h hb (Nat.le_refl _)
theorem NumOk.below {w w' : World} (h : NumOk w) (hb : Below w.heap.size w w') : NumOk w' := by
 obtain ⟨t, ⟨a, b, hs⟩, ⟨c, d, hr⟩⟩ := h
 exact ⟨var_on t hb, ⟨a, b, var_on hs hb⟩, ⟨c, d, var_on hr hb⟩⟩
end
section
open Go.RowKit
def pr (x : Int × Int) : Value := .tuple #[.int .i64 x.1, .int .i64 x.2]
def OkB (x : Int × Int) (w : World) (e : Ending) (w' : World) : Prop := e = .returned (pr x) ∧ Below w.heap.size w w'
theorem ret_u64 {a b : Int} (h : a = b) : Ending.returned (.int .u64 a) = .returned (.int .u64 b) := by rw [h]
theorem ret_pr {a b : Int} {x : Int × Int} (h : x = (a, b)) : Ending.returned (.tuple #[.int .i64 a, .int .i64 b]) = .returned (pr x) := by rw [h]; rfl
theorem fxValid_any (u : Int) (w : World) : Calls Tryz.prog 103 #[.int .i64 u] w fun e w' => e = .returned (.bool (vld u)) ∧ w = w' := by
 have HN := Lib.hid (show vld u = (decide (-1000000000000000 ≤ u) && decide (u ≤ 1000000000000000)) from rfl)
 generalize vld u = b at HN
 by_cases h1 : -1000000000000000 ≤ u
 all_goals
   go_enter Tryz.func103, Tryz.ntmps103
   go_wp2_with fail
   go_ret
   exact ⟨ret_bool (by rw [HN.out, Bool.eq_iff_iff]; simp; omega), rfl⟩
theorem fxRefValid_any (u : Int) (w : World) : Calls Tryz.prog 56 #[.int .i64 u] w fun e w' => e = .returned (.bool (vld u)) ∧ w = w' := by
 have HN := Lib.hid (show vld u = (decide (-1000000000000000 ≤ u) && decide (u ≤ 1000000000000000)) from rfl)
 generalize vld u = b at HN
 by_cases h1 : -1000000000000000 ≤ u
 all_goals
   go_enter Tryz.func56, Tryz.ntmps56
   go_wp2_with fail
   go_ret
   exact ⟨ret_bool (by rw [HN.out, Bool.eq_iff_iff]; simp; omega), rfl⟩
theorem size_any (u : Int) (h : vld u = true) (w : World) : Calls Tryz.prog 139 #[.int .i64 u] w fun e w' => e = .returned (.int .u64 (u.natAbs : Int)) ∧ w = w' := by
 rw [vld_iff] at h
 by_cases h1 : u < 0
 all_goals
   go_enter Tryz.func139, Tryz.ntmps139
   go_wp2_with fail
   go_ret
   exact ⟨ret_u64 (by omega), rfl⟩
theorem size_at (u : Int) (a : Nat) (h : vld u = true) (ha : Hid (u.natAbs = a)) (w : World) : Calls Tryz.prog 139 #[.int .i64 u] w fun e w' => e = .returned (.int .u64 (a : Int)) ∧ w = w' :=
 (size_any u h w).mono fun e w' ⟨he, hw⟩ => ⟨by rw [he, ha.out], hw⟩
theorem abs_any (u : Int) (h : vld u = true) (w : World) : Calls Tryz.prog 58 #[.int .i64 u] w fun e w' => e = .returned (.int .i64 (u.natAbs : Int)) ∧ w = w' := by
 rw [vld_iff] at h
 by_cases h1 : u < 0
 all_goals
   go_enter Tryz.func58, Tryz.ntmps58
   go_wp2_with fail
   go_ret
   exact ⟨ret_i64 (by omega), rfl⟩
end
section
open Go.RowKit Go.Lib Go.Sort
theorem iFormatUint_any (u : Nat) (hu64 : u < 18446744073709551616) (w : World) (htab : Lib.TabIs Tryz.prog w "internal/strconv.uint64pow10" .u64 Lib.pow10Tab) :
   Calls Tryz.prog 159 #[.int .u64 (u : Int), .int .i64 10] w fun e w' => e = .returned (.string (S (Lib.decDigits u))) ∧ Below w.heap.size w w' := by
 by_cases hs : u < 100
 · go_enter Tryz.func159, Tryz.ntmps159
   go_wp2_with (go_at_call 175; refine (Tryz.internal_strconv_small u hs _).mono ?_; rintro e w' ⟨rfl, rfl⟩)
   go_ret
   exact ⟨rfl, Below.refl _ _⟩
 · have hu1 : 1 ≤ u := by omega
   have hnd20 : Lib.nDigits u ≤ 20 := by have := Lib.numDigits_eq u hu1 hu64; split at this <;> omega
   have hb3 : Lib.nDigits u ≤ 23 := by omega
   have hal : Tryz.prog.arrayLen 204 = 24 := by kernel_rfl
   have hsl1 : ∀ W, (Instr.sliceAt 204 (.pointer (some ⟨w.heap.size, 0, none⟩)) none (some (.int .i64 (Lib.nDigits u : Int))) none).run Tryz.prog W = .ok (.slice (some ⟨w.heap.size, 0, none⟩) (Lib.nDigits u) 24) W := fun W => by
     rw [run_sliceAt_array_h W 204 ⟨w.heap.size, 0, none⟩ (by simp [Program.arrayLen, Program.elem, Tryz.underlying204]) .i64 (Lib.nDigits u : Int) (by omega) (by rw [hal]; omega)]
     go_simp
   have hH0 := Lib.holds_zero0 w 204 (Lib.nDigits u) (by omega)
   have hfmt := Tryz.internal_strconv_formatBase10 w.heap.size 0 24 u (Array.replicate (Lib.nDigits u) 0) (w.alloc (.cells Lib.zeros24 204)) hH0 (by rw [Array.size_replicate]; exact Lib.lt_pow_nDigits u) hu64 (by rw [Array.size_replicate]; omega)
   rw [Array.size_replicate] at hfmt
   have HH0 := Lib.hid hH0
   have HF := Lib.hid hfmt
   clear hH0 hal hfmt
   have n1 : decide ((u : Int) < 100) = false := by rw [decide_eq_false_iff_not]; omega
   go_enter Tryz.func159, Tryz.ntmps159
   go_wp2_with (go_at_call 176; refine (Tryz.internal_strconv_numDigits u hu1 hu64 _ (Lib.tabIs_alloc htab _)).mono ?_; rintro e w' ⟨rfl, rfl⟩)
   go_at_call 177
   refine HF.out.mono ?_
   rintro e w' ⟨rfl, k, v', dk, rfl, hF⟩
   have hcv : (convert 96 9 (.slice (some ⟨w.heap.size, 0, none⟩) (Lib.nDigits u) 24)).run Tryz.prog ((putRow (fun (b : UInt8) => Value.int .u8 (b.toNat : Int)) (w.alloc (.cells Lib.zeros24 204)) w.heap.size 0 dk).drewN k) = .ok (.string ⟨(Lib.decDigits u).toArray⟩) ((putRow (fun (b : UInt8) => Value.int .u8 (b.toNat : Int)) (w.alloc (.cells Lib.zeros24 204)) w.heap.size 0 dk).drewN k) := by
     have h := run_convert_bytes_back (P := Tryz.prog) ((putRow (fun (b : UInt8) => Value.int .u8 (b.toNat : Int)) (w.alloc (.cells Lib.zeros24 204)) w.heap.size 0 dk).drewN k) 96 9 5 ⟨w.heap.size, 0, none⟩ 24 (Lib.decDigits u) Tryz.underlying96 Tryz.underlying5 Tryz.underlying9 (fun j hj => by
       rw [Lib.row_is_numeral hF j hj, Lib.add_plain, World.cell?_drewN]
       exact cell?_putRow (fun (b : UInt8) => Value.int .u8 (b.toNat : Int)) _ w.heap.size 0 _ dk HH0.out (by rw [hF.size, Array.size_replicate]) j (by rw [hF.size]; rw [Lib.decDigits_length] at hj; exact hj))
     rw [Lib.decDigits_length] at h
     exact h
   go_wp2
   go_ret
   obtain ⟨os, eo⟩ := Lib.fin_at w (.cells Lib.zeros24 204) dk k 0
   exact ⟨rfl, by rw [eo]; exact Lib.below_grow _ w (Nat.le_refl _) k os⟩
theorem FormatUint_any (u : Nat) (hu64 : u < 18446744073709551616) (w : World) (htab : Lib.TabIs Tryz.prog w "internal/strconv.uint64pow10" .u64 Lib.pow10Tab) :
   Calls Tryz.prog 140 #[.int .u64 (u : Int), .int .i64 10] w fun e w' => e = .returned (.string (S (Lib.decDigits u))) ∧ Below w.heap.size w w' := by
 have H := Lib.hid (iFormatUint_any u hu64 w htab)
 clear htab
 go_enter Tryz.func140, Tryz.ntmps140
 go_wp2_with (go_at_call 159; refine H.out.mono ?_; rintro e w1 ⟨rfl, hb⟩)
 go_ret
 exact ⟨rfl, hb⟩
end
section
open Go.RowKit
theorem FormatUint_at (k : Int) (u : Nat) (hk : Hid (k = (u : Int))) (hu64 : u < 18446744073709551616) (w : World) (hE : NumOk w) :
   Calls Tryz.prog 140 #[.int .u64 k, .int .i64 10] w fun e w' => e = .returned (.string (S (Lib.decDigits u))) ∧ Below w.heap.size w w' := by
 rw [hk.out]; exact FormatUint_any u hu64 w hE.tab
theorem text_frac {f : Nat} {m : List UInt8} (h : trimZ (pad4 f) = m) : fracL f = if m = [] then [] else 46 :: m := by unfold fracL; rw [h]
set_option maxHeartbeats 1000000 in
theorem fxText_any (u : Int) (w : World) (hE : NumOk w) : Calls Tryz.prog 112 #[.int .i64 u] w fun e w' => e = .returned (.string (S (textI u))) ∧ Below w.heap.size w w' := by
 cases hu : vld u
 · go_enter Tryz.func112, Tryz.ntmps112
   go_wp2_with (go_at_call 103; refine (fxValid_any _ _).mono ?_; rintro e w' ⟨rfl, rfl⟩; rw [hu])
   go_ret
   exact ⟨ret_S (by unfold textI; rw [hu]; rfl), Below.refl _ _⟩
 · have HE := Lib.hid hE; clear hE
   have hA' := abs_lt hu
   obtain ⟨a, hA⟩ : ∃ a, u.natAbs = a := ⟨_, rfl⟩
   have HT := Lib.hid (textI_val u hu)
   rw [hA] at HT hA'
   have HA := Lib.hid hA; clear hA
   obtain ⟨x, hx⟩ : ∃ x, a / 10000 = x := ⟨_, rfl⟩
   obtain ⟨f, hf⟩ : ∃ f, a % 10000 = f := ⟨_, rfl⟩
   rw [hx, hf] at HT
   have ex : (a : Int) / 10000 = (x : Int) := by omega
   have ef : (a : Int) % 10000 = (f : Int) := by omega
   have hxb : x ≤ 100000000000 := by omega
   have hfb : f ≤ 9999 := by omega
   clear hx hf
   have HK := Lib.hid (show (f : Int) + 10000 = ((10000 + f : Nat) : Int) by omega)
   obtain ⟨P, hP⟩ : ∃ P, pad4 f = P := ⟨_, rfl⟩
   have hPl : P.length = 4 := by rw [← hP]; rfl
   obtain ⟨L, hL⟩ : ∃ L, Lib.decDigits (10000 + f) = L := ⟨_, rfl⟩
   have hL2 : L = 49 :: P := by rw [← hL, dec_10000 f (by omega), hP]
   have hLl : L.length = 5 := by rw [hL2, List.length_cons, hPl]
   have eL : sl L 1 5 = P := by rw [hL2]; unfold sl; rw [List.drop_succ_cons, List.drop_zero, List.take_of_length_le (by omega)]
   have HL := Lib.hid hL
   have HP := Lib.hid hP
   obtain ⟨D, hD⟩ : ∃ D, Lib.decDigits x = D := ⟨_, rfl⟩
   have hDl : D.length ≤ 12 := by rw [← hD]; exact (dec_len x 12 (by omega) (by omega)).2
   rw [hD] at HT
   have HD := Lib.hid hD
   clear hP hL hL2 hD
   have HC0 := Lib.hid (show ∃ q : List UInt8, q = P from ⟨_, rfl⟩)
   clear HC0
   cases d1 : decide (u < 0)
   all_goals
     go_enter Tryz.func112, Tryz.ntmps112
     go_wp2_with (first
       | (go_at_call 103; refine (fxValid_any _ _).mono ?_; rintro e w' ⟨rfl, rfl⟩; rw [hu])
       | (go_at_call 139; refine (size_at u a hu HA _).mono ?_; rintro e w' ⟨rfl, rfl⟩))
     refine (FormatUint_any x (by omega) _ HE.out.tab).mono ?_
     rintro e w1 ⟨rfl, hb1⟩
     rw [HD.out]
     have HB1 := Lib.hid hb1; clear hb1
     go_wp2_with fail
     refine (FormatUint_at _ (10000 + f) HK (by omega) _ (HE.out.below HB1.out)).mono ?_
     rintro e w2 ⟨rfl, hb2⟩
     rw [HL.out]
     have HB2 := Lib.hid hb2; clear hb2
     go_wp2_with fail
     have hP4 : P.length ≤ 4 := by omega
     clear eL hPl hLl ex ef hxb
     go_loop [5] (fun v => ∃ m : List UInt8, v = .string (S m) ∧ m.length ≤ 4 ∧ Hid (trimZ P = trimZ m)) (fun v => strLen v)
     case atStart => exact ⟨P, rfl, by omega, Lib.hid rfl⟩
     case round =>
       obtain ⟨m, rfl, hm4, HM⟩ := hrel
       by_cases hm0 : m.length = 0
       · obtain rfl := List.eq_nil_of_length_eq_zero hm0
         clear hm0
         go_wp2_with fail
         go_ret
         exact ⟨ret_S (by rw [HT.out, text_frac (HP.out.symm ▸ HM.out.trans (by rw [trimZ_off [] (by simp)]))]; simp at d1; simp [d1, ct]), HB1.out.trans (HB2.out.mono HB1.out.size)⟩
       · have hpos : 0 < m.length := by omega
         by_cases hz : byt m (m.length - 1) = 48
         · have T : (((byt m (m.length - 1)).toNat : Int) == 48) = true := by rw [hz]; rfl
           have HN := Lib.hid (trimZ_on m ⟨hpos, hz⟩)
           clear hz
           go_wp2_with fail
           go_round
           case rel => exact ⟨_, rfl, by rw [sl_to, List.length_take]; omega, Lib.hid (by rw [sl_to, HM.out, HN.out])⟩
           case measure => simp [strLen, S_size, sl_to]; omega
         · have T : (((byt m (m.length - 1)).toNat : Int) == 48) = false := by rw [beq_eq_false_iff_ne]; intro e; exact hz (UInt8.toNat_inj.1 (by rw [show (48 : UInt8).toNat = 48 from rfl]; omega))
           have HN := Lib.hid (trimZ_off m (fun h => hz h.2))
           have hne : m ≠ [] := by intro e; subst e; simp at hpos
           have HE2 := Lib.hid hne
           have hie : m.isEmpty = false := by cases m; (exact absurd rfl hne); rfl
           clear hz hne
           go_wp2_with fail
           go_ret
           exact ⟨ret_S (by rw [HT.out, text_frac (HP.out.symm ▸ HM.out.trans HN.out), if_neg HE2.out]; simp at d1; simp [d1, ct]), HB1.out.trans (HB2.out.mono HB1.out.size)⟩
end
section
open Go
theorem valA_mono (a : Nat) (l : List UInt8) : a ≤ valA a l := by
 rw [valA_eq]
 exact Nat.le_trans (Nat.le_mul_of_pos_right a (Nat.pow_pos (by decide))) (Nat.le_add_right _ _)
theorem uintM_digits (l : List UInt8) : ∀ a, (∀ c ∈ l, dgt c) → valA a l ≤ 100000000000000000 → Lib.parseUintM (2 ^ 64 - 1) a l = .ok (valA a l) := by
 induction l with
 | nil => intro a _ _; rfl
 | cons c l ih =>
   intro a hd hv
   have hc := hd c (List.mem_cons_self ..)
   rw [valA_cons] at hv ⊢
   have hm := valA_mono (a * 10 + (c.toNat - 48)) l
   rw [Lib.parseUintM, if_pos (show 48 ≤ c.toNat ∧ c.toNat ≤ 57 from hc), if_neg (by omega), if_neg (by omega)]
   exact ih _ (fun x hx => hd x (List.mem_cons_of_mem _ hx)) hv
def padP (p : List UInt8) : List UInt8 := p ++ List.replicate (4 - p.length) 48
theorem padP_trim (f : Nat) (h : f < 10000) : padP (trimZ (pad4 f)) = pad4 f := by
 obtain ⟨k, -, hk, hl, -, -⟩ := frac_parts f h
 unfold padP
 rw [show 4 - (trimZ (pad4 f)).length = k by omega]; exact hk.symm
theorem padP_more (p : List UInt8) (h : p.length < 4) : padP p = padP (p ++ [48]) := by
 unfold padP
 have e : 4 - p.length = 4 - (p ++ [(48 : UInt8)]).length + 1 := by simp; omega
 rw [List.append_assoc, e, List.replicate_succ]; rfl
theorem padP_all (p : List UInt8) (h : ¬ p.length < 4) : padP p = p := by
 unfold padP; rw [show 4 - p.length = 0 by omega]; simp
theorem cut_text (u : Int) (h : vld u = true) : cutW (textI u) = (if u < 0 then [45] else []) ++ Lib.decDigits (u.natAbs / 10000) ∧ cutP (textI u) = trimZ (pad4 (u.natAbs % 10000)) := by
 have hb := body_cut (u.natAbs / 10000) (u.natAbs % 10000)
 rw [textI_val u h]
 have hs := cut_app (if u < 0 then [45] else []) (Lib.decDigits (u.natAbs / 10000) ++ fracL (u.natAbs % 10000)) (by split <;> simp)
 rw [hs.1, hs.2, hb.1, hb.2]; exact ⟨rfl, rfl⟩
theorem parseInt_text (u : Int) (h : vld u = true) : Lib.parseIntB 64 (cutW (textI u) ++ padP (cutP (textI u))) = .ok u := by
 have hf : u.natAbs % 10000 < 10000 := by omega
 have ha := abs_lt h
 obtain ⟨h1, h2⟩ := cut_text u h
 rw [h1, h2, padP_trim _ hf, List.append_assoc]
 have hv : valD (Lib.decDigits (u.natAbs / 10000) ++ pad4 (u.natAbs % 10000)) = u.natAbs := by
   rw [valD_app, dec_val, pad4_val _ hf, show (pad4 (u.natAbs % 10000)).length = 4 from rfl]; omega
 have hd : ∀ c ∈ Lib.decDigits (u.natAbs / 10000) ++ pad4 (u.natAbs % 10000), dgt c := by
   intro c hc
   rcases List.mem_append.1 hc with hc | hc
   · exact dec_dgt _ c hc
   · exact pad4_dgt _ c hc
 have hm := uintM_digits _ 0 hd (by rw [show valA 0 _ = valD _ from rfl, hv]; omega)
 rw [show valA 0 _ = valD _ from rfl, hv] at hm
 obtain ⟨c, m, e, hc⟩ := head_dec (u.natAbs / 10000) (pad4 (u.natAbs % 10000))
 rw [e] at hm ⊢
 have hU : Lib.parseUintB 64 (c :: m) = .ok u.natAbs := by
   unfold Lib.parseUintB; rw [if_neg (by simp)]; exact hm
 by_cases hu : u < 0
 · rw [if_pos hu]
   show Lib.parseIntB 64 (45 :: c :: m) = _
   unfold Lib.parseIntB
   simp only [show (45 : UInt8).toNat = 45 from rfl, or_true, if_true]
   rw [hU]
   simp only [not_true_eq_false, false_and, if_false, true_and]
   rw [if_neg (by omega)]; congr 1; omega
 · rw [if_neg hu, List.nil_append]
   have n1 : ¬ (c.toNat = 43 ∨ c.toNat = 45) := by have := hc.1; omega
   have n2 : ¬ c.toNat = 45 := by have := hc.1; omega
   unfold Lib.parseIntB
   have n3 : ¬ c.toNat = 43 := by have := hc.1; omega
   simp only [n3, n2, or_self, if_false]
   rw [hU]
   simp only [not_false_eq_true, true_and, false_and, if_false]
   rw [if_neg (by omega)]; congr 1; omega
theorem prog_long (l : List UInt8) (h : 4 < (cutP l).length) : parseI l = (0, 8) :=
 parseI_no l fun v hv e => by
   have hf : v.natAbs % 10000 < 10000 := by omega
   obtain ⟨k, -, -, hl, -, -⟩ := frac_parts _ hf
   rw [← e, (cut_text v hv).2] at h; omega
theorem prog_ok (l : List UInt8) (u : Int) (h : Lib.parseIntB 64 (cutW l ++ padP (cutP l)) = .ok u) : parseI l = if vld u = true ∧ textI u = l then (u, 0) else (0, 8) :=
 parseI_of l u fun v hv e => by
   rw [← e, parseInt_text v hv] at h
   injection h with h; exact h.symm
theorem prog_no (l : List UInt8) (h : ∀ u, Lib.parseIntB 64 (cutW l ++ padP (cutP l)) ≠ .ok u) : parseI l = (0, 8) :=
 parseI_no l fun v hv e => by rw [← e] at h; exact h v (parseInt_text v hv)
theorem cut_step (l : List UInt8) (i : Nat) (h : i < l.length) (hc : byt l i ≠ 46) : cutW (l.drop i) = byt l i :: cutW (l.drop (i + 1)) ∧ cutP (l.drop i) = cutP (l.drop (i + 1)) := by
 unfold cutW cutP
 rw [drop_byt l i h, List.takeWhile_cons, List.dropWhile_cons, if_pos (by simpa using hc), if_pos (by simpa using hc)]
 exact ⟨rfl, rfl⟩
theorem cut_at (l : List UInt8) (i : Nat) (h : i < l.length) (hc : byt l i = 46) : cutW (l.drop i) = [] ∧ cutP (l.drop i) = l.drop (i + 1) := by
 unfold cutW cutP
 rw [drop_byt l i h, List.takeWhile_cons, List.dropWhile_cons, hc]; exact ⟨rfl, rfl⟩
def rscan (fst : Bool) (n : Nat) (p : Option Nat) : List UInt8 → Option (Nat × Option Nat)
 | [] => some (n, p)
 | c :: r =>
   if c = 46 ∧ p = none then rscan false n (some 0) r
   else if dgt c then rscan false (n * 10 + (c.toNat - 48)) (p.map (· + 1)) r
   else if fst = true ∧ c = 45 then rscan false n p r else none
def rscale (n k : Nat) : Option Nat := if 4 ≤ k then some n else if 1000000000000000 < n then none else rscale (n * 10) (k + 1)
termination_by 4 - k
theorem rscan_digits (d r : List UInt8) : ∀ f n p, (∀ c ∈ d, dgt c) → (d ≠ [] ∨ f = false) → rscan f n p (d ++ r) = rscan false (valA n d) (p.map (· + d.length)) r := by
 induction d with
 | nil =>
   intro f n p _ h
   rcases h with h | h
   · exact absurd rfl h
   · rw [h]; cases p <;> rfl
 | cons c d ih =>
   intro f n p hd _
   have hc := hd c (List.mem_cons_self ..)
   have h46 : c ≠ 46 := by intro e; subst e; exact absurd hc.1 (by decide)
   rw [List.cons_append, rscan, if_neg (by simp [h46]), if_pos hc, ih false _ _ (fun x hx => hd x (List.mem_cons_of_mem _ hx)) (.inr rfl), valA_cons]
   congr 1
   cases p <;> simp <;> omega
theorem rscale_ok (k j n : Nat) (hk : k + j = 4) (h : n * 10 ^ j ≤ 1000000000000000) : rscale n k = some (n * 10 ^ j) := by
 induction j generalizing k n with
 | zero => rw [rscale, if_pos (by omega)]; simp
 | succ j ih =>
   rw [Nat.pow_succ, Nat.mul_comm (10 ^ j), ← Nat.mul_assoc] at h ⊢
   have h1 : n * 10 ≤ n * 10 * 10 ^ j := Nat.le_mul_of_pos_right _ (Nat.pow_pos (by decide))
   rw [rscale, if_neg (by omega), if_neg (by omega)]
   exact ih (k + 1) (n * 10) (by omega) h
theorem rscan_text (u : Int) (h : vld u = true) : ∃ n p, rscan true 0 none (textI u) = some (n, p) ∧ rscale n (p.getD 0) = some u.natAbs := by
 have hf : u.natAbs % 10000 < 10000 := by omega
 have ha := abs_lt h
 obtain ⟨k, hk4, hk, hl, hv, hd⟩ := frac_parts _ hf
 rw [textI_val u h]
 have hdl := (dec_len (u.natAbs / 10000) 20 (by omega) (by omega)).1
 have hne : Lib.decDigits (u.natAbs / 10000) ≠ [] := List.length_pos_iff.1 hdl
 have hbody : ∀ f, rscan f 0 none (Lib.decDigits (u.natAbs / 10000) ++ fracL (u.natAbs % 10000)) = rscan false (u.natAbs / 10000) none (fracL (u.natAbs % 10000)) := by
   intro f
   rw [rscan_digits _ _ f 0 none (dec_dgt _) (.inl hne), show valA 0 _ = valD _ from rfl, dec_val]; rfl
 have hs : rscan true 0 none ((if u < 0 then [45] else []) ++ (Lib.decDigits (u.natAbs / 10000) ++ fracL (u.natAbs % 10000))) = rscan false (u.natAbs / 10000) none (fracL (u.natAbs % 10000)) := by
   split
   · rw [show [45] ++ (Lib.decDigits (u.natAbs / 10000) ++ fracL (u.natAbs % 10000)) = 45 :: (Lib.decDigits (u.natAbs / 10000) ++ fracL (u.natAbs % 10000)) from rfl]
     rw [rscan, if_neg (by decide), if_neg (by decide), if_pos (by decide)]; exact hbody false
   · exact hbody true
 rw [hs]
 by_cases hz : trimZ (pad4 (u.natAbs % 10000)) = []
 · have h0 := (trim_nil _ hf).1 hz
   refine ⟨u.natAbs / 10000, none, by unfold fracL; rw [if_pos hz]; rfl, ?_⟩
   show rscale _ 0 = _
   rw [rscale_ok 0 4 _ (by omega) (by omega)]; congr 1; omega
 · refine ⟨u.natAbs / 10000 * 10 ^ (trimZ (pad4 (u.natAbs % 10000))).length + valD (trimZ (pad4 (u.natAbs % 10000))), some (0 + (trimZ (pad4 (u.natAbs % 10000))).length), ?_, ?_⟩
   · unfold fracL
     rw [if_neg hz, rscan, if_pos (by decide)]
     rw [← List.append_nil (trimZ (pad4 (u.natAbs % 10000))), rscan_digits _ _ false _ _ hd (.inr rfl), valA_eq, List.append_nil]; rfl
   · have hsum : (u.natAbs / 10000 * 10 ^ (trimZ (pad4 (u.natAbs % 10000))).length + valD (trimZ (pad4 (u.natAbs % 10000)))) * 10 ^ k = u.natAbs := by
       rw [Nat.add_mul, hv, Nat.mul_assoc, ← Nat.pow_add, hl]; omega
     show rscale _ (0 + _) = _
     rw [rscale_ok _ k _ (by omega) (by rw [hsum]; exact ha), hsum]
def signI (l : List UInt8) (m : Nat) : Int := if l.head? = some 45 then -(m : Int) else m
theorem signI_text (u : Int) (h : vld u = true) : signI (textI u) u.natAbs = u := by
 unfold signI
 rw [textI_val u h]
 by_cases hu : u < 0
 · rw [if_pos hu, if_pos (by rfl)]; omega
 · rw [if_neg hu, List.nil_append]
   obtain ⟨c, m, e, hc⟩ := head_dec (u.natAbs / 10000) (fracL (u.natAbs % 10000))
   rw [e, if_neg]
   · omega
   · intro hx
     have : c = 45 := by simpa using hx
     subst this; exact absurd hc.1 (by decide)
theorem ref_none (l : List UInt8) (h : rscan true 0 none l = none) : parseI l = (0, 8) :=
 parseI_no l fun v hv e => by
   obtain ⟨n, p, h1, -⟩ := rscan_text v hv
   rw [← e, h1] at h; cases h
theorem ref_over (l : List UInt8) (n : Nat) (p : Option Nat) (h : rscan true 0 none l = some (n, p)) (h2 : rscale n (p.getD 0) = none) : parseI l = (0, 8) :=
 parseI_no l fun v hv e => by
   obtain ⟨n', p', h1, h3⟩ := rscan_text v hv
   rw [← e, h1] at h
   injection h with h; injection h with ha hb
   rw [ha, hb, h2] at h3; cases h3
theorem ref_some (l : List UInt8) (n : Nat) (p : Option Nat) (m : Nat) (h : rscan true 0 none l = some (n, p)) (h2 : rscale n (p.getD 0) = some m) : parseI l = if vld (signI l m) = true ∧ textI (signI l m) = l then (signI l m, 0) else (0, 8) :=
 parseI_of l _ fun v hv e => by
   obtain ⟨n', p', h1, h3⟩ := rscan_text v hv
   rw [← e, h1] at h
   injection h with h; injection h with ha hb
   rw [ha, hb, h2] at h3
   injection h3 with h3
   rw [← e, h3]; exact signI_text v hv
end
section
open Go.RowKit
def PInt (l : List UInt8) (w : World) (e : Ending) (w' : World) : Prop :=
 Below w.heap.size w w' ∧ ((∃ v, Lib.parseIntB 64 l = .ok v ∧ e = .returned (.tuple #[.int .i64 v, .nilIface])) ∨ ((∀ v, Lib.parseIntB 64 l ≠ .ok v) ∧ ∃ v N, e = .returned (.tuple #[.int .i64 v, .iface 196 (.pointer (some ⟨N, 0, none⟩))])))
theorem ParseInt_any (l : List UInt8) (hl : l.length ≤ 1000000) (w : World) (hE : NumOk w) : Calls Tryz.prog 125 #[.string (S l), .int .i64 10, .int .i64 64] w (PInt l w) := by
 cases h : Lib.parseIntB 64 l
 · rename_i v
   refine (Tryz.strconv_ParseInt_10_at64_ok (S l) (by show l.length ≤ _; omega) v h w).mono ?_
   rintro e w' ⟨rfl, hw⟩
   refine ⟨?_, .inl ⟨v, h, rfl⟩⟩
   rcases hw with rfl | ⟨t, rfl⟩
   · exact Below.refl _ _
   · exact Go.Joins.below_bytesWorld _ _ _ _ (Nat.le_refl _)
 · obtain ⟨tp, p, hv⟩ := hE.es
   refine (Tryz.strconv_ParseInt_10_at64_syntax_var (S l) (by show l.length ≤ _; omega) h tp p w hv).mono ?_
   rintro e w' ⟨N, rfl, -, -, hb⟩
   exact ⟨hb, .inr ⟨(by intro v hv; rw [h] at hv; cases hv), _, N, rfl⟩⟩
 · obtain ⟨tp, p, hv⟩ := hE.er
   refine (Tryz.strconv_ParseInt_10_at64_range_var (S l) (by show l.length ≤ _; omega) h tp p w hv).mono ?_
   rintro e w' ⟨N, rfl, -, -, hb⟩
   exact ⟨hb, .inr ⟨(by intro v hv; rw [h] at hv; cases hv), _, N, rfl⟩⟩
theorem cutW_len (l : List UInt8) : (cutW l).length ≤ l.length := (List.takeWhile_sublist _).length_le
theorem cutP_len (l : List UInt8) : (cutP l).length ≤ l.length := by
 unfold cutP; rw [List.length_drop]; have := (List.dropWhile_sublist (fun c : UInt8 => c != 46) (l := l)).length_le; omega
theorem s_eq {a b : List UInt8} (h : a = b) : Value.string (S a) = .string (S b) := by rw [h]
set_option maxHeartbeats 1000000 in
theorem fxParse_any (l : List UInt8) (w : World) (hl : l.length ≤ 1000000) (hE : NumOk w) : Calls Tryz.prog 88 #[.string (S l)] w (OkB (parseI l) w) := by
 by_cases hlong : 20 < l.length
 · have HP := Lib.hid (parseI_long l (by omega))
   go_enter Tryz.func88, Tryz.ntmps88
   go_wp2_with fail
   go_ret2
   exact ⟨ret_pr HP.out, Below.refl _ _⟩
 · have HE := Lib.hid hE; clear hE
   have hl20 : l.length ≤ 20 := by omega
   clear hlong hl
   go_enter Tryz.func88, Tryz.ntmps88
   go_upto_block 0 with fail
   go_cut [4, 5] (fun a b wx => a = .string (S (cutW l)) ∧ b = .string (S (cutP l)) ∧ ∃ n, wx = w.drewN n)
   case first =>
     go_wp2_with fail
     go_loop [4, 5, 15] (fun a b v => ∃ i : Nat, i ≤ l.length ∧ a = .string (S l) ∧ b = .string ⟨#[]⟩ ∧ v = .int .i64 (i : Int) ∧ Hid (cutW l = l.take i ++ cutW (l.drop i) ∧ cutP l = cutP (l.drop i))) (fun _ _ v => l.length - (intOf v).toNat)
     case atStart => exact ⟨0, by omega, rfl, rfl, rfl, Lib.hid (by simp)⟩
     case round =>
       obtain ⟨i, hi, rfl, rfl, rfl, HR⟩ := hrel
       by_cases hlt : i < l.length
       · by_cases hz : byt l i = 46
         · have T : (((byt l i).toNat : Int) == 46) = true := by rw [hz]; rfl
           have HN := Lib.hid (cut_at l i hlt hz)
           clear hz
           go_wp2_with fail
           have b1 : IntKind.i64.wrap ((i : Int) + 1) = (i : Int) + 1 := IntWalk.i64_in _ (by omega)
           have b2 : (0 : Int) ≤ (i : Int) + 1 := by omega
           have b3 : ((i : Int) + 1).toNat = i + 1 := by omega
           have b4 : (i : Int) + 1 ≤ (l.length : Int) := by omega
           go_quiet (fail)
           clear b1 b2 b3 b4
           go_wp2_with fail
           go_meet
           exact ⟨s_eq (by rw [HR.out.1, HN.out.1, sl_to, List.append_nil]), s_eq (by rw [HR.out.2, HN.out.2, sl_from]), nq, rfl⟩
         · have T : (((byt l i).toNat : Int) == 46) = false := by rw [beq_eq_false_iff_ne]; intro e; exact hz (UInt8.toNat_inj.1 (by rw [show (46 : UInt8).toNat = 46 from rfl]; omega))
           have HN := Lib.hid (cut_step l i hlt hz)
           clear hz
           go_wp2_with fail
           go_round
           case rel => exact ⟨i + 1, by omega, rfl, rfl, by go_num, Lib.hid ⟨by rw [HR.out.1, HN.out.1, take_byt l i hlt, List.append_assoc]; rfl, HR.out.2.trans HN.out.2⟩⟩
           case measure => simp [intOf]; omega
       · have HL := Lib.hid (show i = l.length by omega)
         go_wp2_with fail
         go_meet
         exact ⟨s_eq (by rw [HR.out.1, HL.out]; simp [cutW]), s_eq (a := []) (by rw [HR.out.2, HL.out]; simp [cutP]), 0, rfl⟩
   case rest =>
     obtain ⟨rfl, rfl, n, rfl⟩ := hcut
     have hWl := cutW_len l
     have hPl := cutP_len l
     obtain ⟨W, hW⟩ : ∃ W, cutW l = W := ⟨_, rfl⟩
     obtain ⟨P, hP⟩ : ∃ P, cutP l = P := ⟨_, rfl⟩
     rw [hW] at hWl ⊢
     rw [hP] at hPl ⊢
     have HWP := Lib.hid (And.intro hW hP)
     clear hW hP
     by_cases hbig : 4 < P.length
     · have HX := Lib.hid (prog_long l (by rw [HWP.out.2]; exact hbig))
       go_wp2_with fail
       go_loop [5] (fun v => v = .string (S P)) (fun v => 4 - strLen v)
       case atStart => rfl
       case round =>
         subst hrel
         go_wp2_with fail
         go_ret2
         exact ⟨ret_pr HX.out, below_drewN (Below.refl _ _) _⟩
     · go_wp2_with fail
       go_loop [5] (fun v => ∃ p : List UInt8, v = .string (S p) ∧ p.length ≤ 4 ∧ Hid (padP P = padP p)) (fun v => 4 - strLen v)
       case atStart => exact ⟨P, rfl, by omega, Lib.hid rfl⟩
       case round =>
         obtain ⟨p, rfl, hp4, HP⟩ := hrel
         by_cases hlt : p.length < 4
         · have HN := Lib.hid (padP_more p hlt)
           go_wp2_with fail
           go_round
           case rel => exact ⟨_, rfl, by rw [ct_len]; simp; omega, Lib.hid (HP.out.trans HN.out)⟩
           case measure => simp [strLen, S_size, ct_len]; omega
         · have HN := Lib.hid (HP.out.trans (padP_all p hlt))
           have HC := Lib.hid (show ct W p = cutW l ++ padP (cutP l) by rw [HWP.out.1, HWP.out.2, HN.out]; rfl)
           have hctl : (ct W p).length ≤ 100 := by rw [ct_len]; omega
           go_wp2_with fail
           refine (ParseInt_any (ct W p) (by omega) _ (HE.out.below (below_drewN (Below.refl _ _) n))).mono ?_
           rintro e w1 ⟨hb, ⟨u, hu, rfl⟩ | ⟨hno, u, N, rfl⟩⟩
           · have HU := Lib.hid (prog_ok l u (by rw [← HC.out]; exact hu))
             have hB := below_drewN (Below.refl w.heap.size w) n |>.trans hb
             have HB := Lib.hid hB
             clear hu hb hB
             cases hv : vld u
             · go_wp2_with (go_at_call 103; refine (fxValid_any _ _).mono ?_; rintro e w' ⟨rfl, rfl⟩; rw [hv])
               go_ret2
               exact ⟨ret_pr (by rw [HU.out, hv]; simp), HB.out⟩
             · by_cases hte : textI u = l
               · have HT := Lib.hid hte
                 clear hte
                 go_wp2_with (go_at_call 103; refine (fxValid_any _ _).mono ?_; rintro e w' ⟨rfl, rfl⟩; rw [hv])
                 refine (fxText_any u _ (HE.out.below HB.out)).mono ?_
                 rintro e w2 ⟨rfl, hb2⟩
                 rw [HT.out]
                 go_wp2_with fail
                 go_ret2
                 exact ⟨ret_pr (by rw [HU.out, if_pos ⟨hv, HT.out⟩]), HB.out.trans (hb2.mono HB.out.size)⟩
               · have HT := Lib.hid hte
                 have T : (textI u == l) = false := by rw [beq_eq_false_iff_ne]; exact hte
                 clear hte
                 go_wp2_with (go_at_call 103; refine (fxValid_any _ _).mono ?_; rintro e w' ⟨rfl, rfl⟩; rw [hv])
                 refine (fxText_any u _ (HE.out.below HB.out)).mono ?_
                 rintro e w2 ⟨rfl, hb2⟩
                 go_wp2_with fail
                 go_ret2
                 exact ⟨ret_pr (by rw [HU.out, if_neg (fun h => HT.out h.2)]), HB.out.trans (hb2.mono HB.out.size)⟩
           · have HU := Lib.hid (prog_no l (by rw [← HC.out]; exact hno))
             have hB := below_drewN (Below.refl w.heap.size w) n |>.trans hb
             have HB := Lib.hid hB
             clear hno hb hB
             go_wp2_with fail
             go_ret2
             exact ⟨ret_pr HU.out, HB.out⟩
end
section
open Go.RowKit
theorem gA {α : Type _} {xs : List α} {i : Nat} (h : i < xs.toArray.size) : xs.toArray[i] = xs[i]'h := rfl
theorem gB {α : Type _} {a : α} {zs : List α} (h : 0 < (a :: zs).length) : (a :: zs)[0] = a := rfl
theorem gC {α : Type _} {a : α} {zs : List α} {i : Nat} (h : i + 1 < (a :: zs).length) : (a :: zs)[i + 1] = zs[i]'(Nat.lt_of_succ_lt_succ h) := rfl
theorem pB {α : Type _} (l : List α) (i : Nat) (a : α) : l.toArray.setIfInBounds i a = (l.set i a).toArray := List.setIfInBounds_toArray ..
theorem pC {α : Type _} {x : α} {l : List α} {a : α} : (x :: l).set 0 a = a :: l := rfl
theorem pD {α : Type _} {x : α} {l : List α} {i : Nat} {a : α} : (x :: l).set (i + 1) a = x :: l.set i a := rfl
section
variable {P : Program} {md : Region.Mode} {ops : Array Oper} {Q : Exit → Act → World → Prop} {S : World → Prop}
theorem tR {i : Nat} {oi : Oper} {v : Value} {fuel : Nat} {listed : Array Bool} {a : Act} {w : World} (hS : S w) (h : wpAnyH P md ops Q S fuel (listed.setIfInBounds i true) (a.put oi.dst v) w)
   (hi : ops[i]? = some oi := by exact rfl) (hs : Region.noSelect ops = true := by kernel_rfl) (hf : Region.free md ops listed i = true := by kernel_rfl) (hr : (Region.ready md ops listed).contains i = true := by kernel_rfl)
   (hQ : ∀ c a w, Q (.panic c) (a.put oi.dst v) w → Q (.panic c) a w := by exact fun _ _ _ h => h) (hy : YieldsIf P ops S oi v a := by exact Or.inr ⟨by rfl, rfl⟩) : wpAnyH P md ops Q S (fuel + 1) listed a w :=
 wpAnyH_take hi hs hf hr hQ hy hS h
theorem tL {i : Nat} {oi : Oper} {v : Value} {fuel : Nat} {listed : Array Bool} {a : Act} {w : World} (hS : S w) (h : wpAnyH P md ops Q S fuel (listed.setIfInBounds i true) (a.put oi.dst v) w)
   (hi : ops[i]? = some oi := by exact rfl) (hs : Region.noSelect ops = true := by kernel_rfl) (hf : Region.free md ops listed i = true := by kernel_rfl) (hr : (Region.ready md ops listed).contains i = true := by kernel_rfl)
   (hQ : ∀ c a w, Q (.panic c) (a.put oi.dst v) w → Q (.panic c) a w := by exact fun _ _ _ h => h)
   (hy : YieldsIf P ops S oi v a := by exact Or.inl ⟨by rfl, by (intro v hSw; (try dsimp only at hSw); try simp only [List.getElem_toArray, List.getElem_cons_zero, List.getElem_cons_succ]; go_simp; (try with_reducible rfl))⟩) : wpAnyH P md ops Q S (fuel + 1) listed a w :=
 wpAnyH_take hi hs hf hr hQ hy hS h
end
end
section
open Go
structure Stp where
 lab : List UInt8
 idx : Int
deriving DecidableEq
theorem less_eq : ∀ (x y : List UInt8), Op.bytesLess x y = decide (x < y)
 | [], [] => by simp [Op.bytesLess]
 | _ :: _, [] => by simp [Op.bytesLess]
 | [], _ :: _ => by simp [Op.bytesLess]
 | a :: x, b :: y => by
   rw [Op.bytesLess, less_eq x y]
   simp only [List.cons_lt_cons_iff]
   by_cases h1 : a < b <;> by_cases h2 : a = b <;> by_cases h3 : x < y <;> simp [h1, h2, h3]
theorem less_irr (x : List UInt8) : Op.bytesLess x x = false := by rw [less_eq]; simp
theorem less_trans {x y z : List UInt8} (h1 : Op.bytesLess x y = true) (h2 : Op.bytesLess y z = true) : Op.bytesLess x z = true := by
 rw [less_eq, decide_eq_true_eq] at *; exact List.lt_trans h1 h2
theorem less_total {x y : List UInt8} (h : x ≠ y) (h1 : Op.bytesLess x y = false) : Op.bytesLess y x = true := by
 rw [less_eq, decide_eq_false_iff_not] at h1
 rw [less_eq, decide_eq_true_eq]
 rcases Decidable.em (y < x) with h' | h'
 · exact h'
 · exact absurd (List.le_antisymm (show x ≤ y from h') (show y ≤ x from h1)) h
end
section
open Go.RowKit
set_option maxHeartbeats 400000 in
set_option maxRecDepth 100000 in
theorem written_any (c : UInt8) (w : World) : Calls Tryz.prog 44 #[.int .u8 (c.toNat : Int)] w fun e w' => e = .returned (.string (S (escB c))) ∧ Below w.heap.size w w' := by
 have hlt := c.toNat_lt
 by_cases h34 : c = 34
 · subst h34
   go_enter Tryz.func44, Tryz.ntmps44
   go_wp2
   go_ret
   exact ⟨rfl, Below.refl _ _⟩
 by_cases h92 : c = 92
 · subst h92
   go_enter Tryz.func44, Tryz.ntmps44
   go_wp2
   go_ret
   exact ⟨rfl, Below.refl _ _⟩
 by_cases h10 : c = 10
 · subst h10
   go_enter Tryz.func44, Tryz.ntmps44
   go_wp2
   go_ret
   exact ⟨rfl, Below.refl _ _⟩
 by_cases h9 : c = 9
 · subst h9
   go_enter Tryz.func44, Tryz.ntmps44
   go_wp2
   go_ret
   exact ⟨rfl, Below.refl _ _⟩
 by_cases h13 : c = 13
 · subst h13
   go_enter Tryz.func44, Tryz.ntmps44
   go_wp2
   go_ret
   exact ⟨rfl, Below.refl _ _⟩
 have e34 : ((c.toNat : Int) == 34) = false := u8_ne h34
 have e92 : ((c.toNat : Int) == 92) = false := u8_ne h92
 have e10 : ((c.toNat : Int) == 10) = false := u8_ne h10
 have e9 : ((c.toNat : Int) == 9) = false := u8_ne h9
 have e13 : ((c.toNat : Int) == 13) = false := u8_ne h13
 by_cases hp : c < 32 ∨ 126 < c
 · have hb : ¬ (32 ≤ c.toNat ∧ c.toNat ≤ 126) := by
     rcases hp with h | h <;> rw [UInt8.lt_iff_toNat_lt] at h <;> simp at h <;> omega
   have hd : (decide ((c.toNat : Int) < 32) || decide (126 < (c.toNat : Int))) = true := by simp; omega
   have hx : escB c = [92, 120, hexDig (c >>> 4), hexDig (c &&& 15)] := by simp [escB, h34, h92, h10, h9, h13, hp]
   rw [hx]
   have HX := Lib.hid hx
   clear hx hp h34 h92 h10 h9 h13
   have q2 : (0 : Int) ≤ (c.toNat : Int) / 16 := by omega
   have q3 : (c.toNat : Int) / 16 + 1 ≤ 16 := by omega
   have q6 : (0 : Int) ≤ (c.toNat : Int) % 16 := by omega
   have q7 : (c.toNat : Int) % 16 + 1 ≤ 16 := by omega
   have l1 : (sl [48, 49, 50, 51, 52, 53, 54, 55, 56, 57, 97, 98, 99, 100, 101, 102] (c.toNat / 16) (c.toNat / 16 + 1)).length ≤ 1 := by have := sl_le [48, 49, 50, 51, 52, 53, 54, 55, 56, 57, 97, 98, 99, 100, 101, 102] (c.toNat / 16) (c.toNat / 16 + 1); omega
   have l2 : (sl [48, 49, 50, 51, 52, 53, 54, 55, 56, 57, 97, 98, 99, 100, 101, 102] (c.toNat % 16) (c.toNat % 16 + 1)).length ≤ 1 := by have := sl_le [48, 49, 50, 51, 52, 53, 54, 55, 56, 57, 97, 98, 99, 100, 101, 102] (c.toNat % 16) (c.toNat % 16 + 1); omega
   have hfin : ct (ct [92, 120] (sl [48, 49, 50, 51, 52, 53, 54, 55, 56, 57, 97, 98, 99, 100, 101, 102] (c.toNat / 16) (c.toNat / 16 + 1))) (sl [48, 49, 50, 51, 52, 53, 54, 55, 56, 57, 97, 98, 99, 100, 101, 102] (c.toNat % 16) (c.toNat % 16 + 1)) = [92, 120, hexDig (c >>> 4), hexDig (c &&& 15)] :=
     forall_u8 (P := fun c => ct (ct [92, 120] (sl [48, 49, 50, 51, 52, 53, 54, 55, 56, 57, 97, 98, 99, 100, 101, 102] (c.toNat / 16) (c.toNat / 16 + 1))) (sl [48, 49, 50, 51, 52, 53, 54, 55, 56, 57, 97, 98, 99, 100, 101, 102] (c.toNat % 16) (c.toNat % 16 + 1)) = [92, 120, hexDig (c >>> 4), hexDig (c &&& 15)]) (by decide +kernel) c
   have HF := Lib.hid hfin
   clear hfin
   rcases Nat.lt_or_ge c.toNat 32 with h32 | h32
   · go_enter Tryz.func44, Tryz.ntmps44
     go_wp2
     go_quiet (fail)
     go_wp2
     go_ret
     exact ⟨congrArg (fun x => Ending.returned (.string (S x))) HF.out, below_drewN (Below.refl _ _) _⟩
   · have h126 : 126 < c.toNat := by omega
     go_enter Tryz.func44, Tryz.ntmps44
     go_wp2
     go_quiet (fail)
     go_wp2
     go_ret
     exact ⟨congrArg (fun x => Ending.returned (.string (S x))) HF.out, below_drewN (Below.refl _ _) _⟩
 · have hp1 : 32 ≤ c.toNat := by
     have := fun h => hp (.inl h); rw [UInt8.lt_iff_toNat_lt] at this; simp at this; exact this
   have hp2 : c.toNat ≤ 126 := by
     have := fun h => hp (.inr h); rw [UInt8.lt_iff_toNat_lt] at this; simp at this; exact this
   have hx : escB c = [c] := by simp [escB, h34, h92, h10, h9, h13, hp]
   rw [hx]
   have HX := Lib.hid hx
   clear hx hp h34 h92 h10 h9 h13
   have hc := conv_one (P := Tryz.prog) w 96 9 5 5 c 1 Tryz.underlying96 Tryz.underlying5 Tryz.underlying9
   go_enter Tryz.func44, Tryz.ntmps44
   go_wp2
   go_ret
   exact ⟨rfl, (Below.refl _ _).alloc (Nat.le_refl _) _⟩
end
section
open Go.RowKit
theorem flat_take (l : List UInt8) (k : Nat) (h : k < l.length) : (l.take (k + 1)).flatMap escB = (l.take k).flatMap escB ++ escB (byt l k) := by
 rw [take_byt l k h, List.flatMap_append]; simp
set_option maxHeartbeats 400000 in
theorem refQuote_any (l : List UInt8) (hl : l.length ≤ 1000000) (w : World) : Calls Tryz.prog 26 #[.string (S l)] w fun e w' => e = .returned (.string (S (quoteL l))) ∧ Below w.heap.size w w' := by
 go_enter Tryz.func26, Tryz.ntmps26
 go_wp2_with fail
 go_loopw [3, 4] (fun o i wr => ∃ (k : Nat) (acc : List UInt8), k ≤ l.length ∧ i = .int .i64 k ∧ o = .string (S acc) ∧ acc.length ≤ 4 * k + 1 ∧ Hid (acc = 34 :: (l.take k).flatMap escB) ∧ Below w.heap.size w wr)
   (fun _ i _ => l.length - (intOf i).toNat)
 case atStart => exact ⟨0, [34], by omega, rfl, rfl, by simp, rfl, Below.refl _ _⟩
 case round =>
   obtain ⟨k, acc, hk, rfl, rfl, hacc, hh, hB⟩ := hrel
   by_cases hlt : k < l.length
   · have he := esc_len (byt l k)
     go_wp2_with (go_at_call 44; refine (written_any _ _).mono ?_; rintro e w' ⟨rfl, hb1⟩)
     go_roundw
     case rel => exact ⟨k + 1, ct acc (escB (byt l k)), by omega, by go_num, rfl, by rw [ct_len]; omega, by show ct acc _ = _; rw [hh.out, flat_take l k hlt, ct_eq]; rfl, hB.trans (hb1.mono hB.size)⟩
     case measure => simp [intOf]; omega
   · go_wp2_with fail
     go_ret
     exact ⟨ret_S (by rw [ct_eq, hh.out, List.take_of_length_le (by omega)]; rfl), hB⟩
end
section
open Go.RowKit Go.Shelf
attribute [local go_sem] Oper.semAt_some
theorem drewN_abides {β : Type} {B : Nat} {J : β → World → Prop} (h : AbidesFrom B J) {s : β} {W : World} (hs : J s W) (n : Nat) : J s (W.drewN n) :=
 h s W (W.drewN n) none hs ⟨rfl, rfl, rfl, Nat.le_refl _, fun _ _ _ => rfl⟩ (fun r e => by cases e)
set_option maxRecDepth 100000 in
set_option maxHeartbeats 1000000 in
theorem pieces1_in (n : Nat) (hn : 1 ≤ n) (y Bn : Nat) (l : List UInt8) (hl : l.length ≤ 1000000) (J Jx : List UInt8 → World → Prop) (W : World) (hJ : AbidesFrom W.heap.size J)
   (hY : ∀ pre x W1, J pre W1 → pre.length < l.length → YieldAt Fence.wide (n - 1) Tryz.prog y #[.string (S (escB x))] W1 fun e W' =>
     (e = .returned (.bool true) ∧ J (pre ++ [x]) W' ∧ W'.heap[Bn]? = W1.heap[Bn]?) ∨ (e = .returned (.bool false) ∧ Jx (pre ++ [x]) W'))
   (hBn : Boxed W Bn 9 (.string (S l))) (h0 : J [] W) :
   CallsIn Fence.wide n Tryz.prog 137 #[.func (.yield y) #[] #[], .pointer (some ⟨Bn, 0, none⟩)] W fun e W' => (∃ v, e = .returned v) ∧
     ((∃ xs, xs = l ∧ J xs W') ∨ (∃ pre, pre <+: l ∧ Jx pre W')) := by
 have hc := hBn.cell
 refine callsIn_of_wp Tryz.func137 rfl trivial ?_ rfl
 simp only [Tryz.ntmps137, List.size_toArray, List.length_cons, List.length_nil, Nat.reduceAdd, Nat.reduceSub, Array.replicate_succ, Array.replicate_zero, List.push_toArray, List.append_toArray, List.nil_append, List.cons_append]
 gi_wp2
 clear hc
 gi_loopw [6] (fun i wr => ∃ k : Nat, k ≤ l.length ∧ i = .int .i64 k ∧ J (l.take k) wr ∧ Boxed wr Bn 9 (.string (S l)))
   (fun i _ => l.length - (intOf i).toNat)
 case atStart => exact ⟨0, by omega, rfl, h0, hBn⟩
 case round =>
   obtain ⟨k, hk, rfl, hJk, hbx⟩ := hrel
   by_cases hlt : k < l.length
   · have hc := hbx.cell
     gi_wp2_with fail
     refine ⟨trivial, ?_⟩
     refine (callsIn_wide.2 (escape_any _ _)).mono ?_
     rintro e w' ⟨rfl, q, rfl⟩
     obtain ⟨fn, tmps, assign, body, hy, hR⟩ := hY (l.take k) (byt l k) (wr.drewN q) (drewN_abides hJ hJk q) (by rw [List.length_take]; omega)
     gi_wp2_with fail
     refine hR.mono ?_
     rintro e W3 (⟨rfl, hJ3, hk3⟩ | ⟨rfl, hJx3⟩)
     · gi_wp2
       go_roundw
       case rel => exact ⟨k + 1, by omega, by go_num, by rw [take_byt l k hlt]; exact hJ3, hk3.trans hbx⟩
       case measure => simp [intOf]; omega
     · gi_wp2
       refine bodyPost_ret (results_none rfl _ _ _) rfl ?_
       exact ⟨⟨_, rfl⟩, .inr ⟨l.take k ++ [byt l k], by rw [← take_byt l k hlt]; exact List.take_prefix _ _, hJx3⟩⟩
   · gi_wp2
     go_end0
     exact ⟨⟨_, rfl⟩, .inl ⟨l, rfl, by rw [List.take_of_length_le (by omega)] at hJk; exact hJk⟩⟩
theorem pieces_in (n : Nat) (l : List UInt8) (w : World) :
   CallsIn Fence.wide n Tryz.prog 110 #[.string (S l)] w fun e w' => e = .returned (.func (.func 137) #[] #[.pointer (some ⟨w.heap.size, 0, none⟩)]) ∧ w' = w.alloc (.cells #[.string (S l)] 9) := by
 refine callsIn_of_wp Tryz.func110 rfl trivial ?_ rfl
 simp only [Tryz.ntmps110, List.size_toArray, List.length_cons, List.length_nil, Nat.reduceAdd, Nat.reduceSub, Array.replicate_succ, Array.replicate_zero, List.push_toArray, List.append_toArray, List.nil_append, List.cons_append]
 gi_wp2
 go_ret
 exact ⟨rfl, rfl⟩
theorem pieces_stops (n : Nat) (hn : 1 ≤ n) (Bn : Nat) (l : List UInt8) (hl : l.length ≤ 1000000) (w : World) (hBn : Boxed w Bn 9 (.string (S l))) :
   SeqStopsK Fence.wide n Tryz.prog 137 #[.pointer (some ⟨Bn, 0, none⟩)] (fun x : UInt8 => #[Value.string (S (escB x))]) (fun A B => B.heap[Bn]? = A.heap[Bn]?) (fun ys => ys = l) (fun pre => pre <+: l) l.length w := fun y J Jx W hW hJ _ hY h0 =>
 pieces1_in n hn y Bn l hl J Jx W hJ hY ((hW.block Bn hBn.lt).trans hBn) h0
section
variable {F : Fence} {n' : Nat} {P : Program}
theorem wpListIn_append_own_string {ops : Array Oper} {rest : List Oper} {o : Oper} {a : Act} {Q : Exit → Act → World → Prop} (w : World) (hgd : o.guard = none) (sl x : Operand) (t u : TypeId)
   (ho : o.op = .call { callee := .builtin .append, args := #[sl, x], argTypes := #[t, u] })
   (base : Nat) (e : TypeId) (i : TypeInfo) (ht : P.underlying t = some (.slice e)) (hu : P.underlying u = some .string) (hi : P.info? e = some i) (hz : i.zero = some (.int .u8 0))
   (hsize : i.size = 1) (hby : i.bytes = 1)
   (v : Value) (n : Nat) (xs : List Value) (hs : a.eval sl = v) (hown : w.ownsRow base e 1 v n xs) (s : ByteArray) (hx : a.eval x = .string s)
   (h63 : n + s.size ≤ maxLen) (hbytes : n + s.size ≤ 140737488355328) (hbase : base ≤ w.heap.size)
   (h : ∀ v' w', w'.ownsRow base e 1 v' (n + s.size) (xs ++ Lib.strCells s) → w.grownBy w' v.ownBlock → (v' = .slice none 0 0 ↔ v = .slice none 0 0 ∧ s.size = 0) → wpListIn F n' P ops Q rest (a.put o.dst v') w') : wpListIn F n' P ops Q (o :: rest) a w := by
 refine wpListIn_plain hgd fun K hK => ?_
 obtain ⟨v', w', hr, h2, h3, h4⟩ := Lib.run_append_own_string (P := P) w base t u o.type e i ht hu hi hz hsize hby v n xs hown s h63 hbytes hbase
 unfold Oper.wpIn
 refine ⟨?_, ?_⟩
 · simp [Oper.about, ho, resolve, Target.leads, Sem.run_pure]
 · rw [Oper.semAt_plain F _ _ (by rw [ho]; intro c hc'; cases hc')]
   simp [execOp, ho, resolve, invoke, builtin, hs, hx, hr, Result.andThen]
   exact hK _ _ (h v' w' h2 h3 h4)
end
theorem boxed_appended {W w1 : World} {n₀ B : Nat} {t e : TypeId} {size : Nat} {v v' : Value} {k m : Nat} {xs ys : List Value}
   (hv : Boxed W B t v) (hte : t ≠ e) (hrow : W.ownsRow n₀ e size v k xs) (hn₀ : n₀ ≤ W.heap.size) (hB : n₀ ≤ B)
   (hown' : w1.ownsRow n₀ e size v' m ys) (hgrow : W.grownBy w1 v.ownBlock) :
   Boxed w1 B t v ∧ Boxed (w1.setCell ⟨B, 0, none⟩ v') B t v' ∧ (w1.setCell ⟨B, 0, none⟩ v').ownsRow n₀ e size v' m ys ∧ KeepsOthers W (w1.setCell ⟨B, 0, none⟩ v') ∧ Below n₀ W (w1.setCell ⟨B, 0, none⟩ v') := by
 have hv1 : Boxed w1 B t v := hv.kept hgrow (hv.not_row hte hrow)
 refine ⟨hv1, hv1.set v', hown'.kept (grownBy_setCell' w1 B v') (.inr (hv1.not_row hte hown').symm), ?_, ?_⟩
 · refine (KeepsOthers.of_grownBy hgrow fun j o ej hj => ?_).trans (KeepsOthers.setCell _ _ _)
   rcases hrow.2 with ⟨rfl, _⟩ | ⟨g, cap, cur, rfl, _, hgb, _⟩
   · simp [Value.ownBlock] at ej
   · obtain rfl : g = j := by simpa [Value.ownBlock] using ej
     rw [hgb] at hj; cases hj; rfl
 · refine ((Below.refl n₀ W).grown hgrow hn₀ fun j ej => ?_).setCell (p := ⟨B, 0, none⟩) hB v'
   rcases hrow.2 with ⟨rfl, _⟩ | ⟨g, cap, cur, rfl, hb, _, _⟩
   · simp [Value.ownBlock] at ej
   · obtain rfl : g = j := by simpa [Value.ownBlock] using ej
     exact hb
def qpre (pre : List UInt8) : List UInt8 := 34 :: pre.flatMap escB
theorem qpre_len (pre : List UInt8) : 1 ≤ (qpre pre).length ∧ (qpre pre).length ≤ 4 * pre.length + 1 := by
 have := flat_len pre
 unfold qpre; rw [List.length_cons]; omega
theorem qpre_snoc (pre : List UInt8) (x : UInt8) : qpre (pre ++ [x]) = qpre pre ++ escB x := by
 unfold qpre; rw [List.flatMap_append]; simp
theorem own_keeps_block {W w1 : World} {base : Nat} {e : TypeId} {size : Nat} {v : Value} {k : Nat} {xs : List Value} {o ob : Obj} {D : Nat} (h : W.ownsRow base e size v k xs) (hgrow : (W.alloc o).grownBy w1 v.ownBlock)
   (hK : W.heap[D]? = some ob) (ho : ob.isCells = false) : w1.heap[D]? = some ob := by
 have hlt := (Array.getElem?_eq_some_iff.1 hK).1
 refine (hgrow.block D (by simp; omega) fun ej => ?_).trans ((Below.heap_alloc W _ D hlt).trans hK)
 obtain ⟨_, cur, hc⟩ := own_base h D ej.symm
 rw [hK] at hc; cases hc; cases ho
set_option maxRecDepth 100000 in
set_option maxHeartbeats 2000000 in
theorem Quote_in (l : List UInt8) (hl : l.length ≤ 1000000) (w : World) :
   CallsIn Fence.wide 6 Tryz.prog 74 #[.string (S l)] w fun e W' => e = .returned (.string (S (quoteL l))) ∧ Below w.heap.size w W' := by
 have h1 : 1 ≤ 6 := by omega
 obtain ⟨i0, hi, hz0, hz1, hz2⟩ := info_parts infoU8
 refine callsIn_of_wp_marks Tryz.func74 rfl trivial ?_ rfl
 simp only [Tryz.ntmps74, List.size_toArray, List.length_cons, List.length_nil, Nat.reduceAdd, Nat.reduceSub, Array.replicate_succ, Array.replicate_zero, List.push_toArray, List.append_toArray, List.nil_append, List.cons_append]
 gi_wp2_with fail
 refine ⟨trivial, ?_⟩
 refine (pieces_in _ _ _).mono ?_
 rintro e w' ⟨rfl, rfl⟩
 gi_wp2_with fail
 have bO := Boxed.new (w.alloc (.cells #[.int .u8 34] 5)) 96 (.slice (some ⟨w.heap.size, 0, none⟩) 1 1)
 have bS := Boxed.new ((w.alloc (.cells #[.int .u8 34] 5)).alloc (.cells #[.slice (some ⟨w.heap.size, 0, none⟩) 1 1] 96)) 9 (.string (S l))
 rw [World.size_alloc] at bO bS
 rw [World.size_alloc] at bS
 have bO' := bO.alloc (.cells #[.string (S l)] 9)
 have hB0 : Below w.heap.size w (((w.alloc (.cells #[.int .u8 34] 5)).alloc (.cells #[.slice (some ⟨w.heap.size, 0, none⟩) 1 1] 96)).alloc (.cells #[.string (S l)] 9)) :=
   (((Below.refl _ w).alloc (Nat.le_refl _) _).alloc (by simp) _).alloc (by simp; omega) _
 have hrow0 : (((w.alloc (.cells #[.int .u8 34] 5)).alloc (.cells #[.slice (some ⟨w.heap.size, 0, none⟩) 1 1] 96)).alloc (.cells #[.string (S l)] 9)).ownsRow w.heap.size 5 1 (.slice (some ⟨w.heap.size, 0, none⟩) 1 1) 1 [.int .u8 34] :=
   ⟨rfl, .inr ⟨w.heap.size, 1, #[.int .u8 34], rfl, Nat.le_refl _, ((Boxed.new w 5 (.int .u8 34)).alloc _).alloc _, Nat.le_refl _, by decide, rfl, rfl⟩⟩
 refine wpIn_rangeFunc_ownG rfl h1 (gf := 137) (lb := #[.pointer (some ⟨w.heap.size + 1 + 1, 0, none⟩)]) rfl trivial (enters_of Tryz.func137 (by kernel_rfl) rfl)
   (pieces_stops _ (by omega) (w.heap.size + 1 + 1) l hl _ bS) (fun h k => k.trans h) (fun W y o o' hl' hy _ _ => World.putObj_heap_other (by simp at hl'; omega)) (Below.refl _ _) (fun _ => rfl)
   (fun pre W => (∃ v, Boxed W (w.heap.size + 1) 96 v ∧ W.ownsRow w.heap.size 5 1 v (qpre pre).length (bcells (qpre pre)) ∧ True) ∧ Boxed W (w.heap.size + 1 + 1) 9 (.string (S l)) ∧ Below w.heap.size w W)
   (fun _ _ _ => False)
   (OwnFrom.and (Own.from (holdsRow_own w.heap.size (w.heap.size + 1) 96 5 1 (fun pre => (qpre pre).length) (fun pre => bcells (qpre pre)) (fun _ _ => True)) _) (OwnFrom.and (Own.from (boxed_own _ _ _) _) (ownFrom_below (Nat.le_refl _) (by simp; omega))))
   (fun _ _ _ _ _ hs _ _ => hs)
   ⟨⟨_, bO', hrow0, trivial⟩, bS, hB0⟩
   (fun x => { tmps := #[.string (S l), undef, .string ⟨#[]⟩, .pointer (some ⟨w.heap.size + 1, 0, none⟩), .string (S (escB x)), .slice (some ⟨w.heap.size, 0, none⟩) 1 1, .string (S l), .func (.func 137) #[] #[.pointer (some ⟨w.heap.size + 1 + 1, 0, none⟩)], .string (S (escB x)), undef, undef, undef, undef, undef, undef, undef], defers := [] }) ?assign ?body ?done ?stop
 case assign =>
   intro y x W K hK
   gi_wp2
   exact hK
 case body =>
   rintro y pre x W ⟨⟨v, hv, hrow, _⟩, hs, hB⟩ hlt
   have hc := hv.cell
   have hq := qpre_len pre
   have hx := esc_len x
   have hx' : (S (escB x)).size ≤ 4 := hx.2
   gi_wp2_with (gi_at_builtin; refine wpListIn_append_own_string _ rfl _ _ 96 9 rfl w.heap.size 5 i0 Tryz.underlying96 Tryz.underlying9 hi hz0 hz1 hz2 _ _ _ rfl hrow (S (escB x)) rfl (by unfold maxLen; omega) (by omega) hB.size ?_; intro v' w1 hown' hgrow _; obtain ⟨g', cap', rfl⟩ := ownsRow_pos hown' (by omega); obtain ⟨hv1, hv2, hr2, hk2, hb2⟩ := boxed_appended hv (by decide) hrow hB.size (by omega) hown' hgrow; have hc1 := hv1.cell; have hf1 := hv1.frozen)
   have hs2 : Boxed (w1.setCell ⟨w.heap.size + 1, 0, none⟩ (.slice (some ⟨g', 0, none⟩) ((qpre pre).length + (S (escB x)).size) cap')) (w.heap.size + 1 + 1) 9 (.string (S l)) :=
     (hs.kept hgrow (hs.not_row (by decide) hrow)).kept (grownBy_setCell' _ _ _) (by simp)
   refine ⟨hk2.from _, hs2.trans hs.symm, ⟨_, hv2, ?_, trivial⟩, hs2, hB.trans hb2⟩
   rw [qpre_snoc, ← bcells_append, List.length_append]
   exact hr2
 case done =>
   rintro D ys W hD rfl ⟨⟨v, hv, hrow, _⟩, hs, hB⟩ hK
   have hc := hv.cell
   have hq := qpre_len ys
   have hq2 : qpre ys ++ [34] = quoteL ys := rfl
   gi_wp2_with (gi_at_builtin; refine wpListIn_append_own _ rfl _ _ 96 rfl w.heap.size 5 i0 (.int .u8 0) 1 1 Tryz.underlying96 hi hz0 hz1 hz2 rfl (by decide) _ _ _ rfl (hrow.alloc _) ⟨W.heap.size, 0, none⟩ 1 1 [.int .u8 34] rfl rfl (cell_one_new _ _ _) (by simp [Value.oneCell']) (by unfold maxLen; omega) (by omega) (by have := hB.size; simp; omega) ?_; intro v' w1 hown' hgrow _; have hK1 := own_keeps_block hrow hgrow hK rfl; have hcv := conv_own (P := Tryz.prog) w1 96 9 5 w.heap.size v' (qpre ys ++ [34]) Tryz.underlying96 Tryz.underlying5 Tryz.underlying9 (by rw [List.length_append, ← bcells_append]; exact hown'); rw [hq2] at hcv; have hB1 := own_below1 hB hrow hgrow hB.size; clear hgrow hown' hq2)
   refine ⟨by simp, .inl ⟨_, _, rfl, run_takeDeferred hK1, ?_⟩⟩
   exact ⟨_, results_tmp rfl _ _ _, rfl, hB1.trans (belowK_b (w := w) (Nat.le_refl _) w1 D _ _ (by simp at hD; omega) hK1 rfl rfl)⟩
 case stop =>
   rintro D c pre W _ _ h _
   exact h.elim
theorem quote_any (l : List UInt8) (hl : l.length ≤ 1000000) (w : World) :
   Calls Tryz.prog 74 #[.string (S l)] w fun e w' => e = .returned (.string (S (quoteL l))) ∧ Below w.heap.size w w' :=
 callsIn_wide.1 (Quote_in l hl w)
end
section
open Go.RowKit
theorem digs_len (k : Nat) : ∀ n least, n < 10 ^ k → least ≤ k → (digs n least).length ≤ k := by
 induction k with
 | zero => intro n least h1 h2; rw [show n = 0 by simp at h1; exact h1, show least = 0 by omega, digs_nil]; simp
 | succ k ih =>
   intro n least h1 h2
   by_cases h : n = 0 ∧ least = 0
   · rw [h.1, h.2, digs_nil]; simp
   · rw [digs_more n least h, List.length_append]
     have := ih (n / 10) (least - 1) (by rw [Nat.pow_succ] at h1; omega) (by omega)
     simp; omega
set_option maxHeartbeats 400000 in
theorem Digits_any (n least : Nat) (hn : n ≤ 1000000000000000) (hl : least ≤ 20) (w : World) :
   Calls Tryz.prog 57 #[.int .i64 (n : Int), .int .i64 (least : Int)] w fun e w' => e = .returned (.string (S (digs n least))) ∧ Below w.heap.size w w' := by
 have hlen := digs_len 20 n least (by omega) hl
 have HLEN := Lib.hid hlen; clear hlen
 go_enter Tryz.func57, Tryz.ntmps57
 go_wp2_with fail
 go_loopw [0, 5] (fun n' s wr => ∃ (m : Nat) (l : List UInt8), n' = .int .i64 (m : Int) ∧ s = .string (S l) ∧ m ≤ 1000000000000000 ∧ Hid (digs n least = digs m (least - l.length) ++ l) ∧ Below w.heap.size w wr)
   (fun n' s _ => (intOf n').toNat + (least - strLen s))
 case atStart => exact ⟨n, [], rfl, rfl, hn, Lib.hid (by simp), Below.refl _ _⟩
 case round =>
   obtain ⟨m, l, rfl, rfl, hm, HD, hB⟩ := hrel
   have hlb : l.length ≤ 20 := by
     have h1 := HLEN.out; rw [HD.out, List.length_append] at h1; omega
   by_cases hstop : m = 0 ∧ least ≤ l.length
   · obtain ⟨rfl, hst⟩ := hstop
     have HF := Lib.hid (show digs n least = l by rw [HD.out, show least - l.length = 0 by omega, digs_nil]; rfl)
     go_wp2_with fail
     go_ret
     exact ⟨ret_S (by rw [HF.out]), hB⟩
   · obtain ⟨d, hd⟩ : ∃ d, m % 10 = d := ⟨_, rfl⟩
     obtain ⟨q, hq⟩ : ∃ q, m / 10 = q := ⟨_, rfl⟩
     have hdb : d < 10 := by omega
     have hqb : q ≤ m := by omega
     have HN := Lib.hid (show digs n least = digs q (least - (ct [dch d] l).length) ++ ct [dch d] l by
       rw [HD.out, digs_more m _ (by omega), hd, hq, ct_eq, List.append_assoc]
       simp only [List.length_append, List.length_cons, List.length_nil]
       rw [show least - (0 + 1 + l.length) = least - l.length - 1 by omega])
     have ed : (m : Int) % 10 = (d : Int) := by omega
     have eq : (m : Int) / 10 = (q : Int) := by omega
     have hmeas : q < m ∨ (m = 0 ∧ q = 0 ∧ l.length < least) := by omega
     obtain ⟨c, hc⟩ : ∃ c, dch d = c := ⟨_, rfl⟩
     have ec : 48 + (d : Int) = (c.toNat : Int) := by rw [← hc, dch_nat d hdb]; omega
     rw [hc] at HN
     have hcv := fun W => conv_one (P := Tryz.prog) W 96 9 5 5 c 1 Tryz.underlying96 Tryz.underlying5 Tryz.underlying9
     clear hc hd hq
     have hM := Lib.hid hmeas
     rcases hmeas with hlt | ⟨hm0, -, hls⟩
     · have hm1 : decide (0 < m) = true := by simp; omega
       clear hstop hlt
       go_wp2_with fail
       go_roundw
       case rel => exact ⟨q, ct [c] l, rfl, rfl, by omega, HN, hB.alloc hB.size _⟩
       case measure => have := hM.out; simp [intOf, strLen, S_size, ct_len]; omega
     · have hm1 : decide (0 < m) = false := by simp; omega
       clear hstop hm0
       go_wp2_with fail
       go_roundw
       case rel => exact ⟨q, ct [c] l, rfl, rfl, by omega, HN, hB.alloc hB.size _⟩
       case measure => have := hM.out; simp [intOf, strLen, S_size, ct_len]; omega
theorem Digits_one (n : Nat) (hn : n ≤ 1000000000000000) (w : World) :
   Calls Tryz.prog 57 #[.int .i64 (n : Int), .int .i64 1] w fun e w' => e = .returned (.string (S (Lib.decDigits n))) ∧ Below w.heap.size w w' := by
 have h := Digits_any n 1 hn (by decide) w
 rw [digs_one] at h; exact h
theorem Digits_four (n : Nat) (hn : n < 10000) (w : World) :
   Calls Tryz.prog 57 #[.int .i64 (n : Int), .int .i64 4] w fun e w' => e = .returned (.string (S (pad4 n))) ∧ Below w.heap.size w w' := by
 have h := Digits_any n 4 (by omega) (by decide) w
 rw [digs_four n hn] at h; exact h
end
end Go.Proofs.YtdalfkklkeblaaaGreatDoor
