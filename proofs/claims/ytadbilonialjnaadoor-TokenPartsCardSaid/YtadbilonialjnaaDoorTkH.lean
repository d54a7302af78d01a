/- The scanner's str: the string token at the offset. -/
import Derived.Test.YtadbilonialjnaaDoorTkE
import Derived.Test.YtadbilonialjnaaDoorTkG
import Derived.Test.YtadbilonialjnaaDoorNumOk
namespace Go.Proofs.YtadbilonialjnaaDoor
open Go.RowKit

/-- what the walks ask of the library's variables -/
structure TkOk (w : World) : Prop where
  nu : NumOk w
  er : ErrOk w
  mx : MaxOk w
theorem TkOk.below {w w' : World} (h : TkOk w) (hb : Below w.heap.size w w') : TkOk w' := ⟨h.nu.below hb, h.er.below hb, h.mx.below hb⟩
theorem MaxOk.lt {w : World} (h : MaxOk w) : 0 < w.heap.size := by obtain ⟨m, hc⟩ := h; exact cell_lt hc
/-- a scanner in a world that grew out of w0 -/
structure ScW (w0 : World) (B : Nat) (s : List UInt8) (a : Nat) (L : List Tok) (ln : Bool) (v : Value) (W : World) : Prop where
  ok : TkOk w0
  bel : Below w0.heap.size w0 W
  sc : ScS w0.heap.size B s a L ln v W
theorem ScW.step {w0 : World} {B : Nat} {s : List UInt8} {a : Nat} {L : List Tok} {ln : Bool} {v : Value} {W W' : World} (h : ScW w0 B s a L ln v W) (hb : Below W.heap.size W W') : ScW w0 B s a L ln v W' :=
  ⟨h.ok, h.bel.trans (hb.mono h.bel.size), h.sc.below hb⟩
theorem ScW.alloc {w0 : World} {B : Nat} {s : List UInt8} {a : Nat} {L : List Tok} {ln : Bool} {v : Value} {W : World} (h : ScW w0 B s a L ln v W) (o : Obj) : ScW w0 B s a L ln v (W.alloc o) :=
  h.step ((Below.refl _ _).alloc (Nat.le_refl _) _)
theorem ScW.drew {w0 : World} {B : Nat} {s : List UInt8} {a : Nat} {L : List Tok} {ln : Bool} {v : Value} {W : World} (h : ScW w0 B s a L ln v W) : ScW w0 B s a L ln v W.drew :=
  h.step (below_drew (Below.refl _ _))
theorem ScW.drewN {w0 : World} {B : Nat} {s : List UInt8} {a : Nat} {L : List Tok} {ln : Bool} {v : Value} {W : World} (h : ScW w0 B s a L ln v W) (n : Nat) : ScW w0 B s a L ln v (W.drewN n) :=
  h.step (below_drewN (Below.refl _ _) n)
theorem ScW.oks {w0 : World} {B : Nat} {s : List UInt8} {a : Nat} {L : List Tok} {ln : Bool} {v : Value} {W : World} (h : ScW w0 B s a L ln v W) : TkOk W := h.ok.below h.bel
/-- a token is laid down, or none -/
def NxP (w0 : World) (B : Nat) (s : List UInt8) (a : Nat) (L : List Tok) (ln : Bool) (o : Option (Nat × List UInt8 × Nat)) (e : Ending) (w' : World) : Prop :=
  match o with
  | none => e = .returned (.bool false) ∧ ∃ v', ScW w0 B s a L ln v' w'
  | some (k, x, n) => e = .returned (.bool true) ∧ ∃ v', ScW w0 B s (a + n) (L ++ [⟨k, x, a, a + n⟩]) (tkLn k x ln) v' w'
theorem nx_none {w0 : World} {B : Nat} {s : List UInt8} {a : Nat} {L : List Tok} {ln : Bool} {o : Option (Nat × List UInt8 × Nat)} {v : Value} {w' : World} (h : o = none) (hs : ScW w0 B s a L ln v w') : NxP w0 B s a L ln o (.returned (.bool false)) w' := by
  subst h; exact ⟨rfl, v, hs⟩
/-- add in these words -/
theorem addW_any (w0 : World) (B : Nat) (s : List UInt8) (a : Nat) (L : List Tok) (ln : Bool) (v : Value) (k : Nat) (t : List UInt8) (n : Nat) (W : World) (hS : ScW w0 B s a L ln v W)
    (hL : L.length ≤ 1000000) (ha : a + n ≤ 1000000) (hk : k ≤ 7) (hop : k = 5 → t ∈ tkOps) :
    Calls Tryd.prog 26 #[.pointer (some ⟨B, 0, none⟩), .int .i64 (k : Int), .string (S t), .int .i64 (n : Int)] W fun e w' => e = .returned (.tuple #[]) ∧ ∃ v', ScW w0 B s (a + n) (L ++ [⟨k, t, a, a + n⟩]) (tkLn k t ln) v' w' := by
  refine (add_any w0.heap.size B s a L ln v k t n W hS.sc hS.oks.mx hS.ok.mx.lt hS.bel.size hL ha hk hop).mono ?_
  rintro e w' ⟨rfl, ⟨v', hs⟩, hb⟩
  exact ⟨rfl, v', hS.ok, hS.bel.trans hb, hs⟩
theorem litL_big : ∀ (l : List UInt8) (i : Nat) (code : Bool), (litL l i code).1 = 0 ∨ i + 1 ≤ (litL l i code).1
  | [], i, code => .inl rfl
  | [c], i, code => by
    unfold litL
    split
    · exact .inr (Nat.le_refl _)
    · split
      · exact .inl rfl
      · exact .inl rfl
  | c :: d :: t, i, code => by
    unfold litL
    split
    · exact .inr (Nat.le_refl _)
    · split
      · rcases litL_big t (i + 2) (code || d == 40) with h | h
        · exact .inl h
        · exact .inr (Nat.le_trans (by omega) h)
      · rcases litL_big (d :: t) (i + 1) code with h | h
        · exact .inl h
        · exact .inr (Nat.le_trans (by omega) h)
theorem sl_mid (s : List UInt8) (a n p : Nat) (h : p + 1 = n) : sl (sl s a (a + n)) 1 p = sl (s.drop a) 1 (n - 1) := by
  subst h
  unfold sl
  rw [Nat.add_sub_cancel_left, Nat.add_sub_cancel, List.drop_take, List.take_take, Nat.add_sub_cancel, Nat.min_eq_left (by omega)]
theorem sl_part (s : List UInt8) (a n : Nat) : sl s a (a + n) = (s.drop a).take n := by unfold sl; rw [Nat.add_sub_cancel_left]
theorem nx_some {w0 : World} {B : Nat} {s : List UInt8} {a : Nat} {L : List Tok} {ln : Bool} {o : Option (Nat × List UInt8 × Nat)} {v : Value} {k : Nat} {x : List UInt8} {n : Nat} {w' : World} (h : o = some (k, x, n))
    (hs : ScW w0 B s (a + n) (L ++ [⟨k, x, a, a + n⟩]) (tkLn k x ln) v w') : NxP w0 B s a L ln o (.returned (.bool true)) w' := by
  subst h; exact ⟨rfl, v, hs⟩
theorem nx_eq {w0 : World} {B : Nat} {s : List UInt8} {a : Nat} {L : List Tok} {ln b : Bool} {o : Option (Nat × List UInt8 × Nat)} {w' : World} (hb : b = true → NxP w0 B s a L ln o (.returned (.bool true)) w') (hf : b = false → NxP w0 B s a L ln o (.returned (.bool false)) w') : NxP w0 B s a L ln o (.returned (.bool b)) w' := by
  cases b with
  | true => exact hb rfl
  | false => exact hf rfl
theorem interp_err {l : List UInt8} {i : Nat} (h : interpL l = .error i) (hl : l.length ≤ 1000000) (w : World) (hE : ErrOk w) : Calls Tryd.prog 11 #[.string (S l)] w fun e w' => e = .returned (.tuple #[.slice none 0 0, .agg #[.int .i64 8, .int .i64 (i : Int)]]) ∧ Below w.heap.size w w' := by
  refine (interp_any l hl w hE).mono ?_
  rintro e w' ⟨hb, hr⟩
  rw [h] at hr
  exact ⟨hr, hb⟩
theorem interp_ok {l : List UInt8} {ps : List Prt} (h : interpL l = .ok ps) (hl : l.length ≤ 1000000) (w : World) (hE : ErrOk w) : Calls Tryd.prog 11 #[.string (S l)] w fun e w' => ∃ v, e = .returned (.tuple #[v, .agg #[.int .i64 0, .int .i64 0]]) ∧ w'.ownsRow w.heap.size 33 3 v ps.length (flatP ps) ∧ Below w.heap.size w w' := by
  refine (interp_any l hl w hE).mono ?_
  rintro e w' ⟨hb, hr⟩
  rw [h] at hr
  obtain ⟨v, he, ho⟩ := hr
  exact ⟨v, he, ho, hb⟩
theorem isOk_ok {α : Type} {x : Except Nat α} {v : α} (h : x = .ok v) : isOk x = true := by rw [h]; rfl
theorem isOk_err {α : Type} {x : Except Nat α} {i : Nat} (h : x = .error i) : isOk x = false := by rw [h]; rfl

set_option maxRecDepth 100000 in
set_option maxHeartbeats 4000000 in
theorem str_any (w0 : World) (B : Nat) (s : List UInt8) (a : Nat) (L : List Tok) (ln : Bool) (v : Value) (W : World) (hS : ScW w0 B s a L ln v W)
    (hL : L.length ≤ 1000000) (ha : a < s.length) (hs : s.length ≤ 100000) :
    Calls Tryd.prog 38 #[.pointer (some ⟨B, 0, none⟩)] W (NxP w0 B s a L ln (tkStr (s.drop a))) := by
  have HS := Lib.hid hS
  obtain ⟨c0, c1, c2, c3⟩ := hS.sc.cells
  have hlt := hS.sc.lt
  clear hS
  have hml := sl_len s a s.length (by omega) (Nat.le_refl _)
  have hle := tkLit_le (sl s a s.length) (by omega)
  have hbig := litL_big ((sl s a s.length).drop 1) 1 false
  rw [show litL ((sl s a s.length).drop 1) 1 false = tkLit (sl s a s.length) from rfl] at hbig
  obtain ⟨⟨n, c⟩, hnc⟩ : ∃ x, tkLit (sl s a s.length) = x := ⟨_, rfl⟩
  rw [hnc] at hle hbig
  simp only at hle hbig
  have HT := Lib.hid (show ∀ w, Calls Tryd.prog 48 #[.string (S (sl s a s.length))] w fun e w' => e = .returned (.tuple #[.int .i64 (n : Int), .bool c]) ∧ w = w' from fun w => by
    have h := tliteral_any (sl s a s.length) (by omega) w
    rw [hnc] at h; exact h)
  have HX := Lib.hid (show tkStr (s.drop a) = if n = 0 then none else if c = true then (if isOk (interpL (sl (s.drop a) 1 (n - 1))) = true then some (4, sl (s.drop a) 1 (n - 1), n) else none) else if (unqL ((s.drop a).take n)).2.1 = 0 then some (3, (unqL ((s.drop a).take n)).1, n) else none by
    rw [← sl_end s a]; unfold tkStr; rw [hnc])
  clear hnc
  have b0 : (0 : Int) ≤ (a : Int) := by omega
  have b1 : (a : Int) ≤ (s.length : Int) := by omega
  have b2 : (a : Int).toNat = a := by omega
  go_enter Tryd.func38, Tryd.ntmps38
  go_upto_region 1 with fail
  go_quiet ((go_at_call 48; refine quiet_left (HT.out _)))
  rcases hbig with rfl | hbig
  · have HN := Lib.hid (show tkStr (s.drop a) = none by rw [HX.out, if_pos rfl])
    go_wp2_with fail
    go_ret
    exact nx_none HN.out (HS.out.drewN _)
  · have e1 : IntKind.i64.wrap ((a : Int) + (n : Int)) = ((a + n : Nat) : Int) := by rw [Int.natCast_add]; exact IntWalk.i64_in _ (by omega)
    obtain ⟨p, hp⟩ : ∃ p, p + 1 = n := ⟨n - 1, by omega⟩
    have e2 : IntKind.i64.wrap ((n : Int) - 1) = (p : Int) := by rw [IntWalk.i64_in _ (by omega)]; omega
    have hz : ((n : Int) == 0) = false := beq_eq_false_iff_ne.2 (by omega)
    have hn0 : ¬ n = 0 := by omega
    have hxl := sl_len s a (a + n) (by omega) (by omega)
    rw [Nat.add_sub_cancel_left] at hxl
    have b3 : (a : Int) ≤ ((a + n : Nat) : Int) := by omega
    have b4 : ((a + n : Nat) : Int) ≤ (s.length : Int) := by omega
    have b5 : (0 : Int) ≤ ((a + n : Nat) : Int) := by omega
    have HS1 := Lib.hid (HS.out.drewN nq)
    obtain ⟨x0, x1, x2, x3⟩ := HS1.out.sc.cells
    go_upto_region 4 with fail
    generalize W.drewN nq = W1 at HS1 x0 x1 x2 x3 ⊢
    clear c0 c1 c2 c3 HS HT hlt
    go_quiet (fail)
    have HS2 := Lib.hid (HS1.out.drewN nq)
    have HM := Lib.hid (sl_mid s a n p hp)
    have HR := Lib.hid (sl_part s a n)
    generalize W1.drewN nq = W2 at HS2 ⊢
    clear HS1 x0 x1 x2 x3
    obtain ⟨X, hX⟩ : ∃ X, sl s a (a + n) = X := ⟨_, rfl⟩
    rw [hX] at HM HR hxl ⊢
    have hyl := sl_le X 1 p
    have b6 : (p : Int) ≤ (X.length : Int) := by omega
    have b7 : (1 : Int) ≤ (p : Int) := by omega
    clear hX
    rcases bool_two c with rfl | rfl
    · cases hI : interpL (sl X 1 p) with
      | error i =>
        have HN := Lib.hid (show tkStr (s.drop a) = none by rw [HX.out, if_neg hn0, if_pos rfl, ← HM.out, isOk_err hI]; rfl)
        have HC := Lib.hid hI
        clear hI
        go_wp2_with (go_at_call 11; refine (interp_err HC.out (by omega) _ HS2.out.oks.er).mono ?_; rintro e w2 ⟨rfl, hb⟩; have HS3 := Lib.hid (HS2.out.step hb); clear hb)
        go_ret
        exact nx_none HN.out (HS3.out.alloc _)
      | ok ps =>
        have HN := Lib.hid (show tkStr (s.drop a) = some (4, sl X 1 p, n) by rw [HX.out, if_neg hn0, if_pos rfl, ← HM.out, isOk_ok hI]; rfl)
        have HC := Lib.hid hI
        clear hI
        go_wp2_with (first | (go_at_call 11; refine (interp_ok HC.out (by omega) _ HS2.out.oks.er).mono ?_; rintro e w2 ⟨v2, rfl, ho, hb⟩; have HS3 := Lib.hid (HS2.out.step hb); clear hb ho) | (go_at_call 26; refine (addW_any w0 B s a L ln v 4 (sl X 1 p) n _ (HS3.out.alloc _) hL (by omega) (by decide) (fun h => absurd h (by decide))).mono ?_; rintro e w3 ⟨rfl, v3, h3⟩; have HS4 := Lib.hid h3; clear h3))
        go_ret
        exact nx_some HN.out HS4.out
    · obtain ⟨⟨t, e1, f1⟩, hu⟩ : ∃ x, unqL X = x := ⟨_, rfl⟩
      have HU := Lib.hid (show uqVal (unqL X) = .tuple #[.string (S t), .agg #[.int .i64 (e1 : Int), .int .i64 (f1 : Int)]] by rw [hu]; rfl)
      by_cases he : e1 = 0
      · subst he
        have HN := Lib.hid (show tkStr (s.drop a) = some (3, t, n) by rw [HX.out, if_neg hn0, if_neg (by decide), ← HR.out, hu]; rfl)
        clear hu
        go_wp2_with (first | (go_at_call 29; refine (Unquote_any X (by omega) _ HS2.out.oks.er).mono ?_; rintro e w2 ⟨rfl, hb⟩; rw [HU.out]; have HS3 := Lib.hid (HS2.out.step hb); clear hb) | (go_at_call 26; refine (addW_any w0 B s a L ln v 3 t n _ (HS3.out.alloc _) hL (by omega) (by decide) (fun h => absurd h (by decide))).mono ?_; rintro e w3 ⟨rfl, v3, h3⟩; have HS4 := Lib.hid h3; clear h3))
        go_ret
        exact nx_some HN.out HS4.out
      · have hez : ((e1 : Int) != 0) = true := by simp; omega
        have HN := Lib.hid (show tkStr (s.drop a) = none by rw [HX.out, if_neg hn0, if_neg (by decide), ← HR.out, hu, if_neg he])
        clear hu
        go_wp2_with (go_at_call 29; refine (Unquote_any X (by omega) _ HS2.out.oks.er).mono ?_; rintro e w2 ⟨rfl, hb⟩; rw [HU.out]; have HS3 := Lib.hid (HS2.out.step hb); clear hb)
        go_ret
        exact nx_none HN.out (HS3.out.alloc _)
end Go.Proofs.YtadbilonialjnaaDoor
