/- Walks of the specification of tokens: text, next. -/
import Derived.RegionTactic
import Derived.ChangeAlike
import Derived.Test.YtadbilonialjnaaGreatDoorTkY
import Derived.Test.YtadbilonialjnaaGreatDoorTkO
import Derived.Test.YtadbilonialjnaaGreatDoorRParse
import Derived.Test.YtadbilonialjnaaGreatDoorTkI
namespace Go.Proofs.YtadbilonialjnaaGreatDoor
open Go.RowKit

/-- a token and whether it is permitted -/
def tokV (k : Nat) (x : List UInt8) (p e : Nat) (ok : Bool) : Value := .tuple #[.agg #[.int .i64 (k : Int), .string (S x), .int .i64 (p : Int), .int .i64 (e : Int)], .bool ok]
theorem ret_tok {k : Nat} {x : List UInt8} {p e : Nat} {ok : Bool} {e2 : Int} {ok2 : Bool} (h : e2 = (e : Int)) (ho : ok2 = ok) : Ending.returned (.tuple #[.agg #[.int .i64 (k : Int), .string (S x), .int .i64 (p : Int), .int .i64 e2], .bool ok2]) = .returned (tokV k x p e ok) := by rw [h, ho]; rfl
theorem interpR_ok {l : List UInt8} {L : List Prt} {a b : Nat} (h : interpR l = (L, a, b)) : isOk (interpL l) = (a == 0) := by
  unfold interpR at h
  cases hi : interpL l with
  | error i => rw [hi] at h; injection h with h1 h2; injection h2 with h2 h3; subst h2; rfl
  | ok ps => rw [hi] at h; injection h with h1 h2; injection h2 with h2 h3; subst h2; rfl
theorem tok_blk {w w1 : World} {cs : Array Value} {t : TypeId} (hb : Below (w.alloc (.cells cs t)).heap.size (w.alloc (.cells cs t)) w1) (cs2 : Array Value) (t2 : TypeId) :
    Blk (w1.alloc (.cells cs2 t2)) w.heap.size cs t ∧ Blk (w1.alloc (.cells cs2 t2)) w1.heap.size cs2 t2 ∧ Below w.heap.size w (w1.alloc (.cells cs2 t2)) := by
  obtain ⟨h1, h2⟩ := below_new hb
  exact ⟨h1.alloc _, Blk.new w1 cs2 t2, h2.alloc h2.size _⟩
theorem zero_is {n : Nat} : ((n : Int) == 0) = (n == 0) := by
  cases n with
  | zero => rfl
  | succ n => rw [beq_eq_false_iff_ne.2 (show ((n + 1 : Nat) : Int) ≠ 0 by omega)]; rfl
set_option maxRecDepth 100000 in
set_option maxHeartbeats 2000000 in
theorem rtext_code (s : List UInt8) (hl : s.length ≤ 60000) (a z : Nat) (haz : a + 1 ≤ z) (hz : z < s.length) (w : World) : Calls Tryz.prog 27 #[.string (S s), .int .i64 (a : Int), .int .i64 (z : Int), .bool true] w fun e w' =>
    e = .returned (tokV 4 (sl s (a + 1) z) a (z + 1) (isOk (interpL (sl s (a + 1) z)))) ∧ Below w.heap.size w w' := by
  have hsl := sl_len s (a + 1) z haz (by omega)
  obtain ⟨⟨L, fa, fb⟩, hI⟩ : ∃ r, interpR (sl s (a + 1) z) = r := ⟨_, rfl⟩
  have HR := Lib.hid (refInterp_all hI (by omega))
  have HK := Lib.hid ((interpR_ok hI).trans zero_is.symm)
  clear hI
  have b0 : (0 : Int) ≤ (a : Int) + 1 := by omega
  have b1 : (a : Int) + 1 ≤ (z : Int) := by omega
  have b2 : (z : Int) ≤ (s.length : Int) := by omega
  have e1 : ((a : Int) + 1).toNat = a + 1 := by omega
  have w1 : IntKind.i64.wrap ((a : Int) + 1) = (a : Int) + 1 := IntWalk.i64_in _ (by omega)
  have w2 : IntKind.i64.wrap ((z : Int) + 1) = (z : Int) + 1 := IntWalk.i64_in _ (by omega)
  go_enter Tryz.func27, Tryz.ntmps27
  go_wp2_with fail
  refine (HR.out _).mono ?_
  rintro e v1 ⟨vp, vc, rfl, -, hb1⟩
  obtain ⟨q1, q2, q3⟩ := tok_blk hb1 #[.int .i64 (fa : Int), .int .i64 (fb : Int)] 26
  have HB := Lib.hid q3
  clear hb1 q3
  go_upto_region 3 with fail
  obtain ⟨F, hF⟩ : ∃ F, F = v1.heap.size := ⟨_, rfl⟩
  rw [← hF] at q2 ⊢
  generalize v1.alloc (.cells #[.int .i64 (fa : Int), .int .i64 (fb : Int)] 26) = W2 at *
  have f0 := q2.cell 0
  have hF2 := q2.lt
  have t0 := q1.cell 0
  have t1 := q1.cell 1
  have t2 := q1.cell 2
  have t3 := q1.cell 3
  have u0 := q1.frozen 0
  have u1 := q1.frozen 1
  have u2 := q1.frozen 2
  have u3 := q1.frozen 3
  have hN := q1.lt
  have hne : ¬ w.heap.size = F := by intro e; rw [← e] at q2; unfold Blk at q1 q2; rw [q1] at q2; simp at q2
  clear q1 q2 hF
  go_region
  all_goals
    go_wp2_with fail
    exact bodyPost_ret (v := .tuple #[.agg #[.int .i64 4, .string (S (sl s (a + 1) z)), .int .i64 (a : Int), .int .i64 ((z : Int) + 1)], .bool ((fa : Int) == 0)]) (by simp [results, Tryz.results27, go_sem, t0, t1, t2, t3]) rfl ⟨ret_tok (by omega) HK.out.symm, by have h := HB.out; go_grown⟩
set_option maxRecDepth 100000 in
set_option maxHeartbeats 2000000 in
theorem rtext_str (s : List UInt8) (hl : s.length ≤ 60000) (a z : Nat) (haz : a + 1 ≤ z) (hz : z < s.length) (w : World) : Calls Tryz.prog 27 #[.string (S s), .int .i64 (a : Int), .int .i64 (z : Int), .bool false] w fun e w' =>
    e = .returned (tokV 3 (unqL (sl s a (z + 1))).1 a (z + 1) ((unqL (sl s a (z + 1))).2.1 == 0)) ∧ Below w.heap.size w w' := by
  have hsl := sl_len s a (z + 1) (by omega) (by omega)
  have HR := Lib.hid (refUnquote_any (sl s a (z + 1)) (by omega))
  obtain ⟨⟨x, fa, fb⟩, hI⟩ : ∃ r, unqL (sl s a (z + 1)) = r := ⟨_, rfl⟩
  rw [hI] at HR ⊢
  unfold uqVal at HR
  simp only
  have HK := Lib.hid (zero_is (n := fa))
  clear hI
  have b0 : (0 : Int) ≤ (a : Int) := by omega
  have b1 : (a : Int) ≤ (z : Int) + 1 := by omega
  have b2 : (z : Int) + 1 ≤ (s.length : Int) := by omega
  have e1 : ((z : Int) + 1).toNat = z + 1 := by omega
  have w2 : IntKind.i64.wrap ((z : Int) + 1) = (z : Int) + 1 := IntWalk.i64_in _ (by omega)
  go_enter Tryz.func27, Tryz.ntmps27
  go_wp2_with fail
  refine (HR.out _).mono ?_
  rintro e v1 ⟨rfl, hb1⟩
  obtain ⟨q1, q2, q3⟩ := tok_blk hb1 #[.int .i64 (fa : Int), .int .i64 (fb : Int)] 26
  have HB := Lib.hid q3
  clear hb1 q3
  go_upto_region 5 with fail
  obtain ⟨F, hF⟩ : ∃ F, F = v1.heap.size := ⟨_, rfl⟩
  rw [← hF] at q2 ⊢
  generalize v1.alloc (.cells #[.int .i64 (fa : Int), .int .i64 (fb : Int)] 26) = W2 at *
  have f0 := q2.cell 0
  have hF2 := q2.lt
  have t0 := q1.cell 0
  have t1 := q1.cell 1
  have t2 := q1.cell 2
  have t3 := q1.cell 3
  have u0 := q1.frozen 0
  have u1 := q1.frozen 1
  have u2 := q1.frozen 2
  have u3 := q1.frozen 3
  have hN := q1.lt
  have hne : ¬ w.heap.size = F := by intro e; rw [← e] at q2; unfold Blk at q1 q2; rw [q1] at q2; simp at q2
  clear q1 q2 hF
  go_region
  all_goals
    go_wp2_with fail
    exact bodyPost_ret (v := .tuple #[.agg #[.int .i64 3, .string (S x), .int .i64 (a : Int), .int .i64 ((z : Int) + 1)], .bool ((fa : Int) == 0)]) (by simp [results, Tryz.results27, go_sem, t0, t1, t2, t3]) rfl ⟨ret_tok (by omega) HK.out, by have h := HB.out; go_grown⟩

theorem rNext_at {nb : List UInt8 → Bool} {s : List UInt8} {a : Nat} (ha : a < s.length) : rNext nb (s.drop a) =
    if byt s a = 34 then tkStr (s.drop a)
    else if List.isPrefixOf [47, 47] (s.drop a) = true then some (6, ((s.drop a).take (runN (· != 10) (s.drop a))).drop 2, runN (· != 10) (s.drop a))
    else if 0 < rNum (s.drop a) then (if nb ((s.drop a).take (rNum (s.drop a))) = true then some (2, (s.drop a).take (rNum (s.drop a)), rNum (s.drop a)) else none)
    else if 0 < tkWord (s.drop a) ∧ (tkOp (s.drop a)).length ≤ tkWord (s.drop a) then some (1, (s.drop a).take (tkWord (s.drop a)), tkWord (s.drop a))
    else if tkOp (s.drop a) = [] then none else some (5, tkOp (s.drop a), (tkOp (s.drop a)).length) := by
  have h := drop_byt s a ha
  generalize s.drop a = m at *
  generalize byt s a = c at *
  subst h
  rfl
theorem tkNext_at {nb : List UInt8 → Bool} {s : List UInt8} {a : Nat} (ha : a < s.length) : tkNext nb (s.drop a) = rNext nb (s.drop a) := by
  rw [drop_byt s a ha, rNext_eq]
/-- what the specification's next answers -/
def RNx (s : List UInt8) (a : Nat) (w : World) (e : Ending) (w' : World) : Prop :=
  (match tkNext nbOk (s.drop a) with
   | some (k, x, n) => e = .returned (tokV k x a (a + n) true)
   | none => ∃ (k : Nat) (x : List UInt8) (p q : Nat), e = .returned (tokV k x p q false)) ∧ Below w.heap.size w w'
theorem rn_some {s : List UInt8} {a : Nat} {w w' : World} {k n : Nat} {x : List UInt8} (ha : a < s.length) (h : rNext nbOk (s.drop a) = some (k, x, n)) (hb : Below w.heap.size w w') : RNx s a w (.returned (tokV k x a (a + n) true)) w' := by
  refine ⟨?_, hb⟩
  rw [tkNext_at ha, h]
theorem rn_none {s : List UInt8} {a : Nat} {w w' : World} (ha : a < s.length) (h : rNext nbOk (s.drop a) = none) (k : Nat) (x : List UInt8) (p q : Nat) (hb : Below w.heap.size w w') : RNx s a w (.returned (tokV k x p q false)) w' := by
  refine ⟨?_, hb⟩
  rw [tkNext_at ha, h]
  exact ⟨k, x, p, q, rfl⟩
theorem rn_if {s : List UInt8} {a : Nat} {w w' : World} {k n : Nat} {x : List UInt8} {ok : Bool} (ha : a < s.length) (h : rNext nbOk (s.drop a) = if ok = true then some (k, x, n) else none) (hb : Below w.heap.size w w') : RNx s a w (.returned (tokV k x a (a + n) ok)) w' := by
  cases ok with
  | true => exact rn_some ha h hb
  | false => exact rn_none ha h _ _ _ _ hb
theorem sl_mid2 (s : List UInt8) (a n z : Nat) (h : z + 1 = a + n) : sl s (a + 1) z = sl (s.drop a) 1 (n - 1) := by
  unfold sl; rw [List.drop_drop, show z - (a + 1) = n - 1 - 1 by omega]
theorem sl_take2 (s : List UInt8) (a n z : Nat) (h : z + 1 = a + n) : sl s a (z + 1) = (s.drop a).take n := by
  unfold sl; rw [h, Nat.add_sub_cancel_left]
theorem sl_com (s : List UInt8) (a n : Nat) : ((s.drop a).take n).drop 2 = sl s (a + 2) (a + n) := by
  unfold sl; rw [List.drop_take, List.drop_drop, show a + n - (a + 2) = n - 2 by omega]
theorem sl_tk (s : List UInt8) (a n : Nat) : (s.drop a).take n = sl s a (a + n) := by unfold sl; rw [Nat.add_sub_cancel_left]
theorem ret_tokR {s : List UInt8} {a : Nat} {w w' : World} {k : Nat} {x : List UInt8} {p q : Nat} {ok : Bool} {q2 : Int} (h : q2 = (q : Int)) (hr : RNx s a w (.returned (tokV k x p q ok)) w') : RNx s a w (.returned (.tuple #[.agg #[.int .i64 (k : Int), .string (S x), .int .i64 (p : Int), .int .i64 q2], .bool ok])) w' := by
  subst h; exact hr
/-- the token block behind a call -/
theorem tok_blk1 {w w1 : World} {cs : Array Value} {t : TypeId} (hb : Below (w.alloc (.cells cs t)).heap.size (w.alloc (.cells cs t)) w1) : Blk w1 w.heap.size cs t ∧ Below w.heap.size w w1 := below_new hb
set_option maxRecDepth 100000 in
set_option maxHeartbeats 4000000 in
theorem rnext_any (s : List UInt8) (hl : s.length ≤ 60000) (a : Nat) (ha : a < s.length) (w : World) : Calls Tryz.prog 12 #[.string (S s), .int .i64 (a : Int)] w (RNx s a w) := by
  have hN := rNext_at (nb := nbOk) ha
  have b0 : (0 : Int) ≤ (a : Int) := by omega
  have b1 : (a : Int) < (s.length : Int) := by omega
  have HB0 := Lib.hid (show Below w.heap.size w (w.alloc (.cells #[.int .i64 0, .string ⟨#[]⟩, .int .i64 0, .int .i64 0] 32)) from (Below.refl _ _).alloc (Nat.le_refl _) _)
  by_cases h34 : byt s a = 34
  · rw [if_pos h34] at hN
    have T : (((byt s a).toNat : Int) == 34) = true := byte_test (d := 34) h34
    have hlit := lit_at s a
    have hle := tkLit_le (s.drop a) (by rw [List.length_drop]; omega)
    rw [List.length_drop] at hle
    have hin := litL_in ((s.drop a).drop 1) 1 false
    rw [show litL ((s.drop a).drop 1) 1 false = tkLit (s.drop a) from rfl] at hin
    unfold tkStr at hN
    obtain ⟨⟨n, c⟩, hr⟩ : ∃ r, tkLit (s.drop a) = r := ⟨_, rfl⟩
    rw [hr] at hN hlit hle hin
    simp only at hN hlit hle hin
    have HS := Lib.hid (rstr_any s (by omega) a ha)
    rw [hlit] at HS
    clear hlit hr h34
    by_cases hn : n = 0
    · subst hn
      rw [if_pos rfl] at hN HS
      have HN := Lib.hid hN
      clear hN
      go_enter Tryz.func12, Tryz.ntmps12
      go_wp2_with fail
      refine (HS.out _).mono ?_
      rintro e w1 ⟨rfl, rfl⟩
      rw [show strW (0, false) = .tuple #[.int .i64 (-1), .bool false] from rfl]
      go_wp2_with fail
      exact bodyPost_ret (v := .tuple #[.agg #[.int .i64 0, .string ⟨#[]⟩, .int .i64 0, .int .i64 0], .bool false]) (by simp [results, Tryz.results12, go_sem]) rfl (rn_none ha HN.out 0 [] 0 0 (by have h := HB0.out; go_grown))
    · rw [if_neg hn] at hN HS
      have hz2 : 2 ≤ n := by omega
      obtain ⟨z, hz⟩ : ∃ z, z + 1 = a + n := ⟨a + n - 1, by omega⟩
      have HW := Lib.hid (show strW (n + a, c) = .tuple #[.int .i64 (z : Int), .bool c] by unfold strW; rw [if_neg (by show ¬ n + a = 0; omega)]; simp only; congr 3; congr 1; omega)
      rw [← sl_mid2 s a n z hz, ← sl_take2 s a n z hz] at hN
      have hnz : ¬ (z : Int) < 0 := by omega
      have hz3 : a + 1 ≤ z := by omega
      have hz4 : z < s.length := by omega
      have HZ := Lib.hid hz
      clear hz
      cases c with
      | true =>
        rw [if_pos rfl] at hN
        have HN := Lib.hid hN
        have HT := Lib.hid (rtext_code s hl a z hz3 hz4)
        clear hN
        obtain ⟨ok, hok⟩ : ∃ ok, isOk (interpL (sl s (a + 1) z)) = ok := ⟨_, rfl⟩
        rw [hok] at HT HN
        clear hok
        go_enter Tryz.func12, Tryz.ntmps12
        go_wp2_with fail
        refine (HS.out _).mono ?_
        rintro e w1 ⟨rfl, rfl⟩
        rw [HW.out]
        go_wp2_with fail
        refine (HT.out _).mono ?_
        rintro e w2 ⟨rfl, hb2⟩
        obtain ⟨q1, q2⟩ := tok_blk1 hb2
        have HB := Lib.hid q2
        have hlt2 := q1.lt
        have t0 := q1.cell 0
        have t1 := q1.cell 1
        have t2 := q1.cell 2
        have t3 := q1.cell 3
        have u0 := q1.frozen 0
        have u1 := q1.frozen 1
        have u2 := q1.frozen 2
        have u3 := q1.frozen 3
        clear q1 q2 hb2
        unfold tokV
        go_wp2_with fail
        exact bodyPost_ret (v := tokV 4 (sl s (a + 1) z) a (z + 1) ok) (by simp [tokV, results, Tryz.results12, go_sem, t0, t1, t2, t3]) rfl (by rw [HZ.out]; exact rn_if ha HN.out (by have h := HB.out; go_grown))
      | false =>
        rw [if_neg (by decide)] at hN
        have HT := Lib.hid (rtext_str s hl a z hz3 hz4)
        obtain ⟨⟨x, fa, fb⟩, hx⟩ : ∃ r, unqL (sl s a (z + 1)) = r := ⟨_, rfl⟩
        rw [hx] at hN HT
        simp only at hN HT
        have HN := Lib.hid (show rNext nbOk (s.drop a) = if (fa == 0) = true then some (3, x, n) else none by rw [hN]; by_cases h0 : fa = 0 <;> simp [h0])
        clear hN hx
        obtain ⟨ok, hok⟩ : ∃ ok, (fa == 0) = ok := ⟨_, rfl⟩
        rw [hok] at HT HN
        clear hok
        go_enter Tryz.func12, Tryz.ntmps12
        go_wp2_with fail
        refine (HS.out _).mono ?_
        rintro e w1 ⟨rfl, rfl⟩
        rw [HW.out]
        go_wp2_with fail
        refine (HT.out _).mono ?_
        rintro e w2 ⟨rfl, hb2⟩
        obtain ⟨q1, q2⟩ := tok_blk1 hb2
        have HB := Lib.hid q2
        have hlt2 := q1.lt
        have t0 := q1.cell 0
        have t1 := q1.cell 1
        have t2 := q1.cell 2
        have t3 := q1.cell 3
        have u0 := q1.frozen 0
        have u1 := q1.frozen 1
        have u2 := q1.frozen 2
        have u3 := q1.frozen 3
        clear q1 q2 hb2
        unfold tokV
        go_wp2_with fail
        exact bodyPost_ret (v := tokV 3 x a (z + 1) ok) (by simp [tokV, results, Tryz.results12, go_sem, t0, t1, t2, t3]) rfl (by rw [HZ.out]; exact rn_if ha HN.out (by have h := HB.out; go_grown))
  · rw [if_neg h34] at hN
    have T : (((byt s a).toNat : Int) == 34) = false := u8_ne (d := 34) h34
    have w2 : IntKind.i64.wrap ((s.length : Int) - (a : Int)) = (s.length : Int) - (a : Int) := IntWalk.i64_in _ (by omega)
    have hpre := pre_at s [47, 47] a (by omega)
    rw [show ([47, 47] : List UInt8).length = 2 from rfl] at hpre
    clear h34
    by_cases hp : List.isPrefixOf [47, 47] (s.drop a) = true
    · rw [if_pos hp] at hN
      have hrun := run_two _ hp
      have hrl := runN_le (· != 10) (s.drop a)
      rw [List.length_drop] at hrl
      obtain ⟨p1, p2⟩ := hpre.1 hp
      obtain ⟨n, hn⟩ : ∃ n, runN (· != 10) (s.drop a) = n := ⟨_, rfl⟩
      rw [hn] at hN hrun hrl
      rw [sl_com] at hN
      have HN := Lib.hid hN
      have HR0 := Lib.hid hn
      have t1 : decide ((2 : Int) ≤ (s.length : Int) - (a : Int)) = true := decide_eq_true (by omega)
      have t2 : (sl s a (a + 2) == [47, 47]) = true := by rw [p2]; rfl
      have c1 : (a : Int) ≤ (a : Int) + 2 := by omega
      have c2 : (a : Int) + 2 ≤ (s.length : Int) := by omega
      have c3 : ((a : Int) + 2).toNat = a + 2 := by omega
      clear hN hn hp hpre p1 p2
      go_enter Tryz.func12, Tryz.ntmps12
      go_wp2_with fail
      clear t1 t2 T
      go_loop [8] (fun v => ∃ k : Nat, a ≤ k ∧ k ≤ s.length ∧ v = .int .i64 (k : Int) ∧ Hid (a + n = k + runN (· != 10) (s.drop k))) (fun v => s.length - (intOf v).toNat)
      case atStart => exact ⟨a, by omega, by omega, rfl, Lib.hid (by rw [HR0.out])⟩
      case round =>
        clear HR0
        obtain ⟨k, hak, hk, rfl, HR⟩ := hrel
        by_cases hlt : k < s.length
        · have k0 : (0 : Int) ≤ (k : Int) := by omega
          have k1 : (k : Int) < (s.length : Int) := by omega
          by_cases h10 : byt s k = 10
          · have T : (((byt s k).toNat : Int) != 10) = false := by rw [h10]; rfl
            have HK := Lib.hid (show k = a + n by have h := HR.out; rw [runN_no hlt (by rw [h10]; rfl)] at h; omega)
            have d1 : (a : Int) + 2 ≤ (k : Int) := by have := HK.out; omega
            have d2 : (k : Int) ≤ (s.length : Int) := by omega
            clear h10
            go_wp2_with fail
            exact bodyPost_ret (v := .tuple #[.agg #[.int .i64 6, .string (S (sl s (a + 2) k)), .int .i64 (a : Int), .int .i64 (k : Int)], .bool true]) (by simp [results, Tryz.results12, go_sem]) rfl (ret_tokR (k := 6) (q := a + n) (by rw [HK.out]) (by rw [HK.out]; exact rn_some ha HN.out (by have h := HB0.out; go_grown)))
          · have T : (((byt s k).toNat : Int) != 10) = true := by
              rw [bne_iff_ne]; intro e; exact h10 (UInt8.toNat_inj.1 (by rw [show (10 : UInt8).toNat = 10 from rfl]; omega))
            have HQ := Lib.hid (show a + n = k + 1 + runN (· != 10) (s.drop (k + 1)) by have h := HR.out; rw [runN_yes hlt (by simpa using h10)] at h; omega)
            clear h10
            go_wp2_with fail
            go_round
            case rel => exact ⟨k + 1, by omega, by omega, by go_num, HQ⟩
            case measure => simp [intOf]; omega
        · have HK := Lib.hid (show k = a + n by have h := HR.out; rw [runN_end (by omega)] at h; omega)
          have d1 : (a : Int) + 2 ≤ (k : Int) := by have := HK.out; omega
          have d2 : (k : Int) ≤ (s.length : Int) := by omega
          go_wp2_with fail
          exact bodyPost_ret (v := .tuple #[.agg #[.int .i64 6, .string (S (sl s (a + 2) k)), .int .i64 (a : Int), .int .i64 (k : Int)], .bool true]) (by simp [results, Tryz.results12, go_sem]) rfl (ret_tokR (k := 6) (q := a + n) (by rw [HK.out]) (by rw [HK.out]; exact rn_some ha HN.out (by have h := HB0.out; go_grown)))
    · rw [if_neg hp] at hN
      have hways : decide ((2 : Int) ≤ (s.length : Int) - (a : Int)) = false ∨ (decide ((2 : Int) ≤ (s.length : Int) - (a : Int)) = true ∧ (a : Int) + 2 ≤ (s.length : Int) ∧ (sl s a (a + 2) == [47, 47]) = false) := by
        by_cases h2 : 2 ≤ s.length - a
        · refine .inr ⟨decide_eq_true (by omega), by omega, ?_⟩
          rw [beq_eq_false_iff_ne]; intro e; exact hp (hpre.2 ⟨h2, e⟩)
        · exact .inl (decide_eq_false (by omega))
      have c1 : (a : Int) ≤ (a : Int) + 2 := by omega
      have c3 : ((a : Int) + 2).toNat = a + 2 := by omega
      have HNu := Lib.hid (rnumber_any s (by omega) a (by omega))
      have hnl : rNum (s.drop a) ≤ s.length - a := by
        have := tkNum_le (s.drop a)
        rw [List.length_drop] at this
        unfold rNum; split <;> omega
      obtain ⟨n, hn⟩ : ∃ n, rNum (s.drop a) = n := ⟨_, rfl⟩
      rw [hn] at hN HNu hnl
      clear hn hp hpre
      by_cases h0 : 0 < n
      · rw [if_pos h0, sl_tk] at hN
        have d0 : (a : Int) < ((a + n : Nat) : Int) := by omega
        have d1 : (a : Int) ≤ ((a + n : Nat) : Int) := by omega
        have d2 : ((a + n : Nat) : Int) ≤ (s.length : Int) := by omega
        have hsl := sl_len s a (a + n) (by omega) (by omega)
        have HP := Lib.hid (fun w => refParse_any (sl s a (a + n)) w (by omega))
        have HN := Lib.hid hN
        have HO := Lib.hid (show nbOk (sl s a (a + n)) = ((parseI (sl s a (a + n))).2 == 0) from rfl)
        clear hN h0
        generalize parseI (sl s a (a + n)) = pq at *
        obtain ⟨pa, pb⟩ := pq
        simp only at HO
        rw [HO.out] at HN
        clear HO
        rcases hways with m1 | ⟨m1, m2, m3⟩
        all_goals
          go_enter Tryz.func12, Tryz.ntmps12
          go_wp2_with fail
          refine (HNu.out _).mono ?_
          rintro e w1 ⟨rfl, rfl⟩
          go_wp2_with fail
          refine (HP.out _).mono ?_
          rintro e w2 ⟨rfl, hb2⟩
          obtain ⟨q1, q2⟩ := tok_blk1 hb2
          have HB := Lib.hid q2
          have hlt2 := q1.lt
          have t0 := q1.cell 0
          have t1 := q1.cell 1
          have t2 := q1.cell 2
          have t3 := q1.cell 3
          have u0 := q1.frozen 0
          have u1 := q1.frozen 1
          have u2 := q1.frozen 2
          have u3 := q1.frozen 3
          clear q1 q2 hb2
          unfold pr
          go_wp2_with fail
          exact bodyPost_ret (v := .tuple #[.agg #[.int .i64 2, .string (S (sl s a (a + n))), .int .i64 (a : Int), .int .i64 ((a + n : Nat) : Int)], .bool (pb == 0)]) (by simp [results, Tryz.results12, go_sem, t0, t1, t2, t3]) rfl (ret_tokR (k := 2) (q := a + n) rfl (rn_if ha HN.out (by have h := HB.out; go_grown)))
      · have hn0 : n = 0 := by omega
        subst hn0
        rw [if_neg h0] at hN
        have HOp := Lib.hid (roperator_any s (by omega) a (by omega))
        have HId := Lib.hid (rident_any s (by omega) a ha)
        have hwl := tkWord_le (s.drop a)
        rw [List.length_drop] at hwl
        have hwo := word_op (s.drop a)
        have hol : (tkOp (s.drop a)).length ≤ 3 := by
          by_cases h : tkOp (s.drop a) = []
          · rw [h]; simp
          · exact ops_len _ (tkOp_mem _ h)
        obtain ⟨o, ho⟩ : ∃ o, tkOp (s.drop a) = o := ⟨_, rfl⟩
        obtain ⟨m, hm⟩ : ∃ m, tkWord (s.drop a) = m := ⟨_, rfl⟩
        rw [ho] at hN HOp hwo hol
        rw [hm] at hN HId hwl hwo
        rw [Nat.add_zero] at HNu
        clear ho hm h0
        by_cases hm0 : 0 < m
        · have hwo2 := hwo hm0
          rw [if_pos ⟨hm0, hwo2⟩, sl_tk] at hN
          have HN := Lib.hid hN
          have d0 : (a : Int) < ((a + m : Nat) : Int) := by omega
          have d1 : (a : Int) ≤ ((a + m : Nat) : Int) := by omega
          have d2 : ((a + m : Nat) : Int) ≤ (s.length : Int) := by omega
          have d3 : decide ((o.length : Int) ≤ ((a + m : Nat) : Int) - (a : Int)) = true := decide_eq_true (by omega)
          have d4 : IntKind.i64.wrap (((a + m : Nat) : Int) - (a : Int)) = ((a + m : Nat) : Int) - (a : Int) := IntWalk.i64_in _ (by omega)
          clear hN hwo d3 d4
          rcases hways with m1 | ⟨m1, m2, m3⟩
          all_goals
            go_enter Tryz.func12, Tryz.ntmps12
            go_wp2_with fail
            refine (HNu.out _).mono ?_
            rintro e w1 ⟨rfl, rfl⟩
            go_wp2_with fail
            refine (HOp.out _).mono ?_
            rintro e w2 ⟨rfl, hb2⟩
            obtain ⟨q1, q2⟩ := tok_blk1 hb2
            have HB := Lib.hid q2
            have hlt2 := q1.lt
            have t0 := q1.cell 0
            have t1 := q1.cell 1
            have t2 := q1.cell 2
            have t3 := q1.cell 3
            have u0 := q1.frozen 0
            have u1 := q1.frozen 1
            have u2 := q1.frozen 2
            have u3 := q1.frozen 3
            clear q1 q2 hb2
            go_wp2_with fail
            refine (HId.out _).mono ?_
            rintro e w3 ⟨rfl, rfl⟩
            go_wp2_with fail
            exact bodyPost_ret (v := .tuple #[.agg #[.int .i64 1, .string (S (sl s a (a + m))), .int .i64 (a : Int), .int .i64 ((a + m : Nat) : Int)], .bool true]) (by simp [results, Tryz.results12, go_sem, t0, t1, t2, t3]) rfl (ret_tokR (k := 1) (q := a + m) rfl (rn_some ha HN.out (by have h := HB.out; go_grown)))
        · have hm00 : m = 0 := by omega
          subst hm00
          rw [if_neg (fun h => hm0 h.1)] at hN
          rw [Nat.add_zero] at HId
          have HN := Lib.hid (show rNext nbOk (s.drop a) = if (!(o == [])) = true then some (5, o, o.length) else none by rw [hN]; by_cases h : o = [] <;> simp [h])
          have HE := Lib.hid (show o.isEmpty = (o == []) by cases o <;> rfl)
          have d4 : IntKind.i64.wrap ((a : Int) + (o.length : Int)) = (a : Int) + (o.length : Int) := IntWalk.i64_in _ (by omega)
          clear hN hwo hm0
          by_cases he : o = []
          · have HN2 := Lib.hid (show rNext nbOk (s.drop a) = none by rw [HN.out, he]; rfl)
            subst he
            clear HN HE
            rcases hways with m1 | ⟨m1, m2, m3⟩
            all_goals
              go_enter Tryz.func12, Tryz.ntmps12
              go_wp2_with fail
              refine (HNu.out _).mono ?_
              rintro e w1 ⟨rfl, rfl⟩
              go_wp2_with fail
              refine (HOp.out _).mono ?_
              rintro e w2 ⟨rfl, hb2⟩
              obtain ⟨q1, q2⟩ := tok_blk1 hb2
              have HB := Lib.hid q2
              have hlt2 := q1.lt
              have t0 := q1.cell 0
              have t1 := q1.cell 1
              have t2 := q1.cell 2
              have t3 := q1.cell 3
              have u0 := q1.frozen 0
              have u1 := q1.frozen 1
              have u2 := q1.frozen 2
              have u3 := q1.frozen 3
              clear q1 q2 hb2
              go_wp2_with fail
              refine (HId.out _).mono ?_
              rintro e w3 ⟨rfl, rfl⟩
              go_wp2_with fail
              exact bodyPost_ret (v := .tuple #[.agg #[.int .i64 5, .string (S []), .int .i64 (a : Int), .int .i64 (a : Int)], .bool false]) (by simp [results, Tryz.results12, go_sem, t0, t1, t2, t3]) rfl (ret_tokR (k := 5) (q := a) rfl (rn_none ha HN2.out 5 [] a a (by have h := HB.out; go_grown)))
          · have HN2 := Lib.hid (show rNext nbOk (s.drop a) = some (5, o, o.length) by rw [HN.out, if_pos (by simpa using he)])
            have d5 : (!o.isEmpty) = true := by simpa using he
            have d6 : (o == []) = false := by rw [beq_eq_false_iff_ne]; exact he
            clear HN HE he
            rcases hways with m1 | ⟨m1, m2, m3⟩
            all_goals
              go_enter Tryz.func12, Tryz.ntmps12
              go_wp2_with fail
              refine (HNu.out _).mono ?_
              rintro e w1 ⟨rfl, rfl⟩
              go_wp2_with fail
              refine (HOp.out _).mono ?_
              rintro e w2 ⟨rfl, hb2⟩
              obtain ⟨q1, q2⟩ := tok_blk1 hb2
              have HB := Lib.hid q2
              have hlt2 := q1.lt
              have t0 := q1.cell 0
              have t1 := q1.cell 1
              have t2 := q1.cell 2
              have t3 := q1.cell 3
              have u0 := q1.frozen 0
              have u1 := q1.frozen 1
              have u2 := q1.frozen 2
              have u3 := q1.frozen 3
              clear q1 q2 hb2
              go_wp2_with fail
              refine (HId.out _).mono ?_
              rintro e w3 ⟨rfl, rfl⟩
              go_wp2_with fail
              exact bodyPost_ret (v := .tuple #[.agg #[.int .i64 5, .string (S o), .int .i64 (a : Int), .int .i64 ((a : Int) + (o.length : Int))], .bool true]) (by simp [results, Tryz.results12, go_sem, t0, t1, t2, t3]) rfl (ret_tokR (k := 5) (q := a + o.length) (by omega) (rn_some ha HN2.out (by have h := HB.out; go_grown)))
end Go.Proofs.YtadbilonialjnaaGreatDoor
