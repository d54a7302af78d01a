/- Numbers as texts: plain. -/
import Derived.Lib.ItoaNum
import Derived.Lib.ParseIntB
import Derived.Test.YtadbilonialjnaaGreatDoorNum
import Derived.Test.YtadbilonialjnaaGreatDoorStr
namespace Go.Proofs.YtadbilonialjnaaGreatDoor
open Go

def dgt (c : UInt8) : Prop := 48 ≤ c.toNat ∧ c.toNat ≤ 57
instance (c : UInt8) : Decidable (dgt c) := by unfold dgt; infer_instance
def dch (d : Nat) : UInt8 := UInt8.ofNat (48 + d)
def valA (a : Nat) (l : List UInt8) : Nat := l.foldl (fun a c => a * 10 + (c.toNat - 48)) a
def valD (l : List UInt8) : Nat := valA 0 l
theorem dch_nat (d : Nat) (h : d < 10) : (dch d).toNat = 48 + d := by unfold dch; exact u8_ofNat_toNat _ (by omega)
theorem dch_dgt (d : Nat) (h : d < 10) : dgt (dch d) := by unfold dgt; rw [dch_nat d h]; omega
theorem valA_nil (a : Nat) : valA a [] = a := rfl
theorem valA_cons (a : Nat) (c : UInt8) (l : List UInt8) : valA a (c :: l) = valA (a * 10 + (c.toNat - 48)) l := List.foldl_cons ..
theorem valA_app (a : Nat) (l m : List UInt8) : valA a (l ++ m) = valA (valA a l) m := List.foldl_append
theorem valA_eq (a : Nat) (l : List UInt8) : valA a l = a * 10 ^ l.length + valD l := by
  induction l generalizing a with
  | nil => simp [valA, valD]
  | cons c l ih =>
    rw [valD, valA_cons, valA_cons, ih, ih (0 * 10 + _), List.length_cons, Nat.pow_succ]
    rw [Nat.add_mul, Nat.add_mul, Nat.mul_assoc a 10, Nat.mul_comm 10]; omega
theorem valD_app (l m : List UInt8) : valD (l ++ m) = valD l * 10 ^ m.length + valD m := by
  rw [valD, valA_app, valA_eq]; rfl
theorem valD_one (c : UInt8) : valD [c] = c.toNat - 48 := by simp [valD, valA]
theorem valD_lt (l : List UInt8) (h : ∀ c ∈ l, dgt c) : valD l < 10 ^ l.length := by
  induction l with
  | nil => decide
  | cons c l ih =>
    rw [show c :: l = [c] ++ l from rfl, valD_app, valD_one, List.length_append, Nat.pow_add]
    have h1 := ih (fun x hx => h x (List.mem_cons_of_mem _ hx))
    have h2 := (h c (List.mem_cons_self ..)).2
    have h3 : (c.toNat - 48) * 10 ^ l.length ≤ 9 * 10 ^ l.length := Nat.mul_le_mul_right _ (by omega)
    simp only [List.length_cons, List.length_nil, Nat.zero_add, Nat.pow_one]
    omega

/-- the length of a string's value -/
def strLen (v : Value) : Nat := match v with
  | .string s => s.size
  | _ => 0

/-! the digits of a number -/
theorem dec_val (u : Nat) : valD (Lib.decDigits u) = u := by
  induction u using Nat.strongRecOn with
  | _ u ih =>
    rw [Lib.decDigits]
    split
    · rename_i h; rw [valD_one]; have := dch_nat u h; unfold dch at this; omega
    · rename_i h
      rw [valD_app, ih (u / 10) (by omega), valD_one]
      have := dch_nat (u % 10) (by omega); unfold dch at this
      simp only [List.length_cons, List.length_nil, Nat.zero_add, Nat.pow_one]; omega
theorem dec_dgt (u : Nat) : ∀ c ∈ Lib.decDigits u, dgt c := by
  induction u using Nat.strongRecOn with
  | _ u ih =>
    rw [Lib.decDigits]
    split
    · rename_i h; intro c hc; rw [List.mem_singleton] at hc; rw [hc]; exact dch_dgt u h
    · rename_i h
      intro c hc
      rw [List.mem_append, List.mem_singleton] at hc
      rcases hc with hc | hc
      · exact ih _ (by omega) c hc
      · rw [hc]; exact dch_dgt _ (by omega)
theorem dec_len (u k : Nat) (hk : 0 < k) (h : u < 10 ^ k) : 0 < (Lib.decDigits u).length ∧ (Lib.decDigits u).length ≤ k := by
  induction u using Nat.strongRecOn generalizing k with
  | _ u ih =>
    rw [Lib.decDigits]
    split
    · simp; omega
    · rename_i hu
      obtain ⟨k, rfl⟩ : ∃ k', k = k' + 1 := ⟨k - 1, by omega⟩
      have hk1 : 0 < k := by rcases Nat.eq_zero_or_pos k with rfl | h0; (simp at h; omega); exact h0
      rw [Nat.pow_succ] at h
      have := ih (u / 10) (by omega) k hk1 (by omega)
      simp; omega
/-- the specification's digits: of n, at least so many -/
def digs (n least : Nat) : List UInt8 := if n = 0 ∧ least = 0 then [] else digs (n / 10) (least - 1) ++ [dch (n % 10)]
termination_by n + least
decreasing_by omega
theorem digs_nil : digs 0 0 = [] := by rw [digs]; simp
theorem digs_more (n least : Nat) (h : ¬ (n = 0 ∧ least = 0)) : digs n least = digs (n / 10) (least - 1) ++ [dch (n % 10)] := by rw [digs, if_neg h]
theorem digs_zero (n : Nat) (h : 0 < n) : digs n 0 = Lib.decDigits n := by
  induction n using Nat.strongRecOn with
  | _ n ih =>
    rw [digs_more n 0 (by omega), Lib.decDigits]
    split
    · rename_i hn; rw [show n / 10 = 0 by omega, digs_nil, List.nil_append, show n % 10 = n by omega]; rfl
    · rw [ih (n / 10) (by omega) (by omega)]; rfl
theorem digs_one (n : Nat) : digs n 1 = Lib.decDigits n := by
  rw [digs_more n 1 (by omega), Lib.decDigits]
  split
  · rename_i hn; rw [show n / 10 = 0 by omega, digs_nil, List.nil_append, show n % 10 = n by omega]; rfl
  · rw [digs_zero _ (by omega)]; rfl
/-- four digits -/
def pad4 (f : Nat) : List UInt8 := [dch (f / 1000 % 10), dch (f / 100 % 10), dch (f / 10 % 10), dch (f % 10)]
theorem digs_four (f : Nat) (h : f < 10000) : digs f 4 = pad4 f := by
  rw [digs_more _ _ (by omega), digs_more _ _ (by omega), digs_more _ _ (by omega), digs_more _ _ (by omega)]
  rw [show f / 10 / 10 / 10 / 10 = 0 by omega, digs_nil, show f / 10 / 10 / 10 = f / 1000 by omega, show f / 10 / 10 = f / 100 by omega]
  rfl
theorem dec_10000 (f : Nat) (h : f < 10000) : Lib.decDigits (10000 + f) = 49 :: pad4 f := by
  rw [Lib.decDigits, dif_neg (by omega), Lib.decDigits, dif_neg (by omega), Lib.decDigits, dif_neg (by omega), Lib.decDigits, dif_neg (by omega), Lib.decDigits, dif_pos (by omega)]
  rw [show (10000 + f) / 10 / 10 / 10 / 10 = 1 by omega, show (10000 + f) / 10 / 10 / 10 % 10 = f / 1000 % 10 by omega, show (10000 + f) / 10 / 10 % 10 = f / 100 % 10 by omega, show (10000 + f) / 10 % 10 = f / 10 % 10 by omega, show (10000 + f) % 10 = f % 10 by omega]
  rfl
theorem pad4_val (f : Nat) (h : f < 10000) : valD (pad4 f) = f := by
  simp only [pad4, valD, valA, List.foldl_cons, List.foldl_nil]
  rw [dch_nat _ (by omega), dch_nat _ (by omega), dch_nat _ (by omega), dch_nat _ (by omega)]; omega
theorem pad4_dgt (f : Nat) : ∀ c ∈ pad4 f, dgt c := by
  intro c hc
  simp only [pad4, List.mem_cons, List.not_mem_nil, or_false] at hc
  rcases hc with rfl | rfl | rfl | rfl <;> exact dch_dgt _ (by omega)

/-! the zeros behind -/
def trimZ (l : List UInt8) : List UInt8 := if h : 0 < l.length ∧ byt l (l.length - 1) = 48 then trimZ (l.take (l.length - 1)) else l
termination_by l.length
decreasing_by rw [List.length_take]; omega
theorem take_last (l : List UInt8) (h : 0 < l.length) : l = l.take (l.length - 1) ++ [byt l (l.length - 1)] := by
  rw [← take_byt l _ (by omega), show l.length - 1 + 1 = l.length by omega, List.take_length]
theorem trimZ_on (l : List UInt8) (h : 0 < l.length ∧ byt l (l.length - 1) = 48) : trimZ l = trimZ (l.take (l.length - 1)) := by rw [trimZ, dif_pos h]
theorem trimZ_off (l : List UInt8) (h : ¬ (0 < l.length ∧ byt l (l.length - 1) = 48)) : trimZ l = l := by rw [trimZ, dif_neg h]
theorem trimZ_rep (l : List UInt8) : ∃ k, l = trimZ l ++ List.replicate k 48 := by
  induction hn : l.length using Nat.strongRecOn generalizing l with
  | _ n ih =>
    by_cases h : 0 < l.length ∧ byt l (l.length - 1) = 48
    · obtain ⟨k, hk⟩ := ih (l.length - 1) (by omega) (l.take (l.length - 1)) (by rw [List.length_take]; omega)
      refine ⟨k + 1, ?_⟩
      rw [trimZ_on l h, List.replicate_succ', ← List.append_assoc, ← hk]
      conv => lhs; rw [take_last l h.1]
      rw [h.2]
    · exact ⟨0, by rw [trimZ_off l h]; simp⟩
theorem valD_zeros (k : Nat) : valD (List.replicate k 48) = 0 := by
  induction k with
  | zero => rfl
  | succ k ih => rw [List.replicate_succ', valD_app, ih, valD_one]; rfl
theorem valD_take (l : List UInt8) (h : 0 < l.length ∧ byt l (l.length - 1) = 48) : valD l = valD (l.take (l.length - 1)) * 10 := by
  conv => lhs; rw [take_last l h.1, valD_app, valD_one, h.2]
  simp
/-- the decimal places -/
def fracL (f : Nat) : List UInt8 := if trimZ (pad4 f) = [] then [] else 46 :: trimZ (pad4 f)
theorem frac_parts (f : Nat) (h : f < 10000) : ∃ k, k ≤ 4 ∧ pad4 f = trimZ (pad4 f) ++ List.replicate k 48 ∧ (trimZ (pad4 f)).length + k = 4 ∧ valD (trimZ (pad4 f)) * 10 ^ k = f ∧ ∀ c ∈ trimZ (pad4 f), dgt c := by
  obtain ⟨k, hk⟩ := trimZ_rep (pad4 f)
  have hl : (trimZ (pad4 f)).length + k = 4 := by
    have := congrArg List.length hk
    rw [List.length_append, List.length_replicate] at this
    rw [← this]; rfl
  refine ⟨k, by omega, hk, hl, ?_, ?_⟩
  · have := pad4_val f h
    rw [hk, valD_app, valD_zeros, List.length_replicate] at this; omega
  · intro c hc
    exact pad4_dgt f c (by rw [hk]; exact List.mem_append_left _ hc)
theorem trim_nil (f : Nat) (h : f < 10000) : trimZ (pad4 f) = [] ↔ f = 0 := by
  obtain ⟨k, -, -, hl, hv, -⟩ := frac_parts f h
  constructor
  · intro e; rw [e] at hv; rw [← hv]; simp [valD, valA]
  · intro e
    subst e
    rcases Nat.eq_zero_or_pos (trimZ (pad4 0)).length with h0 | h0
    · exact List.eq_nil_of_length_eq_zero h0
    · exfalso
      have e0 : pad4 0 = List.replicate 4 48 := by decide
      obtain ⟨j, hj⟩ := trimZ_rep (pad4 0)
      have hlast : ¬ (0 < (trimZ (pad4 0)).length ∧ byt (trimZ (pad4 0)) ((trimZ (pad4 0)).length - 1) = 48) := by
        intro hh
        have : ∀ n, ∀ l : List UInt8, l.length = n → ¬ (0 < (trimZ l).length ∧ byt (trimZ l) ((trimZ l).length - 1) = 48) := by
          intro n
          induction n using Nat.strongRecOn with
          | _ n ih =>
            intro l hl
            by_cases h : 0 < l.length ∧ byt l (l.length - 1) = 48
            · rw [trimZ_on l h]; exact ih (l.length - 1) (by omega) _ (by rw [List.length_take]; omega)
            · rw [trimZ_off l h]; exact h
        exact this _ _ rfl hh
      apply hlast
      refine ⟨h0, ?_⟩
      have hm : byt (trimZ (pad4 0)) ((trimZ (pad4 0)).length - 1) ∈ trimZ (pad4 0) ++ List.replicate j 48 := by
        apply List.mem_append_left
        rw [byt_get _ _ (by omega)]
        exact List.getElem_mem _
      rw [← hj, e0, List.mem_replicate] at hm
      exact hm.2

/-! the text of a number -/
def textI (u : Int) : List UInt8 := if vld u then (if u < 0 then [45] else []) ++ (Lib.decDigits (u.natAbs / 10000) ++ fracL (u.natAbs % 10000)) else [63]
theorem textI_val (u : Int) (h : vld u = true) : textI u = (if u < 0 then [45] else []) ++ (Lib.decDigits (u.natAbs / 10000) ++ fracL (u.natAbs % 10000)) := by unfold textI; rw [if_pos h]
theorem fracL_len (f : Nat) (h : f < 10000) : (fracL f).length ≤ 5 := by
  obtain ⟨k, -, -, hl, -, -⟩ := frac_parts f h
  unfold fracL; split
  · simp
  · rw [List.length_cons]; omega
theorem textI_len (u : Int) : (textI u).length ≤ 18 := by
  unfold textI
  split
  · rename_i h
    have ha := abs_lt h
    have h1 := fracL_len (u.natAbs % 10000) (by omega)
    have h2 := (dec_len (u.natAbs / 10000) 12 (by omega) (by omega)).2
    rw [List.length_append, List.length_append]
    split <;> simp <;> omega
  · simp
/-- whole digits and decimal places, with a sign -/
def cutW (l : List UInt8) : List UInt8 := l.takeWhile (fun c => c != 46)
def cutP (l : List UInt8) : List UInt8 := (l.dropWhile (fun c => c != 46)).drop 1
def candI (l : List UInt8) : Int :=
  let m := if l.head? = some 45 then l.drop 1 else l
  let n := valD (cutW m) * 10000 + valD (cutP m) * 10 ^ (4 - (cutP m).length)
  if l.head? = some 45 then -(n : Int) else n
def parseI (l : List UInt8) : Int × Int := if vld (candI l) && textI (candI l) == l then (candI l, 0) else (0, 8)
theorem dgt_ne46 {c : UInt8} (h : dgt c) : (c != 46) = true := by
  have : c ≠ 46 := by intro e; subst e; exact absurd h.1 (by decide)
  simpa using this
theorem cut_app (d r : List UInt8) (h : ∀ c ∈ d, (c != 46) = true) : cutW (d ++ r) = d ++ cutW r ∧ cutP (d ++ r) = cutP r := by
  unfold cutW cutP
  rw [List.takeWhile_append_of_pos h, List.dropWhile_append_of_pos h]; exact ⟨rfl, rfl⟩
theorem cut_frac (f : Nat) : cutW (fracL f) = [] ∧ cutP (fracL f) = trimZ (pad4 f) := by
  unfold fracL
  split
  · rename_i h; rw [h]; exact ⟨rfl, rfl⟩
  · exact ⟨rfl, rfl⟩
theorem head_dec (u : Nat) (r : List UInt8) : ∃ c m, Lib.decDigits u ++ r = c :: m ∧ dgt c := by
  have hl := (dec_len u (u + 1) (by omega) (by have := @Nat.lt_pow_self u 10 (by decide); rw [Nat.pow_succ]; omega)).1
  have hd := dec_dgt u
  match hm : Lib.decDigits u with
  | [] => rw [hm] at hl; simp at hl
  | c :: m => exact ⟨c, m ++ r, rfl, hd c (by rw [hm]; exact List.mem_cons_self ..)⟩
theorem body_cut (a f : Nat) : cutW (Lib.decDigits a ++ fracL f) = Lib.decDigits a ∧ cutP (Lib.decDigits a ++ fracL f) = trimZ (pad4 f) := by
  have h := cut_app (Lib.decDigits a) (fracL f) (fun c hc => dgt_ne46 (dec_dgt a c hc))
  have g := cut_frac f
  rw [h.1, h.2, g.1, g.2, List.append_nil]; exact ⟨rfl, rfl⟩
theorem candI_text (u : Int) (h : vld u = true) : candI (textI u) = u := by
  have hf : u.natAbs % 10000 < 10000 := by omega
  have hb := body_cut (u.natAbs / 10000) (u.natAbs % 10000)
  obtain ⟨k, hk, -, hl, hv, -⟩ := frac_parts (u.natAbs % 10000) hf
  have hn : valD (Lib.decDigits (u.natAbs / 10000)) * 10000 + valD (trimZ (pad4 (u.natAbs % 10000))) * 10 ^ (4 - (trimZ (pad4 (u.natAbs % 10000))).length) = u.natAbs := by
    rw [dec_val, show 4 - (trimZ (pad4 (u.natAbs % 10000))).length = k by omega, hv]; omega
  rw [textI_val u h]
  by_cases hu : u < 0
  · rw [if_pos hu]
    unfold candI
    rw [if_pos (by rfl), if_pos (by rfl)]
    simp only [List.cons_append, List.nil_append, List.drop_succ_cons, List.drop_zero]
    rw [hb.1, hb.2, hn]; omega
  · rw [if_neg hu, List.nil_append]
    obtain ⟨c, m, e, hc⟩ := head_dec (u.natAbs / 10000) (fracL (u.natAbs % 10000))
    have hne : ¬ (Lib.decDigits (u.natAbs / 10000) ++ fracL (u.natAbs % 10000)).head? = some 45 := by
      rw [e]; intro hx
      have : c = 45 := by simpa using hx
      subst this; exact absurd hc.1 (by decide)
    unfold candI
    rw [if_neg hne, if_neg hne, hb.1, hb.2, hn]; omega
theorem parseI_text (u : Int) (h : vld u = true) : parseI (textI u) = (u, 0) := by
  unfold parseI; rw [candI_text u h, if_pos (by simp [h])]
/-- a reader that finds each valid number's own text, and checks -/
theorem parseI_of (l : List UInt8) (u : Int) (h : ∀ v, vld v = true → textI v = l → u = v) : parseI l = if vld u = true ∧ textI u = l then (u, 0) else (0, 8) := by
  split
  · rename_i hc; rw [← hc.2]; exact parseI_text u hc.1
  · rename_i hc
    unfold parseI
    rw [if_neg]
    intro hx
    rw [Bool.and_eq_true, beq_iff_eq] at hx
    have := h _ hx.1 hx.2
    rw [this] at hc
    exact hc hx
theorem parseI_no (l : List UInt8) (h : ∀ v, vld v = true → textI v ≠ l) : parseI l = (0, 8) := by
  unfold parseI
  rw [if_neg]
  intro hx
  rw [Bool.and_eq_true, beq_iff_eq] at hx
  exact h _ hx.1 hx.2
theorem parseI_long (l : List UInt8) (h : 18 < l.length) : parseI l = (0, 8) :=
  parseI_no l fun v _ e => by have := textI_len v; rw [e] at this; omega
theorem textI_inj {u v : Int} (hu : vld u = true) (hv : vld v = true) (h : textI u = textI v) : u = v := by
  have := candI_text u hu; rw [h, candI_text v hv] at this; exact this.symm
end Go.Proofs.YtadbilonialjnaaGreatDoor
