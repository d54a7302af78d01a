/- Plain laws of the tokens: the tokens of two sources with a line feed between them; the tokens of a source written with spaces between them. No program in sight. -/
import Derived.Test.YtadbilonialjnaaGreatDoorTkR
namespace Go.Proofs.YtadbilonialjnaaGreatDoor

def shT (d : Nat) (x : Tok) : Tok := ⟨x.k, x.t, x.p + d, x.e + d⟩
def mapS (d : Nat) (acc : List Tok) : Except Nat (List Tok) → Except Nat (List Tok)
  | .ok L => .ok (acc ++ L.map (shT d))
  | .error p => .error (p + d)
theorem shT_zero (L : List Tok) : L.map (shT 0) = L := by
  induction L with
  | nil => rfl
  | cons x r ih => rw [List.map_cons, ih]; rfl
theorem mapS_mapS (d : Nat) (acc acc' : List Tok) (r : Except Nat (List Tok)) : mapS d acc (mapS 0 acc' r) = mapS d (acc ++ acc'.map (shT d)) r := by
  cases r with
  | error p => rfl
  | ok L => simp [mapS, shT_zero]
theorem mapS_zero (a b : List Tok) (r : Except Nat (List Tok)) : mapS 0 a (mapS 0 b r) = mapS 0 (a ++ b) r := by rw [mapS_mapS, shT_zero]
theorem mapS_nil (r : Except Nat (List Tok)) : mapS 0 [] r = r := by cases r with
  | error p => rfl
  | ok L => simp [mapS, shT_zero]
/-- the bytes that the next step takes: none at an error -/
theorem scan_fuel (nb : List UInt8 → Bool) : ∀ (f g : Nat) (m : List UInt8) (i : Nat) (ln : Bool) (acc : List Tok), m.length ≤ f → m.length ≤ g → tkScan nb f m i ln acc = tkScan nb g m i ln acc := by
  intro f
  induction f with
  | zero =>
    intro g m i ln acc h1 _
    have : m = [] := List.eq_nil_of_length_eq_zero (by omega)
    subst this
    cases g <;> rfl
  | succ f ih =>
    intro g m i ln acc h1 h2
    cases m with
    | nil => cases g <;> rfl
    | cons c t =>
      cases g with
      | zero => simp at h2
      | succ g =>
        simp only [List.length_cons] at h1 h2
        rw [tkScan, tkScan, ih g t (i + 1) false _ (by omega) (by omega), ih g t (i + 1) ln acc (by omega) (by omega)]
        cases hn : tkNext nb (c :: t) with
        | none => rfl
        | some q =>
          obtain ⟨k, x, n⟩ := q
          have hs := tkNext_src (by simp) hn
          have h3 := hs.pos
          have h4 := hs.le
          simp only [List.length_cons] at h4
          simp only
          rw [ih g ((c :: t).drop n) (i + n) _ _ (by rw [List.length_drop, List.length_cons]; omega) (by rw [List.length_drop, List.length_cons]; omega)]
def scanR (nb : List UInt8 → Bool) (m : List UInt8) (i : Nat) (ln : Bool) : Except Nat (List Tok) := tkScan nb m.length m i ln []
theorem scan_sh (nb : List UInt8 → Bool) : ∀ (f : Nat) (m : List UInt8) (i d : Nat) (ln : Bool) (acc : List Tok), m.length ≤ f → tkScan nb f m (i + d) ln acc = mapS d acc (tkScan nb f m i ln []) := by
  intro f
  induction f with
  | zero =>
    intro m i d ln acc h
    have : m = [] := List.eq_nil_of_length_eq_zero (by omega)
    subst this
    rfl
  | succ f ih =>
    intro m i d ln acc h
    cases m with
    | nil => rfl
    | cons c t =>
      simp only [List.length_cons] at h
      rw [tkScan, tkScan]
      by_cases h1 : c = 10 ∧ ln = true
      · rw [if_pos h1, if_pos h1, show i + d + 1 = i + 1 + d by omega, ih t (i + 1) d false _ (by omega)]
        have := ih t (i + 1) 0 false ([] ++ [⟨7, [10], i, i + 1⟩]) (by omega)
        rw [Nat.add_zero] at this
        rw [this, mapS_mapS]
        rfl
      · rw [if_neg h1, if_neg h1]
        by_cases h2 : c = 10 ∨ c = 32 ∨ c = 9 ∨ c = 13
        · rw [if_pos h2, if_pos h2, show i + d + 1 = i + 1 + d by omega, ih t (i + 1) d ln _ (by omega)]
        · rw [if_neg h2, if_neg h2]
          cases hn : tkNext nb (c :: t) with
          | none => rfl
          | some q =>
            obtain ⟨k, x, n⟩ := q
            have hs := tkNext_src (by simp) hn
            have h3 := hs.pos
            simp only
            have hl : ((c :: t).drop n).length ≤ f := by rw [List.length_drop, List.length_cons]; omega
            rw [show i + d + n = i + n + d by omega, ih _ (i + n) d _ _ hl]
            have := ih ((c :: t).drop n) (i + n) 0 (tkLn k x ln) ([] ++ [⟨k, x, i, i + n⟩]) hl
            rw [Nat.add_zero] at this
            rw [this, mapS_mapS]
            rfl
theorem scanR_nil (nb : List UInt8 → Bool) (i : Nat) (ln : Bool) : scanR nb [] i ln = .ok [⟨0, [], i, i⟩] := rfl
theorem scan_acc (nb : List UInt8 → Bool) (f : Nat) (m : List UInt8) (i : Nat) (ln : Bool) (acc : List Tok) (h : m.length ≤ f) : tkScan nb f m i ln acc = mapS 0 acc (scanR nb m i ln) := by
  have := scan_sh nb f m i 0 ln acc h
  rw [Nat.add_zero] at this
  rw [this, scan_fuel nb f m.length m i ln [] h (Nat.le_refl _)]; rfl
theorem scanR_sh (nb : List UInt8 → Bool) (m : List UInt8) (d : Nat) (ln : Bool) : scanR nb m d ln = mapS d [] (scanR nb m 0 ln) := by
  have := scan_sh nb m.length m 0 d ln [] (Nat.le_refl _)
  rw [Nat.zero_add] at this; exact this
theorem scanR_line (nb : List UInt8 → Bool) (t : List UInt8) (i : Nat) : scanR nb (10 :: t) i true = mapS 0 [⟨7, [10], i, i + 1⟩] (scanR nb t (i + 1) false) := by
  unfold scanR
  rw [List.length_cons, tkScan, if_pos ⟨rfl, rfl⟩]
  exact scan_acc nb _ t _ _ _ (Nat.le_refl _)
theorem scanR_blank (nb : List UInt8 → Bool) (c : UInt8) (t : List UInt8) (i : Nat) (ln : Bool) (h1 : ¬ (c = 10 ∧ ln = true)) (h2 : c = 10 ∨ c = 32 ∨ c = 9 ∨ c = 13) : scanR nb (c :: t) i ln = scanR nb t (i + 1) ln := by
  unfold scanR
  rw [List.length_cons, tkScan, if_neg h1, if_pos h2]
theorem scanR_some (nb : List UInt8 → Bool) (c : UInt8) (t : List UInt8) (i : Nat) (ln : Bool) (h2 : ¬ (c = 10 ∨ c = 32 ∨ c = 9 ∨ c = 13)) {k n : Nat} {x : List UInt8} (hn : tkNext nb (c :: t) = some (k, x, n)) : scanR nb (c :: t) i ln = mapS 0 [⟨k, x, i, i + n⟩] (scanR nb ((c :: t).drop n) (i + n) (tkLn k x ln)) := by
  unfold scanR
  rw [List.length_cons, tkScan, if_neg (fun e => h2 (.inl e.1)), if_neg h2, hn]
  have hs := (tkNext_src (by simp) hn).pos
  exact scan_acc nb _ _ _ _ _ (by rw [List.length_drop, List.length_cons]; omega)
theorem scanR_none (nb : List UInt8 → Bool) (c : UInt8) (t : List UInt8) (i : Nat) (ln : Bool) (h2 : ¬ (c = 10 ∨ c = 32 ∨ c = 9 ∨ c = 13)) (hn : tkNext nb (c :: t) = none) : scanR nb (c :: t) i ln = .error i := by
  unfold scanR
  rw [List.length_cons, tkScan, if_neg (fun e => h2 (.inl e.1)), if_neg h2, hn]
theorem mapS_ok {d : Nat} {acc L : List Tok} {r : Except Nat (List Tok)} (h : mapS d acc r = .ok L) : ∃ M, r = .ok M ∧ L = acc ++ M.map (shT d) := by
  cases r with
  | error p => cases h
  | ok M => injection h with h; exact ⟨M, rfl, h.symm⟩
/-- how a scan that succeeds goes on -/
theorem scanR_cases (nb : List UInt8 → Bool) (m : List UInt8) (i : Nat) (ln : Bool) (L : List Tok) (h : scanR nb m i ln = .ok L) :
    (m = [] ∧ L = [⟨0, [], i, i⟩]) ∨
    (∃ t L', m = 10 :: t ∧ ln = true ∧ L = ⟨7, [10], i, i + 1⟩ :: L' ∧ scanR nb t (i + 1) false = .ok L') ∨
    (∃ c t, m = c :: t ∧ ¬ (c = 10 ∧ ln = true) ∧ (c = 10 ∨ c = 32 ∨ c = 9 ∨ c = 13) ∧ scanR nb t (i + 1) ln = .ok L) ∨
    (∃ c t k x n L', m = c :: t ∧ ¬ (c = 10 ∨ c = 32 ∨ c = 9 ∨ c = 13) ∧ tkNext nb (c :: t) = some (k, x, n) ∧ L = ⟨k, x, i, i + n⟩ :: L' ∧ scanR nb ((c :: t).drop n) (i + n) (tkLn k x ln) = .ok L') := by
  cases m with
  | nil => left; rw [scanR_nil] at h; injection h with h; exact ⟨rfl, h.symm⟩
  | cons c t =>
    right
    by_cases h1 : c = 10 ∧ ln = true
    · left
      obtain ⟨rfl, rfl⟩ := h1
      rw [scanR_line] at h
      obtain ⟨M, hM, rfl⟩ := mapS_ok h
      exact ⟨t, M, rfl, rfl, by rw [shT_zero]; rfl, hM⟩
    · right
      by_cases h2 : c = 10 ∨ c = 32 ∨ c = 9 ∨ c = 13
      · left
        rw [scanR_blank nb c t i ln h1 h2] at h
        exact ⟨c, t, rfl, h1, h2, h⟩
      · right
        cases hn : tkNext nb (c :: t) with
        | none => rw [scanR_none nb c t i ln h2 hn] at h; cases h
        | some q =>
          obtain ⟨k, x, n⟩ := q
          rw [scanR_some nb c t i ln h2 hn] at h
          obtain ⟨M, hM, rfl⟩ := mapS_ok h
          exact ⟨c, t, k, x, n, M, rfl, h2, hn, by rw [shT_zero]; rfl, hM⟩
def lineT (b : Bool) (i : Nat) : List Tok := if b = true then [⟨7, [10], i, i + 1⟩] else []
theorem scanR_join (nb : List UInt8 → Bool) (t : List UInt8) : ∀ (f : Nat) (m : List UInt8) (i : Nat) (ln : Bool) (L : List Tok), m.length ≤ f → scanR nb m i ln = .ok L →
    ∃ R b, L = R ++ [⟨0, [], i + m.length, i + m.length⟩] ∧ scanR nb (m ++ 10 :: t) i ln = mapS 0 (R ++ lineT b (i + m.length)) (scanR nb t (i + m.length + 1) false) := by
  intro f
  have base : ∀ (m : List UInt8) (i : Nat) (ln : Bool) (L : List Tok), m = [] → L = [⟨0, [], i, i⟩] → ∃ R b, L = R ++ [⟨0, [], i + m.length, i + m.length⟩] ∧ scanR nb (m ++ 10 :: t) i ln = mapS 0 (R ++ lineT b (i + m.length)) (scanR nb t (i + m.length + 1) false) := by
    intro m i ln L h1 h2
    subst h1; subst h2
    refine ⟨[], ln, rfl, ?_⟩
    cases ln with
    | true => exact scanR_line nb t i
    | false => exact (scanR_blank nb 10 t i false (by simp) (.inl rfl)).trans (mapS_nil _).symm
  induction f with
  | zero =>
    intro m i ln L hm h
    have : m = [] := List.eq_nil_of_length_eq_zero (by omega)
    subst this
    rw [scanR_nil] at h; injection h with h
    exact base [] i ln L rfl h.symm
  | succ f ih =>
    intro m i ln L hm h
    rcases scanR_cases nb m i ln L h with ⟨h1, h2⟩ | ⟨u, L', rfl, rfl, rfl, h3⟩ | ⟨c, u, rfl, h1, h2, h3⟩ | ⟨c, u, k, x, n, L', rfl, h2, hn, rfl, h3⟩
    · exact base m i ln L h1 h2
    · simp only [List.length_cons] at hm
      obtain ⟨R, b, rfl, h5⟩ := ih u (i + 1) false L' (by omega) h3
      refine ⟨⟨7, [10], i, i + 1⟩ :: R, b, ?_, ?_⟩
      · rw [List.length_cons, show i + (u.length + 1) = i + 1 + u.length by omega]; rfl
      · rw [List.cons_append, scanR_line, h5, mapS_zero, List.length_cons, show i + (u.length + 1) = i + 1 + u.length by omega]; rfl
    · simp only [List.length_cons] at hm
      obtain ⟨R, b, rfl, h5⟩ := ih u (i + 1) ln L (by omega) h3
      refine ⟨R, b, ?_, ?_⟩
      · rw [List.length_cons, show i + (u.length + 1) = i + 1 + u.length by omega]
      · rw [List.cons_append, scanR_blank nb c _ i ln h1 h2, h5, List.length_cons, show i + (u.length + 1) = i + 1 + u.length by omega]
    · have hs := tkNext_src (by simp) hn
      have hp := hs.pos
      have hle := hs.le
      have hl : ((c :: u).drop n).length = (c :: u).length - n := List.length_drop ..
      obtain ⟨R, b, rfl, h5⟩ := ih ((c :: u).drop n) (i + n) (tkLn k x ln) L' (by omega) h3
      have e : i + n + ((c :: u).drop n).length = i + (c :: u).length := by omega
      rw [e] at h5
      refine ⟨⟨k, x, i, i + n⟩ :: R, b, by rw [e]; rfl, ?_⟩
      have hn2 := nx_app (.inl rfl) t (by simp) (fun _ => rfl) hn
      rw [List.cons_append] at hn2 ⊢
      rw [scanR_some nb c _ i ln h2 hn2, ← List.cons_append, List.drop_append_of_le_length hle, h5, mapS_zero]; rfl
def solidB (x : Tok) : Bool := !(x.k == 0) && !(x.k == 7)
def solidL (L : List Tok) : List Tok := L.filter solidB
theorem solid_sh (d : Nat) (L : List Tok) : solidL (L.map (shT d)) = (solidL L).map (shT d) := by
  unfold solidL
  rw [List.filter_map]; rfl
theorem scanT_R (nb : List UInt8 → Bool) (s : List UInt8) (h : s.length ≤ 65536) : scanT nb s = match scanR nb s 0 false with
    | .ok l => (l, 0, 0)
    | .error i => ([], 8, i) := by
  unfold scanT scanR; rw [if_neg (by omega)]; cases tkScan nb s.length s 0 false [] <;> rfl
/-- two sources with a line feed between them -/
theorem scanT_join (nb : List UInt8 → Bool) (s t : List UInt8) (hl : s.length + t.length + 1 ≤ 65536) (L : List Tok) (hs : scanT nb s = (L, 0, 0)) :
    (∃ M, scanT nb t = (M, 0, 0) ∧ ∃ Z, scanT nb (s ++ 10 :: t) = (Z, 0, 0) ∧ solidL Z = solidL L ++ (solidL M).map (shT (s.length + 1))) ∨
    (∃ p, scanT nb t = ([], 8, p) ∧ scanT nb (s ++ 10 :: t) = ([], 8, p + (s.length + 1))) := by
  rw [scanT_R nb s (by omega)] at hs
  rw [scanT_R nb t (by omega), scanT_R nb (s ++ 10 :: t) (by rw [List.length_append, List.length_cons]; omega)]
  cases hr : scanR nb s 0 false with
  | error p => rw [hr] at hs; cases hs
  | ok L' =>
    rw [hr] at hs
    have e : L' = L := by injection hs
    subst e
    obtain ⟨R, b, rfl, h5⟩ := scanR_join nb t s.length s 0 false L' (Nat.le_refl _) hr
    rw [Nat.zero_add, scanR_sh nb t (s.length + 1)] at h5
    rw [h5]
    cases scanR nb t 0 false with
    | error p => right; exact ⟨p, rfl, rfl⟩
    | ok M =>
      left
      refine ⟨M, rfl, _, rfl, ?_⟩
      rw [List.nil_append, shT_zero]
      unfold solidL
      rw [List.filter_append, List.filter_append, List.filter_append]
      have e1 : (lineT b s.length).filter solidB = [] := by cases b <;> rfl
      rw [e1]
      have := solid_sh (s.length + 1) M
      unfold solidL at this
      rw [this]
      simp [solidB]
/-! with two spaces ahead of each token -/
def pieceT (s : List UInt8) (x : Tok) : List UInt8 := 32 :: 32 :: sl s x.p x.e
def piecesT (s : List UInt8) (L : List Tok) : List UInt8 := L.flatMap (pieceT s)
theorem pieces_cons (s : List UInt8) (x : Tok) (L : List Tok) : piecesT s (x :: L) = 32 :: 32 :: (sl s x.p x.e ++ piecesT s L) := by unfold piecesT; simp [pieceT]
theorem pieces_snoc (s : List UInt8) (x : Tok) (L : List Tok) : piecesT s (L ++ [x]) = piecesT s L ++ 32 :: 32 :: sl s x.p x.e := by unfold piecesT; simp [pieceT]
def kt (x : Tok) : Nat × List UInt8 := (x.k, x.t)
theorem kt_sh (d : Nat) (L : List Tok) : (L.map (shT d)).map kt = L.map kt := by rw [List.map_map]; rfl
theorem scanR_two (nb : List UInt8 → Bool) (m : List UInt8) (j : Nat) (ln : Bool) : scanR nb (32 :: 32 :: m) j ln = scanR nb m (j + 2) ln := by
  rw [scanR_blank nb 32 _ j ln (by simp) (by simp), scanR_blank nb 32 _ _ ln (by simp) (by simp)]
theorem scanR_space (nb : List UInt8 → Bool) (s : List UInt8) : ∀ (f : Nat) (i : Nat) (ln : Bool) (L : List Tok), s.length - i ≤ f → i ≤ s.length → scanR nb (s.drop i) i ln = .ok L → (∀ x ∈ L, ¬ x.k = 6) →
    (∃ x r, L = x :: r) ∧ ∀ j, ∃ M, scanR nb (piecesT s L) j ln = .ok M ∧ M.map kt = L.map kt := by
  intro f
  have base : ∀ (i : Nat) (ln : Bool) (L : List Tok), L = [⟨0, [], i, i⟩] → (∃ x r, L = x :: r) ∧ ∀ j, ∃ M, scanR nb (piecesT s L) j ln = .ok M ∧ M.map kt = L.map kt := by
    intro i ln L h
    subst h
    refine ⟨⟨_, _, rfl⟩, fun j => ⟨[⟨0, [], j + 2, j + 2⟩], ?_, rfl⟩⟩
    rw [pieces_cons, sl_self, scanR_two]; rfl
  induction f with
  | zero =>
    intro i ln L h1 h2 h _
    rw [List.drop_of_length_le (by omega), scanR_nil] at h
    injection h with h
    exact base i ln L h.symm
  | succ f ih =>
    intro i ln L h1 h2 h hk
    rcases scanR_cases nb (s.drop i) i ln L h with ⟨h3, h4⟩ | ⟨u, L', hd, rfl, rfl, h3⟩ | ⟨c, u, hd, h4, h5, h3⟩ | ⟨c, u, k, x, n, L', hd, h4, hn, rfl, h3⟩
    · exact base i ln L h4
    · obtain ⟨hlt, ht, hc⟩ := drop_cons hd
      rw [ht] at h3
      obtain ⟨⟨x, r, rfl⟩, hM⟩ := ih (i + 1) false L' (by omega) (by omega) h3 (fun x hx => hk x (by simp [hx]))
      refine ⟨⟨_, _, rfl⟩, fun j => ?_⟩
      obtain ⟨M, hM1, hM2⟩ := hM (j + 2 + 1)
      rw [pieces_cons, scanR_two]
      simp only
      rw [sl_snoc s i i (Nat.le_refl _) hlt, sl_self, hc, List.nil_append, List.singleton_append, scanR_line, hM1]
      exact ⟨_, rfl, by rw [List.map_append, kt_sh, hM2]; rfl⟩
    · obtain ⟨hlt, ht, hc⟩ := drop_cons hd
      rw [ht] at h3
      exact ih (i + 1) ln L (by omega) (by omega) h3 hk
    · obtain ⟨hlt, ht, hc⟩ := drop_cons hd
      have hs := tkNext_src (by simp) hn
      have hp := hs.pos
      have hle := hs.le
      rw [← hd, List.length_drop] at hle
      rw [← hd, List.drop_drop] at h3
      obtain ⟨⟨y, r, rfl⟩, hM⟩ := ih (i + n) (tkLn k x ln) L' (by omega) (by omega) h3 (fun x hx => hk x (by simp [hx]))
      refine ⟨⟨_, _, rfl⟩, fun j => ?_⟩
      obtain ⟨M, hM1, hM2⟩ := hM (j + 2 + n)
      have hk6 : ¬ k = 6 := hk ⟨k, x, i, i + n⟩ (by simp)
      have ht := nx_take (by simp) hn
      obtain ⟨q, hq⟩ : ∃ q, (c :: u).take n = c :: q := by
        obtain ⟨n', rfl⟩ : ∃ n', n = n' + 1 := ⟨n - 1, by omega⟩
        exact ⟨u.take n', rfl⟩
      have hql : (c :: q).length = n := by rw [← hq, List.length_take]; have := hs.le; omega
      rw [hq] at ht
      have hsl : sl s i (i + n) = c :: q := by rw [← hq, ← hd, take_drop_sl]
      rw [pieces_cons, scanR_two]
      simp only
      rw [hsl]
      rw [pieces_cons] at hM1 ⊢
      have ht2 := nx_app (.inr rfl) (32 :: (sl s y.p y.e ++ piecesT s r)) (by simp) (fun e => absurd e hk6) ht
      rw [List.cons_append] at ht2 ⊢
      rw [scanR_some nb c _ _ ln h4 ht2, ← List.cons_append, List.drop_left' hql, hM1]
      exact ⟨_, rfl, by rw [List.map_append, kt_sh, hM2]; rfl⟩
theorem gap_len (s : List UInt8) : ∀ (L : List Tok) (a : Nat), a ≤ s.length → gapOK s a L → L.length ≤ s.length - a + 1 ∧ (piecesT s L).length ≤ 2 * L.length + (s.length - a)
  | [], a, ha, h => by unfold piecesT; simp
  | x :: r, a, ha, h => by
    obtain ⟨g, h2⟩ := h
    have h1 := g.h1
    have h4 := g.h2
    have h3 := g.h3
    obtain ⟨i1, i2⟩ := gap_len s r x.e h3 h2
    have hem := g.em
    rw [g.kd] at hem
    rw [pieces_cons]
    simp only [List.length_cons, List.length_append]
    rw [sl_len s x.p x.e h4 h3]
    cases r with
    | nil => simp [gapOK, piecesT] at *; omega
    | cons y r => simp at hem i1 i2 ⊢; omega
theorem scanT_space (nb : List UInt8 → Bool) (s : List UInt8) (hl : s.length ≤ 20000) (L : List Tok) (hs : scanT nb s = (L, 0, 0)) (hk : ∀ x ∈ L, ¬ x.k = 6) :
    (piecesT s L).length ≤ 3 * s.length + 2 ∧ ∃ M, scanT nb (piecesT s L) = (M, 0, 0) ∧ M.map kt = L.map kt := by
  have hg : gapOK s 0 L := by
    rcases scanT_gap nb s (by omega) with ⟨p, h1, -⟩ | ⟨L2, h1, -, h3⟩
    · rw [hs] at h1; cases h1
    · rw [hs] at h1; cases h1; exact h3
  obtain ⟨g1, g2⟩ := gap_len s L 0 (Nat.zero_le _) hg
  have hlen : (piecesT s L).length ≤ 3 * s.length + 2 := by omega
  refine ⟨hlen, ?_⟩
  rw [scanT_R nb s (by omega)] at hs
  cases hr : scanR nb s 0 false with
  | error p => rw [hr] at hs; cases hs
  | ok L' =>
    rw [hr] at hs
    have e : L' = L := by injection hs
    subst e
    obtain ⟨-, hM⟩ := scanR_space nb s s.length 0 false L' (by omega) (Nat.zero_le _) (by rw [List.drop_zero]; exact hr) hk
    obtain ⟨M, h1, h2⟩ := hM 0
    exact ⟨M, by rw [scanT_R nb _ (by omega), h1], h2⟩
/-! a text of letters -/
theorem runN_rep (p : UInt8 → Bool) (c : UInt8) (h : p c = true) : ∀ n, runN p (List.replicate n c) = n
  | 0 => rfl
  | n + 1 => by rw [List.replicate_succ, runN, if_pos h, runN_rep p c h n]
theorem scanT_letters (nb : List UInt8 → Bool) (n : Nat) (h2 : 2 ≤ n) (hl : n ≤ 65536) : scanT nb (List.replicate n 97) = ([⟨1, List.replicate n 97, 0, n⟩, ⟨0, [], n, n⟩], 0, 0) := by
  rw [scanT_R nb _ (by rw [List.length_replicate]; exact hl)]
  obtain ⟨m, rfl⟩ : ∃ m, n = m + 1 := ⟨n - 1, by omega⟩
  have hw : tkWord (97 :: List.replicate m 97) = m + 1 := by
    rw [tkWord_cons, tkWn_cons, if_neg (by simp), if_pos (by decide), runN_rep tkWb 97 (by decide)]
  have hp : List.isPrefixOf [(47 : UInt8), 47] (97 :: List.replicate m 97) = false := by simp [List.isPrefixOf]
  have hn : tkNext nb (97 :: List.replicate m 97) = some (1, 97 :: List.replicate m 97, m + 1) := by
    rw [nx_word hp (by omega), hw]; simp
  rw [List.replicate_succ, scanR_some nb 97 _ 0 false (by decide) hn, List.drop_of_length_le (by simp), scanR_nil]
  simp [mapS, shT]
theorem scanT_many (nb : List UInt8 → Bool) (s : List UInt8) (hl : 65536 < s.length) : scanT nb s = ([], 2, 0) := by unfold scanT; rw [if_pos hl]
end Go.Proofs.YtadbilonialjnaaGreatDoor
