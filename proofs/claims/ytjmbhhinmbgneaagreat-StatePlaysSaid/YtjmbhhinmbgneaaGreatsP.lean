/-
  Tables: what the printed functions compute, as a plain function of the points.
-/
import Derived.Test.YtjmbhhinmbgneaaGreatsT
import Derived.Test.YtjmbhhinmbgneaaGreatsN
namespace Go.Proofs.YtjmbhhinmbgneaaGreat
open Go.Sy
set_option maxHeartbeats 1000000

theorem tlt {i n : Nat} (h : i < n) : decide ((i : Int) < (n : Int)) = true := by simp; omega
theorem tnn (i : Nat) : decide (0 ≤ (i : Int)) = true := by simp
theorem tself (n : Nat) : decide ((n : Int) < (n : Int)) = false := by simp
theorem tup {i : Nat} (h : i < 1000000) : wi64 ((i : Int) + 1) = ((i + 1 : Nat) : Int) := by rw [wi64_id (by omega) (by omega)]; simp
theorem tdn {i : Nat} (h : i < 1000000) : wi64 (((i + 1 : Nat) : Int) - 1) = (i : Int) := by rw [wi64_id (by omega) (by omega)]; simp

/-- From -2^31 to 2^31? -/
abbrev wi (a : Int) : Prop := -2147483648 ≤ a ∧ a ≤ 2147483648
abbrev pt (X Y : Nat → Int) (j : Nat) : Prop := wi (X j) ∧ wi (Y j) ∧ (0 < j → X (j - 1) < X j)
abbrev Good (n : Nat) (X Y : Nat → Int) : Prop := 2 ≤ n ∧ n ≤ 256 ∧ ∀ j, j < n → pt X Y j
noncomputable def chk (n : Nat) (X Y : Nat → Int) : Int := by classical exact if Good n X Y then 0 else 100

theorem chk_good {n : Nat} {X Y : Nat → Int} (h : Good n X Y) : chk n X Y = 0 := by unfold chk; exact if_pos h
theorem chk_bad {n : Nat} {X Y : Nat → Int} (h : ¬ Good n X Y) : chk n X Y = 100 := by unfold chk; exact if_neg h

theorem within_ok (K : Nat) (a : Int) : table_within_g K a = some (decide (wi a), ()) := by
  unfold table_within_g
  by_cases h1 : a ≥ -2147483648
  · by_cases h2 : a ≤ 2147483648 <;> simp [h1, h2]
  · rw [decide_eq_false h1, decide_eq_false (show ¬ wi a by intro h; omega)]
    rfl

theorem chk_round (N n i : Nat) (X Y : Nat → Int) (hi : i < n) (hn : n ≤ 20000) : table_Check_l0 20000 (N + 1) n n (n : Int) (i : Int) X Y =
    if pt X Y i then table_Check_l0 20000 N n n (n : Int) ((i + 1 : Nat) : Int) X Y else some (.inr (100, ())) := by
  show table_Check_l0r 20000 (table_Check_l0 20000 N) n n (n : Int) (i : Int) X Y = _
  unfold table_Check_l0r
  simp only [tlt hi, tnn, Bool.and_self, cond_true, within_ok, Option.bind_some, Int.toNat_natCast]
  by_cases h1 : wi (X i)
  · by_cases h2 : wi (Y i)
    · rw [decide_eq_true h1, decide_eq_true h2]
      simp only [Bool.not_true, cond_false]
      rw [tup (by omega)]
      cases i with
      | zero =>
        rw [if_pos ⟨h1, h2, fun h => absurd h (by omega)⟩]
        rfl
      | succ k =>
        have e1 : decide (((k + 1 : Nat) : Int) > 0) = true := decide_eq_true (by omega)
        rw [e1, tdn (show k < 1000000 by omega)]
        simp only [cond_true, tnn, tlt (show k < n by omega), Bool.and_self, Int.toNat_natCast]
        by_cases h3 : X k < X (k + 1)
        · rw [if_pos ⟨h1, h2, fun _ => by simpa using h3⟩, decide_eq_false (by omega)]
          rfl
        · rw [if_neg (fun h => h3 (by simpa using h.2.2 (by omega))), decide_eq_true (by omega)]
          rfl
    · rw [decide_eq_true h1, decide_eq_false h2, if_neg (fun h => h2 h.2.1)]
      rfl
  · rw [decide_eq_false h1, if_neg (fun h => h1 h.1)]
    rfl

theorem chk_loop (n : Nat) (X Y : Nat → Int) (hn : n ≤ 256) : ∀ (d i N : Nat), i + d = n → d < N → (∀ j, j < i → pt X Y j) →
    ((∀ j, j < n → pt X Y j) → table_Check_l0 20000 N n n (n : Int) (i : Int) X Y = some (.inl ())) ∧
    ((¬ ∀ j, j < n → pt X Y j) → table_Check_l0 20000 N n n (n : Int) (i : Int) X Y = some (.inr (100, ())))
  | 0, i, N, hd, hf, hp => by
    obtain ⟨f, rfl⟩ : ∃ f, N = f + 1 := ⟨N - 1, by omega⟩
    have e : i = n := by omega
    subst e
    refine ⟨fun _ => ?_, fun h => absurd hp h⟩
    show table_Check_l0r 20000 (table_Check_l0 20000 f) i i (i : Int) (i : Int) X Y = _
    unfold table_Check_l0r
    rw [tself]
    rfl
  | d + 1, i, N, hd, hf, hp => by
    obtain ⟨f, rfl⟩ : ∃ f, N = f + 1 := ⟨N - 1, by omega⟩
    have hin : i < n := by omega
    rw [chk_round f n i X Y hin (by omega)]
    by_cases h : pt X Y i
    · rw [if_pos h]
      refine chk_loop n X Y hn d (i + 1) f (by omega) (by omega) fun j hj => ?_
      by_cases e : j = i
      · exact e ▸ h
      · exact hp j (by omega)
    · rw [if_neg h]
      exact ⟨fun hh => absurd (hh i hin) h, fun _ => rfl⟩

theorem check_ok (n : Nat) (X Y : Nat → Int) : table_Check_g 20000 n X Y = some (chk n X Y, ()) := by
  unfold table_Check_g
  by_cases h1 : ((n : Nat) : Int) < 2
  · rw [decide_eq_true h1, chk_bad (fun h => by have := h.1; omega)]
    rfl
  · rw [decide_eq_false h1]
    by_cases h2 : ((n : Nat) : Int) > 256
    · rw [decide_eq_true h2, chk_bad (fun h => by have := h.2.1; omega)]
      rfl
    · rw [decide_eq_false h2]
      simp only [cond_false]
      have hl := chk_loop n X Y (by omega) n 0 20000 (by omega) (by omega) (fun j hj => absurd hj (by omega))
      have e0 : ((0 : Nat) : Int) = 0 := rfl
      rw [e0] at hl
      by_cases hp : ∀ j, j < n → pt X Y j
      · rw [hl.1 hp, chk_good ⟨by omega, by omega, hp⟩]
        rfl
      · rw [hl.2 hp, chk_bad (fun h => hp h.2.2)]
        rfl

theorem rwithin_ok (K : Nat) (a : Int) : r10_within_g K a = some (decide (wi a), ()) := by
  unfold r10_within_g
  by_cases h1 : a ≥ -2147483648
  · by_cases h2 : a ≤ 2147483648 <;> simp [h1, h2]
  · rw [decide_eq_false h1, decide_eq_false (show ¬ wi a by intro h; omega)]
    rfl

theorem rchk_round (N n i : Nat) (X Y : Nat → Int) (hi : i < n) (hn : n ≤ 20000) : r10_Check_l0 20000 (N + 1) n (i : Int) X Y =
    if pt X Y i then r10_Check_l0 20000 N n ((i + 1 : Nat) : Int) X Y else some (.inr (100, ())) := by
  show r10_Check_l0r 20000 (r10_Check_l0 20000 N) n (i : Int) X Y = _
  unfold r10_Check_l0r
  simp only [tlt hi, tnn, Bool.and_self, cond_true, rwithin_ok, Option.bind_some, Int.toNat_natCast]
  by_cases h1 : wi (X i)
  · by_cases h2 : wi (Y i)
    · rw [decide_eq_true h1, decide_eq_true h2]
      simp only [Bool.not_true, cond_false]
      rw [tup (by omega)]
      cases i with
      | zero =>
        rw [if_pos ⟨h1, h2, fun h => absurd h (by omega)⟩]
        rfl
      | succ k =>
        have e1 : decide (((k + 1 : Nat) : Int) > 0) = true := decide_eq_true (by omega)
        rw [e1, tdn (show k < 1000000 by omega)]
        simp only [cond_true, tnn, tlt (show k < n by omega), Bool.and_self, Int.toNat_natCast]
        by_cases h3 : X k < X (k + 1)
        · rw [if_pos ⟨h1, h2, fun _ => by simpa using h3⟩, decide_eq_false (by omega)]
          rfl
        · rw [if_neg (fun h => h3 (by simpa using h.2.2 (by omega))), decide_eq_true (by omega)]
          rfl
    · rw [decide_eq_true h1, decide_eq_false h2, if_neg (fun h => h2 h.2.1)]
      rfl
  · rw [decide_eq_false h1, if_neg (fun h => h1 h.1)]
    rfl

theorem rchk_loop (n : Nat) (X Y : Nat → Int) (hn : n ≤ 256) : ∀ (d i N : Nat), i + d = n → d < N → (∀ j, j < i → pt X Y j) →
    ((∀ j, j < n → pt X Y j) → r10_Check_l0 20000 N n (i : Int) X Y = some (.inl ())) ∧
    ((¬ ∀ j, j < n → pt X Y j) → r10_Check_l0 20000 N n (i : Int) X Y = some (.inr (100, ())))
  | 0, i, N, hd, hf, hp => by
    obtain ⟨f, rfl⟩ : ∃ f, N = f + 1 := ⟨N - 1, by omega⟩
    have e : i = n := by omega
    subst e
    refine ⟨fun _ => ?_, fun h => absurd hp h⟩
    show r10_Check_l0r 20000 (r10_Check_l0 20000 f) i (i : Int) X Y = _
    unfold r10_Check_l0r
    rw [tself]
    rfl
  | d + 1, i, N, hd, hf, hp => by
    obtain ⟨f, rfl⟩ : ∃ f, N = f + 1 := ⟨N - 1, by omega⟩
    have hin : i < n := by omega
    rw [rchk_round f n i X Y hin (by omega)]
    by_cases h : pt X Y i
    · rw [if_pos h]
      refine rchk_loop n X Y hn d (i + 1) f (by omega) (by omega) fun j hj => ?_
      by_cases e : j = i
      · exact e ▸ h
      · exact hp j (by omega)
    · rw [if_neg h]
      exact ⟨fun hh => absurd (hh i hin) h, fun _ => rfl⟩

theorem rtchk_ok (n : Nat) (X Y : Nat → Int) : r10_Check_g 20000 n X Y = some (chk n X Y, ()) := by
  unfold r10_Check_g
  by_cases h1 : ((n : Nat) : Int) < 2
  · rw [decide_eq_true h1, chk_bad (fun h => by have := h.1; omega)]
    rfl
  · rw [decide_eq_false h1]
    by_cases h2 : ((n : Nat) : Int) > 256
    · rw [decide_eq_true h2, chk_bad (fun h => by have := h.2.1; omega)]
      rfl
    · rw [decide_eq_false h2]
      simp only [cond_false]
      have hl := rchk_loop n X Y (by omega) n 0 20000 (by omega) (by omega) (fun j hj => absurd hj (by omega))
      have e0 : ((0 : Nat) : Int) = 0 := rfl
      rw [e0] at hl
      by_cases hp : ∀ j, j < n → pt X Y j
      · rw [hl.1 hp, chk_good ⟨by omega, by omega, hp⟩]
        rfl
      · rw [hl.2 hp, chk_bad (fun h => hp h.2.2)]
        rfl

/-! ### The value at a place -/
/-- Points that rise, one at least. -/
abbrev Gd (n : Nat) (X Y : Nat → Int) : Prop := 1 ≤ n ∧ n ≤ 256 ∧ ∀ j, j < n → pt X Y j
theorem Good.gd {n : Nat} {X Y : Nat → Int} (h : Good n X Y) : Gd n X Y := ⟨by have := h.1; omega, h.2⟩
theorem Gd.step {n : Nat} {X Y : Nat → Int} (h : Gd n X Y) {i : Nat} (hi : i + 1 < n) : X i < X (i + 1) := by
  have := (h.2.2 (i + 1) hi).2.2 (by omega)
  simpa using this

theorem Gd.lt {n : Nat} {X Y : Nat → Int} (h : Gd n X Y) {i j : Nat} (hij : i < j) (hj : j < n) : X i < X j := by
  induction j with
  | zero => omega
  | succ k ih =>
    have hs := h.step hj
    by_cases e : i = k
    · subst e; exact hs
    · exact Int.lt_trans (ih (by omega) (by omega)) hs

theorem Gd.le {n : Nat} {X Y : Nat → Int} (h : Gd n X Y) {i j : Nat} (hij : i ≤ j) (hj : j < n) : X i ≤ X j := by
  by_cases e : i = j
  · subst e; exact Int.le_refl _
  · exact Int.le_of_lt (h.lt (by omega) hj)

/-- Between two points. -/
def piece (X Y : Nat → Int) (i : Nat) (x : Int) : Int := Y i + nr ((x - X i) * (Y (i + 1) - Y i)) (X (i + 1) - X i)

/-- The value at x, of the points 0 to m. -/
def V (X Y : Nat → Int) (x : Int) : Nat → Int
  | 0 => Y 0
  | m + 1 => if X (m + 1) ≤ x then Y (m + 1) else if X m ≤ x then piece X Y m x else V X Y x m

theorem V_high {X Y : Nat → Int} {x : Int} {m : Nat} (h : X m ≤ x) : V X Y x m = Y m := by
  cases m with
  | zero => rfl
  | succ k => exact if_pos h

theorem V_low {n : Nat} {X Y : Nat → Int} (hg : Gd n X Y) {x : Int} (h : x < X 0) : ∀ {m : Nat}, m < n → V X Y x m = Y 0
  | 0, _ => rfl
  | k + 1, hk => by
    have h1 := hg.le (Nat.zero_le (k + 1)) hk
    have h2 := hg.le (Nat.zero_le k) (show k < n by omega)
    unfold V
    rw [if_neg (by omega), if_neg (by omega)]
    exact V_low hg h (by omega)

theorem V_mid {n : Nat} {X Y : Nat → Int} (hg : Gd n X Y) {x : Int} {i : Nat} (h : X i ≤ x) (h' : x < X (i + 1)) : ∀ {m : Nat}, i < m → m < n → V X Y x m = piece X Y i x
  | 0, hi, _ => absurd hi (by omega)
  | k + 1, hi, hk => by
    have h1 := hg.le (show i + 1 ≤ k + 1 by omega) hk
    unfold V
    rw [if_neg (by omega)]
    by_cases e : i = k
    · subst e; rw [if_pos h]
    · have h2 := hg.le (show i + 1 ≤ k by omega) (show k < n by omega)
      rw [if_neg (by omega)]
      exact V_mid hg h h' (by omega) (by omega)

theorem V_at {n : Nat} {X Y : Nat → Int} (hg : Gd n X Y) {i m : Nat} (hi : i ≤ m) (hm : m < n) : V X Y (X i) m = Y i := by
  by_cases e : i = m
  · subst e; exact V_high (Int.le_refl _)
  · have hs := hg.step (show i + 1 < n by omega)
    rw [V_mid hg (Int.le_refl _) hs (by omega) hm]
    unfold piece
    rw [Int.sub_self, Int.zero_mul, nr_zero (by omega)]
    omega

/-- A part of the way goes up, or down, no further than the whole of it. -/
theorem nr_part {t d D : Int} (h0 : 0 ≤ t) (h1 : t ≤ d) (hd : 0 < d) : (0 ≤ D → 0 ≤ nr (t * D) d ∧ nr (t * D) d ≤ D) ∧ (D ≤ 0 → D ≤ nr (t * D) d ∧ nr (t * D) d ≤ 0) := by
  have z : nr 0 d = 0 := nr_zero hd
  have o : nr (d * D) d = D := nr_mul hd
  refine ⟨fun h => ⟨?_, ?_⟩, fun h => ⟨?_, ?_⟩⟩
  · have := nr_mono hd (show (0 : Int) ≤ t * D from Int.mul_nonneg h0 h)
    omega
  · have := nr_mono hd (show t * D ≤ d * D from Int.mul_le_mul_of_nonneg_right h1 h)
    omega
  · have := nr_mono hd (show d * D ≤ t * D from Int.mul_le_mul_of_nonpos_right h1 h)
    omega
  · have := nr_mono hd (show t * D ≤ 0 from Int.mul_nonpos_of_nonneg_of_nonpos h0 h)
    omega

theorem piece_between {n : Nat} {X Y : Nat → Int} (hg : Gd n X Y) {i : Nat} (hi : i + 1 < n) {x : Int} (h : X i ≤ x) (h' : x ≤ X (i + 1)) :
    (Y i ≤ Y (i + 1) → Y i ≤ piece X Y i x ∧ piece X Y i x ≤ Y (i + 1)) ∧ (Y (i + 1) ≤ Y i → Y (i + 1) ≤ piece X Y i x ∧ piece X Y i x ≤ Y i) := by
  have hs := hg.step hi
  have hp := nr_part (D := Y (i + 1) - Y i) (show 0 ≤ x - X i by omega) (show x - X i ≤ X (i + 1) - X i by omega) (by omega)
  unfold piece
  generalize nr ((x - X i) * (Y (i + 1) - Y i)) (X (i + 1) - X i) = q at *
  exact ⟨fun h => by have := hp.1 (by omega); omega, fun h => by have := hp.2 (by omega); omega⟩

theorem piece_wi {n : Nat} {X Y : Nat → Int} (hg : Gd n X Y) {i : Nat} (hi : i + 1 < n) {x : Int} (h : X i ≤ x) (h' : x ≤ X (i + 1)) : wi (piece X Y i x) := by
  have h1 := (hg.2.2 i (by omega)).2.1
  have h2 := (hg.2.2 (i + 1) hi).2.1
  have hp := piece_between hg hi h h'
  rcases Int.le_total (Y i) (Y (i + 1)) with h3 | h3
  · have := hp.1 h3; unfold wi at *; omega
  · have := hp.2 h3; unfold wi at *; omega

theorem V_wi {n : Nat} {X Y : Nat → Int} (hg : Gd n X Y) (x : Int) : ∀ {m : Nat}, m < n → wi (V X Y x m)
  | 0, h => (hg.2.2 0 h).2.1
  | k + 1, h => by
    unfold V
    split
    · exact (hg.2.2 _ h).2.1
    · split
      · exact piece_wi hg h ‹_› (by omega)
      · exact V_wi hg x (by omega)

/-- The sizes that a piece's product and quotient have. -/
theorem piece_size {n : Nat} {X Y : Nat → Int} (hg : Gd n X Y) {i : Nat} (hi : i + 1 < n) {x : Int} (h : X i ≤ x) (h' : x < X (i + 1)) :
    (0 ≤ x - X i ∧ x - X i < 4294967296) ∧ (-4294967296 ≤ Y (i + 1) - Y i ∧ Y (i + 1) - Y i ≤ 4294967296) ∧ (0 < X (i + 1) - X i ∧ X (i + 1) - X i ≤ 4294967296) ∧
    ab ((x - X i) * (Y (i + 1) - Y i)) < 18446744073709551616 ∧
    (-4294967296 ≤ nr ((x - X i) * (Y (i + 1) - Y i)) (X (i + 1) - X i) ∧ nr ((x - X i) * (Y (i + 1) - Y i)) (X (i + 1) - X i) ≤ 4294967296) := by
  have h1 := hg.2.2 i (by omega)
  have h2 := hg.2.2 (i + 1) hi
  have hp := nr_part (D := Y (i + 1) - Y i) (show 0 ≤ x - X i by omega) (show x - X i ≤ X (i + 1) - X i by omega) (by omega)
  unfold pt wi at h1 h2
  refine ⟨by omega, by omega, by omega, ?_, ?_⟩
  · have h3 := ab_mul_le (x := x - X i) (y := Y (i + 1) - Y i) (M := 4294967295) (N := 4294967296) (ab_bound (by omega) (by omega)) (ab_bound (by omega) (by omega)) (by omega)
    omega
  · generalize nr ((x - X i) * (Y (i + 1) - Y i)) (X (i + 1) - X i) = q at *
    rcases Int.le_total 0 (Y (i + 1) - Y i) with h3 | h3
    · have := hp.1 h3; omega
    · have := hp.2 h3; omega

theorem mid_ok {i j : Int} (hi : 0 ≤ i) (hj : 0 ≤ j) (h : i + j < 9223372036854775808) : wi64 (shR .u64 (wu64 (wi64 (i + j))) 1) = (i + j) / 2 := by
  have e : shR .u64 (i + j) 1 = (i + j).fdiv 2 := rfl
  rw [wi64_id (x := i + j) (by omega) (by omega), wu64_id (by omega) (by omega), e, Int.fdiv_eq_ediv_of_nonneg _ (by omega), wi64_id (by omega) (by omega)]

theorem good_congr {n : Nat} {X Y X' Y' : Nat → Int} (h : ∀ j, j < n → X' j = X j ∧ Y' j = Y j) (hg : Good n X Y) : Good n X' Y' := by
  refine ⟨hg.1, hg.2.1, fun j hj => ?_⟩
  have h1 := hg.2.2 j hj
  have h2 := h j hj
  refine ⟨by rw [h2.1]; exact h1.1, by rw [h2.2]; exact h1.2.1, fun h0 => ?_⟩
  rw [h2.1, (h (j - 1) (by omega)).1]
  exact h1.2.2 h0

theorem chk_congr {n : Nat} {X Y X' Y' : Nat → Int} (h : ∀ j, j < n → X' j = X j ∧ Y' j = Y j) : chk n X' Y' = chk n X Y := by
  by_cases hg : Good n X Y
  · rw [chk_good hg, chk_good (good_congr h hg)]
  · rw [chk_bad hg, chk_bad (fun h' => hg (good_congr (fun j hj => ⟨(h j hj).1.symm, (h j hj).2.symm⟩) h'))]

theorem V_congr {X Y X' Y' : Nat → Int} {x : Int} : ∀ {m : Nat}, (∀ j, j ≤ m → X' j = X j ∧ Y' j = Y j) → V X' Y' x m = V X Y x m
  | 0, h => (h 0 (Nat.le_refl _)).2
  | m + 1, h => by
    unfold V piece
    rw [(h (m + 1) (Nat.le_refl _)).1, (h (m + 1) (Nat.le_refl _)).2, (h m (by omega)).1, (h m (by omega)).2, V_congr fun j hj => h j (by omega)]

/-- How many points are not behind x: found by halves. -/
theorem search_ok (n : Nat) (x : Int) (X Y : Nat → Int) (hn : n ≤ 256) (hg : ∀ i j, i < j → j < n → X i < X j) : ∀ (N i j : Nat), j - i < N → i ≤ j → j ≤ n →
    (∀ q, q < i → X q ≤ x) → (∀ q, j ≤ q → q < n → x < X q) →
    ∃ k : Nat, k ≤ n ∧ (∀ q, q < k → X q ≤ x) ∧ (∀ q, k ≤ q → q < n → x < X q) ∧ table_value_l0 20000 N (i : Int) (j : Int) n x X Y = some ((k : Int), n, x, X, Y, ())
  | 0, _, _, h, _, _, _, _ => absurd h (by omega)
  | N + 1, i, j, hN, hij, hjn, hlo, hhi => by
    have e0 : table_value_l0 20000 (N + 1) (i : Int) (j : Int) n x X Y = table_value_l0r 20000 (table_value_l0 20000 N) (i : Int) (j : Int) n x X Y := rfl
    rw [e0]
    unfold table_value_l0r
    by_cases h : i < j
    · have hm := mid_ok (i := (i : Int)) (j := (j : Int)) (by omega) (by omega) (by omega)
      obtain ⟨m, hm2⟩ : ∃ m : Nat, ((i : Int) + (j : Int)) / 2 = (m : Int) := ⟨(i + j) / 2, by omega⟩
      rw [hm2] at hm
      have hmi : i ≤ m ∧ m < j := by omega
      rw [hm, decide_eq_true (show (i : Int) < (j : Int) by omega)]
      simp only [cond_true, tnn, tlt (show m < n by omega), Bool.and_self, Int.toNat_natCast]
      by_cases hx : X m > x
      · rw [decide_eq_true hx]
        simp only [Bool.not_true, cond_false]
        refine search_ok n x X Y hn hg N i m (by omega) (by omega) (by omega) hlo fun q hq hqn => ?_
        by_cases e : q = m
        · subst e; exact hx
        · have := hg m q (by omega) hqn; omega
      · rw [decide_eq_false hx, tup (by omega)]
        simp only [Bool.not_false, cond_true]
        refine search_ok n x X Y hn hg N (m + 1) j (by omega) (by omega) hjn (fun q hq => ?_) hhi
        by_cases e : q = m
        · subst e; omega
        · have := hg q m (by omega) (by omega); omega
    · have e : i = j := by omega
      subst e
      rw [decide_eq_false (by omega)]
      exact ⟨i, hjn, hlo, hhi, rfl⟩

theorem piece_ok {n : Nat} {X Y : Nat → Int} (hg : Gd n X Y) {i : Nat} (hi : i + 1 < n) {x : Int} (h : X i ≤ x) (h' : x < X (i + 1)) (K : Nat) :
    table_piece_at_g K (X i) (Y i) (X (i + 1)) (Y (i + 1)) x = some (piece X Y i x, ()) := by
  obtain ⟨s1, s2, s3, s4, s5⟩ := piece_size hg hi h h'
  have hw := piece_wi hg hi h (Int.le_of_lt h')
  unfold wi at hw
  unfold table_piece_at_g
  rw [wi64_id (x := x - X i) (by omega) (by omega), wi64_id (x := Y (i + 1) - Y i) (by omega) (by omega), wi64_id (x := X (i + 1) - X i) (by omega) (by omega),
    mulnear_low K _ _ _ (by omega) (by omega) (by omega) (by omega) (by omega) (by omega) s4, fit_ok (by omega) (by omega)]
  simp only [Option.bind_some]
  have e : Y i + nr ((x - X i) * (Y (i + 1) - Y i)) (X (i + 1) - X i) = piece X Y i x := rfl
  rw [e, wi64_id (by omega) (by omega)]

theorem value_ok {n : Nat} {X Y : Nat → Int} (hg : Good n X Y) (x : Int) : table_value_g 20000 n x X Y = some (V X Y x (n - 1), ()) := by
  unfold table_value_g
  have h2 := hg.1
  have h3 := hg.2.1
  obtain ⟨k, hk, hlo, hhi, hr⟩ := search_ok n x X Y hg.2.1 (fun i j hij hj => hg.gd.lt hij hj) 20000 0 n (by omega) (by omega) (by omega) (fun q hq => absurd hq (by omega)) (fun q hq hq' => absurd hq (by omega))
  have e0 : ((0 : Nat) : Int) = 0 := rfl
  rw [e0] at hr
  rw [hr]
  simp only [Option.bind_some]
  by_cases hk0 : k = 0
  · subst hk0
    have d1 : (((0 : Nat) : Int) == 0) = true := rfl
    rw [d1, decide_eq_true (show (0 : Int) < (n : Int) by omega), V_low hg.gd (hhi 0 (by omega) (by omega)) (by omega)]
    rfl
  · obtain ⟨i, rfl⟩ : ∃ i, k = i + 1 := ⟨k - 1, by omega⟩
    have d1 : (((i + 1 : Nat) : Int) == 0) = false := by simp; omega
    rw [d1, tdn (show i < 1000000 by omega)]
    simp only [cond_false, tnn, Bool.true_and, Int.toNat_natCast]
    by_cases hkn : i + 1 = n
    · have d2 : (((i + 1 : Nat) : Int) == (n : Int)) = true := by simp; omega
      rw [d2, tlt (show i < n by omega), V_high (m := n - 1) (by have := hlo i (by omega); rw [show n - 1 = i by omega]; exact this)]
      simp only [cond_true]
      rw [show n - 1 = i by omega]
    · have d2 : (((i + 1 : Nat) : Int) == (n : Int)) = false := by simp; omega
      rw [d2, tlt (show i < n by omega), tlt (show i + 1 < n by omega)]
      simp only [cond_true, cond_false]
      have h4 := hlo i (by omega)
      have h5 := hhi (i + 1) (by omega) (by omega)
      rw [piece_ok hg.gd (by omega) h4 h5, V_mid hg.gd h4 h5 (by omega) (by omega)]
      rfl

theorem At_ok (n : Nat) (x : Int) (X Y : Nat → Int) : table_At_g 20000 n x X Y = some (if chk n X Y = 0 then V X Y x (n - 1) else 0, chk n X Y, ()) := by
  unfold table_At_g
  rw [check_ok]
  simp only [Option.bind_some]
  by_cases h : Good n X Y
  · rw [chk_good h, value_ok h]
    rfl
  · rw [chk_bad h]
    rfl

theorem rvalue_loop {n : Nat} {X Y : Nat → Int} (hg : Good n X Y) (x : Int) (hx : x < X (n - 1)) : ∀ (d i N : Nat), i + d + 1 = n → d < N → X i ≤ x →
    r10_value_l0 20000 N n x ((n - 1 : Nat) : Int) (i : Int) X Y = some (.inr (V X Y x (n - 1), ()))
  | 0, i, N, hd, hf, hi => by
    exfalso
    rw [show n - 1 = i by omega] at hx
    omega
  | d + 1, i, N, hd, hf, hi => by
    obtain ⟨f, rfl⟩ : ∃ f, N = f + 1 := ⟨N - 1, by omega⟩
    have h3 := hg.2.1
    have e0 : r10_value_l0 20000 (f + 1) n x ((n - 1 : Nat) : Int) (i : Int) X Y = r10_value_l0r 20000 (r10_value_l0 20000 f) n x ((n - 1 : Nat) : Int) (i : Int) X Y := rfl
    rw [e0]
    unfold r10_value_l0r
    rw [tlt (show i < n - 1 by omega), tup (show i < 1000000 by omega)]
    simp only [cond_true, tnn, tlt (show i < n by omega), tlt (show i + 1 < n by omega), Bool.and_self, Int.toNat_natCast]
    rw [decide_eq_true (show x ≥ X i from hi)]
    simp only [cond_true]
    by_cases h : x < X (i + 1)
    · rw [decide_eq_true h]
      obtain ⟨s1, s2, s3, s4, s5⟩ := piece_size hg.gd (show i + 1 < n by omega) hi h
      have hw := piece_wi hg.gd (show i + 1 < n by omega) hi (Int.le_of_lt h)
      unfold wi at hw
      obtain ⟨b, D, k1, k2⟩ := rmulnear_ok (x - X i) (Y (i + 1) - Y i) (X (i + 1) - X i) (by omega) (by omega) (by omega) (by omega) (by omega) (by omega)
      rw [wi64_id (x := x - X i) (by omega) (by omega), wi64_id (x := Y (i + 1) - Y i) (by omega) (by omega), wi64_id (x := X (i + 1) - X i) (by omega) (by omega), k1]
      simp only [cond_true, Option.bind_some]
      rw [k2, fit_ok (by omega) (by omega)]
      simp only [Option.bind_some]
      have e : Y i + nr ((x - X i) * (Y (i + 1) - Y i)) (X (i + 1) - X i) = piece X Y i x := rfl
      rw [e, wi64_id (by omega) (by omega), V_mid hg.gd hi h (by omega) (by omega)]
    · rw [decide_eq_false h]
      exact rvalue_loop hg x hx d (i + 1) f (by omega) (by omega) (by omega)

theorem rvalue_ok {n : Nat} {X Y : Nat → Int} (hg : Good n X Y) (x : Int) : r10_value_g 20000 n x X Y = some (V X Y x (n - 1), ()) := by
  unfold r10_value_g
  have h2 := hg.1
  have h3 := hg.2.1
  have e1 : wi64 ((n : Int) - 1) = ((n - 1 : Nat) : Int) := by rw [wi64_id (by omega) (by omega)]; omega
  rw [decide_eq_true (show (0 : Int) < (n : Int) by omega), e1]
  simp only [cond_true, tnn, tlt (show n - 1 < n by omega), Bool.and_self, Int.toNat_natCast]
  by_cases h : x ≤ X 0
  · rw [decide_eq_true h]
    by_cases h' : x = X 0
    · rw [h', V_at hg.gd (Nat.zero_le _) (by omega)]
      rfl
    · rw [V_low hg.gd (show x < X 0 by omega) (by omega)]
      rfl
  · rw [decide_eq_false h]
    by_cases h' : x ≥ X (n - 1)
    · rw [decide_eq_true h', V_high h']
      rfl
    · rw [decide_eq_false h']
      have hl := rvalue_loop hg x (by omega) (n - 1) 0 20000 (by omega) (by omega) (by omega)
      have e0 : ((0 : Nat) : Int) = 0 := rfl
      rw [e0] at hl
      rw [hl]
      rfl

theorem rAt_ok (n : Nat) (x : Int) (X Y : Nat → Int) : r10_At_g 20000 n x X Y = some (if chk n X Y = 0 then V X Y x (n - 1) else 0, chk n X Y, ()) := by
  unfold r10_At_g
  rw [rtchk_ok]
  simp only [Option.bind_some]
  by_cases h : Good n X Y
  · rw [chk_good h, rvalue_ok h]
    rfl
  · rw [chk_bad h]
    rfl

/-! ### Tables that rise -/
abbrev Up (n : Nat) (Y : Nat → Int) : Prop := ∀ i, i + 1 < n → Y i ≤ Y (i + 1)

theorem Up.le {n : Nat} {Y : Nat → Int} (h : Up n Y) {i j : Nat} (hij : i ≤ j) (hj : j < n) : Y i ≤ Y j := by
  induction j with
  | zero => rw [show i = 0 by omega]; exact Int.le_refl _
  | succ k ih =>
    by_cases e : i = k + 1
    · subst e; exact Int.le_refl _
    · exact Int.le_trans (ih (by omega) (by omega)) (h k hj)

theorem V_le {n : Nat} {X Y : Nat → Int} (hg : Gd n X Y) (hu : Up n Y) (x : Int) : ∀ {m : Nat}, m < n → V X Y x m ≤ Y m
  | 0, _ => Int.le_refl _
  | k + 1, h => by
    unfold V
    split
    · exact Int.le_refl _
    · split
      · exact ((piece_between hg h ‹_› (by omega)).1 (hu k h)).2
      · exact Int.le_trans (V_le hg hu x (by omega)) (hu k h)

theorem V_mono {n : Nat} {X Y : Nat → Int} (hg : Gd n X Y) (hu : Up n Y) {x y : Int} (hxy : x ≤ y) : ∀ {m : Nat}, m < n → V X Y x m ≤ V X Y y m
  | 0, _ => Int.le_refl _
  | k + 1, h => by
    have hs := hg.step h
    by_cases h1 : X (k + 1) ≤ x
    · rw [V_high h1, V_high (Int.le_trans h1 hxy)]; exact Int.le_refl _
    · by_cases h2 : X (k + 1) ≤ y
      · rw [V_high h2]; exact V_le hg hu x h
      · unfold V
        rw [if_neg h1, if_neg h2]
        by_cases h3 : X k ≤ x
        · rw [if_pos h3, if_pos (Int.le_trans h3 hxy)]
          unfold piece
          have := nr_mono (a := (x - X k) * (Y (k + 1) - Y k)) (a' := (y - X k) * (Y (k + 1) - Y k)) (b := X (k + 1) - X k) (by omega)
            (Int.mul_le_mul_of_nonneg_right (by omega) (by have := hu k h; omega))
          omega
        · rw [if_neg h3]
          by_cases h4 : X k ≤ y
          · rw [if_pos h4]
            exact Int.le_trans (V_le hg hu x (by omega)) ((piece_between hg h h4 (by omega)).1 (hu k h)).1
          · rw [if_neg h4]
            exact V_mono hg hu hxy (by omega)

noncomputable def rs (n : Nat) (X Y : Nat → Int) : Bool := @decide (Good n X Y ∧ Up n Y) (Classical.propDecidable _)

theorem rs_true {n : Nat} {X Y : Nat → Int} (h : rs n X Y = true) : Good n X Y ∧ Up n Y := by unfold rs at h; exact @of_decide_eq_true _ (Classical.propDecidable _) h
theorem rs_of {n : Nat} {X Y : Nat → Int} (h : Good n X Y) (h' : Up n Y) : rs n X Y = true := by unfold rs; exact @decide_eq_true _ (Classical.propDecidable _) ⟨h, h'⟩
theorem rs_not {n : Nat} {X Y : Nat → Int} (h : ¬ (Good n X Y ∧ Up n Y)) : rs n X Y = false := by unfold rs; exact @decide_eq_false _ (Classical.propDecidable _) h
theorem rs_false {n : Nat} {X Y : Nat → Int} (h : rs n X Y = false) : ¬ (Good n X Y ∧ Up n Y) := by unfold rs at h; exact @of_decide_eq_false _ (Classical.propDecidable _) h


/-! ### Going back -/
/-- The first place whose value is not below y, from the first point to the last. -/
def First (n : Nat) (X Y : Nat → Int) (y r : Int) : Prop :=
  X 0 ≤ r ∧ r ≤ X (n - 1) ∧ (∀ q, X 0 ≤ q → q < r → V X Y q (n - 1) < y) ∧ ∀ q, r ≤ q → q < X (n - 1) → y ≤ V X Y q (n - 1)

theorem First.one {n : Nat} {X Y : Nat → Int} {y r r' : Int} (h : First n X Y y r) (h' : First n X Y y r') : r = r' := by
  obtain ⟨a1, a2, a3, a4⟩ := h
  obtain ⟨b1, b2, b3, b4⟩ := h'
  rcases Int.lt_trichotomy r r' with c | c | c
  · have u1 := b3 r a1 c
    have u2 := a4 r (Int.le_refl _) (by omega)
    omega
  · exact c
  · have u1 := a3 r' b1 c
    have u2 := b4 r' (Int.le_refl _) (by omega)
    omega

end Go.Proofs.YtjmbhhinmbgneaaGreat
