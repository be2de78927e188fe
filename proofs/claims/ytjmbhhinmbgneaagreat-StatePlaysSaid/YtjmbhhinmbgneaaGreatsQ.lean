/-
  Grids: what the printed functions compute, as a plain function of the numbers.
-/
import Derived.Test.YtjmbhhinmbgneaaGreatsP
namespace Go.Proofs.YtjmbhhinmbgneaaGreat
open Go.Sy
set_option maxHeartbeats 1000000

noncomputable def dc (p : Prop) : Bool := @decide p (Classical.propDecidable p)
theorem dc_t {p : Prop} (h : p) : dc p = true := by unfold dc; exact @decide_eq_true _ (Classical.propDecidable _) h
theorem dc_f {p : Prop} (h : ¬ p) : dc p = false := by unfold dc; exact @decide_eq_false _ (Classical.propDecidable _) h
theorem of_dc {p : Prop} (h : dc p = true) : p := by unfold dc at h; exact @of_decide_eq_true _ (Classical.propDecidable _) h
theorem of_dcf {p : Prop} (h : dc p = false) : ¬ p := by unfold dc at h; exact @of_decide_eq_false _ (Classical.propDecidable _) h

/-- All from -2^31 to 2^31? Each above the one ahead? -/
abbrev inW (n : Nat) (f : Nat → Int) : Prop := ∀ j, j < n → wi (f j)
abbrev incr (n : Nat) (f : Nat → Int) : Prop := ∀ j, j + 1 < n → f j < f (j + 1)

theorem within1_ok (K : Nat) (a : Int) : grid_within_1_g K a = some (decide (¬ wi a), ()) := by
  unfold grid_within_1_g
  by_cases h1 : a < -2147483648
  · rw [decide_eq_true h1, decide_eq_true (show ¬ wi a by intro h; omega)]; rfl
  · rw [decide_eq_false h1]
    by_cases h2 : a > 2147483648
    · rw [decide_eq_true h2, decide_eq_true (show ¬ wi a by intro h; omega)]; rfl
    · rw [decide_eq_false h2, decide_eq_false (show ¬ ¬ wi a by intro h; exact h ⟨by omega, by omega⟩)]; rfl

theorem gw_loop (n : Nat) (f : Nat → Int) (hn : n ≤ 5000) : ∀ (d i N : Nat), i + d = n → d < N → (∀ j, j < i → wi (f j)) →
    (inW n f → grid_within_l0 20000 N n (n : Int) (i : Int) f = some (.inl ())) ∧ (¬ inW n f → ∃ j : Nat, grid_within_l0 20000 N n (n : Int) (i : Int) f = some (.inr ((j : Int), ())))
  | 0, i, N, hd, hf, hp => by
    obtain ⟨g, rfl⟩ : ∃ g, N = g + 1 := ⟨N - 1, by omega⟩
    have e : i = n := by omega
    subst e
    refine ⟨fun _ => ?_, fun h => absurd hp h⟩
    show grid_within_l0r 20000 (grid_within_l0 20000 g) i (i : Int) (i : Int) f = _
    unfold grid_within_l0r
    rw [tself]
    rfl
  | d + 1, i, N, hd, hf, hp => by
    obtain ⟨g, rfl⟩ : ∃ g, N = g + 1 := ⟨N - 1, by omega⟩
    have hin : i < n := by omega
    have e0 : grid_within_l0 20000 (g + 1) n (n : Int) (i : Int) f = grid_within_l0r 20000 (grid_within_l0 20000 g) n (n : Int) (i : Int) f := rfl
    rw [e0]
    unfold grid_within_l0r
    simp only [tlt hin, tnn, Bool.and_self, cond_true, Int.toNat_natCast, within1_ok, Option.bind_some, tup (show i < 1000000 by omega)]
    by_cases h : wi (f i)
    · rw [decide_eq_false (show ¬ ¬ wi (f i) from fun k => k h)]
      refine gw_loop n f hn d (i + 1) g (by omega) (by omega) fun j hj => ?_
      by_cases e : j = i
      · exact e ▸ h
      · exact hp j (by omega)
    · rw [decide_eq_true h]
      exact ⟨fun hh => absurd (hh i hin) h, fun _ => ⟨i, rfl⟩⟩

theorem gwithin_ok (n : Nat) (f : Nat → Int) (hn : n ≤ 5000) : grid_within_g 20000 n f = some (dc (inW n f), ()) := by
  unfold grid_within_g
  have hl := gw_loop n f hn n 0 20000 (by omega) (by omega) (fun j hj => absurd hj (by omega))
  have e0 : ((0 : Nat) : Int) = 0 := rfl
  rw [e0] at hl
  by_cases h : inW n f
  · rw [hl.1 h, dc_t h]; rfl
  · obtain ⟨j, hj⟩ := hl.2 h
    rw [hj, dc_f h]
    simp only [Option.bind_some, Sum.elim_inr]
    rw [decide_eq_true (show (j : Int) ≥ 0 by omega)]
    rfl

theorem gr_loop (n : Nat) (f : Nat → Int) (hn : n ≤ 5000) : ∀ (d i N : Nat), i + d = n → d < N → (∀ j, j + 1 < i → f j < f (j + 1)) →
    (incr n f → grid_rising_l0 20000 N n n (n : Int) (i : Int) f = some (.inl (n, f, ()))) ∧ (¬ incr n f → grid_rising_l0 20000 N n n (n : Int) (i : Int) f = some (.inr (false, ())))
  | 0, i, N, hd, hf, hp => by
    obtain ⟨g, rfl⟩ : ∃ g, N = g + 1 := ⟨N - 1, by omega⟩
    have e : i = n := by omega
    subst e
    refine ⟨fun _ => ?_, fun h => absurd hp h⟩
    show grid_rising_l0r 20000 (grid_rising_l0 20000 g) i i (i : Int) (i : Int) f = _
    unfold grid_rising_l0r
    rw [tself]
    rfl
  | d + 1, i, N, hd, hf, hp => by
    obtain ⟨g, rfl⟩ : ∃ g, N = g + 1 := ⟨N - 1, by omega⟩
    have hin : i < n := by omega
    have e0 : grid_rising_l0 20000 (g + 1) n n (n : Int) (i : Int) f = grid_rising_l0r 20000 (grid_rising_l0 20000 g) n n (n : Int) (i : Int) f := rfl
    rw [e0]
    unfold grid_rising_l0r
    simp only [tlt hin, tnn, Bool.and_self, cond_true, Int.toNat_natCast, tup (show i < 1000000 by omega)]
    cases i with
    | zero =>
      have e1 : decide (((0 : Nat) : Int) > 0) = false := rfl
      rw [e1]
      exact gr_loop n f hn d 1 g (by omega) (by omega) fun j hj => absurd hj (by omega)
    | succ k =>
      have e1 : decide (((k + 1 : Nat) : Int) > 0) = true := decide_eq_true (by omega)
      rw [e1, tdn (show k < 1000000 by omega)]
      simp only [cond_true, tnn, tlt (show k < n by omega), Bool.and_self, Int.toNat_natCast]
      by_cases h : f k < f (k + 1)
      · rw [decide_eq_false (show ¬ f (k + 1) ≤ f k by omega)]
        refine gr_loop n f hn d (k + 1 + 1) g (by omega) (by omega) fun j hj => ?_
        by_cases e : j = k
        · exact e ▸ h
        · exact hp j (by omega)
      · rw [decide_eq_true (show f (k + 1) ≤ f k by omega)]
        exact ⟨fun hh => absurd (hh k hin) h, fun _ => rfl⟩

theorem grising_ok (n : Nat) (f : Nat → Int) (hn : n ≤ 5000) : grid_rising_g 20000 n f = some (dc (incr n f ∧ inW n f), ()) := by
  unfold grid_rising_g
  have hl := gr_loop n f hn n 0 20000 (by omega) (by omega) (fun j hj => absurd hj (by omega))
  have e0 : ((0 : Nat) : Int) = 0 := rfl
  rw [e0] at hl
  by_cases h : incr n f
  · rw [hl.1 h]
    simp only [Option.bind_some, Sum.elim_inl, gwithin_ok n f hn]
    by_cases h' : inW n f
    · rw [dc_t h', dc_t ⟨h, h'⟩]
    · rw [dc_f h', dc_f (fun k => h' k.2)]
  · rw [hl.2 h, dc_f (fun k => h k.1)]
    rfl

/-! ### A grid -/
structure GGood (n m p : Nat) (X Y Z : Nat → Int) : Prop where
  n2 : 2 ≤ n
  nM : n ≤ 256
  m1 : 1 ≤ m
  mM : m ≤ 256
  nm : n * m ≤ 4096
  pp : p = n * m
  xi : incr n X
  xw : inW n X
  yi : incr m Y
  yw : inW m Y
  zw : inW p Z

noncomputable def gchk (n m p : Nat) (X Y Z : Nat → Int) : Int := by classical exact if GGood n m p X Y Z then 0 else 110
theorem gchk_good {n m p : Nat} {X Y Z : Nat → Int} (h : GGood n m p X Y Z) : gchk n m p X Y Z = 0 := by unfold gchk; exact if_pos h
theorem gchk_bad {n m p : Nat} {X Y Z : Nat → Int} (h : ¬ GGood n m p X Y Z) : gchk n m p X Y Z = 110 := by unfold gchk; exact if_neg h

theorem nm_wi {n m : Nat} (hn : n ≤ 256) (hm : m ≤ 256) : n * m ≤ 65536 ∧ wi64 (((n : Nat) : Int) * ((m : Nat) : Int)) = ((n * m : Nat) : Int) := by
  have h := Nat.mul_le_mul hn hm
  have e : ((n : Nat) : Int) * ((m : Nat) : Int) = ((n * m : Nat) : Int) := by simp
  refine ⟨by omega, ?_⟩
  rw [e, wi64_id (by omega) (by omega)]

theorem gcheck_ok (n m p : Nat) (X Y Z : Nat → Int) : grid_Check_g 20000 n m p X Y Z = some (gchk n m p X Y Z, ()) := by
  unfold grid_Check_g
  by_cases h1 : ((n : Nat) : Int) < 2
  · rw [decide_eq_true h1, gchk_bad (fun h => by have := h.n2; omega)]; rfl
  rw [decide_eq_false h1]
  by_cases h2 : ((n : Nat) : Int) > 256
  · rw [decide_eq_true h2, gchk_bad (fun h => by have := h.nM; omega)]; rfl
  rw [decide_eq_false h2]
  by_cases h3 : ((m : Nat) : Int) < 1
  · rw [decide_eq_true h3, gchk_bad (fun h => by have := h.m1; omega)]; rfl
  rw [decide_eq_false h3]
  by_cases h4 : ((m : Nat) : Int) > 256
  · rw [decide_eq_true h4, gchk_bad (fun h => by have := h.mM; omega)]; rfl
  rw [decide_eq_false h4]
  obtain ⟨g1, g2⟩ := nm_wi (n := n) (m := m) (by omega) (by omega)
  simp only [cond_false, g2]
  by_cases h5 : ((n * m : Nat) : Int) > 4096
  · rw [decide_eq_true h5, gchk_bad (fun h => by have := h.nm; omega)]; rfl
  rw [decide_eq_false h5]
  by_cases h6 : p = n * m
  · have d : (((p : Nat) : Int) != ((n * m : Nat) : Int)) = false := by rw [h6]; simp
    rw [d, grising_ok n X (by omega), grising_ok m Y (by omega), gwithin_ok p Z (by omega)]
    simp only [cond_false, Option.bind_some]
    by_cases h7 : incr n X ∧ inW n X
    · rw [dc_t h7]
      by_cases h8 : incr m Y ∧ inW m Y
      · rw [dc_t h8]
        by_cases h9 : inW p Z
        · rw [dc_t h9, gchk_good ⟨by omega, by omega, by omega, by omega, by omega, h6, h7.1, h7.2, h8.1, h8.2, h9⟩]; rfl
        · rw [dc_f h9, gchk_bad (fun h => h9 h.zw)]; rfl
      · rw [dc_f h8, gchk_bad (fun h => h8 ⟨h.yi, h.yw⟩)]; rfl
    · rw [dc_f h7, gchk_bad (fun h => h7 ⟨h.xi, h.xw⟩)]; rfl
  · have d : (((p : Nat) : Int) != ((n * m : Nat) : Int)) = true := by simp only [bne_iff_ne, ne_eq]; omega
    rw [d, gchk_bad (fun h => h6 h.pp)]
    rfl

/-- What stands at an X. -/
def rowZ (Z : Nat → Int) (m i : Nat) : Nat → Int := fun j => Z (j + i * m)
/-- The column at a y. -/
def col (Y Z : Nat → Int) (m : Nat) (y : Int) (i : Nat) : Int := V Y (rowZ Z m i) y (m - 1)

theorem GGood.row {n m p : Nat} {X Y Z : Nat → Int} (h : GGood n m p X Y Z) {i : Nat} (hi : i < n) : Gd m Y (rowZ Z m i) := by
  refine ⟨h.m1, h.mM, fun j hj => ⟨h.yw j hj, ?_, fun h0 => ?_⟩⟩
  · have h1 : (i + 1) * m ≤ n * m := Nat.mul_le_mul_right m hi
    have h2 : (i + 1) * m = i * m + m := Nat.succ_mul i m
    exact h.zw (j + i * m) (by rw [h.pp]; omega)
  · have := h.yi (j - 1) (by omega)
    rwa [show j - 1 + 1 = j by omega] at this

theorem GGood.cols {n m p : Nat} {X Y Z : Nat → Int} (h : GGood n m p X Y Z) (y : Int) : Good n X (col Y Z m y) := by
  refine ⟨h.n2, h.nM, fun j hj => ⟨h.xw j hj, V_wi (h.row hj) y (by have := h.m1; omega), fun h0 => ?_⟩⟩
  have := h.xi (j - 1) (by omega)
  rwa [show j - 1 + 1 = j by omega] at this

theorem row_ok {m : Nat} {Y z : Nat → Int} (hg : Gd m Y z) (y : Int) (k : Nat) (hk : k ≤ m) (hlo : ∀ q, q < k → Y q ≤ y) (hhi : ∀ q, k ≤ q → q < m → y < Y q) (a b : Int)
    (hab : 0 < k → k < m → a = Y (k - 1) ∧ b = Y k) : grid_row_value_g 20000 (k : Int) a b y m z = some (V Y z y (m - 1), ()) := by
  unfold grid_row_value_g
  have h1 := hg.1
  have h2 := hg.2.1
  by_cases hk0 : k = 0
  · subst hk0
    have d1 : (((0 : Nat) : Int) == 0) = true := rfl
    rw [d1, decide_eq_true (show (0 : Int) < (m : Int) by omega), V_low hg (hhi 0 (by omega) (by omega)) (by omega)]
    rfl
  · obtain ⟨i, rfl⟩ : ∃ i, k = i + 1 := ⟨k - 1, by omega⟩
    have d1 : (((i + 1 : Nat) : Int) == 0) = false := by simp; omega
    rw [d1, tdn (show i < 1000000 by omega)]
    simp only [cond_false, tnn, Bool.true_and, Int.toNat_natCast]
    by_cases hkn : i + 1 = m
    · have d2 : (((i + 1 : Nat) : Int) == (m : Int)) = true := by simp; omega
      rw [d2, tlt (show i < m by omega), V_high (m := m - 1) (by have := hlo i (by omega); rw [show m - 1 = i by omega]; exact this)]
      simp only [cond_true]
      rw [show m - 1 = i by omega]
    · have d2 : (((i + 1 : Nat) : Int) == (m : Int)) = false := by simp; omega
      obtain ⟨ea, eb⟩ := hab (by omega) (by omega)
      rw [show i + 1 - 1 = i by omega] at ea
      have h4 := hlo i (by omega)
      have h5 := hhi (i + 1) (by omega) (by omega)
      obtain ⟨s1, s2, s3, s4, s5⟩ := piece_size hg (show i + 1 < m by omega) h4 h5
      have hw := piece_wi hg (show i + 1 < m by omega) h4 (Int.le_of_lt h5)
      unfold wi at hw
      rw [d2, tlt (show i < m by omega), tlt (show i + 1 < m by omega), ea, eb]
      simp only [cond_true, cond_false]
      rw [wi64_id (x := y - Y i) (by omega) (by omega), wi64_id (x := z (i + 1) - z i) (by omega) (by omega), wi64_id (x := Y (i + 1) - Y i) (by omega) (by omega),
        mulnear_low 20000 _ _ _ (by omega) (by omega) (by omega) (by omega) (by omega) (by omega) s4, fit_ok (by omega) (by omega)]
      simp only [Option.bind_some]
      have e : z i + nr ((y - Y i) * (z (i + 1) - z i)) (Y (i + 1) - Y i) = piece Y z i y := rfl
      rw [e, wi64_id (by omega) (by omega), V_mid hg h4 h5 (by omega) (by omega)]

/-- Behind how many Y: found by halves, in any order of the operations around it. -/
theorem gsearch_ok (n m p : Nat) (y : Int) (X Y Z : Nat → Int) (hm : m ≤ 256) (hg : ∀ i j, i < j → j < m → Y i < Y j) (a b c0 c1 c2 c3 : Int) : ∀ (N i j : Nat), j - i < N → i ≤ j → j ≤ m →
    (∀ q, q < i → Y q ≤ y) → (∀ q, j ≤ q → q < m → y < Y q) →
    ∃ k : Nat, k ≤ m ∧ (∀ q, q < k → Y q ≤ y) ∧ (∀ q, k ≤ q → q < m → y < Y q) ∧
      grid_Column_l0 20000 N (i : Int) (j : Int) a n m p y X Y Z = some ((k : Int), a, n, m, p, y, X, Y, Z, ()) ∧
      grid_Column_l2 20000 N (i : Int) (j : Int) a b n m p y X Y Z = some ((k : Int), a, b, n, m, p, X, Y, Z, ()) ∧
      grid_Column_l3 20000 N (i : Int) (j : Int) a b n m p y c0 c1 c2 c3 X Y Z = some ((k : Int), a, b, n, m, p, c0, c1, c2, c3, X, Y, Z, ()) ∧
      grid_Column_l4 20000 N (i : Int) (j : Int) a n m p y c0 c1 c2 c3 X Y Z = some ((k : Int), a, n, m, p, y, c0, c1, c2, c3, X, Y, Z, ())
  | 0, _, _, h, _, _, _, _ => absurd h (by omega)
  | N + 1, i, j, hN, hij, hjn, hlo, hhi => by
    have e0 : grid_Column_l0 20000 (N + 1) (i : Int) (j : Int) a n m p y X Y Z = grid_Column_l0r 20000 (grid_Column_l0 20000 N) (i : Int) (j : Int) a n m p y X Y Z := rfl
    have e2 : grid_Column_l2 20000 (N + 1) (i : Int) (j : Int) a b n m p y X Y Z = grid_Column_l2r 20000 (grid_Column_l2 20000 N) (i : Int) (j : Int) a b n m p y X Y Z := rfl
    have e3 : grid_Column_l3 20000 (N + 1) (i : Int) (j : Int) a b n m p y c0 c1 c2 c3 X Y Z = grid_Column_l3r 20000 (grid_Column_l3 20000 N) (i : Int) (j : Int) a b n m p y c0 c1 c2 c3 X Y Z := rfl
    have e4 : grid_Column_l4 20000 (N + 1) (i : Int) (j : Int) a n m p y c0 c1 c2 c3 X Y Z = grid_Column_l4r 20000 (grid_Column_l4 20000 N) (i : Int) (j : Int) a n m p y c0 c1 c2 c3 X Y Z := rfl
    rw [e0, e2, e3, e4]
    unfold grid_Column_l0r grid_Column_l2r grid_Column_l3r grid_Column_l4r
    by_cases h : i < j
    · have hm1 := mid_ok (i := (i : Int)) (j := (j : Int)) (by omega) (by omega) (by omega)
      obtain ⟨q, hm2⟩ : ∃ q : Nat, ((i : Int) + (j : Int)) / 2 = (q : Int) := ⟨(i + j) / 2, by omega⟩
      rw [hm2] at hm1
      have hmi : i ≤ q ∧ q < j := by omega
      rw [hm1, decide_eq_true (show (i : Int) < (j : Int) by omega)]
      simp only [cond_true, tnn, tlt (show q < m by omega), Bool.and_self, Int.toNat_natCast]
      by_cases hx : Y q > y
      · rw [decide_eq_true hx]
        simp only [Bool.not_true, cond_false]
        refine gsearch_ok n m p y X Y Z hm hg a b c0 c1 c2 c3 N i q (by omega) (by omega) (by omega) hlo fun r hr hrn => ?_
        by_cases e : r = q
        · subst e; exact hx
        · have := hg q r (by omega) hrn; omega
      · rw [decide_eq_false hx, tup (by omega)]
        simp only [Bool.not_false, cond_true]
        refine gsearch_ok n m p y X Y Z hm hg a b c0 c1 c2 c3 N (q + 1) j (by omega) (by omega) hjn (fun r hr => ?_) hhi
        by_cases e : r = q
        · subst e; omega
        · have := hg r q (by omega) (by omega); omega
    · have e : i = j := by omega
      subst e
      rw [decide_eq_false (show ¬ (i : Int) < (i : Int) by omega)]
      exact ⟨i, hjn, hlo, hhi, rfl, rfl, rfl, rfl⟩

theorem incr_lt {n : Nat} {f : Nat → Int} (h : incr n f) {i j : Nat} (hij : i < j) (hj : j < n) : f i < f j := by
  induction j with
  | zero => omega
  | succ k ih =>
    have hs := h k hj
    by_cases e : i = k
    · subst e; exact hs
    · exact Int.lt_trans (ih (by omega) (by omega)) hs

theorem kblt_t {i j : Nat} (h : i < j) : Nat.blt i j = true := by rw [Nat.blt_eq]; omega
theorem kblt_f {i j : Nat} (h : j ≤ i) : Nat.blt i j = false := by
  cases h' : Nat.blt i j with
  | false => rfl
  | true => rw [Nat.blt_eq] at h'; omega

theorem col_loop {n m p : Nat} {X Y Z : Nat → Int} (hg : GGood n m p X Y Z) (y : Int) (k : Nat) (hk : k ≤ m) (hlo : ∀ q, q < k → Y q ≤ y) (hhi : ∀ q, k ≤ q → q < m → y < Y q) (a b : Int)
    (hab : 0 < k → k < m → a = Y (k - 1) ∧ b = Y k) : ∀ (d i N : Nat) (A B : Nat → Int), i + d = n → d < N → (∀ j, j < i → A j = X j ∧ B j = col Y Z m y j) →
    ∃ A' B', (∀ j, j < n → A' j = X j ∧ B' j = col Y Z m y j) ∧ grid_Column_l1 20000 N (m : Int) i n (n : Int) (i : Int) n m p (k : Int) a b y A B X Y Z = some (n, A', B', ())
  | 0, i, N, A, B, hd, hf, hp => by
    obtain ⟨f, rfl⟩ : ∃ f, N = f + 1 := ⟨N - 1, by omega⟩
    have e : i = n := by omega
    subst e
    refine ⟨A, B, hp, ?_⟩
    show grid_Column_l1r 20000 (grid_Column_l1 20000 f) (m : Int) i i (i : Int) (i : Int) i m p (k : Int) a b y A B X Y Z = _
    unfold grid_Column_l1r
    rw [tself]
    rfl
  | d + 1, i, N, A, B, hd, hf, hp => by
    obtain ⟨f, rfl⟩ : ∃ f, N = f + 1 := ⟨N - 1, by omega⟩
    have hin : i < n := by omega
    have hn := hg.nM
    have hm := hg.mM
    have hnm := hg.nm
    have e0 : grid_Column_l1 20000 (f + 1) (m : Int) i n (n : Int) (i : Int) n m p (k : Int) a b y A B X Y Z = grid_Column_l1r 20000 (grid_Column_l1 20000 f) (m : Int) i n (n : Int) (i : Int) n m p (k : Int) a b y A B X Y Z := rfl
    rw [e0]
    unfold grid_Column_l1r
    obtain ⟨g1, g2⟩ := nm_wi (n := i) (m := m) (by omega) hm
    have g3 : wi64 (((i * m : Nat) : Int) + (m : Int)) = ((i * m + m : Nat) : Int) := by rw [wi64_id (by omega) (by omega)]; simp
    have g4 : (i + 1) * m ≤ n * m := Nat.mul_le_mul_right m hin
    have g5 : (i + 1) * m = i * m + m := Nat.succ_mul i m
    have g6 := hg.pp
    have hb : Nat.ble ((i + 1) * 16) 140737488355328 = true := by rw [Nat.ble_eq]; omega
    have d1 : (decide (((i * m : Nat) : Int) ≤ ((i * m + m : Nat) : Int))) = true := decide_eq_true (by omega)
    have d2 : (decide (((i * m + m : Nat) : Int) ≤ (p : Int))) = true := decide_eq_true (by omega)
    simp only [g2, g3, tlt hin, tnn, d1, d2, Bool.and_self, cond_true, Int.toNat_natCast, tup (show i < 1000000 by omega), hb, show i * m + m - i * m = m by omega]
    have hr := row_ok (hg.row hin) y k hk hlo hhi a b hab
    unfold rowZ at hr
    rw [hr]
    simp only [Option.bind_some]
    refine col_loop hg y k hk hlo hhi a b hab d (i + 1) f _ _ (by omega) (by omega) fun j hj => ?_
    by_cases e : j = i
    · subst e
      rw [kblt_f (Nat.le_refl _), Nat.sub_self]
      exact ⟨rfl, rfl⟩
    · rw [kblt_t (show j < i by omega)]
      exact hp j (by omega)

theorem column_ok (n m p : Nat) (y : Int) (X Y Z : Nat → Int) :
    (GGood n m p X Y Z → ∃ A B, (∀ j, j < n → A j = X j ∧ B j = col Y Z m y j) ∧ grid_Column_g 20000 n m p y X Y Z = some (n, 0, A, B, ())) ∧
    (¬ GGood n m p X Y Z → grid_Column_g 20000 n m p y X Y Z = some (0, 110, (fun _ => 0), (fun _ => 0), ())) := by
  refine ⟨fun hg => ?_, fun hg => ?_⟩
  · have hm1 := hg.m1
    have hm := hg.mM
    have hn := hg.nM
    have e0 : ((0 : Nat) : Int) = 0 := rfl
    have key : ∀ (a b c0 c1 c2 c3 : Int), ∃ k : Nat, k ≤ m ∧ (∀ q, q < k → Y q ≤ y) ∧ (∀ q, k ≤ q → q < m → y < Y q) ∧
      grid_Column_l0 20000 20000 0 (m : Int) a n m p y X Y Z = some ((k : Int), a, n, m, p, y, X, Y, Z, ()) ∧
      grid_Column_l2 20000 20000 0 (m : Int) a b n m p y X Y Z = some ((k : Int), a, b, n, m, p, X, Y, Z, ()) ∧
      grid_Column_l3 20000 20000 0 (m : Int) a b n m p y c0 c1 c2 c3 X Y Z = some ((k : Int), a, b, n, m, p, c0, c1, c2, c3, X, Y, Z, ()) ∧
      grid_Column_l4 20000 20000 0 (m : Int) a n m p y c0 c1 c2 c3 X Y Z = some ((k : Int), a, n, m, p, y, c0, c1, c2, c3, X, Y, Z, ()) :=
      fun a b c0 c1 c2 c3 => gsearch_ok n m p y X Y Z hm (fun i j hij hj => incr_lt hg.yi hij hj) a b c0 c1 c2 c3 20000 0 m (by omega) (by omega) (by omega) (fun q hq => absurd hq (by omega)) (fun q hq hq' => absurd hq (by omega))
    obtain ⟨k, hk, hlo, hhi, _⟩ := key 0 0 0 0 0 0
    have key2 : ∀ (a b c0 c1 c2 c3 : Int),
      grid_Column_l0 20000 20000 0 (m : Int) a n m p y X Y Z = some ((k : Int), a, n, m, p, y, X, Y, Z, ()) ∧
      grid_Column_l2 20000 20000 0 (m : Int) a b n m p y X Y Z = some ((k : Int), a, b, n, m, p, X, Y, Z, ()) ∧
      grid_Column_l3 20000 20000 0 (m : Int) a b n m p y c0 c1 c2 c3 X Y Z = some ((k : Int), a, b, n, m, p, c0, c1, c2, c3, X, Y, Z, ()) ∧
      grid_Column_l4 20000 20000 0 (m : Int) a n m p y c0 c1 c2 c3 X Y Z = some ((k : Int), a, n, m, p, y, c0, c1, c2, c3, X, Y, Z, ()) := by
      intro a b c0 c1 c2 c3
      obtain ⟨k', hk', hlo', hhi', r⟩ := key a b c0 c1 c2 c3
      have : k' = k := by
        rcases Nat.lt_trichotomy k k' with c | c | c
        · have u1 := hlo' k c
          have u2 := hhi k (Nat.le_refl _) (by omega)
          omega
        · exact c.symm
        · have u1 := hlo k' c
          have u2 := hhi' k' (Nat.le_refl _) (by omega)
          omega
      rw [this] at r
      exact r
    have hl0 := fun a => (key2 a 0 0 0 0 0).1
    have hl2 := fun a b => (key2 a b 0 0 0 0).2.1
    have hl3 := fun a b c0 c1 c2 c3 => (key2 a b c0 c1 c2 c3).2.2.1
    have hl4 := fun a c0 c1 c2 c3 => (key2 a 0 c0 c1 c2 c3).2.2.2
    unfold grid_Column_g
    have d0 : ((0 : Int) != 0) = false := rfl
    rw [gcheck_ok, gchk_good hg]
    simp only [Option.bind_some, d0, cond_false, hl0, hl2, hl3, hl4, agree_self, agN_eq]
    have fin : ∀ a b, (0 < k → k < m → a = Y (k - 1) ∧ b = Y k) → ∃ A B, (∀ j, j < n → A j = X j ∧ B j = col Y Z m y j) ∧
        grid_Column_l1 20000 20000 (m : Int) 0 n (n : Int) 0 n m p (k : Int) a b y (fun _ => 0) (fun _ => 0) X Y Z = some (n, A, B, ()) := fun a b hab =>
      col_loop hg y k hk hlo hhi a b hab n 0 20000 (fun _ => 0) (fun _ => 0) (by omega) (by omega) (fun j hj => absurd hj (by omega))
    by_cases h1 : (k : Int) > 0
    · rw [decide_eq_true h1]
      by_cases h2 : (k : Int) < (m : Int)
      · rw [decide_eq_true h2]
        obtain ⟨i, rfl⟩ : ∃ i, k = i + 1 := ⟨k - 1, by omega⟩
        rw [tdn (show i < 1000000 by omega)]
        simp only [cond_true, tnn, tlt (show i < m by omega), Bool.and_self, Int.toNat_natCast, tlt (show i + 1 < m by omega)]
        obtain ⟨A, B, k1, k2⟩ := fin (Y i) (Y (i + 1)) (fun _ _ => ⟨by rw [show i + 1 - 1 = i by omega], rfl⟩)
        rw [k2]
        exact ⟨A, B, k1, rfl⟩
      · rw [decide_eq_false h2]
        obtain ⟨A, B, k1, k2⟩ := fin 0 0 (fun _ h => absurd h (by omega))
        simp only [cond_true, cond_false]
        rw [k2]
        exact ⟨A, B, k1, rfl⟩
    · rw [decide_eq_false h1]
      obtain ⟨A, B, k1, k2⟩ := fin 0 0 (fun h _ => absurd h (by omega))
      simp only [cond_false]
      rw [k2]
      exact ⟨A, B, k1, rfl⟩
  · unfold grid_Column_g
    rw [gcheck_ok, gchk_bad hg]
    rfl

/-- The value at a place. -/
def gV (n m : Nat) (X Y Z : Nat → Int) (x y : Int) : Int := V X (col Y Z m y) x (n - 1)

theorem gAt_ok (n m p : Nat) (x y : Int) (X Y Z : Nat → Int) : grid_At_g 20000 n m p x y X Y Z = some (if gchk n m p X Y Z = 0 then gV n m X Y Z x y else 0, gchk n m p X Y Z, ()) := by
  unfold grid_At_g
  have d0 : ((0 : Int) != 0) = false := rfl
  by_cases hg : GGood n m p X Y Z
  · obtain ⟨A, B, h1, h2⟩ := (column_ok n m p y X Y Z).1 hg
    have h3 := hg.n2
    rw [h2, gchk_good hg]
    simp only [Option.bind_some, d0, cond_false, At_ok, chk_congr h1, chk_good (hg.cols y), if_pos]
    rw [V_congr (X := X) (Y := col Y Z m y) fun j hj => h1 j (by omega)]
    rfl
  · rw [(column_ok n m p y X Y Z).2 hg, gchk_bad hg]
    rfl

/-! ### Grids that rise -/
abbrev GUp (m p : Nat) (Z : Nat → Int) : Prop := ∀ k, k + m < p → Z k ≤ Z (k + m)

theorem nr_half {a b : Int} (hb : 0 < b) : -b ≤ 2 * (a - b * nr a b) ∧ 2 * (a - b * nr a b) ≤ b := by
  unfold nr
  split
  · have h1 := Int.mul_ediv_add_emod (2 * (-a) + b) (2 * b)
    have h2 := Int.emod_nonneg (2 * (-a) + b) (show (2 * b : Int) ≠ 0 by omega)
    have h3 := Int.emod_lt_of_pos (2 * (-a) + b) (show (0 : Int) < 2 * b by omega)
    generalize (2 * (-a) + b) / (2 * b) = q at *
    have e : 2 * b * q = 2 * (b * q) := by rw [Int.mul_assoc]
    rw [Int.mul_neg]
    omega
  · have h1 := Int.mul_ediv_add_emod (2 * a + b) (2 * b)
    have h2 := Int.emod_nonneg (2 * a + b) (show (2 * b : Int) ≠ 0 by omega)
    have h3 := Int.emod_lt_of_pos (2 * a + b) (show (0 : Int) < 2 * b by omega)
    generalize (2 * a + b) / (2 * b) = q at *
    have e : 2 * b * q = 2 * (b * q) := by rw [Int.mul_assoc]
    omega

/-- A row that is nowhere below another has no smaller value. -/
theorem nr_rows {t d a b a' b' : Int} (h0 : 0 ≤ t) (h1 : t < d) (ha : a ≤ a') (hb : b ≤ b') : a + nr (t * (b - a)) d ≤ a' + nr (t * (b' - a')) d := by
  by_cases hlt : a + nr (t * (b - a)) d ≤ a' + nr (t * (b' - a')) d
  · exact hlt
  · exfalso
    have k1 := nr_half (a := t * (b - a)) (show 0 < d by omega)
    have k2 := nr_half (a := t * (b' - a')) (show 0 < d by omega)
    generalize hu : nr (t * (b - a)) d = u at *
    generalize hv : nr (t * (b' - a')) d = v at *
    have g1 : 0 ≤ t * (b' - b) := Int.mul_nonneg h0 (by omega)
    have g2 : 0 ≤ (d - t) * (a' - a) := Int.mul_nonneg (by omega) (by omega)
    have g3 : d * 1 ≤ d * (a + u - (a' + v)) := Int.mul_le_mul_of_nonneg_left (by omega) (by omega)
    have r1 : t * (b' - b) + (d - t) * (a' - a) = d * (a' - a) + t * (b' - a') - t * (b - a) := by grind
    have r2 : d * (a + u - (a' + v)) = d * (a - a') + d * u - d * v := by grind
    have r3 : d * (a' - a) = -(d * (a - a')) := by grind
    have hz : t * (b' - b) = 0 ∧ (d - t) * (a' - a) = 0 := by omega
    have ea : a' = a := by
      rcases Int.mul_eq_zero.1 hz.2 with h | h <;> omega
    rcases Int.mul_eq_zero.1 hz.1 with h | h
    · subst h
      rw [Int.zero_mul] at hu hv
      omega
    · have eb : b' = b := by omega
      subst ea
      subst eb
      omega

theorem V_rows {n : Nat} {X Y Y' : Nat → Int} (hg : Gd n X Y) {x : Int} : ∀ {m : Nat}, m < n → (∀ j, j ≤ m → Y j ≤ Y' j) → V X Y x m ≤ V X Y' x m
  | 0, _, h => h 0 (Nat.le_refl _)
  | m + 1, hm, h => by
    unfold V
    by_cases c1 : X (m + 1) ≤ x
    · rw [if_pos c1, if_pos c1]; exact h (m + 1) (Nat.le_refl _)
    · rw [if_neg c1, if_neg c1]
      by_cases c2 : X m ≤ x
      · rw [if_pos c2, if_pos c2]
        unfold piece
        exact nr_rows (by omega) (by omega) (h m (by omega)) (h (m + 1) (Nat.le_refl _))
      · rw [if_neg c2, if_neg c2]
        exact V_rows hg (by omega) fun j hj => h j (by omega)

theorem GGood.colUp {n m p : Nat} {X Y Z : Nat → Int} (h : GGood n m p X Y Z) (hu : GUp m p Z) (y : Int) : Up n (col Y Z m y) := by
  intro i hi
  have hm := h.m1
  refine V_rows (h.row (show i < n by omega)) (by omega) fun j hj => ?_
  have h1 : (i + 1 + 1) * m ≤ n * m := Nat.mul_le_mul_right m hi
  have h2 : (i + 1 + 1) * m = (i + 1) * m + m := Nat.succ_mul (i + 1) m
  have h3 : (i + 1) * m = i * m + m := Nat.succ_mul i m
  have h4 := hu (j + i * m) (by rw [h.pp]; omega)
  unfold rowZ
  rw [h3, show j + (i * m + m) = j + i * m + m by omega]
  exact h4

end Go.Proofs.YtjmbhhinmbgneaaGreat
