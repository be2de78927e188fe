/-
  Grids, as the document tells them: what the printed functions compute is the same plain function of the numbers.
-/
import Derived.Test.YtjmbhhinmbgneaaGreatsQ
import Derived.Test.YtjmbhhinmbgneaaGreatsH
namespace Go.Proofs.YtjmbhhinmbgneaaGreat
open Go.Sy
set_option maxHeartbeats 1000000

theorem rgw_loop (n : Nat) (f : Nat → Int) (hn : n ≤ 5000) : ∀ (d i N : Nat), i + d = n → d < N → (∀ j, j < i → wi (f j)) →
    (inW n f → r11_within_l0 20000 N n (i : Int) f = some (.inl ())) ∧ (¬ inW n f → r11_within_l0 20000 N n (i : Int) f = some (.inr (false, ())))
  | 0, i, N, hd, hf, hp => by
    obtain ⟨g, rfl⟩ : ∃ g, N = g + 1 := ⟨N - 1, by omega⟩
    have e : i = n := by omega
    subst e
    refine ⟨fun _ => ?_, fun h => absurd hp h⟩
    show r11_within_l0r 20000 (r11_within_l0 20000 g) i (i : Int) f = _
    unfold r11_within_l0r
    rw [tself]
    rfl
  | d + 1, i, N, hd, hf, hp => by
    obtain ⟨g, rfl⟩ : ∃ g, N = g + 1 := ⟨N - 1, by omega⟩
    have hin : i < n := by omega
    have e0 : r11_within_l0 20000 (g + 1) n (i : Int) f = r11_within_l0r 20000 (r11_within_l0 20000 g) n (i : Int) f := rfl
    rw [e0]
    unfold r11_within_l0r
    simp only [tlt hin, tnn, Bool.and_self, cond_true, Int.toNat_natCast, tup (show i < 1000000 by omega)]
    by_cases h1 : f i < -2147483648
    · rw [decide_eq_true h1]
      exact ⟨fun hh => absurd (hh i hin).1 (by omega), fun _ => rfl⟩
    · rw [decide_eq_false h1]
      by_cases h2 : f i > 2147483648
      · rw [decide_eq_true h2]
        exact ⟨fun hh => absurd (hh i hin).2 (by omega), fun _ => rfl⟩
      · rw [decide_eq_false h2]
        refine rgw_loop n f hn d (i + 1) g (by omega) (by omega) fun j hj => ?_
        by_cases e : j = i
        · exact e ▸ ⟨by omega, by omega⟩
        · exact hp j (by omega)

theorem rgwithin_ok (n : Nat) (f : Nat → Int) (hn : n ≤ 5000) : r11_within_g 20000 n f = some (dc (inW n f), ()) := by
  unfold r11_within_g
  have hl := rgw_loop n f hn n 0 20000 (by omega) (by omega) (fun j hj => absurd hj (by omega))
  have e0 : ((0 : Nat) : Int) = 0 := rfl
  rw [e0] at hl
  by_cases h : inW n f
  · rw [hl.1 h, dc_t h]; rfl
  · rw [hl.2 h, dc_f h]; rfl

theorem rgr_loop (n : Nat) (f : Nat → Int) (hn : n ≤ 5000) : ∀ (d i N : Nat), i + 1 + d = n → d < N → (∀ j, j < i → f j < f (j + 1)) →
    (incr n f → r11_rising_l0 20000 N n ((i + 1 : Nat) : Int) f = some (.inl ())) ∧ (¬ incr n f → r11_rising_l0 20000 N n ((i + 1 : Nat) : Int) f = some (.inr (false, ())))
  | 0, i, N, hd, hf, hp => by
    obtain ⟨g, rfl⟩ : ∃ g, N = g + 1 := ⟨N - 1, by omega⟩
    have e : i + 1 = n := by omega
    subst e
    refine ⟨fun _ => ?_, fun h => absurd (fun j hj => hp j (by omega)) h⟩
    show r11_rising_l0r 20000 (r11_rising_l0 20000 g) (i + 1) ((i + 1 : Nat) : Int) f = _
    unfold r11_rising_l0r
    rw [tself]
    rfl
  | d + 1, i, N, hd, hf, hp => by
    obtain ⟨g, rfl⟩ : ∃ g, N = g + 1 := ⟨N - 1, by omega⟩
    have hin : i + 1 < n := by omega
    have e0 : r11_rising_l0 20000 (g + 1) n ((i + 1 : Nat) : Int) f = r11_rising_l0r 20000 (r11_rising_l0 20000 g) n ((i + 1 : Nat) : Int) f := rfl
    rw [e0]
    unfold r11_rising_l0r
    simp only [tlt hin, tnn, tdn (show i < 1000000 by omega), tlt (show i < n by omega), Bool.and_self, cond_true, Int.toNat_natCast, tup (show i + 1 < 1000000 by omega)]
    by_cases h : f i < f (i + 1)
    · rw [decide_eq_false (show ¬ f (i + 1) ≤ f i by omega)]
      refine rgr_loop n f hn d (i + 1) g (by omega) (by omega) fun j hj => ?_
      by_cases e : j = i
      · exact e ▸ h
      · exact hp j (by omega)
    · rw [decide_eq_true (show f (i + 1) ≤ f i by omega)]
      exact ⟨fun hh => absurd (hh i hin) h, fun _ => rfl⟩

theorem rgrising_ok (n : Nat) (f : Nat → Int) (hn : n ≤ 5000) (h0 : 1 ≤ n) : r11_rising_g 20000 n f = some (dc (incr n f), ()) := by
  unfold r11_rising_g
  have hl := rgr_loop n f hn (n - 1) 0 20000 (by omega) (by omega) (fun j hj => absurd hj (by omega))
  have e0 : ((0 + 1 : Nat) : Int) = 1 := rfl
  rw [e0] at hl
  by_cases h : incr n f
  · rw [hl.1 h, dc_t h]; rfl
  · rw [hl.2 h, dc_f h]; rfl

theorem rgcheck_ok (n m p : Nat) (X Y Z : Nat → Int) : r11_Check_g 20000 n m p X Y Z = some (gchk n m p X Y Z, ()) := by
  unfold r11_Check_g
  by_cases h1 : ((n : Nat) : Int) < 2
  · rw [decide_eq_true h1, gchk_bad (fun h => by have := h.n2; omega)]; rfl
  rw [decide_eq_false h1]
  by_cases h2 : ((n : Nat) : Int) > 256
  · rw [decide_eq_true h2, gchk_bad (fun h => by have := h.nM; omega)]; rfl
  rw [decide_eq_false h2]
  by_cases h3 : ((m : Nat) : Int) < 1
  · rw [decide_eq_true h3, gchk_bad (fun h => by have := h.m1; omega)]; rfl
  rw [decide_eq_false h3]
  by_cases h4 : ((m : Nat) : Int) > 256
  · rw [decide_eq_true h4, gchk_bad (fun h => by have := h.mM; omega)]; rfl
  rw [decide_eq_false h4]
  obtain ⟨g1, g2⟩ := nm_wi (n := n) (m := m) (by omega) (by omega)
  simp only [cond_false, g2]
  by_cases h5 : ((n * m : Nat) : Int) > 4096
  · rw [decide_eq_true h5, gchk_bad (fun h => by have := h.nm; omega)]; rfl
  rw [decide_eq_false h5]
  by_cases h6 : p = n * m
  · have d : (((p : Nat) : Int) != ((n * m : Nat) : Int)) = false := by rw [h6]; simp
    rw [d, rgwithin_ok n X (by omega), rgwithin_ok m Y (by omega), rgwithin_ok p Z (by omega), rgrising_ok n X (by omega) (by omega), rgrising_ok m Y (by omega) (by omega)]
    simp only [cond_false, Option.bind_some]
    by_cases k1 : inW n X
    · rw [dc_t k1]
      by_cases k2 : inW m Y
      · rw [dc_t k2]
        by_cases k3 : inW p Z
        · rw [dc_t k3]
          by_cases k4 : incr n X
          · rw [dc_t k4]
            by_cases k5 : incr m Y
            · rw [dc_t k5, gchk_good ⟨by omega, by omega, by omega, by omega, by omega, h6, k4, k1, k5, k2, k3⟩]; rfl
            · rw [dc_f k5, gchk_bad (fun h => k5 h.yi)]; rfl
          · rw [dc_f k4, gchk_bad (fun h => k4 h.xi)]; rfl
        · rw [dc_f k3, gchk_bad (fun h => k3 h.zw)]; rfl
      · rw [dc_f k2, gchk_bad (fun h => k2 h.yw)]; rfl
    · rw [dc_f k1, gchk_bad (fun h => k1 h.xw)]; rfl
  · have d : (((p : Nat) : Int) != ((n * m : Nat) : Int)) = true := by simp only [bne_iff_ne, ne_eq]; omega
    rw [d, gchk_bad (fun h => h6 h.pp)]
    rfl

theorem rbetween_loop {n : Nat} {X Y : Nat → Int} (hg : Gd n X Y) (x : Int) (hx : x < X (n - 1)) : ∀ (d i N : Nat), i + d + 1 = n → d < N → X i ≤ x →
    r11_between_l0 20000 N n n x ((n - 1 : Nat) : Int) (i : Int) X Y = some (.inr (V X Y x (n - 1), ()))
  | 0, i, N, hd, hf, hi => by
    exfalso
    rw [show n - 1 = i by omega] at hx
    omega
  | d + 1, i, N, hd, hf, hi => by
    obtain ⟨f, rfl⟩ : ∃ f, N = f + 1 := ⟨N - 1, by omega⟩
    have h3 := hg.2.1
    have e0 : r11_between_l0 20000 (f + 1) n n x ((n - 1 : Nat) : Int) (i : Int) X Y = r11_between_l0r 20000 (r11_between_l0 20000 f) n n x ((n - 1 : Nat) : Int) (i : Int) X Y := rfl
    rw [e0]
    unfold r11_between_l0r
    rw [tlt (show i < n - 1 by omega), tup (show i < 1000000 by omega)]
    simp only [cond_true, tnn, tlt (show i < n by omega), tlt (show i + 1 < n by omega), Bool.and_self, Int.toNat_natCast]
    rw [decide_eq_true (show x ≥ X i from hi)]
    simp only [cond_true]
    by_cases h : x < X (i + 1)
    · rw [decide_eq_true h]
      obtain ⟨s1, s2, s3, s4, s5⟩ := piece_size hg (show i + 1 < n by omega) hi h
      have hw := piece_wi hg (show i + 1 < n by omega) hi (Int.le_of_lt h)
      unfold wi at hw
      obtain ⟨b, D, k1, k2⟩ := rmulnear_ok (x - X i) (Y (i + 1) - Y i) (X (i + 1) - X i) (by omega) (by omega) (by omega) (by omega) (by omega) (by omega)
      rw [wi64_id (x := x - X i) (by omega) (by omega), wi64_id (x := Y (i + 1) - Y i) (by omega) (by omega), wi64_id (x := X (i + 1) - X i) (by omega) (by omega), k1]
      simp only [cond_true, Option.bind_some]
      rw [k2, fit_ok (by omega) (by omega)]
      simp only [Option.bind_some]
      have e : Y i + nr ((x - X i) * (Y (i + 1) - Y i)) (X (i + 1) - X i) = piece X Y i x := rfl
      rw [e, wi64_id (by omega) (by omega), V_mid hg hi h (by omega) (by omega)]
    · rw [decide_eq_false h]
      exact rbetween_loop hg x hx d (i + 1) f (by omega) (by omega) (by omega)

theorem rgbet_ok {n : Nat} {X Y : Nat → Int} (hg : Gd n X Y) (x : Int) : r11_between_g 20000 n n x X Y = some (V X Y x (n - 1), ()) := by
  unfold r11_between_g
  have h2 := hg.1
  have h3 := hg.2.1
  have e1 : wi64 ((n : Int) - 1) = ((n - 1 : Nat) : Int) := by rw [wi64_id (by omega) (by omega)]; omega
  rw [decide_eq_true (show (0 : Int) < (n : Int) by omega), e1]
  simp only [cond_true, tnn, tlt (show n - 1 < n by omega), Bool.and_self, Int.toNat_natCast]
  by_cases h : x ≤ X 0
  · rw [decide_eq_true h]
    by_cases h' : x = X 0
    · rw [h', V_at hg (Nat.zero_le _) (by omega)]
      rfl
    · rw [V_low hg (show x < X 0 by omega) (by omega)]
      rfl
  · rw [decide_eq_false h]
    by_cases h' : x ≥ X (n - 1)
    · rw [decide_eq_true h', V_high h']
      rfl
    · rw [decide_eq_false h']
      have hl := rbetween_loop hg x (by omega) (n - 1) 0 20000 (by omega) (by omega) (by omega)
      have e0 : ((0 : Nat) : Int) = 0 := rfl
      rw [e0] at hl
      rw [hl]
      rfl

theorem rcol_loop {n m p : Nat} {X Y Z : Nat → Int} (hg : GGood n m p X Y Z) (y : Int) : ∀ (d i N : Nat) (A B : Nat → Int), i + d = n → d < N → (∀ j, j < i → A j = X j ∧ B j = col Y Z m y j) →
    ∃ A' B', (∀ j, j < n → A' j = X j ∧ B' j = col Y Z m y j) ∧ r11_Column_l0 20000 N y i (m : Int) (i : Int) n m p A B X Y Z = some (n, A', B', ())
  | 0, i, N, A, B, hd, hf, hp => by
    obtain ⟨f, rfl⟩ : ∃ f, N = f + 1 := ⟨N - 1, by omega⟩
    have e : i = n := by omega
    subst e
    refine ⟨A, B, hp, ?_⟩
    show r11_Column_l0r 20000 (r11_Column_l0 20000 f) y i (m : Int) (i : Int) i m p A B X Y Z = _
    unfold r11_Column_l0r
    rw [tself]
    rfl
  | d + 1, i, N, A, B, hd, hf, hp => by
    obtain ⟨f, rfl⟩ : ∃ f, N = f + 1 := ⟨N - 1, by omega⟩
    have hin : i < n := by omega
    have hn := hg.nM
    have hm := hg.mM
    have hnm := hg.nm
    have e0 : r11_Column_l0 20000 (f + 1) y i (m : Int) (i : Int) n m p A B X Y Z = r11_Column_l0r 20000 (r11_Column_l0 20000 f) y i (m : Int) (i : Int) n m p A B X Y Z := rfl
    rw [e0]
    unfold r11_Column_l0r
    obtain ⟨g1, g2⟩ := nm_wi (n := i) (m := m) (by omega) hm
    obtain ⟨g1', g2'⟩ := nm_wi (n := i + 1) (m := m) (by omega) hm
    have g4 : (i + 1) * m ≤ n * m := Nat.mul_le_mul_right m hin
    have g5 : (i + 1) * m = i * m + m := Nat.succ_mul i m
    have g6 := hg.pp
    have hb : Nat.ble ((i + 1) * 16) 140737488355328 = true := by rw [Nat.ble_eq]; omega
    have d1 : (decide (((i * m : Nat) : Int) ≤ (((i + 1) * m : Nat) : Int))) = true := decide_eq_true (by omega)
    have d2 : (decide ((((i + 1) * m : Nat) : Int) ≤ (p : Int))) = true := decide_eq_true (by omega)
    simp only [tup (show i < 1000000 by omega), g2, g2', tlt hin, tnn, d1, d2, Bool.and_self, cond_true, Int.toNat_natCast, hb, show (i + 1) * m - i * m = m by omega]
    have hr := rgbet_ok (hg.row hin) y
    unfold rowZ at hr
    rw [hr]
    simp only [Option.bind_some]
    refine rcol_loop hg y d (i + 1) f _ _ (by omega) (by omega) fun j hj => ?_
    by_cases e : j = i
    · subst e
      rw [kblt_f (Nat.le_refl _), Nat.sub_self]
      exact ⟨rfl, rfl⟩
    · rw [kblt_t (show j < i by omega)]
      exact hp j (by omega)

theorem rcolumn_ok (n m p : Nat) (y : Int) (X Y Z : Nat → Int) :
    (GGood n m p X Y Z → ∃ A B, (∀ j, j < n → A j = X j ∧ B j = col Y Z m y j) ∧ r11_Column_g 20000 n m p y X Y Z = some (n, 0, A, B, ())) ∧
    (¬ GGood n m p X Y Z → r11_Column_g 20000 n m p y X Y Z = some (0, 110, (fun _ => 0), (fun _ => 0), ())) := by
  refine ⟨fun hg => ?_, fun hg => ?_⟩
  · have hn := hg.nM
    obtain ⟨A, B, h1, h2⟩ := rcol_loop hg y n 0 20000 (fun _ => 0) (fun _ => 0) (by omega) (by omega) (fun j hj => absurd hj (by omega))
    have e0 : ((0 : Nat) : Int) = 0 := rfl
    rw [e0] at h2
    have d0 : ((0 : Int) != 0) = false := rfl
    refine ⟨A, B, h1, ?_⟩
    unfold r11_Column_g
    rw [rgcheck_ok, gchk_good hg]
    simp only [Option.bind_some, d0, cond_false]
    rw [h2]
    rfl
  · unfold r11_Column_g
    rw [rgcheck_ok, gchk_bad hg]
    rfl

theorem rgAt_ok (n m p : Nat) (x y : Int) (X Y Z : Nat → Int) : r11_At_g 20000 n m p x y X Y Z = some (if gchk n m p X Y Z = 0 then gV n m X Y Z x y else 0, gchk n m p X Y Z, ()) := by
  unfold r11_At_g
  have d0 : ((0 : Int) != 0) = false := rfl
  by_cases hg : GGood n m p X Y Z
  · obtain ⟨A, B, h1, h2⟩ := (rcolumn_ok n m p y X Y Z).1 hg
    have h3 := hg.n2
    rw [h2, gchk_good hg]
    simp only [Option.bind_some, d0, cond_false, rAt_ok, chk_congr h1, chk_good (hg.cols y), if_pos]
    rw [V_congr (X := X) (Y := col Y Z m y) fun j hj => h1 j (by omega)]
    rfl
  · rw [(rcolumn_ok n m p y X Y Z).2 hg, gchk_bad hg]
    rfl

end Go.Proofs.YtjmbhhinmbgneaaGreat
