/-
  Law 11 (grid), the plain part: what the printed functions compute answers as the laws say.
-/
import Derived.Test.YtkdhedjcpakfeaaQ
namespace Go.Proofs.Ytkdhedjcpakfeaa
open Go.Sy
set_option maxHeartbeats 1000000

theorem wk_inc : incr 2 (fun j => selI [0, 10] j) := by
  intro j hj
  have h : j = 0 := by omega
  subst h
  decide

theorem wk_in : inW 2 (fun j => selI [0, 10] j) := by
  intro j hj
  have h : j = 0 ∨ j = 1 := by omega
  rcases h with rfl | rfl <;> decide

theorem works_good : GGood 2 2 4 (fun j => selI [0, 10] j) (fun j => selI [0, 10] j) (fun j => selI [0, 100, 100, 200] j) :=
  ⟨by omega, by omega, by omega, by omega, by omega, by omega, wk_inc, wk_in, wk_inc, wk_in, fun j hj => by
    have h : j = 0 ∨ j = 1 ∨ j = 2 ∨ j = 3 := by omega
    rcases h with rfl | rfl | rfl | rfl <;> decide⟩

theorem works_up : GUp 2 4 (fun j => selI [0, 100, 100, 200] j) := by
  intro k hk
  have h : k = 0 ∨ k = 1 := by omega
  rcases h with rfl | rfl <;> decide

theorem works_ok : rheostatlaw11_works_g 20000 = some (true, ()) := by
  unfold rheostatlaw11_works_g
  have e1 : gV 2 2 (fun j => selI [0, 10] j) (fun j => selI [0, 10] j) (fun j => selI [0, 100, 100, 200] j) 5 5 = 100 := by decide
  have e2 : gV 2 2 (fun j => selI [0, 10] j) (fun j => selI [0, 10] j) (fun j => selI [0, 100, 100, 200] j) 10 3 = 130 := by decide
  have e3 : grs 2 2 4 (fun j => selI [0, 10] j) (fun j => selI [0, 10] j) (fun j => selI [0, 100, 100, 200] j) = true := dc_t ⟨works_good, works_up⟩
  rw [gAt_ok, gAt_ok, gcheck_ok, grises_ok, gchk_good works_good, e1, e2, e3]
  rfl

theorem light_cases (n m p : Nat) (X Y Z : Nat → Int) : ∃ b, rheostatlaw11_light_g 20000 n m p X Y Z = some (b, ()) := by
  unfold rheostatlaw11_light_g
  cases decide (wi64 (((n : Nat) : Int) + ((m : Nat) : Int)) ≤ 600) with
  | false => exact ⟨_, rfl⟩
  | true => exact ⟨_, rfl⟩

theorem among_ok (x : Int) {n : Int} (hn : 1 ≤ n) (hn' : n < 9223372036854775808) : ∃ q, 0 ≤ q ∧ q < n ∧ rheostatbase_Among_g 20000 x n = some (q, ()) := by
  have hx : 0 ≤ wu64 x := by rw [wu64_def]; omega
  have hm := Int.emod_nonneg (wu64 x) (show n ≠ 0 by omega)
  have hm' := Int.emod_lt_of_pos (wu64 x) (show 0 < n by omega)
  refine ⟨wu64 x % n, hm, hm', ?_⟩
  unfold rheostatbase_Among_g
  have d : (n == 0) = false := by simp; omega
  rw [decide_eq_false (by omega), wu64_id (x := n) (by omega) (by omega), d, (tdiv_pos hx).2]
  simp only [cond_false]
  rw [wi64_id (by omega) (by omega)]

theorem GridCorners_ok (n m p : Nat) (i0 j0 : Int) (X Y Z : Nat → Int) : rheostatlaw11_GridCorners_g 20000 n m p i0 j0 X Y Z = some true := by
  unfold rheostatlaw11_GridCorners_g
  obtain ⟨b, hb⟩ := light_cases n m p X Y Z
  rw [works_ok, hb]
  simp only [Option.bind_some, Bool.not_true, cond_false]
  cases b with
  | false => rfl
  | true =>
    simp only [Bool.not_true, cond_false, gcheck_ok, Option.bind_some]
    by_cases hg : GGood n m p X Y Z
    · have hn := hg.n2
      have hnM := hg.nM
      have hm := hg.m1
      have hmM := hg.mM
      have hnm := hg.nm
      have hp := hg.pp
      have d0 : ((0 : Int) != 0) = false := rfl
      rw [gchk_good hg]
      simp only [d0, cond_false]
      obtain ⟨q, q1, q2, q3⟩ := among_ok i0 (n := (n : Int)) (by omega) (by omega)
      obtain ⟨r, r1, r2, r3⟩ := among_ok j0 (n := (m : Int)) (by omega) (by omega)
      rw [q3, r3]
      obtain ⟨i, rfl⟩ : ∃ i : Nat, q = (i : Int) := ⟨q.toNat, by omega⟩
      obtain ⟨j, rfl⟩ : ∃ j : Nat, r = (j : Int) := ⟨r.toNat, by omega⟩
      obtain ⟨g1, g2⟩ := nm_wi (n := i) (m := m) (by omega) hmM
      have g3 : (i + 1) * m ≤ n * m := Nat.mul_le_mul_right m (by omega)
      have g4 : (i + 1) * m = i * m + m := Nat.succ_mul i m
      have g5 : wi64 (((i * m : Nat) : Int) + (j : Int)) = ((j + i * m : Nat) : Int) := by rw [wi64_id (by omega) (by omega)]; simp; omega
      simp only [Option.bind_some, tnn, tlt (show i < n by omega), tlt (show j < m by omega), Bool.and_self, cond_true, Int.toNat_natCast, gAt_ok, gchk_good hg, if_pos, g2, g5, tlt (show j + i * m < p by omega)]
      have hv : gV n m X Y Z (X i) (Y j) = Z (j + i * m) := by
        unfold gV
        rw [V_at (hg.cols (Y j)).gd (show i ≤ n - 1 by omega) (by omega)]
        unfold col
        rw [V_at (hg.row (show i < n by omega)) (show j ≤ m - 1 by omega) (by omega)]
        rfl
      rw [hv]
      simp
    · rw [gchk_bad hg]
      rfl

theorem V_bound {n : Nat} {X Y : Nat → Int} (hg : Gd n X Y) {lo hi : Int} (x : Int) : ∀ {m : Nat}, m < n → (∀ j, j ≤ m → lo ≤ Y j ∧ Y j ≤ hi) → lo ≤ V X Y x m ∧ V X Y x m ≤ hi
  | 0, _, h => h 0 (Nat.le_refl _)
  | m + 1, hm, h => by
    have h1 := h (m + 1) (Nat.le_refl _)
    have h0 := h m (by omega)
    unfold V
    by_cases c1 : X (m + 1) ≤ x
    · rw [if_pos c1]; exact h1
    · rw [if_neg c1]
      by_cases c2 : X m ≤ x
      · rw [if_pos c2]
        have hp := piece_between hg hm c2 (by omega)
        rcases Int.le_total (Y m) (Y (m + 1)) with c | c
        · have := hp.1 c; omega
        · have := hp.2 c; omega
      · rw [if_neg c2]
        exact V_bound hg x (by omega) fun j hj => h j (by omega)

theorem bounds_loop (z e : Int) (n m p : Nat) (X Y Z : Nat → Int) (hp : p ≤ 5000) : ∀ (d i N : Nat) (lo hi : Int), i + d = p → d < N → lo ≤ hi → (∀ j, j < i → lo ≤ Z j ∧ Z j ≤ hi) →
    ∃ lo' hi', (∀ j, j < p → lo' ≤ Z j ∧ Z j ≤ hi') ∧ rheostatlaw11_GridBounds_l0 20000 N z e lo hi (i : Int) n m p X Y Z = some (z, e, lo', hi', ())
  | 0, i, N, lo, hi, hd, hf, hlh, hk => by
    obtain ⟨g, rfl⟩ : ∃ g, N = g + 1 := ⟨N - 1, by omega⟩
    have e' : i = p := by omega
    subst e'
    refine ⟨lo, hi, hk, ?_⟩
    show rheostatlaw11_GridBounds_l0r 20000 (rheostatlaw11_GridBounds_l0 20000 g) z e lo hi (i : Int) n m i X Y Z = _
    unfold rheostatlaw11_GridBounds_l0r
    rw [tself]
    rfl
  | d + 1, i, N, lo, hi, hd, hf, hlh, hk => by
    obtain ⟨g, rfl⟩ : ∃ g, N = g + 1 := ⟨N - 1, by omega⟩
    have e0 : rheostatlaw11_GridBounds_l0 20000 (g + 1) z e lo hi (i : Int) n m p X Y Z = rheostatlaw11_GridBounds_l0r 20000 (rheostatlaw11_GridBounds_l0 20000 g) z e lo hi (i : Int) n m p X Y Z := rfl
    rw [e0]
    unfold rheostatlaw11_GridBounds_l0r
    simp only [tlt (show i < p by omega), tnn, Bool.and_self, cond_true, Int.toNat_natCast, tup (show i < 1000000 by omega)]
    have a1 : (bif decide (Z i < lo) then Z i else lo) ≤ Z i ∧ (bif decide (Z i < lo) then Z i else lo) ≤ lo := by
      by_cases c : Z i < lo
      · rw [decide_eq_true c]; exact ⟨Int.le_refl _, Int.le_of_lt c⟩
      · rw [decide_eq_false c]; exact ⟨by simp only [cond_false]; omega, Int.le_refl _⟩
    have a2 : Z i ≤ (bif decide (Z i > hi) then Z i else hi) ∧ hi ≤ (bif decide (Z i > hi) then Z i else hi) := by
      by_cases c : Z i > hi
      · rw [decide_eq_true c]; exact ⟨Int.le_refl _, Int.le_of_lt c⟩
      · rw [decide_eq_false c]; exact ⟨by simp only [cond_false]; omega, Int.le_refl _⟩
    refine bounds_loop z e n m p X Y Z hp d (i + 1) g _ _ (by omega) (by omega) (by omega) fun j hj => ?_
    by_cases e : j = i
    · subst e; exact ⟨a1.1, a2.1⟩
    · have := hk j (by omega)
      omega

theorem GridBounds_ok (n m p : Nat) (x y : Int) (X Y Z : Nat → Int) : rheostatlaw11_GridBounds_g 20000 n m p x y X Y Z = some true := by
  unfold rheostatlaw11_GridBounds_g
  obtain ⟨b, hb⟩ := light_cases n m p X Y Z
  rw [works_ok, hb]
  simp only [Option.bind_some, Bool.not_true, cond_false]
  cases b with
  | false => rfl
  | true =>
    simp only [Bool.not_true, cond_false, gcheck_ok, Option.bind_some]
    by_cases hg : GGood n m p X Y Z
    · have hn := hg.n2
      have hm := hg.m1
      have hnm := hg.nm
      have hp := hg.pp
      have h4 : 1 * m ≤ n * m := Nat.mul_le_mul_right m (by omega)
      have d0 : ((0 : Int) != 0) = false := rfl
      rw [gchk_good hg]
      obtain ⟨lo, hi, k1, k2⟩ := bounds_loop (gV n m X Y Z x y) 0 n m p X Y Z (by omega) p 0 20000 (Z 0) (Z 0) (by omega) (by omega) (Int.le_refl _) (fun j hj => absurd hj (by omega))
      have e0 : ((0 : Nat) : Int) = 0 := rfl
      rw [e0] at k2
      simp only [d0, cond_false, gAt_ok, gchk_good hg, if_pos, Option.bind_some]
      rw [decide_eq_true (show (0 : Int) < (p : Int) by omega), k2]
      have hv : lo ≤ gV n m X Y Z x y ∧ gV n m X Y Z x y ≤ hi := by
        unfold gV
        refine V_bound (hg.cols y).gd x (by omega) fun i hi => ?_
        unfold col
        refine V_bound (hg.row (show i < n by omega)) y (by omega) fun j hj => ?_
        have g3 : (i + 1) * m ≤ n * m := Nat.mul_le_mul_right m (by omega)
        have g4 : (i + 1) * m = i * m + m := Nat.succ_mul i m
        exact k1 (j + i * m) (by omega)
      simp only [cond_true, Option.bind_some, beq_self_eq_true]
      rw [decide_eq_true (show gV n m X Y Z x y ≥ lo from hv.1), decide_eq_true hv.2]
      rfl
    · rw [gchk_bad hg]
      rfl

theorem minmax_tail (f : Int → Int) (hf : ∀ x y, x ≤ y → f x ≤ f y) (a b : Int) : f (bif decide (b < a) then b else a) ≤ f (bif decide (b > a) then b else a) := by
  by_cases c : b < a
  · rw [decide_eq_true c, decide_eq_false (show ¬ b > a by omega)]; exact hf b a (by omega)
  · rw [decide_eq_false c]
    by_cases c2 : b > a
    · rw [decide_eq_true c2]; exact hf a b (by omega)
    · rw [decide_eq_false c2]; exact Int.le_refl _

theorem GridRises_ok (n m p : Nat) (y a b : Int) (X Y Z : Nat → Int) : rheostatlaw11_GridRises_g 20000 n m p y a b X Y Z = some true := by
  unfold rheostatlaw11_GridRises_g
  obtain ⟨l, hl⟩ := light_cases n m p X Y Z
  rw [works_ok, hl]
  simp only [Option.bind_some, Bool.not_true, cond_false]
  cases l with
  | false => rfl
  | true =>
    simp only [Bool.not_true, cond_false, grises_ok, Option.bind_some]
    cases hr : grs n m p X Y Z with
    | false => rfl
    | true =>
      obtain ⟨hg, hu⟩ := of_dc hr
      have hn := hg.n2
      have hnM := hg.nM
      obtain ⟨A, B, h1, h2⟩ := (column_ok n m p y X Y Z).1 hg
      have hgc := good_congr h1 (hg.cols y)
      have huc : Up n B := fun i hi => by
        rw [(h1 i (by omega)).2, (h1 (i + 1) hi).2]
        exact hg.colUp hu y i hi
      obtain ⟨r, _, k2⟩ := (back_ok n A B a).1 (rs_of hgc huc)
      have d0 : ((0 : Int) != 0) = false := rfl
      unfold grid_Back_g
      rw [h2]
      simp only [Bool.not_true, cond_false, Option.bind_some, gAt_ok, gchk_good hg, if_pos, d0, rrises_ok n A B (by omega), rs_of hgc huc, k2, beq_self_eq_true, cond_true]
      have hv := minmax_tail (fun x => gV n m X Y Z x y) (fun x x' hx => V_mono (hg.cols y).gd (hg.colUp hu y) hx (by omega)) a b
      rw [decide_eq_true hv]
      rfl
end Go.Proofs.Ytkdhedjcpakfeaa
