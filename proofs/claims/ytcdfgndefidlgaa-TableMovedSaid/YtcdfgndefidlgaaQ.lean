/-
  Law 10 (table), the plain part: what the printed functions compute answers as the laws say.
-/
import Derived.Test.YtcdfgndefidlgaaP
import Derived.Test.YtcdfgndefidlgaaJ
namespace Go.Proofs.Ytcdfgndefidlgaa
open Go.Sy
set_option maxHeartbeats 1000000

/-- A table of two points, for what the laws begin with. -/
theorem works_good : Good 2 (fun j => selI [0, 10] j) (fun j => selI [0, 100] j) := by
  refine ⟨by omega, by omega, fun j hj => ?_⟩
  have h : j = 0 ∨ j = 1 := by omega
  rcases h with rfl | rfl
  · exact ⟨by decide, by decide, fun h => absurd h (by omega)⟩
  · exact ⟨by decide, by decide, fun _ => by decide⟩

theorem works_up : Up 2 (fun j => selI [0, 100] j) := by
  intro i hi
  have h : i = 0 := by omega
  subst h
  decide

theorem works_ok : rheostatlaw10_works_g 1000 = some (true, ()) := by
  unfold rheostatlaw10_works_g
  obtain ⟨r, h1, h2⟩ := back_up works_good works_up 25
  have hr : r = 3 := by
    refine h1.one ⟨by decide, by decide, fun q hq hq' => ?_, fun q hq hq' => ?_⟩
    · have hm := V_mono works_good works_up (show q ≤ 2 by omega) (show 2 - 1 < 2 by omega)
      have e : V (fun j => selI [0, 10] j) (fun j => selI [0, 100] j) 2 (2 - 1) = 20 := by decide
      omega
    · have hm := V_mono works_good works_up hq (show 2 - 1 < 2 by omega)
      have e : V (fun j => selI [0, 10] j) (fun j => selI [0, 100] j) 3 (2 - 1) = 30 := by decide
      omega
  rw [h2, At_ok, At_ok, check_ok, rises_ok, chk_good works_good, rs_of works_good works_up, hr]
  have e1 : V (fun j => selI [0, 10] j) (fun j => selI [0, 100] j) 3 (2 - 1) = 30 := by decide
  have e2 : V (fun j => selI [0, 10] j) (fun j => selI [0, 100] j) 99 (2 - 1) = 100 := by decide
  rw [e1, e2]
  rfl

/-- At most so many. -/
theorem few_ok (n : Nat) : ∃ k : Nat, k ≤ 257 ∧ k ≤ n ∧ (bif (decide (257 < ((n : Nat) : Int))) then 257 else ((n : Nat) : Int)) = (k : Int) ∧
    ((decide (0 ≤ (bif (decide (257 < ((n : Nat) : Int))) then 257 else ((n : Nat) : Int)))) && (decide ((bif (decide (257 < ((n : Nat) : Int))) then 257 else ((n : Nat) : Int)) ≤ ((n : Nat) : Int)))) = true := by
  by_cases h : 257 < (n : Int)
  · refine ⟨257, by omega, by omega, ?_, ?_⟩
    · rw [decide_eq_true h]; rfl
    · rw [decide_eq_true h]
      simp only [cond_true]
      rw [decide_eq_true (show (0 : Int) ≤ 257 by omega), decide_eq_true (show (257 : Int) ≤ (n : Int) by omega)]
      rfl
  · refine ⟨n, by omega, by omega, ?_, ?_⟩
    · rw [decide_eq_false h]; rfl
    · rw [decide_eq_false h]
      simp only [cond_false]
      rw [tnn, decide_eq_true (show (n : Int) ≤ (n : Int) by omega)]
      rfl

theorem among_ok (x : Int) {n : Int} (hn : 1 ≤ n) (hn' : n < 9223372036854775808) : ∃ q, 0 ≤ q ∧ q < n ∧ rheostatbase_Among_g 1000 x n = some (q, ()) := by
  have hx : 0 ≤ wu64 x := by rw [wu64_def]; omega
  have hm := Int.emod_nonneg (wu64 x) (show n ≠ 0 by omega)
  have hm' := Int.emod_lt_of_pos (wu64 x) (show 0 < n by omega)
  refine ⟨wu64 x % n, hm, hm', ?_⟩
  unfold rheostatbase_Among_g
  have d : (n == 0) = false := by simp; omega
  rw [decide_eq_false (by omega), wu64_id (x := n) (by omega) (by omega), d, (tdiv_pos hx).2]
  simp only [cond_false]
  rw [wi64_id (by omega) (by omega)]

theorem TableTells_ok (n : Nat) (x y : Int) (X Y : Nat → Int) : rheostatlaw10_TableTells_g 1000 n x y X Y = some true := by
  unfold rheostatlaw10_TableTells_g
  obtain ⟨k, hk, hkn, h1, h2⟩ := few_ok n
  rw [h2, h1]
  simp only [cond_true, Int.toNat_natCast, Nat.zero_add, works_ok, check_ok, rcheck_ok, At_ok, rAt_ok, rises_ok, rrises_ok k X Y hk]
  by_cases h0 : k = 0
  · subst h0
    have hb : ∀ X Y, ¬ Good 0 X Y := fun X Y h => by have := h.1; omega
    rw [(back_ok 0 (fun _ => 0) (fun _ => 0) y).2 (rs_not fun h => hb _ _ h.1), (rback_ok 0 X Y y (by omega)).2 (rs_not fun h => hb _ _ h.1),
      rs_not (fun h => hb (fun _ => 0) (fun _ => 0) h.1), rs_not (fun h => hb X Y h.1), chk_bad (hb X Y), chk_bad (hb (fun _ => 0) (fun _ => 0))]
    rfl
  · have hb : Nat.blt 0 k = true := by rw [Nat.blt_eq]; omega
    have hc : Nat.ble (k * 16) 140737488355328 = true := by rw [Nat.ble_eq]; omega
    rw [hb, hc]
    simp only [cond_true]
    have he : ∃ q : Int × Int × Unit, table_Back_g 1000 k y X Y = some q ∧ rheostatref10_Back_g 1000 k y X Y = some q := by
      cases hr : rs k X Y with
      | true =>
        obtain ⟨r, a1, a2⟩ := (back_ok k X Y y).1 hr
        obtain ⟨r', b1, b2⟩ := (rback_ok k X Y y hk).1 hr
        rw [b1.one a1] at b2
        exact ⟨_, a2, b2⟩
      | false => exact ⟨_, (back_ok k X Y y).2 hr, (rback_ok k X Y y hk).2 hr⟩
    obtain ⟨q, q1, q2⟩ := he
    rw [q1, q2]
    simp only [Option.bind_some, beq_self_eq_true, cond_true]

theorem points_tail (a b v : Int) (h1 : min a b ≤ v) (h2 : v ≤ max a b) :
    (bif decide (v ≥ (bif decide (b < a) then b else a)) then some (decide (v ≤ (bif decide (b > a) then b else a))) else some false) = some true := by
  by_cases c1 : b < a
  · rw [decide_eq_true c1, decide_eq_false (show ¬ b > a by omega)]
    simp only [cond_true, cond_false]
    rw [decide_eq_true (show v ≥ b by omega), decide_eq_true (show v ≤ a by omega)]
    rfl
  · rw [decide_eq_false c1]
    simp only [cond_false]
    rw [decide_eq_true (show v ≥ a by omega)]
    by_cases c2 : b > a
    · rw [decide_eq_true c2]
      simp only [cond_true]
      rw [decide_eq_true (show v ≤ b by omega)]
    · rw [decide_eq_false c2]
      simp only [cond_true, cond_false]
      rw [decide_eq_true (show v ≤ a by omega)]

theorem TablePoints_ok (n : Nat) (k0 x0 : Int) (X Y : Nat → Int) : rheostatlaw10_TablePoints_g 1000 n k0 x0 X Y = some true := by
  unfold rheostatlaw10_TablePoints_g
  obtain ⟨k, hk, hkn, h1, h2⟩ := few_ok n
  rw [h2, h1, works_ok]
  simp only [cond_true, Int.toNat_natCast, Option.bind_some, Bool.not_true, cond_false, check_ok]
  by_cases hg : Good k X Y
  · have h3 := hg.1
    rw [chk_good hg]
    have d0 : ((0 : Int) != 0) = false := rfl
    rw [d0]
    simp only [cond_false]
    rw [wi64_id (x := (k : Int) - 1) (by omega) (by omega)]
    obtain ⟨q, q1, q2, q3⟩ := among_ok k0 (n := (k : Int) - 1) (by omega) (by omega)
    rw [q3]
    obtain ⟨i, rfl⟩ : ∃ i : Nat, q = (i : Int) := ⟨q.toNat, by omega⟩
    simp only [Option.bind_some]
    rw [tup (show i < 1000000 by omega)]
    simp only [tnn, tlt (show i < k by omega), tlt (show i + 1 < k by omega), Bool.and_self, cond_true, Int.toNat_natCast]
    have hs := hg.step (show i + 1 < k by omega)
    have g1 := hg.2.2 i (by omega)
    have g2 := hg.2.2 (i + 1) (by omega)
    unfold pt wi at g1 g2
    rw [wi64_id (x := X (i + 1) - X i) (by omega) (by omega), wi64_id (x := X (i + 1) - X i + 1) (by omega) (by omega)]
    obtain ⟨t, t1, t2, t3⟩ := among_ok x0 (n := X (i + 1) - X i + 1) (by omega) (by omega)
    rw [t3]
    simp only [Option.bind_some, At_ok, chk_good hg, if_pos]
    rw [wi64_id (x := X i + t) (by omega) (by omega), V_at hg (show i ≤ k - 1 by omega) (by omega), V_at hg (show i + 1 ≤ k - 1 by omega) (by omega)]
    have hv : min (Y i) (Y (i + 1)) ≤ V X Y (X i + t) (k - 1) ∧ V X Y (X i + t) (k - 1) ≤ max (Y i) (Y (i + 1)) := by
      by_cases e : t = X (i + 1) - X i
      · rw [show X i + t = X (i + 1) by omega, V_at hg (show i + 1 ≤ k - 1 by omega) (by omega)]
        omega
      · rw [V_mid hg (i := i) (by omega) (by omega) (by omega) (by omega)]
        have hp := piece_between hg (show i + 1 < k by omega) (x := X i + t) (by omega) (by omega)
        omega
    generalize V X Y (X i + t) (k - 1) = v at *
    simp only [beq_self_eq_true, cond_true]
    exact points_tail _ _ _ hv.1 hv.2
  · rw [chk_bad hg]
    rfl

theorem TableRises_ok (n : Nat) (x y : Int) (X Y : Nat → Int) : rheostatlaw10_TableRises_g 1000 n x y X Y = some true := by
  unfold rheostatlaw10_TableRises_g
  obtain ⟨k, hk, hkn, h1, h2⟩ := few_ok n
  rw [h2, h1, works_ok]
  simp only [cond_true, Int.toNat_natCast, Option.bind_some, Bool.not_true, cond_false, rises_ok]
  cases hr : rs k X Y with
  | false => rfl
  | true =>
    obtain ⟨hg, hu⟩ := rs_true hr
    have h3 := hg.1
    simp only [Bool.not_true, cond_false, At_ok, chk_good hg, if_pos, Option.bind_some, beq_self_eq_true, cond_true]
    by_cases c : y < x
    · rw [decide_eq_true c, decide_eq_false (show ¬ y > x by omega)]
      simp only [cond_true, cond_false]
      rw [decide_eq_true (V_mono hg hu (show y ≤ x by omega) (by omega))]
    · rw [decide_eq_false c]
      simp only [cond_false]
      by_cases c2 : y > x
      · rw [decide_eq_true c2]
        simp only [cond_true]
        rw [decide_eq_true (V_mono hg hu (show x ≤ y by omega) (by omega))]
      · rw [decide_eq_false c2]
        simp only [cond_false]
        rw [decide_eq_true (Int.le_refl _)]

theorem TableBack_ok (n : Nat) (y : Int) (X Y : Nat → Int) : rheostatlaw10_TableBack_g 1000 n y X Y = some true := by
  unfold rheostatlaw10_TableBack_g
  obtain ⟨k, hk, hkn, h1, h2⟩ := few_ok n
  rw [h2, h1, works_ok]
  simp only [cond_true, Int.toNat_natCast, Option.bind_some, Bool.not_true, cond_false]
  cases hr : rs k X Y with
  | false =>
    rw [(back_ok k X Y y).2 hr, rises_ok, hr]
    rfl
  | true =>
    obtain ⟨hg, hu⟩ := rs_true hr
    have h3 := hg.1
    obtain ⟨r, ⟨a1, a2, a3, a4⟩, b⟩ := (back_ok k X Y y).1 hr
    have hw := hg.wide
    unfold wi at hw
    rw [b]
    have d0 : ((0 : Int) != 0) = false := rfl
    have e1 : wi64 ((k : Int) - 1) = ((k - 1 : Nat) : Int) := by rw [wi64_id (by omega) (by omega)]; omega
    simp only [Option.bind_some, d0, cond_false, e1]
    rw [decide_eq_true (show (0 : Int) < (k : Int) by omega)]
    simp only [tnn, tlt (show k - 1 < k by omega), Bool.and_self, cond_true, Int.toNat_natCast]
    rw [decide_eq_false (show ¬ r < X 0 by omega), decide_eq_false (show ¬ r > X (k - 1) by omega)]
    simp only [cond_false, At_ok, chk_good hg, if_pos, Option.bind_some]
    by_cases c : y > Y (k - 1)
    · rw [decide_eq_true c]
      have e : r = X (k - 1) := by
        rcases Int.lt_or_le r (X (k - 1)) with h | h
        · have u1 := a4 r (Int.le_refl _) h
          have u2 := V_le hg hu r (show k - 1 < k by omega)
          omega
        · omega
      rw [e]
      simp
    · rw [decide_eq_false c, wi64_id (x := r - 1) (by omega) (by omega)]
      simp only [cond_false]
      have hv : V X Y r (k - 1) ≥ y := by
        rcases Int.lt_or_le r (X (k - 1)) with h | h
        · exact a4 r (Int.le_refl _) h
        · rw [V_high h]; omega
      rw [decide_eq_true hv]
      simp only [cond_true]
      by_cases c2 : r = X 0
      · rw [c2]
        simp
      · have d1 : (r == X 0) = false := by simpa using c2
        rw [d1, decide_eq_true (a3 (r - 1) (by omega) (by omega))]
        rfl
end Go.Proofs.Ytcdfgndefidlgaa
