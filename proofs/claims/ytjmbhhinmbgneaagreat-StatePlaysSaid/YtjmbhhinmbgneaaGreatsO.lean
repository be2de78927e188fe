/-
  Samples, as the document tells them: what the printed functions compute, as plain functions of the numbers.
-/
import Derived.Test.YtjmbhhinmbgneaaGreatsT
import Derived.Test.YtjmbhhinmbgneaaGreatsB
namespace Go.Proofs.YtjmbhhinmbgneaaGreat.PA
open Go.Sy
set_option maxHeartbeats 1000000

theorem rraw_ok (K : Nat) (x : Int) : r12_raw_g K x = some (rawB x, ()) := by
  unfold r12_raw_g rawB
  by_cases h1 : x ≥ -1048576
  · by_cases h2 : x ≤ 1048576
    · have : -1048576 ≤ x ∧ x ≤ 1048576 := by omega
      simp [h1, h2]
    · have : ¬ (-1048576 ≤ x ∧ x ≤ 1048576) := by omega
      simp [h1, h2]
  · simp [h1]

theorem rcheck_ok (z g p : Int) : r12_Check_g 20000 z g p = some (lineE z g p, ()) := by
  unfold r12_Check_g
  rw [rraw_ok, rraw_ok]
  simp only [Option.bind_some, lineE, lineB]
  cases rawB z
  · rfl
  · cases rawB g
    · rfl
    · by_cases h1 : p < 1
      · have : ¬ (1 ≤ p ∧ p ≤ 1048576) := by omega
        simp [h1, this]
      · by_cases h2 : p > 1048576
        · have : ¬ (1 ≤ p ∧ p ≤ 1048576) := by omega
          simp [h1, h2, this]
        · have : 1 ≤ p ∧ p ≤ 1048576 := by omega
          simp [h1, h2, this]

theorem rbetween_ok (K : Nat) (lo hi n : Int) : r03_Between_g K lo hi n = some (btw lo hi n, ()) := by
  unfold r03_Between_g btw
  by_cases h1 : n < lo
  · simp [h1]
  · by_cases h2 : n > hi <;> simp [h1, h2]

theorem runit_all (z g p c : Int) : r12_Unit_g 20000 z g p c = some (unitE z g p c) := by
  unfold unitE r12_Unit_g
  rw [rcheck_ok, rraw_ok]
  simp only [Option.bind_some]
  cases h : lineB z g p
  · rw [lineE_bad h]
    unfold lineE
    rw [h]
    rfl
  · rw [lineE_zero h]
    cases hc : rawB c
    · rfl
    · have h1 := lineB_iff.1 h
      have h2 := rawB_iff.1 hc
      have h3 := prod_small h hc
      have h4 := nr_bound (a := (c - z) * g) (b := p) (by omega) h3
      obtain ⟨f, D, e1, e2⟩ := rmulnear_ok (c - z) g p (by omega) (by omega) (by omega) (by omega) (by omega) (by omega)
      rw [wi64_id (x := c - z) (by omega) (by omega), e1]
      simp only [cond_false, Bool.not_true, Option.bind_some]
      rw [e2, fit_ok (by omega) (by omega)]
      simp only [Option.bind_some]
      rw [rbetween_ok]
      rfl


theorem rinside_ok (K : Nat) (lo hi n : Int) : r13_Inside_g K lo hi n = some (decide (lo ≤ n ∧ n ≤ hi), ()) := by
  unfold r13_Inside_g
  by_cases h1 : n ≥ lo
  · by_cases h2 : n ≤ hi <;> simp [h1, h2]
  · simp [h1]

theorem rway_step (z g p lo hi : Int) (cont : Option (Unit ⊕ (Int × Unit))) : (((some (lineE z g p, ())).bind fun q1 => (bif (q1.1 != 0) then (some (.inr (120, ()))) else (bif (decide (lo > hi)) then (some (.inr (120, ()))) else (bif (decide (lo < -2147483648)) then (some (.inr (120, ()))) else (bif (decide (hi > 2147483648)) then (some (.inr (120, ()))) else cont)))))) =
    bif wayI z g p lo hi then cont else some (.inr (120, ())) := by
  unfold wayI lineE
  cases lineB z g p
  · rfl
  · by_cases h : lo > hi
    · have : spanB lo hi = false := decide_eq_false (by omega)
      rw [decide_eq_true h, this]
      rfl
    · rw [decide_eq_false h]
      by_cases h2 : lo < -2147483648
      · have : spanB lo hi = false := decide_eq_false (by omega)
        rw [decide_eq_true h2, this]
        rfl
      · rw [decide_eq_false h2]
        by_cases h3 : hi > 2147483648
        · have : spanB lo hi = false := decide_eq_false (by omega)
          rw [decide_eq_true h3, this]
          rfl
        · have : spanB lo hi = true := decide_eq_true (by omega)
          rw [decide_eq_false h3, this]
          rfl

theorem rway_ok (z0 g0 p0 z1 g1 p1 z2 g2 p2 l0 h0 l1 h1 l2 h2 : Int) : r13_Check_g 20000 z0 g0 p0 z1 g1 p1 z2 g2 p2 l0 h0 l1 h1 l2 h2 = some (bif wayI z0 g0 p0 l0 h0 && (wayI z1 g1 p1 l1 h1 && wayI z2 g2 p2 l2 h2) then 0 else 120, ()) := by
  unfold r13_Check_g
  have e : ∀ (n : Nat) (i : Int), r13_Check_l0 20000 (n + 1) i z0 g0 p0 z1 g1 p1 z2 g2 p2 l0 h0 l1 h1 l2 h2 = r13_Check_l0r 20000 (r13_Check_l0 20000 n) i z0 g0 p0 z1 g1 p1 z2 g2 p2 l0 h0 l1 h1 l2 h2 := fun _ _ => rfl
  have st : ∀ (n : Nat), r13_Check_l0 20000 (n + 1) 3 z0 g0 p0 z1 g1 p1 z2 g2 p2 l0 h0 l1 h1 l2 h2 = some (.inl ()) := fun _ => rfl
  have k0 : ∀ n, r13_Check_l0 20000 (n + 1) 0 z0 g0 p0 z1 g1 p1 z2 g2 p2 l0 h0 l1 h1 l2 h2 = bif wayI z0 g0 p0 l0 h0 then r13_Check_l0 20000 n 1 z0 g0 p0 z1 g1 p1 z2 g2 p2 l0 h0 l1 h1 l2 h2 else some (.inr (120, ())) := by
    intro n
    rw [e, ← rway_step z0 g0 p0 l0 h0, ← rcheck_ok]
    rfl
  have k1 : ∀ n, r13_Check_l0 20000 (n + 1) 1 z0 g0 p0 z1 g1 p1 z2 g2 p2 l0 h0 l1 h1 l2 h2 = bif wayI z1 g1 p1 l1 h1 then r13_Check_l0 20000 n 2 z0 g0 p0 z1 g1 p1 z2 g2 p2 l0 h0 l1 h1 l2 h2 else some (.inr (120, ())) := by
    intro n
    rw [e, ← rway_step z1 g1 p1 l1 h1, ← rcheck_ok]
    rfl
  have k2 : ∀ n, r13_Check_l0 20000 (n + 1) 2 z0 g0 p0 z1 g1 p1 z2 g2 p2 l0 h0 l1 h1 l2 h2 = bif wayI z2 g2 p2 l2 h2 then r13_Check_l0 20000 n 3 z0 g0 p0 z1 g1 p1 z2 g2 p2 l0 h0 l1 h1 l2 h2 else some (.inr (120, ())) := by
    intro n
    rw [e, ← rway_step z2 g2 p2 l2 h2, ← rcheck_ok]
    rfl
  rw [show r13_Check_l0 20000 20000 = r13_Check_l0 20000 ((20000 - 4) + 1 + 1 + 1 + 1) from rfl, k0, k1, k2, st]
  cases wayI z0 g0 p0 l0 h0
  · rfl
  · cases wayI z1 g1 p1 l1 h1
    · rfl
    · cases wayI z2 g2 p2 l2 h2 <;> rfl

theorem rread_ok (z0 g0 p0 z1 g1 p1 z2 g2 p2 l0 h0 l1 h1 l2 h2 r0 r1 r2 tk : Int) : r13_Read_g 20000 z0 g0 p0 z1 g1 p1 z2 g2 p2 l0 h0 l1 h1 l2 h2 r0 r1 r2 tk = some (readE z0 g0 p0 z1 g1 p1 z2 g2 p2 l0 h0 l1 h1 l2 h2 r0 r1 r2 tk) := by
  unfold r13_Read_g readE readB
  rw [rway_ok]
  have hw : (wayI z0 g0 p0 l0 h0 && (wayI z1 g1 p1 l1 h1 && wayI z2 g2 p2 l2 h2)) = wayB z0 g0 p0 z1 g1 p1 z2 g2 p2 l0 h0 l1 h1 l2 h2 := rfl
  rw [hw]
  cases hwb : wayB z0 g0 p0 z1 g1 p1 z2 g2 p2 l0 h0 l1 h1 l2 h2
  · rfl
  · simp only [Option.bind_some, cond_true, show ((0 : Int) != 0) = false from rfl, cond_false, Bool.true_and]
    have hl : lineB z0 g0 p0 = true ∧ lineB z1 g1 p1 = true ∧ lineB z2 g2 p2 = true := (way_iff hwb).1
    by_cases t1 : tk < 1
    · rw [decide_eq_true t1, decide_eq_false (show ¬ (1 ≤ tk ∧ tk ≤ 60000) by omega)]
      rfl
    · rw [decide_eq_false t1]
      by_cases t2 : tk > 60000
      · rw [decide_eq_true t2, decide_eq_false (show ¬ (1 ≤ tk ∧ tk ≤ 60000) by omega)]
        rfl
      · rw [decide_eq_false t2, decide_eq_true (show 1 ≤ tk ∧ tk ≤ 60000 by omega)]
        simp only [cond_false, Bool.true_and]
        have e : ∀ (n : Nat) (i a b c d : Int), r13_Read_l0 20000 (n + 1) i z0 g0 p0 z1 g1 p1 z2 g2 p2 l0 h0 l1 h1 l2 h2 r0 r1 r2 tk 0 0 0 0 a b c d = r13_Read_l0r 20000 (r13_Read_l0 20000 n) i z0 g0 p0 z1 g1 p1 z2 g2 p2 l0 h0 l1 h1 l2 h2 r0 r1 r2 tk 0 0 0 0 a b c d := fun _ _ _ _ _ _ => rfl
        have st : ∀ (n : Nat) (a b c d : Int), r13_Read_l0 20000 (n + 1) 3 z0 g0 p0 z1 g1 p1 z2 g2 p2 l0 h0 l1 h1 l2 h2 r0 r1 r2 tk 0 0 0 0 a b c d = some (.inl (0, 0, 0, 0, a, b, c, d, ())) := fun _ _ _ _ _ => rfl
        have k0 : ∀ n a b c d, r13_Read_l0 20000 (n + 1) 0 z0 g0 p0 z1 g1 p1 z2 g2 p2 l0 h0 l1 h1 l2 h2 r0 r1 r2 tk 0 0 0 0 a b c d = bif unitI z0 g0 p0 l0 h0 r0 then r13_Read_l0 20000 n 1 z0 g0 p0 z1 g1 p1 z2 g2 p2 l0 h0 l1 h1 l2 h2 r0 r1 r2 tk 0 0 0 0 (unitV z0 g0 p0 r0) b c d else some (.inr (130, 0, 0, 0, 0, ())) := by
          intro n a b c d
          rw [e, ← read_step z0 g0 p0 l0 h0 r0 hl.1 _ (fun u => r13_Read_l0 20000 n 1 z0 g0 p0 z1 g1 p1 z2 g2 p2 l0 h0 l1 h1 l2 h2 r0 r1 r2 tk 0 0 0 0 u b c d), ← runit_all]
          simp only [← rinside_ok 20000]
          rfl
        have k1 : ∀ n a b c d, r13_Read_l0 20000 (n + 1) 1 z0 g0 p0 z1 g1 p1 z2 g2 p2 l0 h0 l1 h1 l2 h2 r0 r1 r2 tk 0 0 0 0 a b c d = bif unitI z1 g1 p1 l1 h1 r1 then r13_Read_l0 20000 n 2 z0 g0 p0 z1 g1 p1 z2 g2 p2 l0 h0 l1 h1 l2 h2 r0 r1 r2 tk 0 0 0 0 a (unitV z1 g1 p1 r1) c d else some (.inr (130, 0, 0, 0, 0, ())) := by
          intro n a b c d
          rw [e, ← read_step z1 g1 p1 l1 h1 r1 hl.2.1 _ (fun u => r13_Read_l0 20000 n 2 z0 g0 p0 z1 g1 p1 z2 g2 p2 l0 h0 l1 h1 l2 h2 r0 r1 r2 tk 0 0 0 0 a u c d), ← runit_all]
          simp only [← rinside_ok 20000]
          rfl
        have k2 : ∀ n a b c d, r13_Read_l0 20000 (n + 1) 2 z0 g0 p0 z1 g1 p1 z2 g2 p2 l0 h0 l1 h1 l2 h2 r0 r1 r2 tk 0 0 0 0 a b c d = bif unitI z2 g2 p2 l2 h2 r2 then r13_Read_l0 20000 n 3 z0 g0 p0 z1 g1 p1 z2 g2 p2 l0 h0 l1 h1 l2 h2 r0 r1 r2 tk 0 0 0 0 a b (unitV z2 g2 p2 r2) d else some (.inr (130, 0, 0, 0, 0, ())) := by
          intro n a b c d
          rw [e, ← read_step z2 g2 p2 l2 h2 r2 hl.2.2 _ (fun u => r13_Read_l0 20000 n 3 z0 g0 p0 z1 g1 p1 z2 g2 p2 l0 h0 l1 h1 l2 h2 r0 r1 r2 tk 0 0 0 0 a b u d), ← runit_all]
          simp only [← rinside_ok 20000]
          rfl
        rw [show r13_Read_l0 20000 20000 = r13_Read_l0 20000 ((20000 - 4) + 1 + 1 + 1 + 1) from rfl, k0, k1, k2, st]
        cases unitI z0 g0 p0 l0 h0 r0
        · rfl
        · cases unitI z1 g1 p1 l1 h1 r1
          · rfl
          · cases unitI z2 g2 p2 l2 h2 r2 <;> rfl

end Go.Proofs.YtjmbhhinmbgneaaGreat.PA
