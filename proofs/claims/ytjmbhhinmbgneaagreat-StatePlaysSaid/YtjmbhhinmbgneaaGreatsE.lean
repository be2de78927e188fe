/-
  Charges to which currents are added: what the printed functions compute, as plain functions of the numbers.
-/
import Derived.Test.YtjmbhhinmbgneaaGreatsC
import Derived.Test.YtjmbhhinmbgneaaGreatsH
namespace Go.Proofs.YtjmbhhinmbgneaaGreat
open Go.Sy
set_option maxHeartbeats 1000000

/-- May a charge be? -/
def chB (c r : Int) : Bool := decide ((-1125899906842624 ≤ c ∧ c ≤ 1125899906842624) ∧ (0 ≤ r ∧ r ≤ 999) ∧ (c = 1125899906842624 → r = 0))

theorem chB_iff {c r : Int} : chB c r = true ↔ (-1125899906842624 ≤ c ∧ c ≤ 1125899906842624) ∧ (0 ≤ r ∧ r ≤ 999) ∧ (c = 1125899906842624 → r = 0) := by simp only [chB, decide_eq_true_eq]

theorem ccheck_ok (c r : Int) : coulomb_Check_g 20000 c r = some (bif chB c r then 0 else 2, ()) := by
  unfold coulomb_Check_g coulomb_residue_whole_g
  rw [size1 _ _ (by omega) (by omega)]
  cases hb : chB c r
  · have hn : ¬ ((-1125899906842624 ≤ c ∧ c ≤ 1125899906842624) ∧ (0 ≤ r ∧ r ≤ 999) ∧ (c = 1125899906842624 → r = 0)) := fun h => by rw [chB_iff.2 h] at hb; cases hb
    unfold inB
    by_cases h1 : -1125899906842624 ≤ c ∧ c ≤ 1125899906842624
    · by_cases h2 : r ≥ 0
      · by_cases h3 : r < 1000
        · have h4 : c = 1125899906842624 := by omega
          have h5 : ¬ r = 0 := by omega
          subst h4
          have h6 : (r == 0) = false := by simpa using h5
          simp [h2, h3, h6]
        · simp [h1, h2, h3]
      · simp [h1, h2]
    · rw [decide_eq_false h1]
      cases decide (r ≥ 0) <;> rfl
  · have h := chB_iff.1 hb
    unfold inB
    have h2 : r ≥ 0 := by omega
    have h3 : r < 1000 := by omega
    by_cases h4 : c = 1125899906842624
    · have h5 := h.2.2 h4
      subst h4 h5
      rfl
    · have h6 : (c == 1125899906842624) = false := by simpa using h4
      simp [h.1, h2, h3, h6]

theorem rcheck_ok (c r : Int) : r14_Check_g 20000 c r = some (bif chB c r then 0 else 2, ()) := by
  unfold r14_Check_g
  cases hb : chB c r
  · have hn : ¬ ((-1125899906842624 ≤ c ∧ c ≤ 1125899906842624) ∧ (0 ≤ r ∧ r ≤ 999) ∧ (c = 1125899906842624 → r = 0)) := fun h => by rw [chB_iff.2 h] at hb; cases hb
    by_cases h1 : c < -1125899906842624
    · simp [h1]
    · by_cases h2 : c > 1125899906842624
      · simp [h1, h2]
      · by_cases h3 : r < 0
        · simp [h1, h2, h3]
        · by_cases h4 : r > 999
          · simp [h1, h2, h3, h4]
          · have h5 : c = 1125899906842624 := by omega
            have h6 : r > 0 := by omega
            subst h5
            simp [h3, h4, h6]
  · have h := chB_iff.1 hb
    rw [decide_eq_false (show ¬ c < -1125899906842624 by omega), decide_eq_false (show ¬ c > 1125899906842624 by omega), decide_eq_false (show ¬ r < 0 by omega), decide_eq_false (show ¬ r > 999 by omega)]
    by_cases h4 : c = 1125899906842624
    · have h5 := h.2.2 h4
      subst h4 h5
      rfl
    · have h6 : (c == 1125899906842624) = false := by simpa using h4
      rw [h6]
      rfl

def totE (c r : Int) : Int × Int × Unit := bif chB c r then (c * 1000 + r, 0, ()) else (0, 2, ())

theorem ctotal_ok (c r : Int) : coulomb_Total_g 20000 c r = some (totE c r) := by
  unfold coulomb_Total_g totE
  rw [ccheck_ok]
  cases hb : chB c r
  · rfl
  · have h := chB_iff.1 hb
    simp only [Option.bind_some, cond_true, show ((0 : Int) != 0) = false from rfl, cond_false]
    unfold coulomb_sum_total_g
    rw [wi64_id (x := c * 1000) (by omega) (by omega), wi64_id (by omega) (by omega)]
    rfl

theorem rtotal_ok (c r : Int) : r14_Total_g 20000 c r = some (totE c r) := by
  unfold r14_Total_g totE
  rw [rcheck_ok]
  cases hb : chB c r
  · rfl
  · have h := chB_iff.1 hb
    simp only [Option.bind_some, cond_true, show ((0 : Int) != 0) = false from rfl, cond_false]
    rw [wi64_id (x := c * 1000) (by omega) (by omega), wi64_id (by omega) (by omega)]

/-- The charge of a total. -/
theorem ch_of {t : Int} (h : -1125899906842624000 ≤ t) (h' : t ≤ 1125899906842624000) : chB (t / 1000) (t % 1000) = true := chB_iff.2 (by omega)

theorem t1000 (t : Int) : (0 ≤ t → Int.tdiv t 1000 = t / 1000 ∧ Int.tmod t 1000 = t % 1000) ∧ (t < 0 → Int.tdiv t 1000 = -((-t) / 1000) ∧ Int.tmod t 1000 = -((-t) % 1000)) := ⟨fun h => tdiv_pos h, fun h => tdiv_neg' h⟩

theorem down1000 (t : Int) (h : -1125899906842624000 ≤ t) (h' : t ≤ 1125899906842624000) : fx_Down_g 20000 t 1000 = some (t / 1000, 0, ()) := by
  unfold fx_Down_g fx_Down_1_g
  have d1 : decide ((1000 : Int) < 1) = false := rfl
  have d2 : ((1000 : Int) == 0) = false := rfl
  rw [d1, d2]
  simp only [cond_false, Option.bind_some]
  by_cases hs : t < 0
  · obtain ⟨e1, e2⟩ := (t1000 t).2 hs
    rw [e1, e2, wi64_id (x := -((-t) / 1000)) (by omega) (by omega), wi64_id (x := -((-t) / 1000) - 1) (by omega) (by omega)]
    by_cases hr : (-t) % 1000 = 0
    · rw [hr]
      simp
      omega
    · rw [decide_eq_true (show -((-t) % 1000) < 0 by omega)]
      simp
      omega
  · obtain ⟨e1, e2⟩ := (t1000 t).1 (by omega)
    rw [e1, e2, decide_eq_false (show ¬ t % 1000 < 0 by omega), wi64_id (x := t / 1000) (by omega) (by omega)]
    rfl

theorem rdown1000 (t : Int) (h : -1125899906842624000 ≤ t) (h' : t ≤ 1125899906842624000) : r03_Down_g 20000 t 1000 = some (t / 1000, 0, ()) := by
  unfold r03_Down_g
  have d1 : decide ((1000 : Int) < 1) = false := rfl
  have d2 : ((1000 : Int) == 0) = false := rfl
  rw [d1, d2]
  simp only [cond_false]
  by_cases hs : t < 0
  · obtain ⟨e1, e2⟩ := (t1000 t).2 hs
    rw [e1, e2, wi64_id (x := -((-t) / 1000)) (by omega) (by omega), wi64_id (x := -((-t) / 1000) - 1) (by omega) (by omega)]
    by_cases hr : (-t) % 1000 = 0
    · rw [hr]
      simp
      omega
    · rw [decide_eq_true (show -((-t) % 1000) < 0 by omega)]
      simp
      omega
  · obtain ⟨e1, e2⟩ := (t1000 t).1 (by omega)
    rw [e1, e2, decide_eq_false (show ¬ t % 1000 < 0 by omega), wi64_id (x := t / 1000) (by omega) (by omega)]
    rfl

theorem rleft1000 (t : Int) (h : -1125899906842624000 ≤ t) (h' : t ≤ 1125899906842624000) : r03_Left_g 20000 t 1000 = some (t % 1000, 0, ()) := by
  unfold r03_Left_g
  have d1 : decide ((1000 : Int) < 1) = false := rfl
  have d2 : ((1000 : Int) == 0) = false := rfl
  rw [d1, d2]
  simp only [cond_false]
  by_cases hs : t < 0
  · obtain ⟨e1, e2⟩ := (t1000 t).2 hs
    rw [e2]
    by_cases hr : (-t) % 1000 = 0
    · rw [hr]
      simp
      omega
    · rw [decide_eq_true (show -((-t) % 1000) < 0 by omega), wi64_id (by omega) (by omega)]
      simp
      omega
  · obtain ⟨e1, e2⟩ := (t1000 t).1 (by omega)
    rw [e2, decide_eq_false (show ¬ t % 1000 < 0 by omega)]
    rfl

def M : Int := 1125899906842624000

/-- Sums within the bound. -/
theorem sum1 (x : Int) (h : -9223372036854775808 ≤ x) (h' : x < 9223372036854775808) : fx_Sum_g 20000 1125899906842624000 1 (fun j => selI [x] j) = some (btw (-1125899906842624000) 1125899906842624000 x, 0, ()) := by
  unfold fx_Sum_g
  have hb : fx_bound_g 20000 1125899906842624000 = some (0, ()) := rfl
  have e0 : ∀ (n : Nat) (a b : Int) (c : Nat) (d e : Int) (f : Nat → Int), fx_Sum_l0 20000 (n + 1) a b c d e f = fx_Sum_l0r 20000 (fx_Sum_l0 20000 n) a b c d e f := fun _ _ _ _ _ _ _ => rfl
  rw [hb]
  simp only [Option.bind_some, show ((0 : Int) != 0) = false from rfl, cond_false]
  have k := btw_le (lo := -1125899906842624000) (hi := 1125899906842624000) (n := x) (by omega)
  rw [show (fx_Sum_l0 20000 20000) = fx_Sum_l0 20000 ((20000 - 2) + 1 + 1) from rfl, e0]
  have w1 : wi64 (wi64 (0 - 1125899906842624000) - 0) = -1125899906842624000 := rfl
  have w2 : wi64 (1125899906842624000 - 0) = 1125899906842624000 := rfl
  have w3 : wi64 (0 + 1) = 1 := rfl
  simp only [fx_Sum_l0r, fx_between_ok, Option.bind_some, w1, w2, w3, Int.zero_add]
  rw [wi64_id (x := btw (-1125899906842624000) 1125899906842624000 (selI [x] (Int.toNat 0))) (by show _ ≤ btw _ _ x; omega) (by show btw _ _ x < _; omega), e0]
  rfl

theorem btw_sum {M t x : Int} (hM : 0 ≤ M) (h1 : -M ≤ t) (h2 : t ≤ M) : t + btw (-M - t) (M - t) x = btw (-M) M (t + x) := by
  unfold btw
  split
  · rw [if_pos (by omega)]; omega
  · split
    · rw [if_neg (by omega), if_pos (by omega)]; omega
    · rw [if_neg (by omega), if_neg (by omega)]

theorem sum2 (t x : Int) (h : -1125899906842624000 ≤ t) (h' : t ≤ 1125899906842624000) (k1 : -1125899906842624000 ≤ x) (k2 : x ≤ 1125899906842624000) : fx_Sum_g 20000 1125899906842624000 2 (fun j => selI [t, x] j) = some (btw (-1125899906842624000) 1125899906842624000 (t + x), 0, ()) := by
  unfold fx_Sum_g
  have hb : fx_bound_g 20000 1125899906842624000 = some (0, ()) := rfl
  have e0 : ∀ (n : Nat) (a b : Int) (c : Nat) (d e : Int) (f : Nat → Int), fx_Sum_l0 20000 (n + 1) a b c d e f = fx_Sum_l0r 20000 (fx_Sum_l0 20000 n) a b c d e f := fun _ _ _ _ _ _ _ => rfl
  rw [hb]
  simp only [Option.bind_some, show ((0 : Int) != 0) = false from rfl, cond_false]
  have k := btw_le (lo := -1125899906842624000) (hi := 1125899906842624000) (n := t + x) (by omega)
  rw [show (fx_Sum_l0 20000 20000) = fx_Sum_l0 20000 ((20000 - 3) + 1 + 1 + 1) from rfl, e0]
  have w1 : wi64 (wi64 (0 - 1125899906842624000) - 0) = -1125899906842624000 := rfl
  have w2 : wi64 (1125899906842624000 - 0) = 1125899906842624000 := rfl
  have w3 : wi64 (0 + 1) = 1 := rfl
  have w4 : wi64 (0 - 1125899906842624000) = -1125899906842624000 := rfl
  have w5 : wi64 (1 + 1) = 2 := rfl
  have w6 : wi64 1 = 1 := rfl
  have s0 : selI [t, x] (Int.toNat 0) = t := rfl
  have s1 : selI [t, x] (Int.toNat 1) = x := rfl
  simp only [fx_Sum_l0r, fx_between_ok, Option.bind_some, w1, w2, w3, Int.zero_add, s0]
  rw [btw_id h h', wi64_id (x := t) (by omega) (by omega), e0]
  simp only [fx_Sum_l0r, fx_between_ok, Option.bind_some, w4, w6, w5, s1]
  have d1 : decide ((0 : Int) < ((2 : Nat) : Int)) = true := rfl
  have d2 : decide ((1 : Int) < ((2 : Nat) : Int)) = true := rfl
  have d3 : decide ((0 : Int) ≤ 0) = true := rfl
  have d4 : decide ((0 : Int) ≤ 1) = true := rfl
  rw [wi64_id (x := -1125899906842624000 - t) (by omega) (by omega), wi64_id (x := 1125899906842624000 - t) (by omega) (by omega), btw_sum (by omega) h h', d1, d2, d3, d4, wi64_id (x := btw (-1125899906842624000) 1125899906842624000 (t + x)) (by omega) (by omega), e0]
  rfl

theorem of1 (t : Int) (h : -1125899906842624000 ≤ t) (h' : t ≤ 1125899906842624000) : coulomb_of_g 20000 1 (fun j => selI [t] j) = some (t % 1000, t / 1000, ()) := by
  unfold coulomb_of_g
  rw [sum1 t (by omega) (by omega), btw_id h h']
  simp only [Option.bind_some]
  rw [down1000 t h h']
  simp only [Option.bind_some]
  rw [wi64_id (x := t / 1000 * 1000) (by omega) (by omega), wi64_id (by omega) (by omega)]
  have : t - t / 1000 * 1000 = t % 1000 := by omega
  rw [this]

theorem of2 (t x : Int) (h : -1125899906842624000 ≤ t) (h' : t ≤ 1125899906842624000) (k1 : -1125899906842624000 ≤ x) (k2 : x ≤ 1125899906842624000) :
    coulomb_of_g 20000 2 (fun j => selI [t, x] j) = some (btw (-1125899906842624000) 1125899906842624000 (t + x) % 1000, btw (-1125899906842624000) 1125899906842624000 (t + x) / 1000, ()) := by
  have k := btw_le (lo := -1125899906842624000) (hi := 1125899906842624000) (n := t + x) (by omega)
  unfold coulomb_of_g
  rw [sum2 t x h h' k1 k2]
  generalize btw (-1125899906842624000) 1125899906842624000 (t + x) = y at *
  simp only [Option.bind_some]
  rw [down1000 y k.1 k.2]
  simp only [Option.bind_some]
  rw [wi64_id (x := y / 1000 * 1000) (by omega) (by omega), wi64_id (by omega) (by omega)]
  have : y - y / 1000 * 1000 = y % 1000 := by omega
  rw [this]

def ofE (t : Int) : Int × Int × Int × Unit := if -1125899906842624000 ≤ t ∧ t ≤ 1125899906842624000 then (t / 1000, t % 1000, 0, ()) else (0, 0, 2, ())

theorem rOf_ok (t : Int) : r14_Of_g 20000 t = some (ofE t) := by
  unfold r14_Of_g ofE r14_Most_g
  have w : wi64 (0 - 1125899906842624000) = -1125899906842624000 := rfl
  simp only [Option.bind_some, w]
  by_cases h1 : t < -1125899906842624000
  · rw [decide_eq_true h1, if_neg (by omega)]; rfl
  · rw [decide_eq_false h1]
    by_cases h2 : t > 1125899906842624000
    · rw [decide_eq_true h2, if_neg (by omega)]; rfl
    · rw [decide_eq_false h2, if_pos (by omega), rdown1000 t (by omega) (by omega), rleft1000 t (by omega) (by omega)]
      rfl

/-- A current, added. -/
def addE (c r cur ticks : Int) : Int × Int × Int × Unit :=
  if chB c r = true ∧ (-2147483648 ≤ cur ∧ cur ≤ 2147483648) ∧ 1 ≤ ticks ∧ ticks ≤ 60000 then
    (btw (-1125899906842624000) 1125899906842624000 (c * 1000 + r + cur * ticks) / 1000, btw (-1125899906842624000) 1125899906842624000 (c * 1000 + r + cur * ticks) % 1000, 0, ()) else (0, 0, 2, ())

theorem part_bound {cur ticks : Int} (h : -2147483648 ≤ cur ∧ cur ≤ 2147483648) (h1 : 1 ≤ ticks) (h2 : ticks ≤ 60000) : -128849018880000 ≤ cur * ticks ∧ cur * ticks ≤ 128849018880000 := by
  have := ab_mul_le (x := cur) (y := ticks) (M := 2147483648) (N := 60000) (ab_bound h.1 h.2) (ab_bound (by omega) (by omega)) (by omega)
  unfold ab at this
  split at this <;> omega

theorem Add_ok (c r cur ticks : Int) : coulomb_Add_g 20000 c r cur ticks = some (addE c r cur ticks) := by
  unfold coulomb_Add_g addE
  rw [ctotal_ok, size1 _ _ (by omega) (by omega)]
  unfold totE inB
  cases hb : chB c r
  · rw [if_neg (by simp)]; rfl
  · have h := chB_iff.1 hb
    simp only [Option.bind_some, cond_true, show ((0 : Int) != 0) = false from rfl, cond_false]
    by_cases h1 : -2147483648 ≤ cur ∧ cur ≤ 2147483648
    · rw [decide_eq_true h1]
      by_cases h2 : ticks < 1
      · rw [decide_eq_true h2, if_neg (by omega)]; rfl
      · rw [decide_eq_false h2]
        by_cases h3 : ticks > 60000
        · rw [decide_eq_true h3, if_neg (by omega)]; rfl
        · have hp := part_bound h1 (show 1 ≤ ticks by omega) (show ticks ≤ 60000 by omega)
          rw [decide_eq_false h3, if_pos ⟨trivial, h1, by omega, by omega⟩, wi64_id (x := cur * ticks) (by omega) (by omega), of2 _ _ (by omega) (by omega) (by omega) (by omega)]
          rfl
    · rw [decide_eq_false h1, if_neg (fun k => h1 k.2.1)]; rfl

theorem runit_ok (K : Nat) (n : Int) : r14_unit_g K n = some (decide (-2147483648 ≤ n ∧ n ≤ 2147483648), ()) := by
  unfold r14_unit_g
  by_cases h1 : n ≥ -2147483648
  · by_cases h2 : n ≤ 2147483648 <;> simp [h1, h2]
  · simp [h1]

theorem rbetween_ok (K : Nat) (lo hi n : Int) : r03_Between_g K lo hi n = some (btw lo hi n, ()) := by
  unfold r03_Between_g btw
  by_cases h1 : n < lo
  · simp [h1]
  · by_cases h2 : n > hi <;> simp [h1, h2]

end Go.Proofs.YtjmbhhinmbgneaaGreat
