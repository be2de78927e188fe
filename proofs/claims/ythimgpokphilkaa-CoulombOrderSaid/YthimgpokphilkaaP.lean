/-
  Law 14 (coulomb), the plain part: charges and their totals.
-/
import Derived.Test.YthimgpokphilkaaD
namespace Go.Proofs.Ythimgpokphilkaa
open Go.Sy
set_option maxHeartbeats 1000000

theorem works_ok : rheostatlaw14_works_g 1000 = some (true, ()) := by kernel_rfl

theorem nat_lt_dec {i n : Nat} (h : i < n) : decide ((i : Int) < (n : Int)) = true := by simp; omega
theorem nat_nn_dec (i : Nat) : decide (0 ≤ (i : Int)) = true := by simp
theorem wi_succ {i : Nat} (h : i < 1000000) : wi64 ((i : Int) + 1) = ((i + 1 : Nat) : Int) := by rw [wi64_id (by omega) (by omega)]; simp
theorem nat_lt_self (n : Nat) : decide ((n : Int) < (n : Int)) = false := by simp

def inB (b x : Int) : Bool := decide (-b ≤ x ∧ x ≤ b)

def allIn (b : Int) (m : Nat → Int) (i : Nat) : Nat → Bool
  | 0 => true
  | d + 1 => inB b (m i) && allIn b m (i + 1) d

theorem size_loop (b : Int) (hb : 0 ≤ b) (hb' : b < 9223372036854775808) (n : Nat) (m : Nat → Int) (hn : n < 900) : ∀ (d i fuel : Nat), i + d = n → d < fuel →
    coulomb_size_l0 1000 fuel b n (n : Int) (i : Int) m = some (bif allIn b m i d then .inl () else .inr (false, ()))
  | 0, i, fuel, hd, hf => by
    obtain ⟨f, rfl⟩ : ∃ f, fuel = f + 1 := ⟨fuel - 1, by omega⟩
    have e : i = n := by omega
    subst e
    show coulomb_size_l0r 1000 (coulomb_size_l0 1000 f) b i (i : Int) (i : Int) m = _
    simp only [coulomb_size_l0r, nat_lt_self, cond_false, allIn, cond_true]
  | d + 1, i, fuel, hd, hf => by
    obtain ⟨f, rfl⟩ : ∃ f, fuel = f + 1 := ⟨fuel - 1, by omega⟩
    have hin : i < n := by omega
    have ih := size_loop b hb hb' n m hn d (i + 1) f (by omega) (by omega)
    have e0 : coulomb_size_l0 1000 (f + 1) b n (n : Int) (i : Int) m = coulomb_size_l0r 1000 (coulomb_size_l0 1000 f) b n (n : Int) (i : Int) m := rfl
    have eb : wi64 (0 - b) = -b := by rw [wi64_id (by omega) (by omega)]; omega
    rw [e0]
    simp only [coulomb_size_l0r, nat_lt_dec hin, nat_nn_dec, Bool.and_self, cond_true, Int.toNat_natCast, eb, wi_succ (show i < 1000000 by omega), ih, allIn, inB]
    by_cases h1 : m i < -b
    · rw [decide_eq_true h1, decide_eq_false (show ¬ (-b ≤ m i ∧ m i ≤ b) by omega)]
      rfl
    · rw [decide_eq_false h1]
      by_cases h2 : m i > b
      · rw [decide_eq_true h2, decide_eq_false (show ¬ (-b ≤ m i ∧ m i ≤ b) by omega)]
        rfl
      · rw [decide_eq_false h2, decide_eq_true (show -b ≤ m i ∧ m i ≤ b by omega)]
        rfl

theorem size_ok' (b : Int) (hb : 0 ≤ b) (hb' : b < 9223372036854775808) (n : Nat) (m : Nat → Int) (hn : n < 900) : coulomb_size_g 1000 b n m = some (allIn b m 0 n, ()) := by
  unfold coulomb_size_g
  have h : coulomb_size_l0 1000 1000 b n (n : Int) 0 m = _ := size_loop b hb hb' n m hn n 0 1000 (by omega) (by omega)
  rw [h]
  cases allIn b m 0 n <;> rfl

theorem size1 (b x : Int) (hb : 0 ≤ b) (hb' : b < 9223372036854775808) : coulomb_size_g 1000 b 1 (fun j => selI [x] j) = some (inB b x, ()) := by
  rw [size_ok' b hb hb' 1 _ (by omega)]
  simp [allIn, selI]

theorem size2 (b x y : Int) (hb : 0 ≤ b) (hb' : b < 9223372036854775808) : coulomb_size_g 1000 b 2 (fun j => selI [x, y] j) = some (inB b x && inB b y, ()) := by
  rw [size_ok' b hb hb' 2 _ (by omega)]
  simp [allIn, selI]

/-- May a charge be? -/
def chB (c r : Int) : Bool := decide ((-1125899906842624 ≤ c ∧ c ≤ 1125899906842624) ∧ (0 ≤ r ∧ r ≤ 999) ∧ (c = 1125899906842624 → r = 0))

theorem chB_iff {c r : Int} : chB c r = true ↔ (-1125899906842624 ≤ c ∧ c ≤ 1125899906842624) ∧ (0 ≤ r ∧ r ≤ 999) ∧ (c = 1125899906842624 → r = 0) := by simp only [chB, decide_eq_true_eq]

theorem ccheck_ok (c r : Int) : coulomb_Check_g 1000 c r = some (bif chB c r then 0 else 2, ()) := by
  unfold coulomb_Check_g coulomb_residue_whole_g
  rw [size1 _ _ (by omega) (by omega)]
  cases hb : chB c r
  · have hn : ¬ ((-1125899906842624 ≤ c ∧ c ≤ 1125899906842624) ∧ (0 ≤ r ∧ r ≤ 999) ∧ (c = 1125899906842624 → r = 0)) := fun h => by rw [chB_iff.2 h] at hb; cases hb
    unfold inB
    by_cases h1 : -1125899906842624 ≤ c ∧ c ≤ 1125899906842624
    · by_cases h2 : r ≥ 0
      · by_cases h3 : r < 1000
        · have h4 : c = 1125899906842624 := by omega
          have h5 : ¬ r = 0 := by omega
          subst h4
          have h6 : (r == 0) = false := by simpa using h5
          simp [h2, h3, h6]
        · simp [h1, h2, h3]
      · simp [h1, h2]
    · rw [decide_eq_false h1]
      cases decide (r ≥ 0) <;> rfl
  · have h := chB_iff.1 hb
    unfold inB
    have h2 : r ≥ 0 := by omega
    have h3 : r < 1000 := by omega
    by_cases h4 : c = 1125899906842624
    · have h5 := h.2.2 h4
      subst h4 h5
      rfl
    · have h6 : (c == 1125899906842624) = false := by simpa using h4
      simp [h.1, h2, h3, h6]

theorem rcheck_ok (c r : Int) : rheostatref14_Check_g 1000 c r = some (bif chB c r then 0 else 2, ()) := by
  unfold rheostatref14_Check_g
  cases hb : chB c r
  · have hn : ¬ ((-1125899906842624 ≤ c ∧ c ≤ 1125899906842624) ∧ (0 ≤ r ∧ r ≤ 999) ∧ (c = 1125899906842624 → r = 0)) := fun h => by rw [chB_iff.2 h] at hb; cases hb
    by_cases h1 : c < -1125899906842624
    · simp [h1]
    · by_cases h2 : c > 1125899906842624
      · simp [h1, h2]
      · by_cases h3 : r < 0
        · simp [h1, h2, h3]
        · by_cases h4 : r > 999
          · simp [h1, h2, h3, h4]
          · have h5 : c = 1125899906842624 := by omega
            have h6 : r > 0 := by omega
            subst h5
            simp [h3, h4, h6]
  · have h := chB_iff.1 hb
    rw [decide_eq_false (show ¬ c < -1125899906842624 by omega), decide_eq_false (show ¬ c > 1125899906842624 by omega), decide_eq_false (show ¬ r < 0 by omega), decide_eq_false (show ¬ r > 999 by omega)]
    by_cases h4 : c = 1125899906842624
    · have h5 := h.2.2 h4
      subst h4 h5
      rfl
    · have h6 : (c == 1125899906842624) = false := by simpa using h4
      rw [h6]
      rfl

def totE (c r : Int) : Int × Int × Unit := bif chB c r then (c * 1000 + r, 0, ()) else (0, 2, ())

theorem ctotal_ok (c r : Int) : coulomb_Total_g 1000 c r = some (totE c r) := by
  unfold coulomb_Total_g totE
  rw [ccheck_ok]
  cases hb : chB c r
  · rfl
  · have h := chB_iff.1 hb
    simp only [Option.bind_some, cond_true, show ((0 : Int) != 0) = false from rfl, cond_false]
    unfold coulomb_sum_total_g
    rw [wi64_id (x := c * 1000) (by omega) (by omega), wi64_id (by omega) (by omega)]
    rfl

theorem rtotal_ok (c r : Int) : rheostatref14_Total_g 1000 c r = some (totE c r) := by
  unfold rheostatref14_Total_g totE
  rw [rcheck_ok]
  cases hb : chB c r
  · rfl
  · have h := chB_iff.1 hb
    simp only [Option.bind_some, cond_true, show ((0 : Int) != 0) = false from rfl, cond_false]
    rw [wi64_id (x := c * 1000) (by omega) (by omega), wi64_id (by omega) (by omega)]

/-- The charge of a total. -/
theorem ch_of {t : Int} (h : -1125899906842624000 ≤ t) (h' : t ≤ 1125899906842624000) : chB (t / 1000) (t % 1000) = true := chB_iff.2 (by omega)

theorem t1000 (t : Int) : (0 ≤ t → Int.tdiv t 1000 = t / 1000 ∧ Int.tmod t 1000 = t % 1000) ∧ (t < 0 → Int.tdiv t 1000 = -((-t) / 1000) ∧ Int.tmod t 1000 = -((-t) % 1000)) := ⟨fun h => tdiv_pos h, fun h => tdiv_neg' h⟩

theorem down1000 (t : Int) (h : -1125899906842624000 ≤ t) (h' : t ≤ 1125899906842624000) : fx_Down_g 1000 t 1000 = some (t / 1000, 0, ()) := by
  unfold fx_Down_g fx_Down_1_g
  have d1 : decide ((1000 : Int) < 1) = false := rfl
  have d2 : ((1000 : Int) == 0) = false := rfl
  rw [d1, d2]
  simp only [cond_false, Option.bind_some]
  by_cases hs : t < 0
  · obtain ⟨e1, e2⟩ := (t1000 t).2 hs
    rw [e1, e2, wi64_id (x := -((-t) / 1000)) (by omega) (by omega), wi64_id (x := -((-t) / 1000) - 1) (by omega) (by omega)]
    by_cases hr : (-t) % 1000 = 0
    · rw [hr]
      simp
      omega
    · rw [decide_eq_true (show -((-t) % 1000) < 0 by omega)]
      simp
      omega
  · obtain ⟨e1, e2⟩ := (t1000 t).1 (by omega)
    rw [e1, e2, decide_eq_false (show ¬ t % 1000 < 0 by omega), wi64_id (x := t / 1000) (by omega) (by omega)]
    rfl

theorem rdown1000 (t : Int) (h : -1125899906842624000 ≤ t) (h' : t ≤ 1125899906842624000) : rheostatref03_Down_g 1000 t 1000 = some (t / 1000, 0, ()) := by
  unfold rheostatref03_Down_g
  have d1 : decide ((1000 : Int) < 1) = false := rfl
  have d2 : ((1000 : Int) == 0) = false := rfl
  rw [d1, d2]
  simp only [cond_false]
  by_cases hs : t < 0
  · obtain ⟨e1, e2⟩ := (t1000 t).2 hs
    rw [e1, e2, wi64_id (x := -((-t) / 1000)) (by omega) (by omega), wi64_id (x := -((-t) / 1000) - 1) (by omega) (by omega)]
    by_cases hr : (-t) % 1000 = 0
    · rw [hr]
      simp
      omega
    · rw [decide_eq_true (show -((-t) % 1000) < 0 by omega)]
      simp
      omega
  · obtain ⟨e1, e2⟩ := (t1000 t).1 (by omega)
    rw [e1, e2, decide_eq_false (show ¬ t % 1000 < 0 by omega), wi64_id (x := t / 1000) (by omega) (by omega)]
    rfl

theorem rleft1000 (t : Int) (h : -1125899906842624000 ≤ t) (h' : t ≤ 1125899906842624000) : rheostatref03_Left_g 1000 t 1000 = some (t % 1000, 0, ()) := by
  unfold rheostatref03_Left_g
  have d1 : decide ((1000 : Int) < 1) = false := rfl
  have d2 : ((1000 : Int) == 0) = false := rfl
  rw [d1, d2]
  simp only [cond_false]
  by_cases hs : t < 0
  · obtain ⟨e1, e2⟩ := (t1000 t).2 hs
    rw [e2]
    by_cases hr : (-t) % 1000 = 0
    · rw [hr]
      simp
      omega
    · rw [decide_eq_true (show -((-t) % 1000) < 0 by omega), wi64_id (by omega) (by omega)]
      simp
      omega
  · obtain ⟨e1, e2⟩ := (t1000 t).1 (by omega)
    rw [e2, decide_eq_false (show ¬ t % 1000 < 0 by omega)]
    rfl

def M : Int := 1125899906842624000

/-- Sums within the bound. -/
theorem sum1 (x : Int) (h : -9223372036854775808 ≤ x) (h' : x < 9223372036854775808) : fx_Sum_g 1000 1125899906842624000 1 (fun j => selI [x] j) = some (btw (-1125899906842624000) 1125899906842624000 x, 0, ()) := by
  unfold fx_Sum_g
  have hb : fx_bound_g 1000 1125899906842624000 = some (0, ()) := rfl
  have e0 : ∀ (n : Nat) (a b : Int) (c : Nat) (d e : Int) (f : Nat → Int), fx_Sum_l0 1000 (n + 1) a b c d e f = fx_Sum_l0r 1000 (fx_Sum_l0 1000 n) a b c d e f := fun _ _ _ _ _ _ _ => rfl
  rw [hb]
  simp only [Option.bind_some, show ((0 : Int) != 0) = false from rfl, cond_false]
  have k := btw_le (lo := -1125899906842624000) (hi := 1125899906842624000) (n := x) (by omega)
  rw [show (fx_Sum_l0 1000 1000) = fx_Sum_l0 1000 (998 + 1 + 1) from rfl, e0]
  have w1 : wi64 (wi64 (0 - 1125899906842624000) - 0) = -1125899906842624000 := rfl
  have w2 : wi64 (1125899906842624000 - 0) = 1125899906842624000 := rfl
  have w3 : wi64 (0 + 1) = 1 := rfl
  simp only [fx_Sum_l0r, fx_between_ok, Option.bind_some, w1, w2, w3, Int.zero_add]
  rw [wi64_id (x := btw (-1125899906842624000) 1125899906842624000 (selI [x] (Int.toNat 0))) (by show _ ≤ btw _ _ x; omega) (by show btw _ _ x < _; omega), e0]
  rfl

theorem btw_sum {M t x : Int} (hM : 0 ≤ M) (h1 : -M ≤ t) (h2 : t ≤ M) : t + btw (-M - t) (M - t) x = btw (-M) M (t + x) := by
  unfold btw
  split
  · rw [if_pos (by omega)]; omega
  · split
    · rw [if_neg (by omega), if_pos (by omega)]; omega
    · rw [if_neg (by omega), if_neg (by omega)]

theorem sum2 (t x : Int) (h : -1125899906842624000 ≤ t) (h' : t ≤ 1125899906842624000) (k1 : -1125899906842624000 ≤ x) (k2 : x ≤ 1125899906842624000) : fx_Sum_g 1000 1125899906842624000 2 (fun j => selI [t, x] j) = some (btw (-1125899906842624000) 1125899906842624000 (t + x), 0, ()) := by
  unfold fx_Sum_g
  have hb : fx_bound_g 1000 1125899906842624000 = some (0, ()) := rfl
  have e0 : ∀ (n : Nat) (a b : Int) (c : Nat) (d e : Int) (f : Nat → Int), fx_Sum_l0 1000 (n + 1) a b c d e f = fx_Sum_l0r 1000 (fx_Sum_l0 1000 n) a b c d e f := fun _ _ _ _ _ _ _ => rfl
  rw [hb]
  simp only [Option.bind_some, show ((0 : Int) != 0) = false from rfl, cond_false]
  have k := btw_le (lo := -1125899906842624000) (hi := 1125899906842624000) (n := t + x) (by omega)
  rw [show (fx_Sum_l0 1000 1000) = fx_Sum_l0 1000 (997 + 1 + 1 + 1) from rfl, e0]
  have w1 : wi64 (wi64 (0 - 1125899906842624000) - 0) = -1125899906842624000 := rfl
  have w2 : wi64 (1125899906842624000 - 0) = 1125899906842624000 := rfl
  have w3 : wi64 (0 + 1) = 1 := rfl
  have w4 : wi64 (0 - 1125899906842624000) = -1125899906842624000 := rfl
  have w5 : wi64 (1 + 1) = 2 := rfl
  have w6 : wi64 1 = 1 := rfl
  have s0 : selI [t, x] (Int.toNat 0) = t := rfl
  have s1 : selI [t, x] (Int.toNat 1) = x := rfl
  simp only [fx_Sum_l0r, fx_between_ok, Option.bind_some, w1, w2, w3, Int.zero_add, s0]
  rw [btw_id h h', wi64_id (x := t) (by omega) (by omega), e0]
  simp only [fx_Sum_l0r, fx_between_ok, Option.bind_some, w4, w6, w5, s1]
  have d1 : decide ((0 : Int) < ((2 : Nat) : Int)) = true := rfl
  have d2 : decide ((1 : Int) < ((2 : Nat) : Int)) = true := rfl
  have d3 : decide ((0 : Int) ≤ 0) = true := rfl
  have d4 : decide ((0 : Int) ≤ 1) = true := rfl
  rw [wi64_id (x := -1125899906842624000 - t) (by omega) (by omega), wi64_id (x := 1125899906842624000 - t) (by omega) (by omega), btw_sum (by omega) h h', d1, d2, d3, d4, wi64_id (x := btw (-1125899906842624000) 1125899906842624000 (t + x)) (by omega) (by omega), e0]
  rfl

theorem of1 (t : Int) (h : -1125899906842624000 ≤ t) (h' : t ≤ 1125899906842624000) : coulomb_of_g 1000 1 (fun j => selI [t] j) = some (t % 1000, t / 1000, ()) := by
  unfold coulomb_of_g
  rw [sum1 t (by omega) (by omega), btw_id h h']
  simp only [Option.bind_some]
  rw [down1000 t h h']
  simp only [Option.bind_some]
  rw [wi64_id (x := t / 1000 * 1000) (by omega) (by omega), wi64_id (by omega) (by omega)]
  have : t - t / 1000 * 1000 = t % 1000 := by omega
  rw [this]

theorem of2 (t x : Int) (h : -1125899906842624000 ≤ t) (h' : t ≤ 1125899906842624000) (k1 : -1125899906842624000 ≤ x) (k2 : x ≤ 1125899906842624000) :
    coulomb_of_g 1000 2 (fun j => selI [t, x] j) = some (btw (-1125899906842624000) 1125899906842624000 (t + x) % 1000, btw (-1125899906842624000) 1125899906842624000 (t + x) / 1000, ()) := by
  have k := btw_le (lo := -1125899906842624000) (hi := 1125899906842624000) (n := t + x) (by omega)
  unfold coulomb_of_g
  rw [sum2 t x h h' k1 k2]
  generalize btw (-1125899906842624000) 1125899906842624000 (t + x) = y at *
  simp only [Option.bind_some]
  rw [down1000 y k.1 k.2]
  simp only [Option.bind_some]
  rw [wi64_id (x := y / 1000 * 1000) (by omega) (by omega), wi64_id (by omega) (by omega)]
  have : y - y / 1000 * 1000 = y % 1000 := by omega
  rw [this]

def ofE (t : Int) : Int × Int × Int × Unit := if -1125899906842624000 ≤ t ∧ t ≤ 1125899906842624000 then (t / 1000, t % 1000, 0, ()) else (0, 0, 2, ())

theorem Of_ok (t : Int) : coulomb_Of_g 1000 t = some (ofE t) := by
  unfold coulomb_Of_g ofE
  rw [size1 _ _ (by omega) (by omega)]
  unfold inB
  by_cases h : -1125899906842624000 ≤ t ∧ t ≤ 1125899906842624000
  · rw [decide_eq_true h, if_pos h]
    simp only [Option.bind_some, Bool.not_true, cond_false]
    rw [of1 t h.1 h.2]
    rfl
  · rw [decide_eq_false h, if_neg h]
    rfl

theorem rOf_ok (t : Int) : rheostatref14_Of_g 1000 t = some (ofE t) := by
  unfold rheostatref14_Of_g ofE rheostatref14_Most_g
  have w : wi64 (0 - 1125899906842624000) = -1125899906842624000 := rfl
  simp only [Option.bind_some, w]
  by_cases h1 : t < -1125899906842624000
  · rw [decide_eq_true h1, if_neg (by omega)]; rfl
  · rw [decide_eq_false h1]
    by_cases h2 : t > 1125899906842624000
    · rw [decide_eq_true h2, if_neg (by omega)]; rfl
    · rw [decide_eq_false h2, if_pos (by omega), rdown1000 t (by omega) (by omega), rleft1000 t (by omega) (by omega)]
      rfl

/-- A current, added. -/
def addE (c r cur ticks : Int) : Int × Int × Int × Unit :=
  if chB c r = true ∧ (-2147483648 ≤ cur ∧ cur ≤ 2147483648) ∧ 1 ≤ ticks ∧ ticks ≤ 60000 then
    (btw (-1125899906842624000) 1125899906842624000 (c * 1000 + r + cur * ticks) / 1000, btw (-1125899906842624000) 1125899906842624000 (c * 1000 + r + cur * ticks) % 1000, 0, ()) else (0, 0, 2, ())

theorem part_bound {cur ticks : Int} (h : -2147483648 ≤ cur ∧ cur ≤ 2147483648) (h1 : 1 ≤ ticks) (h2 : ticks ≤ 60000) : -128849018880000 ≤ cur * ticks ∧ cur * ticks ≤ 128849018880000 := by
  have := ab_mul_le (x := cur) (y := ticks) (M := 2147483648) (N := 60000) (ab_bound h.1 h.2) (ab_bound (by omega) (by omega)) (by omega)
  unfold ab at this
  split at this <;> omega

theorem Add_ok (c r cur ticks : Int) : coulomb_Add_g 1000 c r cur ticks = some (addE c r cur ticks) := by
  unfold coulomb_Add_g addE
  rw [ctotal_ok, size1 _ _ (by omega) (by omega)]
  unfold totE inB
  cases hb : chB c r
  · rw [if_neg (by simp)]; rfl
  · have h := chB_iff.1 hb
    simp only [Option.bind_some, cond_true, show ((0 : Int) != 0) = false from rfl, cond_false]
    by_cases h1 : -2147483648 ≤ cur ∧ cur ≤ 2147483648
    · rw [decide_eq_true h1]
      by_cases h2 : ticks < 1
      · rw [decide_eq_true h2, if_neg (by omega)]; rfl
      · rw [decide_eq_false h2]
        by_cases h3 : ticks > 60000
        · rw [decide_eq_true h3, if_neg (by omega)]; rfl
        · have hp := part_bound h1 (show 1 ≤ ticks by omega) (show ticks ≤ 60000 by omega)
          rw [decide_eq_false h3, if_pos ⟨trivial, h1, by omega, by omega⟩, wi64_id (x := cur * ticks) (by omega) (by omega), of2 _ _ (by omega) (by omega) (by omega) (by omega)]
          rfl
    · rw [decide_eq_false h1, if_neg (fun k => h1 k.2.1)]; rfl

theorem runit_ok (K : Nat) (n : Int) : rheostatref14_unit_g K n = some (decide (-2147483648 ≤ n ∧ n ≤ 2147483648), ()) := by
  unfold rheostatref14_unit_g
  by_cases h1 : n ≥ -2147483648
  · by_cases h2 : n ≤ 2147483648 <;> simp [h1, h2]
  · simp [h1]

theorem rbetween_ok (K : Nat) (lo hi n : Int) : rheostatref03_Between_g K lo hi n = some (btw lo hi n, ()) := by
  unfold rheostatref03_Between_g btw
  by_cases h1 : n < lo
  · simp [h1]
  · by_cases h2 : n > hi <;> simp [h1, h2]

theorem rAdd_ok (c r cur ticks : Int) : rheostatref14_Add_g 1000 c r cur ticks = some (addE c r cur ticks) := by
  unfold rheostatref14_Add_g addE rheostatref14_Most_g
  rw [rtotal_ok, runit_ok]
  unfold totE
  cases hb : chB c r
  · rw [if_neg (by simp)]; rfl
  · have h := chB_iff.1 hb
    simp only [Option.bind_some, cond_true, show ((0 : Int) != 0) = false from rfl, cond_false]
    by_cases h1 : -2147483648 ≤ cur ∧ cur ≤ 2147483648
    · rw [decide_eq_true h1]
      by_cases h2 : ticks < 1
      · rw [decide_eq_true h2, if_neg (by omega)]; rfl
      · rw [decide_eq_false h2]
        by_cases h3 : ticks > 60000
        · rw [decide_eq_true h3, if_neg (by omega)]; rfl
        · have hp := part_bound h1 (show 1 ≤ ticks by omega) (show ticks ≤ 60000 by omega)
          have w : wi64 (0 - 1125899906842624000) = -1125899906842624000 := rfl
          have k := btw_le (lo := -1125899906842624000) (hi := 1125899906842624000) (n := c * 1000 + r + cur * ticks) (by omega)
          rw [decide_eq_false h3, if_pos ⟨trivial, h1, by omega, by omega⟩, wi64_id (x := cur * ticks) (by omega) (by omega), wi64_id (x := c * 1000 + r + cur * ticks) (by omega) (by omega), w, rbetween_ok]
          simp only [Option.bind_some, Bool.not_true, cond_false]
          rw [rOf_ok]
          unfold ofE
          rw [if_pos k]
          rfl
    · rw [decide_eq_false h1, if_neg (fun k => h1 k.2.1)]; rfl

theorem CoulombAdds_ok (c r cur ticks t : Int) : rheostatlaw14_CoulombAdds_g 1000 c r cur ticks t = some true := by
  unfold rheostatlaw14_CoulombAdds_g
  rw [Add_ok, rAdd_ok, ctotal_ok, rtotal_ok, Of_ok, rOf_ok, ccheck_ok, rcheck_ok, works_ok]
  simp

/-! ### What is drawn -/
theorem cmay_ok (K : Nat) (s c : Int) : coulomb_may_g K s c = some (decide ((0 ≤ s ∧ s ≤ 10000) ∧ (1 ≤ c ∧ c ≤ 1125899906842624)), ()) := by
  unfold coulomb_may_g
  by_cases h1 : s ≥ 0
  · by_cases h2 : s ≤ 10000
    · by_cases h3 : c ≥ 1
      · by_cases h4 : c ≤ 1125899906842624 <;> simp [h1, h2, h3, h4]
      · have : ¬ (1 ≤ c) := by omega
        simp [h1, h2, h3]
    · simp [h1, h2]
  · simp [h1]

theorem drawn_ok (s c : Int) (h : 0 ≤ s ∧ s ≤ 10000) (h' : 1 ≤ c ∧ c ≤ 1125899906842624) : coulomb_Drawn_g 1000 s c = some (nr (c * s) 10000, 0, ()) := by
  unfold coulomb_Drawn_g
  have hp := mul_range (x := c) (y := s) (a := 1125899906842624) (b := 10000) (by omega) (by omega) h.1 h.2
  have hb := nr_bound (a := c * s) (b := 10000) (M := 1125899906842624 * 10000) (by omega) (ab_bound (by omega) hp.2)
  have hs := nr_mono (a := c * s) (a' := 10000 * c) (b := 10000) (by omega) (by rw [Int.mul_comm 10000 c]; exact Int.mul_le_mul_of_nonneg_left h.2 (by omega))
  rw [nr_mul (by omega)] at hs
  have h0 := nr_nonneg hp.1 (show (0 : Int) < 10000 by omega)
  rw [cmay_ok, decide_eq_true ⟨h, h'⟩]
  simp only [Option.bind_some, Bool.not_true, cond_false]
  rw [mulnear_ok c s 10000 (by omega) (by omega) (by omega) (by omega) (by omega) (by omega), fit_ok (by omega) (by omega)]
  rfl

theorem among_ok (K : Nat) (x n : Int) (hn : 1 ≤ n) (hn' : n < 9223372036854775808) : ∃ r, 0 ≤ r ∧ r < n ∧ rheostatbase_Among_g K x n = some (r, ()) := by
  unfold rheostatbase_Among_g
  have d1 : decide (n < 1) = false := by simp; omega
  have e : wu64 n = n := wu64_id (by omega) (by omega)
  have d2 : (n == 0) = false := by simp; omega
  have hx : 0 ≤ wu64 x := by rw [wu64_def]; omega
  rw [d1, e, d2, (tdiv_pos hx).2]
  have h0 : 0 ≤ wu64 x % n := Int.emod_nonneg _ (by omega)
  have h1 : wu64 x % n < n := Int.emod_lt_of_pos _ (by omega)
  refine ⟨wu64 x % n, h0, h1, ?_⟩
  rw [wi64_id (by omega) (by omega)]
  rfl

theorem CoulombDrawn_ok (x y z : Int) : rheostatlaw14_CoulombDrawn_g 1000 x y z = some true := by
  unfold rheostatlaw14_CoulombDrawn_g
  obtain ⟨a, a0, a1, ha⟩ := among_ok 1000 x 10001 (by omega) (by omega)
  obtain ⟨b, b0, b1, hb⟩ := among_ok 1000 y 10001 (by omega) (by omega)
  obtain ⟨c, c0, c1, hc⟩ := among_ok 1000 z 1125899906842624 (by omega) (by omega)
  rw [works_ok, ha, hb, hc]
  simp only [Option.bind_some, Bool.not_true, cond_false]
  rw [wi64_id (x := 1 + c) (by omega) (by omega)]
  obtain ⟨lo, hi, e1, e2, hle, hlo, hhi⟩ : ∃ lo hi, (bif decide (b < a) then b else a) = lo ∧ (bif decide (b > a) then b else a) = hi ∧ lo ≤ hi ∧ (0 ≤ lo ∧ lo ≤ 10000) ∧ (0 ≤ hi ∧ hi ≤ 10000) := by
    by_cases h1 : b < a
    · rw [decide_eq_true h1, decide_eq_false (show ¬ b > a by omega)]
      exact ⟨b, a, rfl, rfl, by omega, by omega, by omega⟩
    · rw [decide_eq_false h1]
      by_cases h2 : b > a
      · rw [decide_eq_true h2]
        exact ⟨a, b, rfl, rfl, by omega, by omega, by omega⟩
      · rw [decide_eq_false h2]
        exact ⟨a, a, rfl, rfl, by omega, by omega, by omega⟩
  rw [e1, e2, drawn_ok lo (1 + c) hlo (by omega), drawn_ok hi (1 + c) hhi (by omega), drawn_ok 0 (1 + c) (by omega) (by omega), drawn_ok 10000 (1 + c) (by omega) (by omega)]
  have m := nr_mono (a := (1 + c) * lo) (a' := (1 + c) * hi) (b := 10000) (by omega) (Int.mul_le_mul_of_nonneg_left hle (by omega))
  have n0 := nr_nonneg (a := (1 + c) * lo) (b := 10000) (Int.mul_nonneg (by omega) hlo.1) (by omega)
  have z0 : nr ((1 + c) * 0) 10000 = 0 := by rw [Int.mul_zero]; exact nr_zero (by omega)
  have zf : nr ((1 + c) * 10000) 10000 = 1 + c := by rw [Int.mul_comm]; exact nr_mul (by omega)
  rw [z0, zf]
  simp [m, n0]

/-! ### Additions, one behind the other -/
def sumP (c t : Nat → Int) : Nat → Int
  | 0 => 0
  | n + 1 => sumP c t n + c n * t n

def partsOk (c t : Nat → Int) (n : Nat) : Prop := ∀ j, j < n → (-2147483648 ≤ c j ∧ c j ≤ 2147483648) ∧ 1 ≤ t j ∧ t j ≤ 60000

theorem sumP_congr {c t c' t' : Nat → Int} : ∀ n, (∀ j, j < n → c j = c' j ∧ t j = t' j) → sumP c t n = sumP c' t' n
  | 0, _ => rfl
  | n + 1, h => by simp only [sumP]; rw [sumP_congr n (fun j hj => h j (by omega)), (h n (by omega)).1, (h n (by omega)).2]

theorem sumP_bound {c t : Nat → Int} : ∀ n, partsOk c t n → -(n : Int) * 128849018880000 ≤ sumP c t n ∧ sumP c t n ≤ (n : Int) * 128849018880000
  | 0, _ => by simp [sumP]
  | n + 1, h => by
    obtain ⟨h1, h2⟩ := sumP_bound n (fun j hj => h j (by omega))
    obtain ⟨k1, k2, k3⟩ := h n (by omega)
    have := part_bound k1 k2 k3
    simp only [sumP]
    omega

theorem right_loop (total : Int) (n : Nat) (a b : Nat → Int) : ∀ (d i fuel : Nat) (c t : Nat → Int), d = min n 200 - i → i ≤ min n 200 → d < fuel → partsOk c t i →
    ∃ c' t', partsOk c' t' (min n 200) ∧ rheostatlaw14_right_l0 1000 fuel total n i (sumP c t i) (i : Int) a b c t = some (total, min n 200, sumP c' t' (min n 200), c', t', ())
  | 0, i, fuel, c, t, hd, hi, hf, hp => by
    obtain ⟨f, rfl⟩ : ∃ f, fuel = f + 1 := ⟨fuel - 1, by omega⟩
    have e : min n 200 = i := by omega
    refine ⟨c, t, by rw [e]; exact hp, ?_⟩
    show rheostatlaw14_right_l0r 1000 (rheostatlaw14_right_l0 1000 f) total n i (sumP c t i) (i : Int) a b c t = _
    rw [e]
    unfold rheostatlaw14_right_l0r
    by_cases h1 : i < n
    · rw [nat_lt_dec h1, decide_eq_false (show ¬ (i : Int) < 200 by omega)]; rfl
    · rw [decide_eq_false (show ¬ (i : Int) < (n : Int) by omega)]; rfl
  | d + 1, i, fuel, c, t, hd, hi, hf, hp => by
    obtain ⟨f, rfl⟩ : ∃ f, fuel = f + 1 := ⟨fuel - 1, by omega⟩
    have h1 : i < n := by omega
    obtain ⟨x, x0, x1, hx⟩ := among_ok 1000 (a i) 4294967297 (by omega) (by omega)
    obtain ⟨y, y0, y1, hy⟩ := among_ok 1000 (b i) 60000 (by omega) (by omega)
    have hxy := part_bound (cur := x - 2147483648) (ticks := 1 + y) (by omega) (by omega) (by omega)
    have hs := sumP_bound i hp
    let c2 : Nat → Int := fun j => bif Nat.blt j i then c j else selI [x - 2147483648] (j - i)
    let t2 : Nat → Int := fun j => bif Nat.blt j i then t j else selI [1 + y] (j - i)
    have old : ∀ j, j < i → c2 j = c j ∧ t2 j = t j := by
      intro j hj
      have : Nat.blt j i = true := by simpa [Nat.blt_eq] using hj
      show (bif Nat.blt j i then _ else _) = _ ∧ (bif Nat.blt j i then _ else _) = _
      rw [this]
      exact ⟨rfl, rfl⟩
    have new : c2 i = x - 2147483648 ∧ t2 i = 1 + y := by
      have : Nat.blt i i = false := by
        cases hq : Nat.blt i i with
        | false => rfl
        | true => simp [Nat.blt_eq] at hq
      show (bif Nat.blt i i then _ else _) = _ ∧ (bif Nat.blt i i then _ else _) = _
      rw [this, Nat.sub_self]
      exact ⟨rfl, rfl⟩
    have hp2 : partsOk c2 t2 (i + 1) := by
      intro j hj
      by_cases e : j = i
      · subst e; rw [new.1, new.2]; omega
      · rw [(old j (by omega)).1, (old j (by omega)).2]; exact hp j (by omega)
    have hsum : sumP c2 t2 (i + 1) = sumP c t i + (x - 2147483648) * (1 + y) := by
      simp only [sumP]
      rw [sumP_congr (c := c2) (t := t2) i old, new.1, new.2]
    obtain ⟨c', t', g1, g2⟩ := right_loop total n a b d (i + 1) f c2 t2 (by omega) (by omega) (by omega) hp2
    refine ⟨c', t', g1, ?_⟩
    rw [← g2, hsum]
    show rheostatlaw14_right_l0r 1000 (rheostatlaw14_right_l0 1000 f) total n i (sumP c t i) (i : Int) a b c t = _
    unfold rheostatlaw14_right_l0r
    have hroom : Nat.ble ((i + 1) * 16) 140737488355328 = true := by simp; omega
    rw [nat_lt_dec h1, decide_eq_true (show (i : Int) < 200 by omega), nat_nn_dec, Int.toNat_natCast, hx]
    simp only [Bool.and_self, cond_true, Option.bind_some]
    rw [hy]
    simp only [Option.bind_some, hroom, cond_true]
    rw [wi64_id (x := x - 2147483648) (by omega) (by omega), wi64_id (x := 1 + y) (by omega) (by omega), wi64_id (x := (x - 2147483648) * (1 + y)) (by omega) (by omega), wi64_id (x := sumP c t i + (x - 2147483648) * (1 + y)) (by omega) (by omega), wi_succ (show i < 1000000 by omega)]

theorem right_ok (total : Int) (n : Nat) (a b : Nat → Int) : ∃ (k : Nat) (c t : Nat → Int), k ≤ 200 ∧ partsOk c t k ∧ rheostatlaw14_right_g 1000 total n a b = some (k, sumP c t k, decide (-1089871109823660032 ≤ total ∧ total ≤ 1089871109823660032), c, t, ()) := by
  obtain ⟨c, t, h1, h2⟩ := right_loop total n a b (min n 200) 0 1000 (fun _ => 0) (fun _ => 0) (by omega) (by omega) (by omega) (fun j hj => by omega)
  refine ⟨min n 200, c, t, by omega, h1, ?_⟩
  unfold rheostatlaw14_right_g rheostatref14_Most_g
  have h2' : rheostatlaw14_right_l0 1000 1000 total n 0 0 0 a b (fun _ => 0) (fun _ => 0) = _ := h2
  have w1 : wi64 (wi64 (0 - 1125899906842624000) + 36028797018963968) = -1089871109823660032 := rfl
  have w2 : wi64 (1125899906842624000 - 36028797018963968) = 1089871109823660032 := rfl
  rw [h2']
  simp only [Option.bind_some, w1, w2]
  by_cases g1 : total ≥ -1089871109823660032
  · rw [decide_eq_true g1, cond_true]
    by_cases g2 : total ≤ 1089871109823660032
    · rw [decide_eq_true g2, decide_eq_true ⟨g1, g2⟩]
    · rw [decide_eq_false g2, decide_eq_false (fun k => g2 k.2)]
  · rw [decide_eq_false g1, cond_false, decide_eq_false (fun k => g1 k.1)]

theorem exact_loop (total sum : Int) (free : Bool) (n : Nat) (hn : n ≤ 200) (a b : Nat → Int) (hp : partsOk a b n) (hfree : free = true → -1089871109823660032 ≤ total ∧ total ≤ 1089871109823660032) : ∀ (d i fuel : Nat) (t : Int), i + d = n → d < fuel → (-1125899906842624000 ≤ t ∧ t ≤ 1125899906842624000) → (free = true → t = total + sumP a b i) →
    ∃ t', (-1125899906842624000 ≤ t' ∧ t' ≤ 1125899906842624000) ∧ (free = true → t' = total + sumP a b n) ∧ rheostatlaw14_CoulombExact_l0 1000 fuel total n sum free (t / 1000) (t % 1000) (i : Int) a b = some (.inl (total, sum, free, t' / 1000, t' % 1000, ()))
  | 0, i, fuel, t, hd, hf, ht, hT => by
    obtain ⟨f, rfl⟩ : ∃ f, fuel = f + 1 := ⟨fuel - 1, by omega⟩
    have e : i = n := by omega
    subst e
    refine ⟨t, ht, hT, ?_⟩
    show rheostatlaw14_CoulombExact_l0r 1000 (rheostatlaw14_CoulombExact_l0 1000 f) total i sum free (t / 1000) (t % 1000) (i : Int) a b = _
    unfold rheostatlaw14_CoulombExact_l0r
    rw [nat_lt_self]
    rfl
  | d + 1, i, fuel, t, hd, hf, ht, hT => by
    obtain ⟨f, rfl⟩ : ∃ f, fuel = f + 1 := ⟨fuel - 1, by omega⟩
    have h1 : i < n := by omega
    obtain ⟨p1, p2, p3⟩ := hp i h1
    have hpb := part_bound p1 p2 p3
    have k := btw_le (lo := -1125899906842624000) (hi := 1125899906842624000) (n := t + a i * b i) (by omega)
    have hadd : addE (t / 1000) (t % 1000) (a i) (b i) = (btw (-1125899906842624000) 1125899906842624000 (t + a i * b i) / 1000, btw (-1125899906842624000) 1125899906842624000 (t + a i * b i) % 1000, 0, ()) := by
      unfold addE
      rw [if_pos ⟨ch_of ht.1 ht.2, p1, p2, p3⟩, show t / 1000 * 1000 + t % 1000 = t by omega]
    have hT2 : free = true → btw (-1125899906842624000) 1125899906842624000 (t + a i * b i) = total + sumP a b (i + 1) := by
      intro hfr
      have e := hT hfr
      have hb := hfree hfr
      have hs := sumP_bound (i + 1) (fun j hj => hp j (by omega))
      have es : sumP a b (i + 1) = sumP a b i + a i * b i := rfl
      rw [btw_id (by omega) (by omega)]
      omega
    obtain ⟨t', g1, g2, g3⟩ := exact_loop total sum free n hn a b hp hfree d (i + 1) f _ (by omega) (by omega) k hT2
    refine ⟨t', g1, g2, ?_⟩
    rw [← g3]
    show rheostatlaw14_CoulombExact_l0r 1000 (rheostatlaw14_CoulombExact_l0 1000 f) total n sum free (t / 1000) (t % 1000) (i : Int) a b = _
    unfold rheostatlaw14_CoulombExact_l0r
    rw [nat_lt_dec h1, nat_nn_dec, Int.toNat_natCast, Add_ok, hadd]
    simp only [Bool.and_self, cond_true, Option.bind_some, show ((0 : Int) != 0) = false from rfl, cond_false]
    rw [ccheck_ok, ch_of k.1 k.2]
    simp only [Option.bind_some, cond_true, show ((0 : Int) != 0) = false from rfl, cond_false]
    rw [wi_succ (show i < 1000000 by omega)]

theorem CoulombExact_ok (total : Int) (n : Nat) (a b : Nat → Int) : rheostatlaw14_CoulombExact_g 1000 total n a b = some true := by
  unfold rheostatlaw14_CoulombExact_g rheostatref14_Most_g
  have d0 : ((1125899906842624000 : Int) == 0) = false := rfl
  rw [works_ok]
  simp only [Option.bind_some, Bool.not_true, cond_false, d0]
  have hm : -1125899906842624000 < Int.tmod total 1125899906842624000 ∧ Int.tmod total 1125899906842624000 < 1125899906842624000 := by
    by_cases h : total < 0
    · rw [(tdiv_neg' h).2]; omega
    · rw [(tdiv_pos (show 0 ≤ total by omega)).2]; omega
  generalize Int.tmod total 1125899906842624000 = T at *
  obtain ⟨k, c, t, hk, hp, hr⟩ := right_ok T n a b
  rw [hr, Of_ok]
  have hof : ofE T = (T / 1000, T % 1000, 0, ()) := if_pos (by omega)
  rw [hof]
  simp only [Option.bind_some, show ((0 : Int) != 0) = false from rfl, cond_false]
  obtain ⟨t', g1, g2, g3⟩ := exact_loop T (sumP c t k) (decide (-1089871109823660032 ≤ T ∧ T ≤ 1089871109823660032)) k hk c t hp of_decide_eq_true k 0 1000 T (by omega) (by omega) (by omega) (fun _ => by simp [sumP])
  have g3' : rheostatlaw14_CoulombExact_l0 1000 1000 T k (sumP c t k) (decide (-1089871109823660032 ≤ T ∧ T ≤ 1089871109823660032)) (T / 1000) (T % 1000) 0 c t = _ := g3
  rw [g3']
  simp only [Option.bind_some, Sum.elim_inl]
  rw [ctotal_ok]
  unfold totE
  rw [ch_of g1.1 g1.2]
  simp only [Option.bind_some, cond_true, beq_self_eq_true]
  by_cases hfr : -1089871109823660032 ≤ T ∧ T ≤ 1089871109823660032
  · have hs := sumP_bound k hp
    have e := g2 (decide_eq_true hfr)
    rw [decide_eq_true hfr, wi64_id (x := T + sumP c t k) (by omega) (by omega), show t' / 1000 * 1000 + t' % 1000 = t' by omega, e]
    simp
  · rw [decide_eq_false hfr]
    rfl
end Go.Proofs.Ythimgpokphilkaa
