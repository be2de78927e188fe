/-
  Law 12 (adc), the plain part of units.
-/
import Derived.Test.YtijknfmhcnohbaaP
import Derived.Test.YtijknfmhcnohbaaN
namespace Go.Proofs.Ytijknfmhcnohbaa
open Go.Sy
set_option maxHeartbeats 1000000

/-- A count's unit, as the document has it. -/
def unitV (z g p c : Int) : Int := btw (-2147483648) 2147483648 (nr ((c - z) * g) p)

theorem lineB_iff {z g p : Int} : lineB z g p = true ↔ (-1048576 ≤ z ∧ z ≤ 1048576) ∧ (-1048576 ≤ g ∧ g ≤ 1048576) ∧ (1 ≤ p ∧ p ≤ 1048576) := by
  unfold lineB
  rw [Bool.and_eq_true, Bool.and_eq_true, rawB_iff, rawB_iff, decide_eq_true_eq]
  exact and_assoc

theorem prod_small {z g p c : Int} (h : lineB z g p = true) (hc : rawB c = true) : ab ((c - z) * g) ≤ 2199023255552 := by
  have h1 := lineB_iff.1 h
  have h2 := rawB_iff.1 hc
  have := ab_mul_le (x := c - z) (y := g) (M := 2097152) (N := 1048576) (ab_bound (by omega) (by omega)) (ab_bound (by omega) (by omega)) (by omega)
  omega

theorem told_ok {z g p c : Int} (h : lineB z g p = true) (hc : rawB c = true) : adc_told_unit_g 1000 z g p c = some (unitV z g p c, ()) := by
  have h1 := lineB_iff.1 h
  have h2 := rawB_iff.1 hc
  have h3 := prod_small h hc
  have h4 := nr_bound (a := (c - z) * g) (b := p) (by omega) h3
  unfold adc_told_unit_g
  rw [wi64_id (x := c - z) (by omega) (by omega), mulnear_low 1000 (c - z) g p (by omega) (by omega) (by omega) (by omega) (by omega) (by omega) (by omega), fit_ok (by omega) (by omega)]
  simp only [Option.bind_some]
  unfold fx_Clamp_g
  have hb : fx_bound_g 1000 2147483648 = some (0, ()) := rfl
  rw [hb]
  simp only [Option.bind_some]
  rw [fx_between_ok]
  rfl

theorem unit_ok {z g p c : Int} (h : lineB z g p = true) (hc : rawB c = true) : adc_Unit_g 1000 z g p c = some (unitV z g p c, 0, ()) := by
  unfold adc_Unit_g
  rw [check_ok, raw_ok 1 _ (by omega), told_ok h hc]
  have e : rawFrom (fun j => selI [c] j) 0 1 = rawB c := by simp [rawFrom, selI]
  rw [e, hc]
  simp only [Option.bind_some, lineE, h]
  rfl

theorem unit_zero {z g p : Int} (h : lineB z g p = true) : unitV z g p z = 0 := by
  have h1 := lineB_iff.1 h
  unfold unitV
  rw [show (z - z) * g = 0 by grind, nr_zero (by omega), btw_id (by omega) (by omega)]

theorem unit_up {z g p c c' : Int} (h : lineB z g p = true) (hg : 0 ≤ g) (hc : c ≤ c') : unitV z g p c ≤ unitV z g p c' := by
  have h1 := lineB_iff.1 h
  exact btw_mono (by omega) (nr_mono (by omega) (Int.mul_le_mul_of_nonneg_right (by omega) hg))

theorem unit_down {z g p c c' : Int} (h : lineB z g p = true) (hg : g ≤ 0) (hc : c ≤ c') : unitV z g p c' ≤ unitV z g p c := by
  have h1 := lineB_iff.1 h
  refine btw_mono (by omega) (nr_mono (by omega) ?_)
  have := Int.mul_le_mul_of_nonneg_right (a := c - z) (b := c' - z) (c := -g) (by omega) (by omega)
  have e1 : (c - z) * -g = -((c - z) * g) := by grind
  have e2 : (c' - z) * -g = -((c' - z) * g) := by grind
  omega

theorem among_ok (K : Nat) (x n : Int) (hn : 1 ≤ n) (hn' : n < 9223372036854775808) : ∃ r, 0 ≤ r ∧ r < n ∧ rheostatbase_Among_g K x n = some (r, ()) := by
  unfold rheostatbase_Among_g
  have d1 : decide (n < 1) = false := by simp; omega
  have e : wu64 n = n := wu64_id (by omega) (by omega)
  have d2 : (n == 0) = false := by simp; omega
  have hx : 0 ≤ wu64 x := by rw [wu64_def]; omega
  rw [d1, e, d2, (tdiv_pos hx).2]
  have h0 : 0 ≤ wu64 x % n := Int.emod_nonneg _ (by omega)
  have h1 : wu64 x % n < n := Int.emod_lt_of_pos _ (by omega)
  refine ⟨wu64 x % n, h0, h1, ?_⟩
  rw [wi64_id (by omega) (by omega)]
  rfl

theorem lineE_zero {z g p : Int} (h : lineB z g p = true) : (lineE z g p != 0) = false := by unfold lineE; rw [h]; rfl
theorem lineE_bad {z g p : Int} (h : lineB z g p = false) : (lineE z g p != 0) = true := by unfold lineE; rw [h]; rfl

theorem AdcRises_ok (z g p x y : Int) : rheostatlaw12_AdcRises_g 1000 z g p x y = some true := by
  unfold rheostatlaw12_AdcRises_g
  obtain ⟨r, r0, r1, hr⟩ := among_ok 1000 x 2097153 (by omega) (by omega)
  obtain ⟨s, s0, s1, hs⟩ := among_ok 1000 y 2097153 (by omega) (by omega)
  rw [works_ok, check_ok, hr, hs]
  simp only [Option.bind_some, Bool.not_true, cond_false]
  rw [wi64_id (x := r - 1048576) (by omega) (by omega), wi64_id (x := s - 1048576) (by omega) (by omega)]
  cases h : lineB z g p
  · rw [lineE_bad h]; rfl
  · rw [lineE_zero h]
    simp only [cond_false]
    obtain ⟨lo, hi, e1, e2, hle, hlo, hhi⟩ : ∃ lo hi, (bif decide (s - 1048576 < r - 1048576) then s - 1048576 else r - 1048576) = lo ∧ (bif decide (s - 1048576 > r - 1048576) then s - 1048576 else r - 1048576) = hi ∧ lo ≤ hi ∧ rawB lo = true ∧ rawB hi = true := by
      by_cases hc : s < r
      · refine ⟨s - 1048576, r - 1048576, ?_, ?_, by omega, rawB_iff.2 (by omega), rawB_iff.2 (by omega)⟩
        · rw [decide_eq_true (by omega)]; rfl
        · rw [decide_eq_false (by omega)]; rfl
      · refine ⟨r - 1048576, (if s = r then r - 1048576 else s - 1048576), ?_, ?_, by split <;> omega, rawB_iff.2 (by omega), rawB_iff.2 (by split <;> omega)⟩
        · rw [decide_eq_false (by omega)]; rfl
        · by_cases e : s = r
          · rw [decide_eq_false (by omega), if_pos e]; rfl
          · rw [decide_eq_true (by omega), if_neg e]; rfl
    rw [e1, e2]
    have hl := lineB_iff.1 h
    have hz : rawB z = true := rawB_iff.2 hl.1
    rw [unit_ok h hz, unit_ok h hlo, unit_ok h hhi, unit_zero h]
    simp only [Option.bind_some, beq_self_eq_true, cond_true]
    by_cases h1 : g < 0
    · have h2 : ¬ g > 0 := by omega
      have := unit_down h (by omega) hle
      simp [h1, h2, this]
    · by_cases h2 : g > 0
      · have := unit_up h (by omega) hle
        simp [h1, h2, this]
      · have k1 := unit_up h (by omega) hle
        have k2 := unit_down h (by omega) hle
        simp [h1, h2, k1, k2]

theorem reach_ok {z g p : Int} (h : lineB z g p = true) : ∃ a b, adc_Reach_g 1000 z g p = some (a, b, 0, ()) ∧ -2147483648 ≤ a ∧ b ≤ 2147483648 ∧ ∀ c, rawB c = true → a ≤ unitV z g p c ∧ unitV z g p c ≤ b := by
  unfold adc_Reach_g
  rw [check_ok, told_ok h (by decide), told_ok h (by decide)]
  simp only [Option.bind_some, lineE_zero h, cond_false]
  refine ⟨_, _, rfl, ?_, ?_, ?_⟩
  · have k1 := btw_le (lo := -2147483648) (hi := 2147483648) (n := nr ((-1048576 - z) * g) p) (by omega)
    have k2 := btw_le (lo := -2147483648) (hi := 2147483648) (n := nr ((1048576 - z) * g) p) (by omega)
    unfold unitV
    cases decide (btw (-2147483648) 2147483648 (nr ((1048576 - z) * g) p) < btw (-2147483648) 2147483648 (nr ((-1048576 - z) * g) p)) <;> simp only [cond_true, cond_false] <;> omega
  · have k1 := btw_le (lo := -2147483648) (hi := 2147483648) (n := nr ((-1048576 - z) * g) p) (by omega)
    have k2 := btw_le (lo := -2147483648) (hi := 2147483648) (n := nr ((1048576 - z) * g) p) (by omega)
    unfold unitV
    cases decide (btw (-2147483648) 2147483648 (nr ((1048576 - z) * g) p) > btw (-2147483648) 2147483648 (nr ((-1048576 - z) * g) p)) <;> simp only [cond_true, cond_false] <;> omega
  · intro c hc
    have hcr := rawB_iff.1 hc
    have key : (unitV z g p (-1048576) ≤ unitV z g p c ∧ unitV z g p c ≤ unitV z g p 1048576) ∨ (unitV z g p 1048576 ≤ unitV z g p c ∧ unitV z g p c ≤ unitV z g p (-1048576)) := by
      by_cases hg : 0 ≤ g
      · exact .inl ⟨unit_up h hg (by omega), unit_up h hg (by omega)⟩
      · exact .inr ⟨unit_down h (by omega) (by omega), unit_down h (by omega) (by omega)⟩
    generalize unitV z g p (-1048576) = u at key
    generalize unitV z g p 1048576 = v at key
    constructor
    · by_cases hd : v < u
      · rw [decide_eq_true hd]; simp only [cond_true]; omega
      · rw [decide_eq_false hd]; simp only [cond_false]; omega
    · by_cases hd : v > u
      · rw [decide_eq_true hd]; simp only [cond_true]; omega
      · rw [decide_eq_false hd]; simp only [cond_false]; omega

theorem mean_good {n : Nat} {m : Nat → Int} {lo hi : Int} (h1 : 1 ≤ n) (hlo : ∀ j, j < n → lo ≤ m j ∧ m j ≤ hi) : lo ≤ nr (sumF m n) n ∧ nr (sumF m n) n ≤ hi := by
  obtain ⟨k1, k2⟩ := sum_bound n hlo
  have hn : 0 < (n : Int) := by omega
  constructor
  · have := nr_mono hn k1
    rw [nr_mul hn] at this
    exact this
  · have := nr_mono hn k2
    rw [nr_mul hn] at this
    exact this

theorem low_loop (n : Nat) (m : Nat → Int) (v z g p : Int) (hn : n < 1000) : ∀ (d i fuel : Nat) (lo hi : Int), i + d = n → d < fuel → (∀ j, j < i → lo ≤ m j ∧ m j ≤ hi) →
    ∃ lo' hi', rheostatlaw12_AdcBounds_l0 1000 fuel n v lo hi (i : Int) m z g p = some (n, v, lo', hi', m, z, g, p, ()) ∧ ∀ j, j < n → lo' ≤ m j ∧ m j ≤ hi'
  | 0, i, fuel, lo, hi, hd, hf, hp => by
    obtain ⟨f, rfl⟩ : ∃ f, fuel = f + 1 := ⟨fuel - 1, by omega⟩
    have e : i = n := by omega
    subst e
    refine ⟨lo, hi, ?_, hp⟩
    show rheostatlaw12_AdcBounds_l0r 1000 (rheostatlaw12_AdcBounds_l0 1000 f) i v lo hi (i : Int) m z g p = _
    simp only [rheostatlaw12_AdcBounds_l0r, nat_lt_self, cond_false]
  | d + 1, i, fuel, lo, hi, hd, hf, hp => by
    obtain ⟨f, rfl⟩ : ∃ f, fuel = f + 1 := ⟨fuel - 1, by omega⟩
    have hin : i < n := by omega
    have e0 : rheostatlaw12_AdcBounds_l0 1000 (f + 1) n v lo hi (i : Int) m z g p = rheostatlaw12_AdcBounds_l0r 1000 (rheostatlaw12_AdcBounds_l0 1000 f) n v lo hi (i : Int) m z g p := rfl
    rw [e0]
    simp only [rheostatlaw12_AdcBounds_l0r, nat_lt_dec hin, nat_nn_dec, Bool.and_self, cond_true, Int.toNat_natCast, wi_succ (show i < 1000000 by omega)]
    refine low_loop n m v z g p hn d (i + 1) f _ _ (by omega) (by omega) (fun j hj => ?_)
    have hj' : j = i ∨ j < i := by omega
    rcases hj' with rfl | hj'
    · constructor
      · by_cases hd : m j < lo
        · rw [decide_eq_true hd]; simp
        · rw [decide_eq_false hd]; simp; omega
      · by_cases hd : m j > hi
        · rw [decide_eq_true hd]; simp
        · rw [decide_eq_false hd]; simp; omega
    · have := hp j hj'
      constructor
      · by_cases hd : m i < lo
        · rw [decide_eq_true hd]; simp; omega
        · rw [decide_eq_false hd]; simp; omega
      · by_cases hd : m i > hi
        · rw [decide_eq_true hd]; simp; omega
        · rw [decide_eq_false hd]; simp; omega

theorem unit_loop (n : Nat) (m : Nat → Int) (v lo hi a b : Int) {z g p : Int} (hn : n < 1000) (h : lineB z g p = true) (hr : ∀ j, j < n → rawB (m j) = true) (hu : ∀ c, rawB c = true → a ≤ unitV z g p c ∧ unitV z g p c ≤ b) : ∀ (d i fuel : Nat), i + d = n → d < fuel →
    rheostatlaw12_AdcBounds_l1 1000 fuel n v lo hi a b (i : Int) m z g p = some (.inl (v, lo, hi, a, b, ()))
  | 0, i, fuel, hd, hf => by
    obtain ⟨f, rfl⟩ : ∃ f, fuel = f + 1 := ⟨fuel - 1, by omega⟩
    have e : i = n := by omega
    subst e
    show rheostatlaw12_AdcBounds_l1r 1000 (rheostatlaw12_AdcBounds_l1 1000 f) i v lo hi a b (i : Int) m z g p = _
    simp only [rheostatlaw12_AdcBounds_l1r, nat_lt_self, cond_false]
  | d + 1, i, fuel, hd, hf => by
    obtain ⟨f, rfl⟩ : ∃ f, fuel = f + 1 := ⟨fuel - 1, by omega⟩
    have hin : i < n := by omega
    have ih := unit_loop n m v lo hi a b hn h hr hu d (i + 1) f (by omega) (by omega)
    have e0 : rheostatlaw12_AdcBounds_l1 1000 (f + 1) n v lo hi a b (i : Int) m z g p = rheostatlaw12_AdcBounds_l1r 1000 (rheostatlaw12_AdcBounds_l1 1000 f) n v lo hi a b (i : Int) m z g p := rfl
    rw [e0]
    have k := hu (m i) (hr i hin)
    have d1 : decide (unitV z g p (m i) < a) = false := by simp; omega
    have d2 : decide (unitV z g p (m i) > b) = false := by simp; omega
    simp only [rheostatlaw12_AdcBounds_l1r, nat_lt_dec hin, nat_nn_dec, Bool.and_self, cond_true, Int.toNat_natCast, wi_succ (show i < 1000000 by omega), unit_ok h (hr i hin), Option.bind_some, d1, d2, ih]
    rfl

theorem AdcBounds_ok (z g p : Int) (n : Nat) (m : Nat → Int) : rheostatlaw12_AdcBounds_g 1000 z g p n m = some true := by
  unfold rheostatlaw12_AdcBounds_g
  obtain ⟨k, hk, h1, h2⟩ := few_ok n
  rw [h1, h2]
  simp only [cond_true, Int.toNat_natCast, works_ok, Option.bind_some, Bool.not_true, cond_false, mean_ok k m hk]
  by_cases hg : 1 ≤ k ∧ k ≤ 256 ∧ rawFrom m 0 k = true
  · have hm : meanV k m = (nr (sumF m k) k, 0, ()) := if_pos hg
    rw [hm]
    have d1 : decide (0 < (k : Int)) = true := by simp; omega
    obtain ⟨lo, hi, hl, hb⟩ := low_loop k m (nr (sumF m k) k) z g p (by omega) k 0 1000 (m 0) (m 0) (by omega) (by omega) (fun j hj => by omega)
    have hl' : rheostatlaw12_AdcBounds_l0 1000 1000 k (nr (sumF m k) k) (m 0) (m 0) 0 m z g p = _ := hl
    simp only [d1, cond_true, hl', Option.bind_some, show ((0 : Int) != 0) = false from rfl, cond_false]
    have hmean := mean_good hg.1 hb
    have d2 : decide (nr (sumF m k) k ≥ lo) = true := by simp; omega
    have d3 : decide (nr (sumF m k) k ≤ hi) = true := by simp; omega
    cases h : lineB z g p
    · have : adc_Reach_g 1000 z g p = some (0, 0, lineE z g p, ()) := by
        unfold adc_Reach_g
        rw [check_ok]
        simp only [Option.bind_some, lineE_bad h, cond_true]
      rw [this]
      simp only [Option.bind_some, lineE_bad h, cond_true, d2, d3]
    · obtain ⟨a, b, hr, ha, hb', hu⟩ := reach_ok h
      have hul : rheostatlaw12_AdcBounds_l1 1000 1000 k (nr (sumF m k) k) lo hi a b 0 m z g p = _ :=
        unit_loop k m (nr (sumF m k) k) lo hi a b (by omega) h (fun j hj => rawFrom_get hg.2.2 j (by omega) (by omega)) hu k 0 1000 (by omega) (by omega)
      have d4 : decide (a ≥ -2147483648) = true := by simp; omega
      have d5 : decide (b ≤ 2147483648) = true := by simp; omega
      rw [hr]
      simp only [Option.bind_some, show ((0 : Int) != 0) = false from rfl, cond_false, hul, Sum.elim_inl, d2, d3, d4, d5, cond_true]
  · have hm : meanV k m = (0, 2, ()) := if_neg hg
    rw [hm]
    rfl

theorem gained_unit (z g p c u : Int) : (gainedV z g p c u = (0, 0, 0, (gainedV z g p c u).2.2.2.1, ()) ∧ (gainedV z g p c u).2.2.2.1 ≠ 0) ∨
    ∃ G P, gainedV z g p c u = (z, G, P, 0, ()) ∧ lineB z G P = true ∧ rawB c = true ∧ unitV z G P c = u := by
  unfold gainedV
  split
  · rename_i h
    split
    · rename_i hr
      have hl := lineB_iff.1 h
      have hc := rawB_iff.1 hr.1
      have hu := rawB_iff.1 hr.2
      have w1 : wi64 (c - z) = c - z := wi64_id (by omega) (by omega)
      have w2 : wi64 (0 - (c - z)) = z - c := by rw [wi64_id (by omega) (by omega)]; omega
      have w3 : wi64 (0 - u) = -u := by rw [wi64_id (by omega) (by omega)]; omega
      rw [w1, w2, w3]
      split
      · rename_i hneg
        split
        · rename_i hl2
          refine .inr ⟨-u, z - c, rfl, hl2, hr.1, ?_⟩
          have hp := lineB_iff.1 hl2
          unfold unitV
          rw [show (c - z) * -u = (z - c) * u by grind, nr_mul (by omega), btw_id (by omega) (by omega)]
        · exact .inl ⟨rfl, by simp⟩
      · rename_i hneg
        split
        · rename_i hl2
          refine .inr ⟨u, c - z, rfl, hl2, hr.1, ?_⟩
          have hp := lineB_iff.1 hl2
          unfold unitV
          rw [nr_mul (by omega), btw_id (by omega) (by omega)]
        · exact .inl ⟨rfl, by simp⟩
    · exact .inl ⟨rfl, by simp⟩
  · exact .inl ⟨rfl, by simp⟩

theorem found_tail (z g p c u : Int) : ((adc_Gained_g 1000 z g p c u).bind fun q5 => (bif (q5.2.2.2.1 != 0) then (some ((q5.1 == 0) && ((q5.2.1 == 0) && (q5.2.2.1 == 0)))) else ((adc_Unit_g 1000 q5.1 q5.2.1 q5.2.2.1 c).bind fun q6 => ((adc_Unit_g 1000 q5.1 q5.2.1 q5.2.2.1 q5.1).bind fun q7 => (bif (q6.2.1 == 0) then (bif (q6.1 == u) then (bif (q7.2.1 == 0) then (bif (q7.1 == 0) then (some (q5.1 == z)) else (some false)) else (some false)) else (some false)) else (some false)))))) = some true := by
  rw [gained_ok]
  rcases gained_unit z g p c u with ⟨e, hne⟩ | ⟨G, P, e, hl, hc, hu⟩
  · rw [e]
    have : ((gainedV z g p c u).2.2.2.1 != 0) = true := by simpa using hne
    simp only [Option.bind_some, this, cond_true]
    rfl
  · rw [e]
    have hz : rawB z = true := rawB_iff.2 (lineB_iff.1 hl).1
    simp only [Option.bind_some, show ((0 : Int) != 0) = false from rfl, cond_false, unit_ok hl hc, unit_ok hl hz, hu, unit_zero hl, beq_self_eq_true, cond_true]

theorem AdcFound_ok (z g p : Int) (n : Nat) (c u : Int) (m : Nat → Int) : rheostatlaw12_AdcFound_g 1000 z g p n c u m = some true := by
  unfold rheostatlaw12_AdcFound_g
  obtain ⟨k, hk, h1, h2⟩ := few_ok n
  rw [h1, h2]
  simp only [cond_true, Int.toNat_natCast, works_ok, Option.bind_some, Bool.not_true, cond_false, zeroed_ok z g p k m hk, mean_ok k m hk, found_tail]
  unfold zeroedV
  cases h : lineB z g p
  · simp
  · rw [if_pos rfl]
    by_cases hg : 1 ≤ k ∧ k ≤ 256 ∧ rawFrom m 0 k = true
    · have hm : meanV k m = (nr (sumF m k) k, 0, ()) := if_pos hg
      have hl := lineB_iff.1 h
      have hmean := mean_good (lo := -1048576) (hi := 1048576) hg.1 (fun j hj => rawB_iff.1 (rawFrom_get hg.2.2 j (by omega) (by omega)))
      rw [hm]
      have hb : rawB (nr (sumF m k) k) = true := rawB_iff.2 hmean
      have h' : lineB (nr (sumF m k) k) g p = true := lineB_iff.2 ⟨hmean, hl.2⟩
      have e := unit_ok h' hb
      rw [unit_zero h'] at e
      simp
      rw [e]
      rfl
    · have hm : meanV k m = (0, 2, ()) := if_neg hg
      rw [hm]
      simp
end Go.Proofs.Ytijknfmhcnohbaa
