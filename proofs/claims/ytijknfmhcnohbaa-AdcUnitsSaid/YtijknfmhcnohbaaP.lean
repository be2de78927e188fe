/-
  Law 12 (adc), the plain part: what the printed functions compute answers as the laws say.
-/
import Derived.Test.YtijknfmhcnohbaaW
namespace Go.Proofs.Ytijknfmhcnohbaa
open Go.Sy
set_option maxHeartbeats 1000000

theorem works_ok : rheostatlaw12_works_g 1000 = some (true, ()) := by kernel_rfl

def rawB (x : Int) : Bool := decide (-1048576 ≤ x ∧ x ≤ 1048576)

theorem raw1_ok (K : Nat) (x : Int) : adc_raw_1_g K x = some (!rawB x, ()) := by
  unfold adc_raw_1_g rawB
  by_cases h1 : x < -1048576
  · have : ¬ (-1048576 ≤ x ∧ x ≤ 1048576) := by omega
    simp [h1, this]
  · by_cases h2 : x > 1048576
    · have : ¬ (-1048576 ≤ x ∧ x ≤ 1048576) := by omega
      simp [h1, h2, this]
    · have : -1048576 ≤ x ∧ x ≤ 1048576 := by omega
      simp [h1, h2, this]

theorem rraw_ok (K : Nat) (x : Int) : rheostatref12_raw_g K x = some (rawB x, ()) := by
  unfold rheostatref12_raw_g rawB
  by_cases h1 : x ≥ -1048576
  · by_cases h2 : x ≤ 1048576
    · have : -1048576 ≤ x ∧ x ≤ 1048576 := by omega
      simp [h1, h2]
    · have : ¬ (-1048576 ≤ x ∧ x ≤ 1048576) := by omega
      simp [h1, h2]
  · simp [h1]

/-- Are all from i on counts? -/
def rawFrom (m : Nat → Int) (i : Nat) : Nat → Bool
  | 0 => true
  | d + 1 => rawB (m i) && rawFrom m (i + 1) d

theorem rawFrom_get {m : Nat → Int} : ∀ {d i : Nat}, rawFrom m i d = true → ∀ j, i ≤ j → j < i + d → rawB (m j) = true
  | 0, i, _, j, h1, h2 => by omega
  | d + 1, i, h, j, h1, h2 => by
    simp only [rawFrom, Bool.and_eq_true] at h
    by_cases e : j = i
    · subst e; exact h.1
    · exact rawFrom_get h.2 j (by omega) (by omega)

theorem nat_lt_dec {i n : Nat} (h : i < n) : decide ((i : Int) < (n : Int)) = true := by simp; omega
theorem nat_nn_dec (i : Nat) : decide (0 ≤ (i : Int)) = true := by simp
theorem wi_succ {i : Nat} (h : i < 1000000) : wi64 ((i : Int) + 1) = ((i + 1 : Nat) : Int) := by rw [wi64_id (by omega) (by omega)]; simp
theorem nat_lt_self (n : Nat) : decide ((n : Int) < (n : Int)) = false := by simp

theorem raw_loop (n : Nat) (m : Nat → Int) (hn : n < 1000) : ∀ (d i fuel : Nat), i + d = n → d < fuel →
    ∃ k : Nat, adc_raw_l0 1000 fuel n (n : Int) (i : Int) m = some (bif rawFrom m i d then .inl () else .inr ((k : Int), ()))
  | 0, i, fuel, hd, hf => by
    obtain ⟨f, rfl⟩ : ∃ f, fuel = f + 1 := ⟨fuel - 1, by omega⟩
    refine ⟨0, ?_⟩
    show adc_raw_l0r 1000 (adc_raw_l0 1000 f) n (n : Int) (i : Int) m = _
    have e : i = n := by omega
    subst e
    simp only [adc_raw_l0r, nat_lt_self, cond_false, rawFrom, cond_true]
  | d + 1, i, fuel, hd, hf => by
    obtain ⟨f, rfl⟩ : ∃ f, fuel = f + 1 := ⟨fuel - 1, by omega⟩
    have hin : i < n := by omega
    obtain ⟨k, ih⟩ := raw_loop n m hn d (i + 1) f (by omega) (by omega)
    have e0 : adc_raw_l0 1000 (f + 1) n (n : Int) (i : Int) m = adc_raw_l0r 1000 (adc_raw_l0 1000 f) n (n : Int) (i : Int) m := rfl
    rw [e0]
    simp only [adc_raw_l0r, nat_lt_dec hin, nat_nn_dec, Bool.and_self, cond_true, Int.toNat_natCast, raw1_ok, Option.bind_some, wi_succ (show i < 1000000 by omega), rawFrom, ih]
    cases rawB (m i)
    · exact ⟨i, rfl⟩
    · exact ⟨k, rfl⟩

theorem raw_ok (n : Nat) (m : Nat → Int) (hn : n < 1000) : adc_raw_g 1000 n m = some (rawFrom m 0 n, ()) := by
  obtain ⟨k, h⟩ := raw_loop n m hn n 0 1000 (by omega) (by omega)
  unfold adc_raw_g
  have h' : adc_raw_l0 1000 1000 n (n : Int) 0 m = _ := h
  rw [h']
  cases rawFrom m 0 n
  · simp
  · rfl

def sumF (m : Nat → Int) : Nat → Int
  | 0 => 0
  | n + 1 => sumF m n + m n

theorem rawB_iff {x : Int} : rawB x = true ↔ -1048576 ≤ x ∧ x ≤ 1048576 := by simp [rawB]

theorem sum_bound {m : Nat → Int} {lo hi : Int} : ∀ n : Nat, (∀ j, j < n → lo ≤ m j ∧ m j ≤ hi) → (n : Int) * lo ≤ sumF m n ∧ sumF m n ≤ (n : Int) * hi
  | 0, _ => by simp [sumF]
  | n + 1, h => by
    have ih := sum_bound n (fun j hj => h j (by omega))
    have h1 := h n (by omega)
    simp only [sumF, Int.natCast_succ, Int.add_mul, Int.one_mul]
    omega

theorem sum_raw {m : Nat → Int} {n : Nat} (hn : n ≤ 256) (h : rawFrom m 0 n = true) : ∀ i, i ≤ n → -268435456 ≤ sumF m i ∧ sumF m i ≤ 268435456 := by
  intro i hi
  have := sum_bound (lo := -1048576) (hi := 1048576) i (fun j hj => rawB_iff.1 (rawFrom_get h j (by omega) (by omega)))
  omega

theorem mean_loop (n : Nat) (m : Nat → Int) (hn : n ≤ 256) (hr : rawFrom m 0 n = true) : ∀ (d i fuel : Nat), i + d = n → d < fuel →
    adc_Mean_l0 1000 fuel n (sumF m i) n (n : Int) (i : Int) m = some (n, sumF m n, m, ())
  | 0, i, fuel, hd, hf => by
    obtain ⟨f, rfl⟩ : ∃ f, fuel = f + 1 := ⟨fuel - 1, by omega⟩
    have e : i = n := by omega
    subst e
    show adc_Mean_l0r 1000 (adc_Mean_l0 1000 f) i (sumF m i) i (i : Int) (i : Int) m = _
    simp only [adc_Mean_l0r, nat_lt_self, cond_false]
  | d + 1, i, fuel, hd, hf => by
    obtain ⟨f, rfl⟩ : ∃ f, fuel = f + 1 := ⟨fuel - 1, by omega⟩
    have hin : i < n := by omega
    have ih := mean_loop n m hn hr d (i + 1) f (by omega) (by omega)
    have e0 : adc_Mean_l0 1000 (f + 1) n (sumF m i) n (n : Int) (i : Int) m = adc_Mean_l0r 1000 (adc_Mean_l0 1000 f) n (sumF m i) n (n : Int) (i : Int) m := rfl
    rw [e0]
    have b := sum_raw hn hr (i + 1) (by omega)
    have e1 : wi64 (sumF m i + m i) = sumF m (i + 1) := by rw [wi64_id]; rfl; (simp only [sumF] at b; omega); (simp only [sumF] at b; omega)
    simp only [adc_Mean_l0r, nat_lt_dec hin, nat_nn_dec, Bool.and_self, cond_true, Int.toNat_natCast, wi_succ (show i < 1000000 by omega), e1, ih]

/-- A mean, as the document has it. -/
def meanV (n : Nat) (m : Nat → Int) : Int × Int × Unit := if 1 ≤ n ∧ n ≤ 256 ∧ rawFrom m 0 n = true then (nr (sumF m n) n, 0, ()) else (0, 2, ())

theorem mean_ok (n : Nat) (m : Nat → Int) (hn : n ≤ 257) : adc_Mean_g 1000 n m = some (meanV n m) := by
  unfold adc_Mean_g meanV
  by_cases h1 : n ≤ 256
  · have d1 : decide ((n : Int) > 256) = false := by simp; omega
    rw [d1, raw_ok n m (by omega)]
    simp only [cond_false, Option.bind_some]
    cases hr : rawFrom m 0 n
    · rw [if_neg (by simp)]; rfl
    · have hl : adc_Mean_l0 1000 1000 n 0 n (n : Int) 0 m = _ := mean_loop n m h1 hr n 0 1000 (by omega) (by omega)
      rw [hl]
      simp only [Bool.not_true, cond_false, Option.bind_some]
      by_cases h0 : 1 ≤ n
      · have b := sum_raw h1 hr n (Nat.le_refl _)
        rw [fx_near_ok 1000 _ _ (by omega) (by omega) (by omega) (by omega), if_pos ⟨h0, h1, trivial⟩]
        rfl
      · rw [fx_near_bad 1000 _ _ (by omega), if_neg (by omega)]
        rfl
  · have d1 : decide ((n : Int) > 256) = true := by simp; omega
    rw [d1, if_neg (by omega)]
    rfl

theorem rnear_eq (K : Nat) (a b : Int) : rheostatref03_Near_g K a b = fx_Near_g K a b := by
  unfold rheostatref03_Near_g rheostatref03_Down_g rheostatref03_Left_g fx_Near_g
  cases decide (b < 1)
  · cases (b == 0)
    · cases decide (Int.tmod a b < 0) <;> simp
    · rfl
  · rfl

theorem rmean_loop (n : Nat) (m : Nat → Int) (hn : n ≤ 256) : ∀ (d i fuel : Nat), i + d = n → d < fuel → rawFrom m 0 i = true →
    rheostatref12_Mean_l0 1000 fuel n (sumF m i) (i : Int) m = some (bif rawFrom m i d then .inl (n, sumF m n, m, ()) else .inr (0, 2, ()))
  | 0, i, fuel, hd, hf, hp => by
    obtain ⟨f, rfl⟩ : ∃ f, fuel = f + 1 := ⟨fuel - 1, by omega⟩
    have e : i = n := by omega
    subst e
    show rheostatref12_Mean_l0r 1000 (rheostatref12_Mean_l0 1000 f) i (sumF m i) (i : Int) m = _
    simp only [rheostatref12_Mean_l0r, nat_lt_self, cond_false, rawFrom, cond_true]
  | d + 1, i, fuel, hd, hf, hp => by
    obtain ⟨f, rfl⟩ : ∃ f, fuel = f + 1 := ⟨fuel - 1, by omega⟩
    have hin : i < n := by omega
    have e0 : rheostatref12_Mean_l0 1000 (f + 1) n (sumF m i) (i : Int) m = rheostatref12_Mean_l0r 1000 (rheostatref12_Mean_l0 1000 f) n (sumF m i) (i : Int) m := rfl
    rw [e0]
    simp only [rheostatref12_Mean_l0r, nat_lt_dec hin, nat_nn_dec, Bool.and_self, cond_true, Int.toNat_natCast, rraw_ok, Option.bind_some, wi_succ (show i < 1000000 by omega), rawFrom]
    cases hb : rawB (m i)
    · rfl
    · have b := rawB_iff.1 hb
      have hp' : rawFrom m 0 (i + 1) = true := by
        have step : ∀ (d q : Nat), rawFrom m q d = true → rawB (m (q + d)) = true → rawFrom m q (d + 1) = true := by
          intro d
          induction d with
          | zero => intro q _ h; simpa [rawFrom] using h
          | succ d ih =>
            intro q h1 h2
            rw [rawFrom, Bool.and_eq_true] at h1 ⊢
            exact ⟨h1.1, ih (q + 1) h1.2 (by rw [show q + 1 + d = q + (d + 1) by omega]; exact h2)⟩
        have := step i 0 hp (by simpa using hb)
        exact this
      have bs := sum_raw (m := m) (n := i + 1) (by omega) hp' (i + 1) (Nat.le_refl _)
      have e1 : wi64 (sumF m i + m i) = sumF m (i + 1) := by rw [wi64_id]; rfl; (simp only [sumF] at bs; omega); (simp only [sumF] at bs; omega)
      have ih := rmean_loop n m hn d (i + 1) f (by omega) (by omega) hp'
      simp only [Bool.not_true, cond_false, e1, ih, Bool.true_and]

theorem rmean_ok (n : Nat) (m : Nat → Int) (hn : n ≤ 257) : rheostatref12_Mean_g 1000 n m = some (meanV n m) := by
  unfold rheostatref12_Mean_g meanV
  by_cases h0 : 1 ≤ n
  · have d0 : decide ((n : Int) < 1) = false := by simp; omega
    rw [d0]
    simp only [cond_false]
    by_cases h1 : n ≤ 256
    · have d1 : decide ((n : Int) > 256) = false := by simp; omega
      have hl : rheostatref12_Mean_l0 1000 1000 n 0 0 m = _ := rmean_loop n m h1 n 0 1000 (by omega) (by omega) rfl
      rw [d1, hl]
      simp only [cond_false, Option.bind_some]
      cases hr : rawFrom m 0 n
      · rw [if_neg (by simp)]; rfl
      · have b := sum_raw h1 hr n (Nat.le_refl _)
        simp only [cond_true, Sum.elim_inl]
        rw [rnear_eq, fx_near_ok 1000 _ _ (by omega) (by omega) (by omega) (by omega), if_pos ⟨h0, h1, trivial⟩]
        rfl
    · have d1 : decide ((n : Int) > 256) = true := by simp; omega
      rw [d1, if_neg (by omega)]
      rfl
  · have d0 : decide ((n : Int) < 1) = true := by simp; omega
    rw [d0, if_neg (by omega)]
    rfl

theorem same_loop (n : Nat) (m : Nat → Int) (hn : n < 1000) : ∀ (d i fuel : Nat), i + d = n → d < fuel → rheostatbase_SameInts_l0 1000 fuel n n (i : Int) m m = some (.inl ())
  | 0, i, fuel, hd, hf => by
    obtain ⟨f, rfl⟩ : ∃ f, fuel = f + 1 := ⟨fuel - 1, by omega⟩
    have e : i = n := by omega
    subst e
    show rheostatbase_SameInts_l0r 1000 (rheostatbase_SameInts_l0 1000 f) i i (i : Int) m m = _
    simp only [rheostatbase_SameInts_l0r, nat_lt_self, cond_false]
  | d + 1, i, fuel, hd, hf => by
    obtain ⟨f, rfl⟩ : ∃ f, fuel = f + 1 := ⟨fuel - 1, by omega⟩
    have hin : i < n := by omega
    have ih := same_loop n m hn d (i + 1) f (by omega) (by omega)
    have e0 : rheostatbase_SameInts_l0 1000 (f + 1) n n (i : Int) m m = rheostatbase_SameInts_l0r 1000 (rheostatbase_SameInts_l0 1000 f) n n (i : Int) m m := rfl
    rw [e0]
    have e1 : (m i != m i) = false := by simp
    simp only [rheostatbase_SameInts_l0r, nat_lt_dec hin, nat_nn_dec, Bool.and_self, cond_true, Int.toNat_natCast, wi_succ (show i < 1000000 by omega), e1, cond_false, ih]

theorem same_ok (n : Nat) (m : Nat → Int) (hn : n < 1000) : rheostatbase_SameInts_g 1000 n n m m = some (true, ()) := by
  unfold rheostatbase_SameInts_g
  have e1 : ((n : Int) != (n : Int)) = false := by simp
  have hl : rheostatbase_SameInts_l0 1000 1000 n n 0 m m = _ := same_loop n m hn n 0 1000 (by omega) (by omega)
  rw [e1, hl]
  rfl

/-- So many counts are looked at. -/
theorem few_ok (n : Nat) : ∃ k : Nat, k ≤ 257 ∧ (bif decide (257 < (n : Int)) then (257 : Int) else (n : Int)) = (k : Int) ∧ ((decide (0 ≤ (k : Int))) && (decide ((k : Int) ≤ (n : Int)))) = true := by
  by_cases h : 257 < n
  · have d : decide (257 < (n : Int)) = true := by simp; omega
    exact ⟨257, by omega, by rw [d]; rfl, by simp; omega⟩
  · have d : decide (257 < (n : Int)) = false := by simp; omega
    exact ⟨n, by omega, by rw [d]; rfl, by simp⟩

theorem ints_pos (K k : Nat) (m : Nat → Int) (h : 0 < k) (h' : k ≤ 257) : rheostatbase_Ints_g K k m = some (k, m, ()) := by
  unfold rheostatbase_Ints_g
  have d1 : Nat.blt 0 k = true := by simp [Nat.blt_eq]; omega
  have d2 : Nat.ble ((0 + k) * 8) 140737488355328 = true := by simp; omega
  rw [d1, d2]
  simp

theorem ints_zero (K : Nat) (m : Nat → Int) : rheostatbase_Ints_g K 0 m = some (0, (fun _ => 0), ()) := rfl

theorem AdcMeans_ok (n : Nat) (m : Nat → Int) : rheostatlaw12_AdcMeans_g 1000 n m = some true := by
  unfold rheostatlaw12_AdcMeans_g
  obtain ⟨k, hk, h1, h2⟩ := few_ok n
  rw [h1, h2]
  simp only [cond_true, Int.toNat_natCast]
  by_cases h0 : k = 0
  · subst h0
    rw [ints_zero]
    simp only [Option.bind_some]
    rw [mean_ok 0 _ (by omega), rmean_ok 0 _ (by omega)]
    simp only [Option.bind_some, works_ok]
    rfl
  · rw [ints_pos 1000 k m (by omega) hk]
    simp only [Option.bind_some]
    rw [mean_ok k m hk, rmean_ok k m hk]
    simp only [Option.bind_some, works_ok, same_ok k m (by omega)]
    simp

/-! ### Lines -/
def lineB (z g p : Int) : Bool := rawB z && rawB g && decide (1 ≤ p ∧ p ≤ 1048576)
def lineE (z g p : Int) : Int := bif lineB z g p then 0 else 120

theorem check_ok (z g p : Int) : adc_Check_g 1000 z g p = some (lineE z g p, ()) := by
  unfold adc_Check_g
  rw [raw_ok 3 _ (by omega)]
  have e : rawFrom (fun j => selI [z, g, p] j) 0 3 = (rawB z && (rawB g && rawB p)) := by simp [rawFrom, selI]
  rw [e]
  simp only [Option.bind_some, lineE, lineB]
  cases rawB z
  · rfl
  · cases rawB g
    · rfl
    · unfold rawB
      by_cases h1 : p < 1
      · have : ¬ (1 ≤ p ∧ p ≤ 1048576) := by omega
        by_cases h2 : -1048576 ≤ p ∧ p ≤ 1048576 <;> simp [h1, h2] <;> (try omega)
        all_goals (have h3 : ¬ (1 ≤ p) := by omega); simp [h3]
      · by_cases h2 : p ≤ 1048576
        · have h3 : -1048576 ≤ p ∧ p ≤ 1048576 := by omega
          have h4 : 1 ≤ p ∧ p ≤ 1048576 := by omega
          simp [h1, h3, h4]
        · have h3 : ¬ (-1048576 ≤ p ∧ p ≤ 1048576) := by omega
          have h4 : ¬ (1 ≤ p ∧ p ≤ 1048576) := by omega
          simp [h1, h3, h4]

theorem rcheck_ok (z g p : Int) : rheostatref12_Check_g 1000 z g p = some (lineE z g p, ()) := by
  unfold rheostatref12_Check_g
  rw [rraw_ok, rraw_ok]
  simp only [Option.bind_some, lineE, lineB]
  cases rawB z
  · rfl
  · cases rawB g
    · rfl
    · by_cases h1 : p < 1
      · have : ¬ (1 ≤ p ∧ p ≤ 1048576) := by omega
        simp [h1, this]
      · by_cases h2 : p > 1048576
        · have : ¬ (1 ≤ p ∧ p ≤ 1048576) := by omega
          simp [h1, h2, this]
        · have : 1 ≤ p ∧ p ≤ 1048576 := by omega
          simp [h1, h2, this]

def zeroedV (z g p : Int) (n : Nat) (m : Nat → Int) : Int × Int × Int × Int × Unit :=
  if lineB z g p = true then (if (meanV n m).2.1 = 0 then ((meanV n m).1, g, p, 0, ()) else (0, 0, 0, (meanV n m).2.1, ())) else (0, 0, 0, 120, ())

theorem zeroed_ok (z g p : Int) (n : Nat) (m : Nat → Int) (hn : n ≤ 257) : adc_Zeroed_g 1000 z g p n m = some (zeroedV z g p n m) := by
  unfold adc_Zeroed_g zeroedV
  rw [check_ok, mean_ok n m hn]
  simp only [Option.bind_some, lineE]
  cases lineB z g p
  · rfl
  · by_cases h : (meanV n m).2.1 = 0
    · have d : ((meanV n m).2.1 != 0) = false := by simp [h]
      simp only [cond_true, if_pos rfl, d, if_pos h, h]
      simp
    · have d : ((meanV n m).2.1 != 0) = true := by simp [h]
      simp only [cond_true, if_pos rfl, d, if_neg h]
      simp

theorem rzeroed_ok (z g p : Int) (n : Nat) (m : Nat → Int) (hn : n ≤ 257) : rheostatref12_Zeroed_g 1000 z g p n m = some (zeroedV z g p n m) := by
  unfold rheostatref12_Zeroed_g zeroedV
  rw [rcheck_ok, rmean_ok n m hn]
  simp only [Option.bind_some, lineE]
  cases lineB z g p
  · rfl
  · by_cases h : (meanV n m).2.1 = 0
    · have d : ((meanV n m).2.1 != 0) = false := by simp [h]
      simp only [cond_true, if_pos rfl, d, if_pos h]
      simp
    · have d : ((meanV n m).2.1 != 0) = true := by simp [h]
      simp only [cond_true, if_pos rfl, d, if_neg h]
      simp

def gainedV (z g p c u : Int) : Int × Int × Int × Int × Unit :=
  if lineB z g p = true then (if rawB c = true ∧ rawB u = true then
      (if wi64 (c - z) < 0 then (if lineB z (wi64 (0 - u)) (wi64 (0 - wi64 (c - z))) = true then (z, wi64 (0 - u), wi64 (0 - wi64 (c - z)), 0, ()) else (0, 0, 0, 120, ()))
       else (if lineB z u (wi64 (c - z)) = true then (z, u, wi64 (c - z), 0, ()) else (0, 0, 0, 120, ()))) else (0, 0, 0, 2, ())) else (0, 0, 0, 120, ())

theorem gained_ok (z g p c u : Int) : adc_Gained_g 1000 z g p c u = some (gainedV z g p c u) := by
  unfold adc_Gained_g gainedV
  rw [check_ok, check_ok, check_ok, raw_ok 2 _ (by omega)]
  have e : rawFrom (fun j => selI [c, u] j) 0 2 = (rawB c && rawB u) := by simp [rawFrom, selI]
  rw [e]
  simp only [Option.bind_some, lineE]
  cases lineB z g p
  · rfl
  · cases rawB c <;> cases rawB u <;> simp
    by_cases h : wi64 (c - z) < 0
    · simp only [decide_eq_true h, cond_true, if_pos h]
      cases lineB z (wi64 (-u)) (wi64 (-wi64 (c - z))) <;> rfl
    · simp only [decide_eq_false h, cond_false, if_neg h]
      cases lineB z u (wi64 (c - z)) <;> rfl

theorem rgained_ok (z g p c u : Int) : rheostatref12_Gained_g 1000 z g p c u = some (gainedV z g p c u) := by
  unfold rheostatref12_Gained_g gainedV
  rw [rcheck_ok, rcheck_ok, rcheck_ok, rraw_ok, rraw_ok]
  simp only [Option.bind_some, lineE]
  cases lineB z g p
  · rfl
  · cases rawB c <;> cases rawB u <;> simp
    by_cases h : wi64 (c - z) < 0
    · simp only [decide_eq_true h, cond_true, if_pos h]
      cases lineB z (wi64 (-u)) (wi64 (-wi64 (c - z))) <;> rfl
    · simp only [decide_eq_false h, cond_false, if_neg h]
      cases lineB z u (wi64 (c - z)) <;> rfl

theorem AdcFinds_ok (z g p : Int) (n : Nat) (c u : Int) (m : Nat → Int) : rheostatlaw12_AdcFinds_g 1000 z g p n c u m = some true := by
  unfold rheostatlaw12_AdcFinds_g
  obtain ⟨k, hk, h1, h2⟩ := few_ok n
  rw [h1, h2]
  simp only [cond_true, Int.toNat_natCast]
  have key : ∀ m', adc_Zeroed_g 1000 z g p k m' = adc_Zeroed_g 1000 z g p k m → (((adc_Zeroed_g 1000 z g p k m').bind fun q2 => ((rheostatref12_Zeroed_g 1000 z g p k m).bind fun q3 => ((adc_Gained_g 1000 z g p c u).bind fun q4 => ((rheostatref12_Gained_g 1000 z g p c u).bind fun q5 => (bif ((q2.1 == q3.1) && ((q2.2.1 == q3.2.1) && (q2.2.2.1 == q3.2.2.1))) then (bif (q2.2.2.2.1 == q3.2.2.2.1) then (bif ((q4.1 == q5.1) && ((q4.2.1 == q5.2.1) && (q4.2.2.1 == q5.2.2.1))) then (bif (q4.2.2.2.1 == q5.2.2.2.1) then ((rheostatlaw12_works_g 1000).bind fun q6 => (some q6.1)) else (some false)) else (some false)) else (some false)) else (some false)))))) = some true) := by
    intro m' hm
    rw [hm, zeroed_ok z g p k m hk, rzeroed_ok z g p k m hk, gained_ok, rgained_ok]
    simp only [Option.bind_some, works_ok]
    simp
  by_cases h0 : k = 0
  · subst h0
    rw [ints_zero]
    refine key _ ?_
    rw [zeroed_ok z g p 0 _ (by omega), zeroed_ok z g p 0 _ (by omega)]
    rfl
  · rw [ints_pos 1000 k m (by omega) hk]
    exact key m rfl
end Go.Proofs.Ytijknfmhcnohbaa
