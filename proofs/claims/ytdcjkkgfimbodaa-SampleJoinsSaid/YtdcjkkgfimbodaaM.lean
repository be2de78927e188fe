/-
  The mean of counts: what the printed functions compute, as a plain function of the numbers.
-/
import Derived.Test.YtdcjkkgfimbodaaA
import Derived.Test.YtdcjkkgfimbodaaI
namespace Go.Proofs.Ytdcjkkgfimbodaa
open Go.Sy
set_option maxHeartbeats 1000000

theorem mraw_ok (K : Nat) (x : Int) : rheostatref12_raw_g K x = some (rawB x, ()) := by
  unfold rheostatref12_raw_g rawB
  by_cases h1 : x ≥ -1048576
  · by_cases h2 : x ≤ 1048576
    · have : -1048576 ≤ x ∧ x ≤ 1048576 := by omega
      simp [h1, h2]
    · have : ¬ (-1048576 ≤ x ∧ x ≤ 1048576) := by omega
      simp [h1, h2]
  · simp [h1]

def sumF (m : Nat → Int) : Nat → Int
  | 0 => 0
  | n + 1 => sumF m n + m n

theorem sum_bound {m : Nat → Int} {lo hi : Int} : ∀ n : Nat, (∀ j, j < n → lo ≤ m j ∧ m j ≤ hi) → (n : Int) * lo ≤ sumF m n ∧ sumF m n ≤ (n : Int) * hi
  | 0, _ => by simp [sumF]
  | n + 1, h => by
    have ih := sum_bound n (fun j hj => h j (by omega))
    have h1 := h n (by omega)
    simp only [sumF, Int.natCast_succ, Int.add_mul, Int.one_mul]
    omega

theorem sum_raw {m : Nat → Int} {n : Nat} (hn : n ≤ 256) (h : rawFrom m 0 n = true) : ∀ i, i ≤ n → -268435456 ≤ sumF m i ∧ sumF m i ≤ 268435456 := by
  intro i hi
  have := sum_bound (lo := -1048576) (hi := 1048576) i (fun j hj => rawB_iff.1 (rawFrom_get h j (by omega) (by omega)))
  omega

theorem mean_loop (n : Nat) (m : Nat → Int) (hn : n ≤ 256) (hr : rawFrom m 0 n = true) : ∀ (d i fuel : Nat), i + d = n → d < fuel →
    adc_Mean_l0 1000 fuel n (sumF m i) n (n : Int) (i : Int) m = some (n, sumF m n, m, ())
  | 0, i, fuel, hd, hf => by
    obtain ⟨f, rfl⟩ : ∃ f, fuel = f + 1 := ⟨fuel - 1, by omega⟩
    have e : i = n := by omega
    subst e
    show adc_Mean_l0r 1000 (adc_Mean_l0 1000 f) i (sumF m i) i (i : Int) (i : Int) m = _
    simp only [adc_Mean_l0r, nat_lt_self, cond_false]
  | d + 1, i, fuel, hd, hf => by
    obtain ⟨f, rfl⟩ : ∃ f, fuel = f + 1 := ⟨fuel - 1, by omega⟩
    have hin : i < n := by omega
    have ih := mean_loop n m hn hr d (i + 1) f (by omega) (by omega)
    have e0 : adc_Mean_l0 1000 (f + 1) n (sumF m i) n (n : Int) (i : Int) m = adc_Mean_l0r 1000 (adc_Mean_l0 1000 f) n (sumF m i) n (n : Int) (i : Int) m := rfl
    rw [e0]
    have b := sum_raw hn hr (i + 1) (by omega)
    have e1 : wi64 (sumF m i + m i) = sumF m (i + 1) := by rw [wi64_id]; rfl; (simp only [sumF] at b; omega); (simp only [sumF] at b; omega)
    simp only [adc_Mean_l0r, nat_lt_dec hin, nat_nn_dec, Bool.and_self, cond_true, Int.toNat_natCast, wi_succ (show i < 1000000 by omega), e1, ih]

/-- A mean, as the document has it. -/
def meanV (n : Nat) (m : Nat → Int) : Int × Int × Unit := if 1 ≤ n ∧ n ≤ 256 ∧ rawFrom m 0 n = true then (nr (sumF m n) n, 0, ()) else (0, 2, ())

theorem mean_ok (n : Nat) (m : Nat → Int) (hn : n ≤ 257) : adc_Mean_g 1000 n m = some (meanV n m) := by
  unfold adc_Mean_g meanV
  by_cases h1 : n ≤ 256
  · have d1 : decide ((n : Int) > 256) = false := by simp; omega
    rw [d1, raw_ok n m (by omega)]
    simp only [cond_false, Option.bind_some]
    cases hr : rawFrom m 0 n
    · rw [if_neg (by simp)]; rfl
    · have hl : adc_Mean_l0 1000 1000 n 0 n (n : Int) 0 m = _ := mean_loop n m h1 hr n 0 1000 (by omega) (by omega)
      rw [hl]
      simp only [Bool.not_true, cond_false, Option.bind_some]
      by_cases h0 : 1 ≤ n
      · have b := sum_raw h1 hr n (Nat.le_refl _)
        rw [fx_near_ok 1000 _ _ (by omega) (by omega) (by omega) (by omega), if_pos ⟨h0, h1, trivial⟩]
        rfl
      · rw [fx_near_bad 1000 _ _ (by omega), if_neg (by omega)]
        rfl
  · have d1 : decide ((n : Int) > 256) = true := by simp; omega
    rw [d1, if_neg (by omega)]
    rfl

theorem rnear_eq (K : Nat) (a b : Int) : rheostatref03_Near_g K a b = fx_Near_g K a b := by
  unfold rheostatref03_Near_g rheostatref03_Down_g rheostatref03_Left_g fx_Near_g
  cases decide (b < 1)
  · cases (b == 0)
    · cases decide (Int.tmod a b < 0) <;> simp
    · rfl
  · rfl

theorem rmean_loop (n : Nat) (m : Nat → Int) (hn : n ≤ 256) : ∀ (d i fuel : Nat), i + d = n → d < fuel → rawFrom m 0 i = true →
    rheostatref12_Mean_l0 1000 fuel n (sumF m i) (i : Int) m = some (bif rawFrom m i d then .inl (n, sumF m n, m, ()) else .inr (0, 2, ()))
  | 0, i, fuel, hd, hf, hp => by
    obtain ⟨f, rfl⟩ : ∃ f, fuel = f + 1 := ⟨fuel - 1, by omega⟩
    have e : i = n := by omega
    subst e
    show rheostatref12_Mean_l0r 1000 (rheostatref12_Mean_l0 1000 f) i (sumF m i) (i : Int) m = _
    simp only [rheostatref12_Mean_l0r, nat_lt_self, cond_false, rawFrom, cond_true]
  | d + 1, i, fuel, hd, hf, hp => by
    obtain ⟨f, rfl⟩ : ∃ f, fuel = f + 1 := ⟨fuel - 1, by omega⟩
    have hin : i < n := by omega
    have e0 : rheostatref12_Mean_l0 1000 (f + 1) n (sumF m i) (i : Int) m = rheostatref12_Mean_l0r 1000 (rheostatref12_Mean_l0 1000 f) n (sumF m i) (i : Int) m := rfl
    rw [e0]
    simp only [rheostatref12_Mean_l0r, nat_lt_dec hin, nat_nn_dec, Bool.and_self, cond_true, Int.toNat_natCast, mraw_ok, Option.bind_some, wi_succ (show i < 1000000 by omega), rawFrom]
    cases hb : rawB (m i)
    · rfl
    · have b := rawB_iff.1 hb
      have hp' : rawFrom m 0 (i + 1) = true := by
        have step : ∀ (d q : Nat), rawFrom m q d = true → rawB (m (q + d)) = true → rawFrom m q (d + 1) = true := by
          intro d
          induction d with
          | zero => intro q _ h; simpa [rawFrom] using h
          | succ d ih =>
            intro q h1 h2
            rw [rawFrom, Bool.and_eq_true] at h1 ⊢
            exact ⟨h1.1, ih (q + 1) h1.2 (by rw [show q + 1 + d = q + (d + 1) by omega]; exact h2)⟩
        have := step i 0 hp (by simpa using hb)
        exact this
      have bs := sum_raw (m := m) (n := i + 1) (by omega) hp' (i + 1) (Nat.le_refl _)
      have e1 : wi64 (sumF m i + m i) = sumF m (i + 1) := by rw [wi64_id]; rfl; (simp only [sumF] at bs; omega); (simp only [sumF] at bs; omega)
      have ih := rmean_loop n m hn d (i + 1) f (by omega) (by omega) hp'
      simp only [Bool.not_true, cond_false, e1, ih, Bool.true_and]

theorem rmean_ok (n : Nat) (m : Nat → Int) (hn : n ≤ 257) : rheostatref12_Mean_g 1000 n m = some (meanV n m) := by
  unfold rheostatref12_Mean_g meanV
  by_cases h0 : 1 ≤ n
  · have d0 : decide ((n : Int) < 1) = false := by simp; omega
    rw [d0]
    simp only [cond_false]
    by_cases h1 : n ≤ 256
    · have d1 : decide ((n : Int) > 256) = false := by simp; omega
      have hl : rheostatref12_Mean_l0 1000 1000 n 0 0 m = _ := rmean_loop n m h1 n 0 1000 (by omega) (by omega) rfl
      rw [d1, hl]
      simp only [cond_false, Option.bind_some]
      cases hr : rawFrom m 0 n
      · rw [if_neg (by simp)]; rfl
      · have b := sum_raw h1 hr n (Nat.le_refl _)
        simp only [cond_true, Sum.elim_inl]
        rw [rnear_eq, fx_near_ok 1000 _ _ (by omega) (by omega) (by omega) (by omega), if_pos ⟨h0, h1, trivial⟩]
        rfl
    · have d1 : decide ((n : Int) > 256) = true := by simp; omega
      rw [d1, if_neg (by omega)]
      rfl
  · have d0 : decide ((n : Int) < 1) = true := by simp; omega
    rw [d0, if_neg (by omega)]
    rfl

end Go.Proofs.Ytdcjkkgfimbodaa
