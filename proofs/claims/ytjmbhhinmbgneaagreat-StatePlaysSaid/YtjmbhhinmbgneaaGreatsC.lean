/-
  Charges: what the printed functions of the coulomb counter compute, as plain functions of the numbers.
-/
import Derived.Test.YtjmbhhinmbgneaaGreatsD
namespace Go.Proofs.YtjmbhhinmbgneaaGreat
open Go.Sy
set_option maxHeartbeats 1000000

theorem nat_lt_dec {i n : Nat} (h : i < n) : decide ((i : Int) < (n : Int)) = true := by simp; omega
theorem nat_nn_dec (i : Nat) : decide (0 ≤ (i : Int)) = true := by simp
theorem wi_succ {i : Nat} (h : i < 1000000) : wi64 ((i : Int) + 1) = ((i + 1 : Nat) : Int) := by rw [wi64_id (by omega) (by omega)]; simp
theorem nat_lt_self (n : Nat) : decide ((n : Int) < (n : Int)) = false := by simp

def inB (b x : Int) : Bool := decide (-b ≤ x ∧ x ≤ b)

def allIn (b : Int) (m : Nat → Int) (i : Nat) : Nat → Bool
  | 0 => true
  | d + 1 => inB b (m i) && allIn b m (i + 1) d

theorem size_loop (b : Int) (hb : 0 ≤ b) (hb' : b < 9223372036854775808) (n : Nat) (m : Nat → Int) (hn : n < 900) : ∀ (d i fuel : Nat), i + d = n → d < fuel →
    coulomb_size_l0 20000 fuel b n (n : Int) (i : Int) m = some (bif allIn b m i d then .inl () else .inr (false, ()))
  | 0, i, fuel, hd, hf => by
    obtain ⟨f, rfl⟩ : ∃ f, fuel = f + 1 := ⟨fuel - 1, by omega⟩
    have e : i = n := by omega
    subst e
    show coulomb_size_l0r 20000 (coulomb_size_l0 20000 f) b i (i : Int) (i : Int) m = _
    simp only [coulomb_size_l0r, nat_lt_self, cond_false, allIn, cond_true]
  | d + 1, i, fuel, hd, hf => by
    obtain ⟨f, rfl⟩ : ∃ f, fuel = f + 1 := ⟨fuel - 1, by omega⟩
    have hin : i < n := by omega
    have ih := size_loop b hb hb' n m hn d (i + 1) f (by omega) (by omega)
    have e0 : coulomb_size_l0 20000 (f + 1) b n (n : Int) (i : Int) m = coulomb_size_l0r 20000 (coulomb_size_l0 20000 f) b n (n : Int) (i : Int) m := rfl
    have eb : wi64 (0 - b) = -b := by rw [wi64_id (by omega) (by omega)]; omega
    rw [e0]
    simp only [coulomb_size_l0r, nat_lt_dec hin, nat_nn_dec, Bool.and_self, cond_true, Int.toNat_natCast, eb, wi_succ (show i < 1000000 by omega), ih, allIn, inB]
    by_cases h1 : m i < -b
    · rw [decide_eq_true h1, decide_eq_false (show ¬ (-b ≤ m i ∧ m i ≤ b) by omega)]
      rfl
    · rw [decide_eq_false h1]
      by_cases h2 : m i > b
      · rw [decide_eq_true h2, decide_eq_false (show ¬ (-b ≤ m i ∧ m i ≤ b) by omega)]
        rfl
      · rw [decide_eq_false h2, decide_eq_true (show -b ≤ m i ∧ m i ≤ b by omega)]
        rfl

theorem size_ok' (b : Int) (hb : 0 ≤ b) (hb' : b < 9223372036854775808) (n : Nat) (m : Nat → Int) (hn : n < 900) : coulomb_size_g 20000 b n m = some (allIn b m 0 n, ()) := by
  unfold coulomb_size_g
  have h : coulomb_size_l0 20000 20000 b n (n : Int) 0 m = _ := size_loop b hb hb' n m hn n 0 20000 (by omega) (by omega)
  rw [h]
  cases allIn b m 0 n <;> rfl

theorem size1 (b x : Int) (hb : 0 ≤ b) (hb' : b < 9223372036854775808) : coulomb_size_g 20000 b 1 (fun j => selI [x] j) = some (inB b x, ()) := by
  rw [size_ok' b hb hb' 1 _ (by omega)]
  simp [allIn, selI]

theorem size2 (b x y : Int) (hb : 0 ≤ b) (hb' : b < 9223372036854775808) : coulomb_size_g 20000 b 2 (fun j => selI [x, y] j) = some (inB b x && inB b y, ()) := by
  rw [size_ok' b hb hb' 2 _ (by omega)]
  simp [allIn, selI]

theorem cmay_ok (K : Nat) (s c : Int) : coulomb_may_g K s c = some (decide ((0 ≤ s ∧ s ≤ 10000) ∧ (1 ≤ c ∧ c ≤ 1125899906842624)), ()) := by
  unfold coulomb_may_g
  by_cases h1 : s ≥ 0
  · by_cases h2 : s ≤ 10000
    · by_cases h3 : c ≥ 1
      · by_cases h4 : c ≤ 1125899906842624 <;> simp [h1, h2, h3, h4]
      · have : ¬ (1 ≤ c) := by omega
        simp [h1, h2, h3]
    · simp [h1, h2]
  · simp [h1]

def shownV (s f n c : Int) : Int := btw 0 10000 (s + btw (-10000) 10000 (nr (10000 * (n - f)) c))

def shownE (s f n c : Int) : Int × Int × Unit :=
  if (0 ≤ s ∧ s ≤ 10000) ∧ (1 ≤ c ∧ c ≤ 1125899906842624) ∧ inB 1125899906842624 f = true ∧ inB 1125899906842624 n = true then (shownV s f n c, 0, ()) else (0, 2, ())

theorem inB_iff {b x : Int} : inB b x = true ↔ -b ≤ x ∧ x ≤ b := by simp only [inB, decide_eq_true_eq]

/-- Where a number does not fit, the difference is beyond all bounds. -/
theorem far {d c : Int} (hc : 1 ≤ c ∧ c ≤ 1125899906842624) (hd : -2251799813685248 ≤ d ∧ d ≤ 2251799813685248) (h : nr (10000 * d) c < -9223372036854775808 ∨ 9223372036854775808 ≤ nr (10000 * d) c) :
    (0 < d → 10000 ≤ d ∧ 9223372036854775808 ≤ nr (10000 * d) c) ∧ (¬ 0 < d → d ≤ -10000 ∧ nr (10000 * d) c < -9223372036854775808) := by
  have hb : ∀ e : Int, -10000 < e → e < 10000 → -9223372036854775808 < nr (10000 * e) c ∧ nr (10000 * e) c < 9223372036854775808 := by
    intro e h1 h2
    have := nr_bound (a := 10000 * e) (b := c) (M := 100000000) (by omega) (ab_bound (by omega) (by omega))
    omega
  constructor
  · intro hp
    have h0 := nr_nonneg (a := 10000 * d) (b := c) (by omega) (by omega)
    refine ⟨?_, by omega⟩
    rcases Int.lt_or_le d 10000 with h1 | h1
    · have := hb d (by omega) h1
      omega
    · exact h1
  · intro hp
    by_cases hz : d = 0
    · subst hz
      have := hb 0 (by omega) (by omega)
      omega
    · have h0 := nr_nonpos (a := 10000 * d) (b := c) (by omega) (by omega)
      refine ⟨?_, by omega⟩
      rcases Int.lt_or_le (-10000) d with h1 | h1
      · have := hb d h1 (by omega)
        omega
      · exact h1

theorem clamp_ok (n : Int) : fx_Clamp_g 20000 10000 n = some (btw (-10000) 10000 n, 0, ()) := by
  unfold fx_Clamp_g
  have hb : fx_bound_g 20000 10000 = some (0, ()) := rfl
  rw [hb]
  simp only [Option.bind_some]
  rw [fx_between_ok]
  rfl

theorem shown_ok (s f n c : Int) : coulomb_Shown_g 20000 s f n c = some (shownE s f n c) := by
  unfold coulomb_Shown_g shownE
  rw [cmay_ok, size2 _ _ _ (by omega) (by omega)]
  by_cases h1 : (0 ≤ s ∧ s ≤ 10000) ∧ (1 ≤ c ∧ c ≤ 1125899906842624)
  · rw [decide_eq_true h1]
    cases hf : inB 1125899906842624 f
    · rw [if_neg (by simp)]; rfl
    · cases hn : inB 1125899906842624 n
      · rw [if_neg (by simp)]; rfl
      · rw [if_pos ⟨h1.1, h1.2, rfl, rfl⟩]
        have f1 := inB_iff.1 hf
        have n1 := inB_iff.1 hn
        simp only [Option.bind_some, Bool.not_true, Bool.and_self, cond_false]
        rw [wi64_id (x := n - f) (by omega) (by omega), mulnear_ok 10000 (n - f) c (by omega) (by omega) (by omega) (by omega) (by omega) (by omega)]
        simp only [Option.bind_some]
        have hcl : ∀ x, -10000 ≤ btw (-10000) 10000 x ∧ btw (-10000) 10000 x ≤ 10000 := fun x => btw_le (by omega)
        unfold fit
        by_cases hfit : -9223372036854775808 ≤ nr (10000 * (n - f)) c ∧ nr (10000 * (n - f)) c < 9223372036854775808
        · rw [if_pos hfit]
          have k := hcl (nr (10000 * (n - f)) c)
          simp only [show ((0 : Int) != 0) = false from rfl, cond_false]
          rw [clamp_ok]
          simp only [Option.bind_some]
          rw [wi64_id (by omega) (by omega), fx_between_ok]
          rfl
        · rw [if_neg hfit]
          have k := hcl (n - f)
          simp only [show ((3 : Int) != 0) = true from rfl, cond_true]
          rw [clamp_ok]
          simp only [Option.bind_some]
          rw [wi64_id (by omega) (by omega), fx_between_ok]
          obtain ⟨q1, q2⟩ := far h1.2 (d := n - f) (by omega) (by omega)
          have e : btw (-10000) 10000 (n - f) = btw (-10000) 10000 (nr (10000 * (n - f)) c) := by
            by_cases hp : 0 < n - f
            · obtain ⟨q3, q4⟩ := q1 hp
              unfold btw
              rw [if_neg (by omega), if_neg (show ¬ nr (10000 * (n - f)) c < -10000 by omega), if_pos (show nr (10000 * (n - f)) c > 10000 by omega)]
              split <;> omega
            · obtain ⟨q3, q4⟩ := q2 hp
              unfold btw
              rw [if_pos (show nr (10000 * (n - f)) c < -10000 by omega)]
              split
              · rfl
              · rw [if_neg (by omega)]; omega
          unfold shownV
          rw [e]
          rfl
  · rw [decide_eq_false h1, if_neg (fun k => h1 ⟨k.1, k.2.1⟩)]
    rfl

end Go.Proofs.YtjmbhhinmbgneaaGreat
