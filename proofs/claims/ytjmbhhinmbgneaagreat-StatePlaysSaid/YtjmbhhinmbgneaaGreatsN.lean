/-
  The nearest number: plain laws.
-/
import Derived.Test.YtjmbhhinmbgneaaGreatsW
namespace Go.Proofs.YtjmbhhinmbgneaaGreat
open Go.Sy

theorem nrs_nonneg {m b : Int} (hm : 0 ≤ m) (hb : 0 < b) : 0 ≤ nrs m b := Int.ediv_nonneg (by omega) (by omega)

theorem nrs_mono {m m' b : Int} (hb : 0 < b) (h : m ≤ m') : nrs m b ≤ nrs m' b := Int.ediv_le_ediv (by omega) (by omega)

theorem nrs_le {m b : Int} (hm : 0 ≤ m) (hb : 0 < b) : nrs m b ≤ 2 * m + b := Int.ediv_le_self _ (by omega)

theorem nrs_zero {b : Int} (hb : 0 < b) : nrs 0 b = 0 := Int.ediv_eq_zero_of_lt (by omega) (by omega)

theorem nr_nonneg {a b : Int} (ha : 0 ≤ a) (hb : 0 < b) : 0 ≤ nr a b := by
  rw [nr_ab, if_neg (by omega)]; exact nrs_nonneg (ab_nonneg a) hb

theorem nr_nonpos {a b : Int} (ha : a < 0) (hb : 0 < b) : nr a b ≤ 0 := by
  rw [nr_ab, if_pos ha]; have := nrs_nonneg (ab_nonneg a) hb; omega

theorem nr_mono {a a' b : Int} (hb : 0 < b) (h : a ≤ a') : nr a b ≤ nr a' b := by
  by_cases h1 : a < 0
  · by_cases h2 : a' < 0
    · rw [nr_ab, nr_ab, if_pos h1, if_pos h2]
      have e1 : ab a = -a := by unfold ab; rw [if_pos h1]
      have e2 : ab a' = -a' := by unfold ab; rw [if_pos h2]
      rw [e1, e2]
      have := nrs_mono hb (show -a' ≤ -a by omega)
      omega
    · have := nr_nonpos h1 hb
      have := nr_nonneg (show 0 ≤ a' by omega) hb
      omega
  · rw [nr_ab, nr_ab, if_neg h1, if_neg (by omega)]
    have e1 : ab a = a := by unfold ab; rw [if_neg h1]
    have e2 : ab a' = a' := by unfold ab; rw [if_neg (by omega)]
    rw [e1, e2]
    exact nrs_mono hb h

theorem nr_zero {b : Int} (hb : 0 < b) : nr 0 b = 0 := nrs_zero hb

theorem nrs_mul {b v : Int} (hb : 0 < b) : nrs (b * v) b = v := by
  rw [half_char hb (q := v) (r := 0) (by omega) (by omega) hb, if_neg (by omega)]

theorem nr_mul {b v : Int} (hb : 0 < b) : nr (b * v) b = v := by
  rw [nr_ab]
  by_cases hv : v < 0
  · have h1 : b * v < 0 := Int.mul_neg_of_pos_of_neg hb hv
    have e : ab (b * v) = b * (-v) := by unfold ab; rw [if_pos h1]; grind
    rw [if_pos h1, e, nrs_mul hb]; omega
  · have h1 : 0 ≤ b * v := Int.mul_nonneg (by omega) (by omega)
    have e : ab (b * v) = b * v := by unfold ab; rw [if_neg (by omega)]
    rw [if_neg (by omega), e, nrs_mul hb]

theorem nr_bound {a b M : Int} (hb : 0 < b) (h : ab a ≤ M) : -(2 * M + b) ≤ nr a b ∧ nr a b ≤ 2 * M + b := by
  have h1 := nrs_nonneg (ab_nonneg a) hb
  have h2 := nrs_le (ab_nonneg a) hb
  rw [nr_ab]
  split <;> omega

theorem fit_ok {z : Int} (h : -9223372036854775808 ≤ z) (h' : z < 9223372036854775808) : fit z = (z, 0, ()) := if_pos ⟨h, h'⟩

theorem btw_le {lo hi n : Int} (h : lo ≤ hi) : lo ≤ btw lo hi n ∧ btw lo hi n ≤ hi := by unfold btw; split <;> (try split) <;> omega
theorem btw_mono {lo hi a b : Int} (hl : lo ≤ hi) (h : a ≤ b) : btw lo hi a ≤ btw lo hi b := by unfold btw; split <;> split <;> (try split) <;> (try split) <;> omega
theorem btw_id {lo hi n : Int} (h : lo ≤ n) (h' : n ≤ hi) : btw lo hi n = n := by unfold btw; rw [if_neg (by omega), if_neg (by omega)]

theorem ab_bound {x M : Int} (h : -M ≤ x) (h' : x ≤ M) : ab x ≤ M := by unfold ab; split <;> omega

theorem ab_mul_le {x y M N : Int} (hx : ab x ≤ M) (hy : ab y ≤ N) (hM : 0 ≤ N) : ab (x * y) ≤ M * N := by
  rw [← ab_mul]
  exact Int.mul_le_mul hx hy (ab_nonneg y) (Int.le_trans (ab_nonneg x) hx)
end Go.Proofs.YtjmbhhinmbgneaaGreat
