/-
  Charges, as the document tells them: what the printed functions compute, as plain functions of the numbers.
-/
import Derived.Test.YtjmbhhinmbgneaaGreatsT
import Derived.Test.YtjmbhhinmbgneaaGreatsE
namespace Go.Proofs.YtjmbhhinmbgneaaGreat
open Go.Sy
set_option maxHeartbeats 1000000

theorem rchg_ok (K : Nat) (n : Int) : r14_charge_g K n = some (inB 1125899906842624 n, ()) := by
  unfold r14_charge_g inB
  by_cases h1 : n ≥ -1125899906842624
  · by_cases h2 : n ≤ 1125899906842624 <;> simp [h1, h2]
  · simp [h1]

theorem rcell_ok (K : Nat) (n : Int) : r14_cell_g K n = some (decide (1 ≤ n ∧ n ≤ 1125899906842624), ()) := by
  unfold r14_cell_g
  by_cases h1 : n ≥ 1
  · by_cases h2 : n ≤ 1125899906842624 <;> simp [h1, h2]
  · have : ¬ (1 ≤ n) := by omega
    simp [h1, this]



theorem rshown_ok (s f n c : Int) : r14_Shown_g 20000 s f n c = some (shownE s f n c) := by
  unfold r14_Shown_g shownE
  rw [rchg_ok, rchg_ok, rcell_ok]
  by_cases h0 : s < 0
  · rw [decide_eq_true h0, if_neg (by omega)]; rfl
  · rw [decide_eq_false h0]
    by_cases h0' : s > 10000
    · rw [decide_eq_true h0', if_neg (by omega)]; rfl
    · rw [decide_eq_false h0']
      cases hf : inB 1125899906842624 f
      · rw [if_neg (by simp)]; rfl
      · cases hn : inB 1125899906842624 n
        · rw [if_neg (by simp)]; rfl
        · by_cases h1 : 1 ≤ c ∧ c ≤ 1125899906842624
          · rw [decide_eq_true h1, if_pos ⟨by omega, h1, rfl, rfl⟩]
            have f1 := inB_iff.1 hf
            have n1 := inB_iff.1 hn
            simp only [Option.bind_some, Bool.not_true, cond_false]
            obtain ⟨b, D, e1, e2⟩ := rmulnear_ok 10000 (n - f) c (by omega) (by omega) (by omega) (by omega) (by omega) (by omega)
            rw [wi64_id (x := n - f) (by omega) (by omega), e1]
            simp only [Option.bind_some]
            rw [e2]
            simp only [Option.bind_some]
            unfold fit
            by_cases hfit : -9223372036854775808 ≤ nr (10000 * (n - f)) c ∧ nr (10000 * (n - f)) c < 9223372036854775808
            · rw [if_pos hfit]
              simp only [show ((0 : Int) != 0) = false from rfl, cond_false]
              have es : shownV s f n c = btw 0 10000 (s + btw (-10000) 10000 (nr (10000 * (n - f)) c)) := rfl
              rw [es]
              generalize nr (10000 * (n - f)) c = z at *
              by_cases hz : z > 10000
              · rw [decide_eq_true hz, cond_true]
                have : btw 0 10000 (s + btw (-10000) 10000 z) = 10000 := by
                  unfold btw
                  rw [if_neg (show ¬ z < -10000 by omega), if_pos hz, if_neg (by omega)]
                  split <;> omega
                rw [this]
              · rw [decide_eq_false hz, cond_false]
                have hm : (bif decide (-10000 > z) then (-10000 : Int) else z) = btw (-10000) 10000 z := by
                  unfold btw
                  by_cases hl : z < -10000
                  · rw [decide_eq_true (show -10000 > z by omega), if_pos hl]; rfl
                  · rw [decide_eq_false (show ¬ -10000 > z by omega), if_neg hl, if_neg hz]; rfl
                have k : -10000 ≤ btw (-10000) 10000 z ∧ btw (-10000) 10000 z ≤ 10000 := btw_le (by omega)
                rw [hm, wi64_id (by omega) (by omega), rbetween_ok]
                rfl
            · rw [if_neg hfit]
              obtain ⟨q1, q2⟩ := far h1 (d := n - f) (by omega) (by omega)
              have es : shownV s f n c = btw 0 10000 (s + btw (-10000) 10000 (nr (10000 * (n - f)) c)) := rfl
              rw [es]
              simp only [show ((3 : Int) != 0) = true from rfl, cond_true]
              by_cases hp : n > f
              · obtain ⟨q3, q4⟩ := q1 (by omega)
                rw [decide_eq_true hp, cond_true]
                have : btw 0 10000 (s + btw (-10000) 10000 (nr (10000 * (n - f)) c)) = 10000 := by
                  generalize nr (10000 * (n - f)) c = z at *
                  unfold btw
                  rw [if_neg (show ¬ z < -10000 by omega), if_pos (show z > 10000 by omega), if_neg (by omega)]
                  split <;> omega
                rw [this]
              · obtain ⟨q3, q4⟩ := q2 (by omega)
                rw [decide_eq_false hp, cond_false]
                have : btw 0 10000 (s + btw (-10000) 10000 (nr (10000 * (n - f)) c)) = 0 := by
                  generalize nr (10000 * (n - f)) c = z at *
                  unfold btw
                  rw [if_pos (show z < -10000 by omega)]
                  split
                  · rfl
                  · rw [if_neg (by omega)]; omega
                rw [this]
          · rw [decide_eq_false h1, if_neg (fun k => h1 k.2.1)]
            rfl

end Go.Proofs.YtjmbhhinmbgneaaGreat
