/-
  Law 14 (coulomb), the plain part of what is shown.
-/
import Derived.Test.YthimgpokphilkaaT
import Derived.Test.YthimgpokphilkaaP
namespace Go.Proofs.Ythimgpokphilkaa
open Go.Sy
set_option maxHeartbeats 1000000

theorem rchg_ok (K : Nat) (n : Int) : rheostatref14_charge_g K n = some (inB 1125899906842624 n, ()) := by
  unfold rheostatref14_charge_g inB
  by_cases h1 : n ≥ -1125899906842624
  · by_cases h2 : n ≤ 1125899906842624 <;> simp [h1, h2]
  · simp [h1]

theorem rcell_ok (K : Nat) (n : Int) : rheostatref14_cell_g K n = some (decide (1 ≤ n ∧ n ≤ 1125899906842624), ()) := by
  unfold rheostatref14_cell_g
  by_cases h1 : n ≥ 1
  · by_cases h2 : n ≤ 1125899906842624 <;> simp [h1, h2]
  · have : ¬ (1 ≤ n) := by omega
    simp [h1, this]

/-- What is shown at a charge. -/
def shownV (s f n c : Int) : Int := btw 0 10000 (s + btw (-10000) 10000 (nr (10000 * (n - f)) c))

def shownE (s f n c : Int) : Int × Int × Unit :=
  if (0 ≤ s ∧ s ≤ 10000) ∧ (1 ≤ c ∧ c ≤ 1125899906842624) ∧ inB 1125899906842624 f = true ∧ inB 1125899906842624 n = true then (shownV s f n c, 0, ()) else (0, 2, ())

theorem inB_iff {b x : Int} : inB b x = true ↔ -b ≤ x ∧ x ≤ b := by simp only [inB, decide_eq_true_eq]

/-- Where a number does not fit, the difference is beyond all bounds. -/
theorem far {d c : Int} (hc : 1 ≤ c ∧ c ≤ 1125899906842624) (hd : -2251799813685248 ≤ d ∧ d ≤ 2251799813685248) (h : nr (10000 * d) c < -9223372036854775808 ∨ 9223372036854775808 ≤ nr (10000 * d) c) :
    (0 < d → 10000 ≤ d ∧ 9223372036854775808 ≤ nr (10000 * d) c) ∧ (¬ 0 < d → d ≤ -10000 ∧ nr (10000 * d) c < -9223372036854775808) := by
  have hb : ∀ e : Int, -10000 < e → e < 10000 → -9223372036854775808 < nr (10000 * e) c ∧ nr (10000 * e) c < 9223372036854775808 := by
    intro e h1 h2
    have := nr_bound (a := 10000 * e) (b := c) (M := 100000000) (by omega) (ab_bound (by omega) (by omega))
    omega
  constructor
  · intro hp
    have h0 := nr_nonneg (a := 10000 * d) (b := c) (by omega) (by omega)
    refine ⟨?_, by omega⟩
    rcases Int.lt_or_le d 10000 with h1 | h1
    · have := hb d (by omega) h1
      omega
    · exact h1
  · intro hp
    by_cases hz : d = 0
    · subst hz
      have := hb 0 (by omega) (by omega)
      omega
    · have h0 := nr_nonpos (a := 10000 * d) (b := c) (by omega) (by omega)
      refine ⟨?_, by omega⟩
      rcases Int.lt_or_le (-10000) d with h1 | h1
      · have := hb d h1 (by omega)
        omega
      · exact h1

theorem clamp_ok (n : Int) : fx_Clamp_g 1000 10000 n = some (btw (-10000) 10000 n, 0, ()) := by
  unfold fx_Clamp_g
  have hb : fx_bound_g 1000 10000 = some (0, ()) := rfl
  rw [hb]
  simp only [Option.bind_some]
  rw [fx_between_ok]
  rfl

theorem shown_ok (s f n c : Int) : coulomb_Shown_g 1000 s f n c = some (shownE s f n c) := by
  unfold coulomb_Shown_g shownE
  rw [cmay_ok, size2 _ _ _ (by omega) (by omega)]
  by_cases h1 : (0 ≤ s ∧ s ≤ 10000) ∧ (1 ≤ c ∧ c ≤ 1125899906842624)
  · rw [decide_eq_true h1]
    cases hf : inB 1125899906842624 f
    · rw [if_neg (by simp)]; rfl
    · cases hn : inB 1125899906842624 n
      · rw [if_neg (by simp)]; rfl
      · rw [if_pos ⟨h1.1, h1.2, rfl, rfl⟩]
        have f1 := inB_iff.1 hf
        have n1 := inB_iff.1 hn
        simp only [Option.bind_some, Bool.not_true, Bool.and_self, cond_false]
        rw [wi64_id (x := n - f) (by omega) (by omega), mulnear_ok 10000 (n - f) c (by omega) (by omega) (by omega) (by omega) (by omega) (by omega)]
        simp only [Option.bind_some]
        have hcl : ∀ x, -10000 ≤ btw (-10000) 10000 x ∧ btw (-10000) 10000 x ≤ 10000 := fun x => btw_le (by omega)
        unfold fit
        by_cases hfit : -9223372036854775808 ≤ nr (10000 * (n - f)) c ∧ nr (10000 * (n - f)) c < 9223372036854775808
        · rw [if_pos hfit]
          have k := hcl (nr (10000 * (n - f)) c)
          simp only [show ((0 : Int) != 0) = false from rfl, cond_false]
          rw [clamp_ok]
          simp only [Option.bind_some]
          rw [wi64_id (by omega) (by omega), fx_between_ok]
          rfl
        · rw [if_neg hfit]
          have k := hcl (n - f)
          simp only [show ((3 : Int) != 0) = true from rfl, cond_true]
          rw [clamp_ok]
          simp only [Option.bind_some]
          rw [wi64_id (by omega) (by omega), fx_between_ok]
          obtain ⟨q1, q2⟩ := far h1.2 (d := n - f) (by omega) (by omega)
          have e : btw (-10000) 10000 (n - f) = btw (-10000) 10000 (nr (10000 * (n - f)) c) := by
            by_cases hp : 0 < n - f
            · obtain ⟨q3, q4⟩ := q1 hp
              unfold btw
              rw [if_neg (by omega), if_neg (show ¬ nr (10000 * (n - f)) c < -10000 by omega), if_pos (show nr (10000 * (n - f)) c > 10000 by omega)]
              split <;> omega
            · obtain ⟨q3, q4⟩ := q2 hp
              unfold btw
              rw [if_pos (show nr (10000 * (n - f)) c < -10000 by omega)]
              split
              · rfl
              · rw [if_neg (by omega)]; omega
          unfold shownV
          rw [e]
          rfl
  · rw [decide_eq_false h1, if_neg (fun k => h1 ⟨k.1, k.2.1⟩)]
    rfl

theorem rshown_ok (s f n c : Int) : rheostatref14_Shown_g 1000 s f n c = some (shownE s f n c) := by
  unfold rheostatref14_Shown_g shownE
  rw [rchg_ok, rchg_ok, rcell_ok]
  by_cases h0 : s < 0
  · rw [decide_eq_true h0, if_neg (by omega)]; rfl
  · rw [decide_eq_false h0]
    by_cases h0' : s > 10000
    · rw [decide_eq_true h0', if_neg (by omega)]; rfl
    · rw [decide_eq_false h0']
      cases hf : inB 1125899906842624 f
      · rw [if_neg (by simp)]; rfl
      · cases hn : inB 1125899906842624 n
        · rw [if_neg (by simp)]; rfl
        · by_cases h1 : 1 ≤ c ∧ c ≤ 1125899906842624
          · rw [decide_eq_true h1, if_pos ⟨by omega, h1, rfl, rfl⟩]
            have f1 := inB_iff.1 hf
            have n1 := inB_iff.1 hn
            simp only [Option.bind_some, Bool.not_true, cond_false]
            obtain ⟨b, D, e1, e2⟩ := rmulnear_ok 10000 (n - f) c (by omega) (by omega) (by omega) (by omega) (by omega) (by omega)
            rw [wi64_id (x := n - f) (by omega) (by omega), e1]
            simp only [Option.bind_some]
            rw [e2]
            simp only [Option.bind_some]
            unfold fit
            by_cases hfit : -9223372036854775808 ≤ nr (10000 * (n - f)) c ∧ nr (10000 * (n - f)) c < 9223372036854775808
            · rw [if_pos hfit]
              simp only [show ((0 : Int) != 0) = false from rfl, cond_false]
              have es : shownV s f n c = btw 0 10000 (s + btw (-10000) 10000 (nr (10000 * (n - f)) c)) := rfl
              rw [es]
              generalize nr (10000 * (n - f)) c = z at *
              by_cases hz : z > 10000
              · rw [decide_eq_true hz, cond_true]
                have : btw 0 10000 (s + btw (-10000) 10000 z) = 10000 := by
                  unfold btw
                  rw [if_neg (show ¬ z < -10000 by omega), if_pos hz, if_neg (by omega)]
                  split <;> omega
                rw [this]
              · rw [decide_eq_false hz, cond_false]
                have hm : (bif decide (-10000 > z) then (-10000 : Int) else z) = btw (-10000) 10000 z := by
                  unfold btw
                  by_cases hl : z < -10000
                  · rw [decide_eq_true (show -10000 > z by omega), if_pos hl]; rfl
                  · rw [decide_eq_false (show ¬ -10000 > z by omega), if_neg hl, if_neg hz]; rfl
                have k : -10000 ≤ btw (-10000) 10000 z ∧ btw (-10000) 10000 z ≤ 10000 := btw_le (by omega)
                rw [hm, wi64_id (by omega) (by omega), rbetween_ok]
                rfl
            · rw [if_neg hfit]
              obtain ⟨q1, q2⟩ := far h1 (d := n - f) (by omega) (by omega)
              have es : shownV s f n c = btw 0 10000 (s + btw (-10000) 10000 (nr (10000 * (n - f)) c)) := rfl
              rw [es]
              simp only [show ((3 : Int) != 0) = true from rfl, cond_true]
              by_cases hp : n > f
              · obtain ⟨q3, q4⟩ := q1 (by omega)
                rw [decide_eq_true hp, cond_true]
                have : btw 0 10000 (s + btw (-10000) 10000 (nr (10000 * (n - f)) c)) = 10000 := by
                  generalize nr (10000 * (n - f)) c = z at *
                  unfold btw
                  rw [if_neg (show ¬ z < -10000 by omega), if_pos (show z > 10000 by omega), if_neg (by omega)]
                  split <;> omega
                rw [this]
              · obtain ⟨q3, q4⟩ := q2 (by omega)
                rw [decide_eq_false hp, cond_false]
                have : btw 0 10000 (s + btw (-10000) 10000 (nr (10000 * (n - f)) c)) = 0 := by
                  generalize nr (10000 * (n - f)) c = z at *
                  unfold btw
                  rw [if_pos (show z < -10000 by omega)]
                  split
                  · rfl
                  · rw [if_neg (by omega)]; omega
                rw [this]
          · rw [decide_eq_false h1, if_neg (fun k => h1 k.2.1)]
            rfl

theorem rdrawn_ok (s c : Int) : rheostatref14_Drawn_g 1000 s c = coulomb_Drawn_g 1000 s c := by
  unfold rheostatref14_Drawn_g coulomb_Drawn_g
  rw [rcell_ok, cmay_ok]
  by_cases h0 : s < 0
  · rw [decide_eq_true h0, decide_eq_false (show ¬ ((0 ≤ s ∧ s ≤ 10000) ∧ (1 ≤ c ∧ c ≤ 1125899906842624)) by omega)]; rfl
  · rw [decide_eq_false h0]
    by_cases h0' : s > 10000
    · rw [decide_eq_true h0', decide_eq_false (show ¬ ((0 ≤ s ∧ s ≤ 10000) ∧ (1 ≤ c ∧ c ≤ 1125899906842624)) by omega)]; rfl
    · rw [decide_eq_false h0']
      by_cases h1 : 1 ≤ c ∧ c ≤ 1125899906842624
      · rw [decide_eq_true h1, decide_eq_true (show (0 ≤ s ∧ s ≤ 10000) ∧ (1 ≤ c ∧ c ≤ 1125899906842624) by omega)]
        obtain ⟨b, D, e1, e2⟩ := rmulnear_ok c s 10000 (by omega) (by omega) (by omega) (by omega) (by omega) (by omega)
        simp only [Option.bind_some, Bool.not_true, cond_false]
        rw [e1, mulnear_ok c s 10000 (by omega) (by omega) (by omega) (by omega) (by omega) (by omega)]
        simp only [Option.bind_some]
        rw [e2]
        rfl
      · rw [decide_eq_false h1, decide_eq_false (fun k => h1 k.2)]
        rfl

theorem drawn_some (s c : Int) : ∃ q, coulomb_Drawn_g 1000 s c = some q := by
  by_cases h : (0 ≤ s ∧ s ≤ 10000) ∧ (1 ≤ c ∧ c ≤ 1125899906842624)
  · exact ⟨_, drawn_ok s c h.1 h.2⟩
  · unfold coulomb_Drawn_g
    rw [cmay_ok, decide_eq_false h]
    exact ⟨_, rfl⟩

theorem CoulombShows_ok (s f n c : Int) : rheostatlaw14_CoulombShows_g 1000 s f n c = some true := by
  unfold rheostatlaw14_CoulombShows_g
  obtain ⟨q, hq⟩ := drawn_some s c
  rw [shown_ok, rshown_ok, rdrawn_ok, hq, works_ok]
  simp

theorem nr_near {a b : Int} (hb : 0 < b) : (nr a b - 1) * b < a ∧ a < (nr a b + 1) * b := by
  have hm := ab_nonneg a
  have hq := Int.mul_ediv_add_emod (ab a) b
  have hr0 := Int.emod_nonneg (ab a) (show b ≠ 0 by omega)
  have hr1 := Int.emod_lt_of_pos (ab a) hb
  rw [nr_ab, half_div hb]
  generalize ab a / b = q at *
  generalize ab a % b = r at *
  have e : ab a = if a < 0 then -a else a := rfl
  generalize hbq : b * q = x at *
  by_cases hn : a < 0
  · rw [if_pos hn] at e ⊢
    split
    · rw [show (-(q + 1) - 1) * b = -(b * q) - 2 * b by grind, show (-(q + 1) + 1) * b = -(b * q) by grind, hbq]; omega
    · rw [show (-q - 1) * b = -(b * q) - b by grind, show (-q + 1) * b = -(b * q) + b by grind, hbq]; omega
  · rw [if_neg hn] at e ⊢
    split
    · rw [show (q + 1 - 1) * b = b * q by grind, show (q + 1 + 1) * b = b * q + 2 * b by grind, hbq]; omega
    · rw [show (q - 1) * b = b * q - b by grind, show (q + 1) * b = b * q + b by grind, hbq]; omega

theorem CoulombNear_ok (x y z w : Int) : rheostatlaw14_CoulombNear_g 1000 x y z w = some true := by
  unfold rheostatlaw14_CoulombNear_g
  obtain ⟨s, s0, s1, hs⟩ := among_ok 1000 x 10001 (by omega) (by omega)
  obtain ⟨c, c0, c1, hc⟩ := among_ok 1000 w 1125899906842624 (by omega) (by omega)
  obtain ⟨f, f0, f1, hf⟩ := among_ok 1000 y 2251799813685249 (by omega) (by omega)
  obtain ⟨n, n0, n1, hn⟩ := among_ok 1000 z 2251799813685249 (by omega) (by omega)
  rw [works_ok, hs, hc, hf, hn]
  simp only [Option.bind_some, Bool.not_true, cond_false]
  rw [wi64_id (x := f - 1125899906842624) (by omega) (by omega), wi64_id (x := n - 1125899906842624) (by omega) (by omega), wi64_id (x := 1 + c) (by omega) (by omega), shown_ok]
  have hE : shownE s (f - 1125899906842624) (n - 1125899906842624) (1 + c) = (shownV s (f - 1125899906842624) (n - 1125899906842624) (1 + c), 0, ()) :=
    if_pos ⟨by omega, by omega, inB_iff.2 (by omega), inB_iff.2 (by omega)⟩
  rw [hE]
  have hV : 0 ≤ shownV s (f - 1125899906842624) (n - 1125899906842624) (1 + c) ∧ shownV s (f - 1125899906842624) (n - 1125899906842624) (1 + c) ≤ 10000 := btw_le (by omega)
  have eV : shownV s (f - 1125899906842624) (n - 1125899906842624) (1 + c) = btw 0 10000 (s + btw (-10000) 10000 (nr (10000 * (n - 1125899906842624 - (f - 1125899906842624))) (1 + c))) := rfl
  have hsame : n = f → shownV s (f - 1125899906842624) (n - 1125899906842624) (1 + c) = s := by
    intro e
    rw [eV, e, Int.sub_self, Int.mul_zero, nr_zero (by omega), btw_id (n := 0) (by omega) (by omega), Int.add_zero, btw_id (by omega) (by omega)]
  generalize shownV s (f - 1125899906842624) (n - 1125899906842624) (1 + c) = v at *
  simp only [Option.bind_some, show ((0 : Int) != 0) = false from rfl, cond_false]
  rw [decide_eq_false (show ¬ v < 0 by omega), decide_eq_false (show ¬ v > 10000 by omega)]
  simp only [cond_false]
  have edge : (bif (n - 1125899906842624) != (f - 1125899906842624) then some true else some (v == s)) = some true := by
    by_cases e : n = f
    · rw [hsame e]
      subst e
      simp
    · have : ((n - 1125899906842624) != (f - 1125899906842624)) = true := by simp; omega
      rw [this]
      rfl
  by_cases hv0 : v = 0
  · rw [show (v == 0) = true by simpa using hv0, cond_true]
    exact edge
  · rw [show (v == 0) = false by simpa using hv0, cond_false]
    by_cases hvF : v = 10000
    · rw [show (v == 10000) = true by simpa using hvF, cond_true]
      exact edge
    · rw [show (v == 10000) = false by simpa using hvF, cond_false]
      have hd : n - 1125899906842624 - (f - 1125899906842624) = n - f := by omega
      rw [hd] at eV ⊢
      have hz : v = s + nr (10000 * (n - f)) (1 + c) := by
        have k := btw_le (lo := -10000) (hi := 10000) (n := nr (10000 * (n - f)) (1 + c)) (by omega)
        generalize nr (10000 * (n - f)) (1 + c) = d at *
        unfold btw at eV
        split at eV
        · omega
        · split at eV
          · omega
          · split at eV <;> (try split at eV) <;> (try split at eV) <;> omega
      have hnear := nr_near (a := 10000 * (n - f)) (b := 1 + c) (by omega)
      have he : nr (10000 * (n - f)) (1 + c) = v - s := by omega
      rw [he] at hnear
      rw [wi64_id (x := n - f) (by omega) (by omega), wi64_id (x := v - s) (by omega) (by omega), wi64_id (x := v - s - 1) (by omega) (by omega), wi64_id (x := v - s + 1) (by omega) (by omega)]
      obtain ⟨fa, A, a1, a2, a3, _⟩ := rmul_sv 10000 (n - f) (by omega) (by omega) (by omega) (by omega)
      obtain ⟨fb, B, b1, b2, b3, _⟩ := rmul_sv (v - s - 1) (1 + c) (by omega) (by omega) (by omega) (by omega)
      obtain ⟨fc, C, d1, d2, d3, _⟩ := rmul_sv (v - s + 1) (1 + c) (by omega) (by omega) (by omega) (by omega)
      obtain ⟨r, r1, r2⟩ := compare_ok fb fa B A b1 a1
      obtain ⟨t, t1, t2⟩ := compare_ok fa fc A C a1 d1
      have ea : sv fa A = 10000 * (n - f) := a3
      have eb : sv fb B = (v - s - 1) * (1 + c) := b3
      have ec : sv fc C = (v - s + 1) * (1 + c) := d3
      rw [a2]
      simp only [Option.bind_some]
      rw [b2]
      simp only [Option.bind_some]
      rw [r1]
      simp only [Option.bind_some]
      rw [r2, eb, ea, decide_eq_true hnear.1, cond_true, d2]
      simp only [Option.bind_some]
      rw [t1]
      simp only [Option.bind_some]
      rw [t2, ea, ec, decide_eq_true hnear.2]
end Go.Proofs.Ythimgpokphilkaa
