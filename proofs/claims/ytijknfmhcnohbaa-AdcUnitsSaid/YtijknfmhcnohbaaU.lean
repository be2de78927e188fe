/-
  Law 12 (adc), the plain part of AdcUnits.
-/
import Derived.Test.YtijknfmhcnohbaaT
import Derived.Test.YtijknfmhcnohbaaQ
namespace Go.Proofs.Ytijknfmhcnohbaa
open Go.Sy
set_option maxHeartbeats 1000000

theorem rbetween_ok (K : Nat) (lo hi n : Int) : rheostatref03_Between_g K lo hi n = some (btw lo hi n, ()) := by
  unfold rheostatref03_Between_g btw
  by_cases h1 : n < lo
  · simp [h1]
  · by_cases h2 : n > hi <;> simp [h1, h2]

def unitE (z g p c : Int) : Int × Int × Unit := bif lineB z g p then (bif rawB c then (unitV z g p c, 0, ()) else (0, 2, ())) else (0, 120, ())

theorem unit_all (z g p c : Int) : adc_Unit_g 1000 z g p c = some (unitE z g p c) := by
  unfold unitE
  cases h : lineB z g p
  · unfold adc_Unit_g
    rw [check_ok]
    simp only [Option.bind_some, lineE_bad h, cond_true]
    unfold lineE
    rw [h]
    rfl
  · cases hc : rawB c
    · unfold adc_Unit_g
      have e : rawFrom (fun j => selI [c] j) 0 1 = rawB c := by simp [rawFrom, selI]
      rw [check_ok, raw_ok 1 _ (by omega), e, hc]
      simp only [Option.bind_some, lineE_zero h, cond_false]
      rfl
    · exact unit_ok h hc

theorem runit_all (z g p c : Int) : rheostatref12_Unit_g 1000 z g p c = some (unitE z g p c) := by
  unfold unitE rheostatref12_Unit_g
  rw [rcheck_ok, rraw_ok]
  simp only [Option.bind_some]
  cases h : lineB z g p
  · rw [lineE_bad h]
    unfold lineE
    rw [h]
    rfl
  · rw [lineE_zero h]
    cases hc : rawB c
    · rfl
    · have h1 := lineB_iff.1 h
      have h2 := rawB_iff.1 hc
      have h3 := prod_small h hc
      have h4 := nr_bound (a := (c - z) * g) (b := p) (by omega) h3
      obtain ⟨f, D, e1, e2⟩ := rmulnear_ok (c - z) g p (by omega) (by omega) (by omega) (by omega) (by omega) (by omega)
      rw [wi64_id (x := c - z) (by omega) (by omega), e1]
      simp only [cond_false, Bool.not_true, Option.bind_some]
      rw [e2, fit_ok (by omega) (by omega)]
      simp only [Option.bind_some]
      rw [rbetween_ok]
      rfl

theorem reach_eq (z g p : Int) : rheostatref12_Reach_g 1000 z g p = adc_Reach_g 1000 z g p := by
  unfold rheostatref12_Reach_g adc_Reach_g
  rw [rcheck_ok, check_ok, runit_all, runit_all]
  simp only [Option.bind_some]
  cases h : lineB z g p
  · rw [lineE_bad h]; rfl
  · rw [lineE_zero h, told_ok h (by decide), told_ok h (by decide)]
    unfold unitE
    rw [h, show rawB (-1048576) = true by decide, show rawB 1048576 = true by decide]
    rfl

theorem reach_some (z g p : Int) : ∃ q, adc_Reach_g 1000 z g p = some q := by
  cases h : lineB z g p
  · unfold adc_Reach_g
    rw [check_ok]
    simp only [Option.bind_some, lineE_bad h, cond_true]
    exact ⟨_, rfl⟩
  · obtain ⟨a, b, e, _⟩ := reach_ok h
    exact ⟨_, e⟩

theorem AdcUnits_ok (z g p c : Int) : rheostatlaw12_AdcUnits_g 1000 z g p c = some true := by
  unfold rheostatlaw12_AdcUnits_g
  obtain ⟨q, hq⟩ := reach_some z g p
  rw [unit_all, runit_all, reach_eq, hq, check_ok, rcheck_ok, works_ok]
  simp
end Go.Proofs.Ytijknfmhcnohbaa
