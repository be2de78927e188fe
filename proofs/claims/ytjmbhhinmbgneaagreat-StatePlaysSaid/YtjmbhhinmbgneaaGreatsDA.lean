/-
  The document's parts of a step: what its printed functions compute, where all is as it may be.
-/
import Derived.Test.YtjmbhhinmbgneaaGreatsL
import Derived.Test.YtjmbhhinmbgneaaGreatsU
import Derived.Test.YtjmbhhinmbgneaaGreatsO
import Derived.Test.YtjmbhhinmbgneaaGreatsM
import Derived.Test.YtjmbhhinmbgneaaGreatsRG
namespace Go.Proofs.YtjmbhhinmbgneaaGreat
open Go.Sy
set_option maxHeartbeats 4000000

theorem two_ok (lo hi x : Int) : (bif decide (x ≥ lo) then (some (decide (x ≤ hi), ())) else (some (false, ()))) = some (inR lo hi x, ()) := by
  unfold inR
  by_cases a : x ≥ lo
  · by_cases b : x ≤ hi
    · rw [decide_eq_true a, decide_eq_true b, decide_eq_true ⟨a, b⟩]; rfl
    · rw [decide_eq_true a, decide_eq_false b, decide_eq_false (show ¬ (lo ≤ x ∧ x ≤ hi) from fun k => b k.2)]; rfl
  · rw [decide_eq_false a, decide_eq_false (show ¬ (lo ≤ x ∧ x ≤ hi) from fun k => a k.1)]; rfl

/-! ### A cell -/
theorem dfrom_ok (K : Nat) (lo hi x : Int) : r15_from_g K lo hi x = some (inR lo hi x, ()) := two_ok ..
theorem dunit_ok (K : Nat) (x : Int) : r15_unit_g K x = some (inR (-2147483648) 2147483648 x, ()) := two_ok ..
theorem dres_ok (K : Nat) (x : Int) : r15_resistor_g K x = some (inR 0 1000000 x, ()) := by unfold r15_resistor_g; rw [dfrom_ok]; rfl
theorem dtau_ok (K : Nat) (x : Int) : r15_tau_g K x = some (inR 1 1000000000 x, ()) := by unfold r15_tau_g; rw [dfrom_ok]; rfl

theorem dcell_ok (K : Nat) (r0 r1 r2 t1 t2 ca se ti : Int) : r15_Check_g K r0 r1 r2 t1 t2 ca se ti = some (bif cellB r0 r1 r2 t1 t2 ca se ti then 0 else 2, ()) := by
  unfold r15_Check_g cellB
  simp only [dres_ok, dtau_ok, dfrom_ok, Option.bind_some]
  cases inR 0 1000000 r0 <;> cases inR 0 1000000 r1 <;> cases inR 0 1000000 r2 <;> cases inR 1 1000000000 t1 <;> cases inR 1 1000000000 t2 <;> cases inR 0 2147483648 ca <;> cases inR 0 2147483648 se <;> cases inR 1 1000000000 ti <;> rfl

theorem dsize_ok (K : Nat) {x : Int} (h : -9223372036854775807 ≤ x) (h' : x < 9223372036854775808) : r03_Size_g K x = some (ab x, ()) := by
  unfold r03_Size_g ab
  have d : (x == (-9223372036854775808 : Int)) = false := by simp; omega
  rw [d]
  by_cases h1 : x < 0
  · rw [decide_eq_true h1, if_pos h1, wi64_id (x := 0 - x) (by omega) (by omega), show 0 - x = -x by omega]; rfl
  · rw [decide_eq_false h1, if_neg h1]; rfl

theorem ddrive_ok {c r : Int} (hc : -2147483648 ≤ c ∧ c ≤ 2147483648) (hr : 0 ≤ r ∧ r ≤ 1000000) : r15_drive_g 20000 c r = some (driveV c r, ()) := by
  unfold r15_drive_g r15_clamp_g driveV
  have hp := ab_prod hc (B := 1000000) (b := r) (by omega)
  have hb := nr_bound (a := c * r) (b := 1000) (M := 2147483648000000) (by omega) (by omega)
  obtain ⟨b, D, e1, e2⟩ := rmulnear_ok c r 1000 (by omega) (by omega) (by omega) (by omega) (by omega) (by omega)
  rw [e1]
  simp only [Option.bind_some]
  rw [e2, fit_ok (by omega) (by omega)]
  simp only [Option.bind_some, rbetween_ok]
  rfl

theorem drelax_ok {r tau u c t : Int} (hr : 0 ≤ r ∧ r ≤ 1000000) (ht : 1 ≤ tau ∧ tau ≤ 1000000000) (hu : -2147483648 ≤ u ∧ u ≤ 2147483648) (hc : -2147483648 ≤ c ∧ c ≤ 2147483648) (hk : 1 ≤ t ∧ t ≤ 60000) :
    r15_Relax_g 20000 u c r tau t = some (behindV r tau u c t, 0, ()) := by
  unfold r15_Relax_g behindV
  have hd := U_in (nr (c * r) 1000)
  have hd' : -2147483648 ≤ driveV c r ∧ driveV c r ≤ 2147483648 := hd
  have hp := ab_prod (a := driveV c r - u) (b := t) (A := 4294967296) (B := 60000) (by omega) (by omega)
  have hb := nr_bound (a := (driveV c r - u) * t) (b := tau + t) (M := 257698037760000) (by omega) (by omega)
  simp only [dunit_ok, dres_ok, dtau_ok, dfrom_ok, inR_iff.2 hu, inR_iff.2 hc, inR_iff.2 hr, inR_iff.2 ht, inR_iff.2 hk, Option.bind_some, Bool.not_true, cond_false, ddrive_ok hc hr]
  rw [wi64_id (x := driveV c r - u) (by omega) (by omega), wi64_id (x := tau + t) (by omega) (by omega)]
  obtain ⟨b, D, e1, e2⟩ := rmulnear_ok (driveV c r - u) t (tau + t) (by omega) (by omega) (by omega) (by omega) (by omega) (by omega)
  rw [e1]
  simp only [Option.bind_some]
  rw [e2, fit_ok (by omega) (by omega)]
  simp only [Option.bind_some]
  rw [wi64_id (by omega) (by omega)]

theorem dstep_ok {r0 r1 r2 t1 t2 ca se ti u1 u2 c t : Int} (hs : cellB r0 r1 r2 t1 t2 ca se ti = true) (h1 : -2147483648 ≤ u1 ∧ u1 ≤ 2147483648) (h2 : -2147483648 ≤ u2 ∧ u2 ≤ 2147483648) (hc : -2147483648 ≤ c ∧ c ≤ 2147483648) (hk : 1 ≤ t ∧ t ≤ 60000) :
    r15_Step_g 20000 r0 r1 r2 t1 t2 ca se ti u1 u2 c t = some (behindV r1 t1 u1 c t, behindV r2 t2 u2 c t, 0, ()) := by
  unfold r15_Step_g
  have k := cellB_iff.1 hs
  rw [drelax_ok k.1.2.1 k.2.1.1 h1 hc hk, drelax_ok k.1.2.2 k.2.1.2.1 h2 hc hk, dcell_ok, hs]
  rfl

theorem drested_ok {r0 r1 r2 t1 t2 ca se ti u1 u2 c v : Int} (hs : cellB r0 r1 r2 t1 t2 ca se ti = true) (h1 : -2147483648 ≤ u1 ∧ u1 ≤ 2147483648) (h2 : -2147483648 ≤ u2 ∧ u2 ≤ 2147483648) (hc : -2147483648 ≤ c ∧ c ≤ 2147483648) (hv : -2147483648 ≤ v ∧ v ≤ 2147483648) :
    r15_Rested_g 20000 r0 r1 r2 t1 t2 ca se ti u1 u2 c v = some (restedV r0 u1 u2 c v, 0, ()) := by
  unfold r15_Rested_g r15_may_g r15_clamp_g
  have k := cellB_iff.1 hs
  have hd := U_in (nr (c * r0) 1000)
  have hd' : -2147483648 ≤ driveV c r0 ∧ driveV c r0 ≤ 2147483648 := hd
  have d1 : ((0 : Int) == 0) = true := rfl
  simp only [dcell_ok, hs, dunit_ok, inR_iff.2 h1, inR_iff.2 h2, inR_iff.2 hc, inR_iff.2 hv, Option.bind_some, Bool.not_true, cond_true, cond_false, d1, ddrive_ok hc k.1.1]
  rw [wi64_id (x := v - driveV c r0) (by omega) (by omega), wi64_id (x := v - driveV c r0 - u1) (by omega) (by omega), wi64_id (x := v - driveV c r0 - u1 - u2) (by omega) (by omega)]
  simp only [rbetween_ok, Option.bind_some]
  rfl

/-! ### Rest -/
theorem dunit6_ok (K : Nat) (x : Int) : r16_unit_g K x = some (inR (-2147483648) 2147483648 x, ()) := two_ok ..
theorem dlong_ok (K : Nat) (x : Int) : r16_long_g K x = some (inR 0 1125899906842624 x, ()) := two_ok ..

theorem dcell6_ok (K : Nat) (r0 r1 r2 t1 t2 : Int) {ca se ti : Int} (h1 : 0 ≤ ca ∧ ca ≤ 2147483648) (h2 : 0 ≤ se ∧ se ≤ 2147483648) (h3 : 0 < ti) : r16_cell_g K r0 r1 r2 t1 t2 ca se ti = some (true, ()) := by
  unfold r16_cell_g
  rw [decide_eq_true (show ca ≥ 0 by omega), decide_eq_true h1.2, decide_eq_true (show se ≥ 0 by omega), decide_eq_true h2.2, decide_eq_true (show ti ≥ 1 by omega)]
  rfl

theorem dcalm_ok (r0 r1 r2 t1 t2 : Int) {ca se ti c u1 u2 : Int} (h1 : 0 ≤ ca ∧ ca ≤ 2147483648) (h2 : 0 ≤ se ∧ se ≤ 2147483648) (h3 : 0 < ti) (hc : -2147483648 ≤ c ∧ c ≤ 2147483648) (k1 : -2147483648 ≤ u1 ∧ u1 ≤ 2147483648) (k2 : -2147483648 ≤ u2 ∧ u2 ≤ 2147483648) :
    r16_Calm_g 20000 r0 r1 r2 t1 t2 ca se ti c u1 u2 = some (calmB ca se c u1 u2, ()) := by
  unfold r16_Calm_g calmB
  have a1 := ab_bound (x := u1) (M := 2147483648) k1.1 k1.2
  have a2 := ab_bound (x := u2) (M := 2147483648) k2.1 k2.2
  have b1 := ab_nonneg u1
  have b2 := ab_nonneg u2
  simp only [dcell6_ok 20000 r0 r1 r2 t1 t2 h1 h2 h3, dunit6_ok, inR_iff.2 hc, inR_iff.2 k1, inR_iff.2 k2, Option.bind_some, Bool.not_true, cond_false]
  rw [dsize_ok 20000 (x := c) (by omega) (by omega)]
  simp only [Option.bind_some]
  cases decide (ab c ≤ ca) with
  | false => rfl
  | true =>
    rw [dsize_ok 20000 (x := u1) (by omega) (by omega), dsize_ok 20000 (x := u2) (by omega) (by omega)]
    simp only [Option.bind_some, cond_true, Bool.true_and]
    rw [wi64_id (by omega) (by omega)]

theorem drstep_ok (r0 r1 r2 t1 t2 : Int) {ca se ti re c u1 u2 t : Int} (hs : restB ca se ti re = true) (hc : -2147483648 ≤ c ∧ c ≤ 2147483648) (k1 : -2147483648 ≤ u1 ∧ u1 ≤ 2147483648) (k2 : -2147483648 ≤ u2 ∧ u2 ≤ 2147483648) (ht : 1 ≤ t ∧ t ≤ 60000) :
    r16_Step_g 20000 r0 r1 r2 t1 t2 ca se ti re c u1 u2 t = some (restV ca se ti re c u1 u2 t, 0, ()) := by
  unfold r16_Step_g restV
  have k := restB_iff.1 hs
  simp only [dcell6_ok 20000 r0 r1 r2 t1 t2 k.1.1 k.1.2 k.2.1, dlong_ok, dunit6_ok, inR_iff.2 hc, inR_iff.2 k1, inR_iff.2 k2, inR_iff.2 k.2.2, Option.bind_some, Bool.not_true, cond_false, decide_eq_false (show ¬ t < 1 by omega), decide_eq_false (show ¬ t > 60000 by omega),
    dcalm_ok r0 r1 r2 t1 t2 k.1.1 k.1.2 k.2.1 hc k1 k2]
  cases calmB ca se c u1 u2 with
  | false => rfl
  | true =>
    rw [wi64_id (x := re + t) (by omega) (by omega)]
    unfold btw
    rw [if_neg (show ¬ re + t < -1125899906842624 by omega)]
    by_cases h : 1125899906842624 < re + t
    · rw [decide_eq_true h, if_pos h]; rfl
    · rw [decide_eq_false h, if_neg h]; rfl

theorem dis_ok (r0 r1 r2 t1 t2 : Int) {ca se ti re : Int} (hs : restB ca se ti re = true) : r16_Is_g 20000 r0 r1 r2 t1 t2 ca se ti re = some (decide (re ≥ ti), ()) := by
  unfold r16_Is_g
  have k := restB_iff.1 hs
  simp only [dcell6_ok 20000 r0 r1 r2 t1 t2 k.1.1 k.1.2 k.2.1, dlong_ok, inR_iff.2 k.2.2, Option.bind_some, cond_true]

/-! ### Charge -/
theorem dadd_ok {s0 s1 c t : Int} (hs : chB s0 s1 = true) (hc : -2147483648 ≤ c ∧ c ≤ 2147483648) (ht : 1 ≤ t ∧ t ≤ 60000) : r14_Add_g 20000 s0 s1 c t = some (nT s0 s1 c t / 1000, nT s0 s1 c t % 1000, 0, ()) := by
  unfold r14_Add_g r14_Most_g
  have k := chB_iff.1 hs
  have hp := part_bound hc ht.1 ht.2
  have d0 : ((0 : Int) != 0) = false := rfl
  rw [rtotal_ok, runit_ok]
  unfold totE
  rw [hs, decide_eq_true hc, decide_eq_false (show ¬ t < 1 by omega), decide_eq_false (show ¬ t > 60000 by omega)]
  simp only [cond_true, Option.bind_some, d0, cond_false, Bool.not_true]
  rw [wi64_id (x := 0 - 1125899906842624000) (by omega) (by omega), wi64_id (x := c * t) (by omega) (by omega), wi64_id (x := s0 * 1000 + s1 + c * t) (by omega) (by omega), rbetween_ok]
  simp only [Option.bind_some]
  rw [rOf_ok]
  have hT : -1125899906842624000 ≤ nT s0 s1 c t ∧ nT s0 s1 c t ≤ 1125899906842624000 := btw_le (by omega)
  have e : btw (0 - 1125899906842624000) 1125899906842624000 (s0 * 1000 + s1 + c * t) = nT s0 s1 c t := rfl
  rw [e]
  unfold ofE
  rw [if_pos (by omega)]
  rfl

/-! ### Correcting -/
theorem dtold_ok {n m p : Nat} {X Y Z : Nat → Int} (hg : GGood n m p X Y Z) (x y : Int) : r17_Told_g 20000 n m p x y X Y Z = some (toldV n m X Y Z x y, 0, ()) := by
  unfold r17_Told_g toldV
  have d0 : ((0 : Int) != 0) = false := rfl
  rw [rgAt_ok, gchk_good hg, if_pos rfl]
  simp only [Option.bind_some, d0, cond_false, rbetween_ok]

theorem dsoc_ok (K : Nat) (x : Int) : r17_soc_g K x = some (inR 0 10000 x, ()) := two_ok ..

theorem dtoward_ok {a b c : Int} (h : okC a b c) : r03_Toward_g 20000 a b c = some (tw a b c, ()) := by
  unfold okC at h
  unfold r03_Toward_g tw
  rw [decide_eq_false (show ¬ c < 1 by omega), wu64_id (x := c) (by omega) (by omega), wu64_id (x := a) (by omega) (by omega), wu64_id (x := b) (by omega) (by omega)]
  simp only [cond_false]
  by_cases he : a = b
  · subst he
    have d : (a == a) = true := by simp
    rw [d, if_pos (Int.le_refl _), if_pos (by omega)]
    rfl
  · have d : (a == b) = false := by simp [he]
    rw [d]
    simp only [cond_false]
    by_cases h1 : a < b
    · rw [decide_eq_true h1, wu64_id (x := b - a) (by omega) (by omega), if_pos (show a ≤ b by omega)]
      simp only [cond_true]
      by_cases h2 : b - a ≤ c
      · rw [decide_eq_true h2, if_pos h2]; rfl
      · rw [decide_eq_false h2, if_neg h2, wi64_id (x := a + c) (by omega) (by omega)]; rfl
    · rw [decide_eq_false h1, wu64_id (x := a - b) (by omega) (by omega), if_neg (show ¬ a ≤ b by omega)]
      simp only [cond_false]
      by_cases h2 : a - b ≤ c
      · rw [decide_eq_true h2, if_pos h2]; rfl
      · rw [decide_eq_false h2, if_neg h2, wi64_id (x := a - c) (by omega) (by omega)]; rfl

theorem dcorrect_ok {a b c : Int} (h : okC a b c) : r17_Correct_g 20000 a b c = some (tw a b c, 0, ()) := by
  unfold r17_Correct_g
  have h' := h
  unfold okC at h'
  simp only [dsoc_ok, inR_iff.2 h'.1, inR_iff.2 h'.2.1, Option.bind_some, Bool.not_true, cond_false, decide_eq_false (show ¬ c < 1 by omega), decide_eq_false (show ¬ c > 10000 by omega), dtoward_ok h]

/-! ### Learning -/
theorem down8 (t : Int) (h : -1125899906842624000 ≤ t) (h' : t ≤ 1125899906842624000) : r03_Down_g 20000 t 8 = some (t / 8, 0, ()) := by
  unfold r03_Down_g
  have d1 : decide ((8 : Int) < 1) = false := rfl
  have d2 : ((8 : Int) == 0) = false := rfl
  rw [d1, d2]
  simp only [cond_false]
  by_cases hs : t < 0
  · obtain ⟨e1, e2⟩ := tdiv_neg' (b := 8) hs
    rw [e1, e2, wi64_id (x := -((-t) / 8)) (by omega) (by omega), wi64_id (x := -((-t) / 8) - 1) (by omega) (by omega)]
    by_cases hr : (-t) % 8 = 0
    · rw [hr]
      simp
      omega
    · rw [decide_eq_true (show -((-t) % 8) < 0 by omega)]
      simp
      omega
  · obtain ⟨e1, e2⟩ := tdiv_pos (a := t) (b := 8) (by omega)
    rw [e1, e2, decide_eq_false (show ¬ t % 8 < 0 by omega), wi64_id (x := t / 8) (by omega) (by omega)]
    rfl

theorem left8 (t : Int) (h : -1125899906842624000 ≤ t) (h' : t ≤ 1125899906842624000) : r03_Left_g 20000 t 8 = some (t % 8, 0, ()) := by
  unfold r03_Left_g
  have d1 : decide ((8 : Int) < 1) = false := rfl
  have d2 : ((8 : Int) == 0) = false := rfl
  rw [d1, d2]
  simp only [cond_false]
  by_cases hs : t < 0
  · obtain ⟨e1, e2⟩ := tdiv_neg' (b := 8) hs
    rw [e2]
    by_cases hr : (-t) % 8 = 0
    · rw [hr]
      simp
      omega
    · rw [decide_eq_true (show -((-t) % 8) < 0 by omega), wi64_id (by omega) (by omega)]
      simp
      omega
  · obtain ⟨e1, e2⟩ := tdiv_pos (a := t) (b := 8) (by omega)
    rw [e2, decide_eq_false (show ¬ t % 8 < 0 by omega)]
    rfl

theorem near8 (t : Int) (h : -1125899906842624000 ≤ t) (h' : t ≤ 1125899906842624000) : r03_Near_g 20000 t 8 = some (nr t 8, 0, ()) := by
  unfold r03_Near_g nr
  have d0 : ((0 : Int) == 0) = true := rfl
  rw [down8 t h h', left8 t h h']
  simp only [Option.bind_some, d0, cond_true]
  rw [wi64_id (x := 8 - t % 8) (by omega) (by omega), wi64_id (x := t / 8 + 1) (by omega) (by omega)]
  by_cases h1 : t % 8 > 8 - t % 8
  · rw [decide_eq_true h1, cond_true]
    have e : t / 8 + 1 = (if t < 0 then -((2 * (-t) + 8) / (2 * 8)) else (2 * t + 8) / (2 * 8)) := by split <;> omega
    rw [e]
  · rw [decide_eq_false h1, cond_false]
    by_cases h2 : t % 8 = 8 - t % 8
    · have d2 : (t % 8 == 8 - t % 8) = true := by rw [← h2]; simp
      rw [d2, cond_true]
      by_cases h3 : t > 0
      · rw [decide_eq_true h3, cond_true]
        have e : t / 8 + 1 = (if t < 0 then -((2 * (-t) + 8) / (2 * 8)) else (2 * t + 8) / (2 * 8)) := by split <;> omega
        rw [e]
      · rw [decide_eq_false h3, cond_false]
        have e : t / 8 = (if t < 0 then -((2 * (-t) + 8) / (2 * 8)) else (2 * t + 8) / (2 * 8)) := by split <;> omega
        rw [e]
    · have d2 : (t % 8 == 8 - t % 8) = false := by simp; exact h2
      rw [d2, cond_false]
      have e : t / 8 = (if t < 0 then -((2 * (-t) + 8) / (2 * 8)) else (2 * t + 8) / (2 * 8)) := by split <;> omega
      rw [e]

theorem dsoc8_ok (K : Nat) (x : Int) : r18_soc_g K x = some (inR 0 10000 x, ()) := two_ok ..
theorem dchg8_ok (K : Nat) (x : Int) : r18_charge_g K x = some (inR (-1125899906842624) 1125899906842624 x, ()) := two_ok ..

theorem dtail (z : Int) : ((some (fit z)).bind fun q6 => (bif (q6.2.1 != 0) then (some ((0 : Int), false, ())) else (bif (decide (q6.1 < 1)) then (some (0, false, ())) else (bif (decide (q6.1 > 1125899906842624)) then (some (0, false, ())) else (some (q6.1, true, ())))))) =
    some (if 1 ≤ z ∧ z ≤ 1125899906842624 then (z, true, ()) else (0, false, ())) := by
  have d0 : ((0 : Int) != 0) = false := rfl
  rcases PH.fit_e (z := z) with h | ⟨h, h2⟩
  · rw [h]
    simp only [Option.bind_some, d0, cond_false]
    by_cases h1 : z < 1
    · rw [decide_eq_true h1, if_neg (by omega)]; rfl
    · by_cases h2 : z > 1125899906842624
      · rw [decide_eq_false h1, decide_eq_true h2, if_neg (by omega)]; rfl
      · rw [decide_eq_false h1, decide_eq_false h2, if_pos (by omega)]; rfl
  · rw [h, if_neg (by omega)]
    rfl

theorem dlearned_ok {f t n w : Int} (hf : 0 ≤ f ∧ f ≤ 10000) (hn : 0 ≤ n ∧ n ≤ 10000) (ht : -1125899906842624 ≤ t ∧ t ≤ 1125899906842624) (hw : -1125899906842624 ≤ w ∧ w ≤ 1125899906842624) : r18_Learned_g 20000 f t n w = some (PH.learnedV f t n w) := by
  unfold r18_Learned_g PH.learnedV
  simp only [dsoc8_ok, dchg8_ok, inR_iff.2 hf, inR_iff.2 hn, inR_iff.2 ht, inR_iff.2 hw, Option.bind_some, Bool.not_true, cond_false]
  by_cases he : n = f
  · have d : (n == f) = true := by simp [he]
    rw [d, if_neg (fun k => k.2.2.2.2.2.2.1 he)]
    rfl
  · have d : (n == f) = false := by simp [he]
    rw [d, wi64_id (x := n - f) (by omega) (by omega), wi64_id (x := w - t) (by omega) (by omega), wi64_id (x := 0 - (w - t)) (by omega) (by omega), wi64_id (x := 0 - (n - f)) (by omega) (by omega)]
    have hl : PH.learnOk f t n w ↔ 1 ≤ PH.rate (n - f) (w - t) ∧ PH.rate (n - f) (w - t) ≤ 1125899906842624 :=
      ⟨fun k => ⟨k.2.2.2.2.2.2.2.1, k.2.2.2.2.2.2.2.2⟩, fun k => ⟨hf.1, hf.2, hn.1, hn.2, PH.chgB_iff.2 ht, PH.chgB_iff.2 hw, he, k.1, k.2⟩⟩
    have hi : (if PH.learnOk f t n w then (PH.rate (n - f) (w - t), true, ()) else ((0 : Int), false, ())) = (if 1 ≤ PH.rate (n - f) (w - t) ∧ PH.rate (n - f) (w - t) ≤ 1125899906842624 then (PH.rate (n - f) (w - t), true, ()) else (0, false, ())) := by
      by_cases k : PH.learnOk f t n w
      · rw [if_pos k, if_pos (hl.1 k)]
      · rw [if_neg k, if_neg (fun q => k (hl.2 q))]
    rw [hi, cond_false]
    by_cases hd : n - f < 0
    · rw [decide_eq_true hd, cond_true]
      obtain ⟨b, D, e1, e2⟩ := rmulnear_ok 10000 (0 - (w - t)) (0 - (n - f)) (by omega) (by omega) (by omega) (by omega) (by omega) (by omega)
      rw [e1]
      simp only [Option.bind_some]
      rw [e2, dtail _]
      have er : PH.rate (n - f) (w - t) = nr (10000 * (0 - (w - t))) (0 - (n - f)) := by
        unfold PH.rate
        rw [if_pos hd, Int.zero_sub, Int.zero_sub]
      rw [er]
    · rw [decide_eq_false hd, cond_false]
      obtain ⟨b, D, e1, e2⟩ := rmulnear_ok 10000 (w - t) (n - f) (by omega) (by omega) (by omega) (by omega) (by omega) (by omega)
      rw [e1]
      simp only [Option.bind_some]
      rw [e2, dtail _]
      have er : PH.rate (n - f) (w - t) = nr (10000 * (w - t)) (n - f) := by
        unfold PH.rate
        rw [if_neg hd]
      rw [er]
end Go.Proofs.YtjmbhhinmbgneaaGreat
