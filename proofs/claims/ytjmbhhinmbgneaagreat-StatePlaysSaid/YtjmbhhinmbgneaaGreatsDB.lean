/-
  The document's configurations and states: what its printed functions say of them, and the parts of its step.
-/
import Derived.Test.YtjmbhhinmbgneaaGreatsDA
namespace Go.Proofs.YtjmbhhinmbgneaaGreat
open Go.Sy
set_option maxHeartbeats 4000000

theorem dwithin_ok (K : Nat) (lo hi x : Int) : r21_within_g K lo hi x = some (inR lo hi x, ()) := two_ok ..

theorem and_ok (a b : Bool) : (bif a then (some (b, ())) else (some (false, ()))) = some (a && b, ()) := by cases a <;> rfl

/-- The anchor's place. -/
theorem anc_eq (s : Int) : inR (-1) 10000 s = (inR 0 10000 (bif decide (0 > s) then 0 else s) && !(decide (s < -1))) := by
  unfold inR
  by_cases h : 0 > s
  · rw [decide_eq_true h, cond_true, decide_eq_true (show (0 : Int) ≤ 0 ∧ (0 : Int) ≤ 10000 by omega), Bool.true_and]
    by_cases h1 : s < -1
    · rw [decide_eq_true h1, decide_eq_false (by omega)]; rfl
    · rw [decide_eq_false h1, decide_eq_true (by omega)]; rfl
  · rw [decide_eq_false h, cond_false, decide_eq_false (show ¬ s < -1 by omega), Bool.not_false, Bool.and_true]
    by_cases h1 : 0 ≤ s ∧ s ≤ 10000
    · rw [decide_eq_true h1, decide_eq_true (by omega)]
    · rw [decide_eq_false h1, decide_eq_false (by omega)]

/-! ### Cycles -/
theorem dcyc_tail (cy cap : Int) : (bif decide (cy < 0) then (some ((2 : Int), ())) else (bif decide (cy > 2147483647) then (some (2, ())) else (bif decide (cap < 1) then (some (2, ())) else (bif decide (cap > 1125899906842624) then (some (2, ())) else (some (0, ())))))) =
    some (bif decide ((0 ≤ cy ∧ cy ≤ 2147483647) ∧ (1 ≤ cap ∧ cap ≤ 1125899906842624)) then 0 else 2, ()) := by
  by_cases h1 : cy < 0
  · rw [decide_eq_true h1, decide_eq_false (show ¬ ((0 ≤ cy ∧ cy ≤ 2147483647) ∧ (1 ≤ cap ∧ cap ≤ 1125899906842624)) by omega)]; rfl
  · by_cases h2 : cy > 2147483647
    · rw [decide_eq_false h1, decide_eq_true h2, decide_eq_false (show ¬ ((0 ≤ cy ∧ cy ≤ 2147483647) ∧ (1 ≤ cap ∧ cap ≤ 1125899906842624)) by omega)]; rfl
    · by_cases h3 : cap < 1
      · rw [decide_eq_false h1, decide_eq_false h2, decide_eq_true h3, decide_eq_false (show ¬ ((0 ≤ cy ∧ cy ≤ 2147483647) ∧ (1 ≤ cap ∧ cap ≤ 1125899906842624)) by omega)]; rfl
      · by_cases h4 : cap > 1125899906842624
        · rw [decide_eq_false h1, decide_eq_false h2, decide_eq_false h3, decide_eq_true h4, decide_eq_false (show ¬ ((0 ≤ cy ∧ cy ≤ 2147483647) ∧ (1 ≤ cap ∧ cap ≤ 1125899906842624)) by omega)]; rfl
        · rw [decide_eq_false h1, decide_eq_false h2, decide_eq_false h3, decide_eq_false h4, decide_eq_true (show (0 ≤ cy ∧ cy ≤ 2147483647) ∧ (1 ≤ cap ∧ cap ≤ 1125899906842624) by omega)]; rfl

theorem dcyc_ok (K : Nat) (s0 s1 s2 s3 s4 s5 s6 s7 s8 s9 s10 s11 s12 s13 s14 s15 s16 s17 s18 s19 s20 s21 s22 : Int) : r19_Check_g K s0 s1 s2 s3 s4 s5 s6 s7 s8 s9 s10 s11 s12 s13 s14 s15 s16 s17 s18 s19 s20 s21 s22 = some (bif cycB s11 s12 s13 s8 then 0 else 2, ()) := by
  unfold r19_Check_g
  simp only [dcyc_tail]
  have no : ∀ (h : ¬ ((0 ≤ s11 ∧ s11 ≤ 1125899906842624) ∧ (1 ≤ s8 ∧ s8 ≤ 1125899906842624) ∧ (0 ≤ s12 ∧ s12 ≤ 999) ∧ (0 ≤ s13 ∧ s13 ≤ 2147483647) ∧ s11 * 1000 + s12 ≤ 1125899906842624000)), cycB s11 s12 s13 s8 = false := fun h => decide_eq_false h
  by_cases h1 : s11 < 0
  · rw [decide_eq_true h1, no (by omega)]; rfl
  · by_cases h2 : s11 > 1125899906842624
    · rw [decide_eq_false h1, decide_eq_true h2, no (by omega)]; rfl
    · by_cases h3 : s12 < 0
      · rw [decide_eq_false h1, decide_eq_false h2, decide_eq_true h3, no (by omega)]; rfl
      · by_cases h4 : s12 > 999
        · rw [decide_eq_false h1, decide_eq_false h2, decide_eq_false h3, decide_eq_true h4, no (by omega)]; rfl
        · rw [decide_eq_false h1, decide_eq_false h2, decide_eq_false h3, decide_eq_false h4]
          simp only [cond_false]
          by_cases h5 : s11 = 1125899906842624 ∧ s12 > 0
          · have d : (s11 == 1125899906842624) = true := by simp [h5.1]
            rw [d, decide_eq_true h5.2, no (by omega)]; rfl
          · have e : decide ((0 ≤ s13 ∧ s13 ≤ 2147483647) ∧ (1 ≤ s8 ∧ s8 ≤ 1125899906842624)) = cycB s11 s12 s13 s8 := decide_eq_decide.2 (by omega)
            rw [e]
            by_cases h6 : s11 = 1125899906842624
            · have d : (s11 == 1125899906842624) = true := by simp [h6]
              rw [d, decide_eq_false (show ¬ s12 > 0 by omega)]; rfl
            · have d : (s11 == 1125899906842624) = false := by simp [h6]
              rw [d]; rfl

theorem dcstep_ok {s0 s1 s2 s3 s4 s5 s6 s7 s8 s9 s10 s11 s12 s13 s14 s15 s16 s17 s18 s19 s20 s21 s22 c t : Int} (hB : cycB s11 s12 s13 s8 = true) (hc : -2147483648 ≤ c ∧ c ≤ 2147483648) (ht : 1 ≤ t ∧ t ≤ 60000) :
    r19_Step_g 20000 s0 s1 s2 s3 s4 s5 s6 s7 s8 s9 s10 s11 s12 s13 s14 s15 s16 s17 s18 s19 s20 s21 s22 c t =
      some (s0, s1, s2, s3, s4, s5, s6, s7, s8, s9, s10, cycT s11 s12 c t / 1000, cycT s11 s12 c t % 1000, cycN (cycT s11 s12 c t / 1000) s8 s13, s14, s15, s16, s17, s18, s19, s20, s21, s22, 0, ()) := by
  unfold r19_Step_g r19_Total_g
  have k := of_decide_eq_true hB
  have a1 := ab_bound (x := c) (M := 2147483648) hc.1 hc.2
  have b1 := ab_nonneg c
  have hp : 0 ≤ ab c * t ∧ ab c * t ≤ 128849018880000 := by
    have h1 := Int.mul_nonneg b1 (show 0 ≤ t by omega)
    have h2 : ab c * t ≤ 2147483648 * 60000 := Int.mul_le_mul a1 ht.2 (by omega) (by omega)
    omega
  have hT : 0 ≤ cycT s11 s12 c t ∧ cycT s11 s12 c t ≤ 1125899906842624000 := by
    unfold cycT btw
    split
    · omega
    · split <;> omega
  have hd := tdiv_pos (a := cycT s11 s12 c t) (b := 1000) hT.1
  have hq : 0 ≤ cycT s11 s12 c t / 1000 ∧ cycT s11 s12 c t / 1000 ≤ 1125899906842624 := by omega
  have h2 := (tdiv_pos (a := cycT s11 s12 c t / 1000) (b := 2 * s8) hq.1).1
  have h3 : cycT s11 s12 c t / 1000 / (2 * s8) = cycT s11 s12 c t / 1000 / 2 / s8 := (Int.ediv_ediv_of_nonneg (by omega)).symm
  have h4 : 0 ≤ cycT s11 s12 c t / 1000 / 2 / s8 := Int.ediv_nonneg (by omega) (by omega)
  have h5 : cycT s11 s12 c t / 1000 / 2 / s8 ≤ cycT s11 s12 c t / 1000 / 2 := Int.ediv_le_self _ (by omega)
  have d0 : ((0 : Int) != 0) = false := rfl
  have d8 : ((2 * s8) == 0) = false := by simp; omega
  have e : (bif decide (1125899906842624000 < s11 * 1000 + s12 + ab c * t) then (1125899906842624000 : Int) else s11 * 1000 + s12 + ab c * t) = cycT s11 s12 c t := by
    unfold cycT btw
    rw [if_neg (by omega)]
    by_cases h : 1125899906842624000 < s11 * 1000 + s12 + ab c * t
    · rw [decide_eq_true h, if_pos h]; rfl
    · rw [decide_eq_false h, if_neg h]; rfl
  rw [dcyc_ok, hB]
  simp only [Option.bind_some, cond_true, d0, cond_false, decide_eq_false (show ¬ c < -2147483648 by omega), decide_eq_false (show ¬ c > 2147483648 by omega), decide_eq_false (show ¬ t < 1 by omega), decide_eq_false (show ¬ t > 60000 by omega)]
  rw [dsize_ok 20000 (x := c) (by omega) (by omega)]
  simp only [Option.bind_some]
  rw [wi64_id (x := 2 * s8) (by omega) (by omega), wi64_id (x := s11 * 1000) (by omega) (by omega), wi64_id (x := s11 * 1000 + s12) (by omega) (by omega), wi64_id (x := ab c * t) (by omega) (by omega), wi64_id (x := s11 * 1000 + s12 + ab c * t) (by omega) (by omega), e, d8, hd.1, hd.2,
    wi64_id (x := cycT s11 s12 c t / 1000) (by omega) (by omega), h2, h3, wi64_id (x := cycT s11 s12 c t / 1000 / 2 / s8) (by omega) (by omega)]
  rfl

/-! ### What is shown -/
theorem dgo_ok (s0 s1 s2 s3 s4 s5 s6 s7 s8 s9 s10 s11 s12 s13 s14 s15 s16 s17 s18 s19 s20 s21 s22 : Int) (h3 : 0 ≤ s3 ∧ s3 ≤ 10000) (h8 : 1 ≤ s8 ∧ s8 ≤ 1125899906842624) (h4 : -1125899906842624 ≤ s4 ∧ s4 ≤ 1125899906842624) (h0 : -1125899906842624 ≤ s0 ∧ s0 ≤ 1125899906842624) :
    r17_Go_g 20000 s0 s1 s2 s3 s4 s5 s6 s7 s8 s9 s10 s11 s12 s13 s14 s15 s16 s17 s18 s19 s20 s21 s22 = some (s0, s1, shownV s3 s4 s0 s8, s3, s4, s5, s6, s7, s8, s9, s10, s11, s12, s13, s14, s15, s16, s17, s18, s19, s20, s21, s22, 0, ()) := by
  unfold r17_Go_g
  rw [rshown_ok]
  unfold shownE
  rw [if_pos ⟨h3, h8, inB_iff.2 h4, inB_iff.2 h0⟩]
  rfl

theorem drest_ok (s0 s1 s2 s3 s4 s5 s6 s7 s8 s9 s10 s11 s12 s13 s14 s15 s16 s17 s18 s19 s20 s21 s22 : Int) (told slew : Int) (h3 : 0 ≤ s3 ∧ s3 ≤ 10000) (h8 : 1 ≤ s8 ∧ s8 ≤ 1125899906842624) (h4 : -1125899906842624 ≤ s4 ∧ s4 ≤ 1125899906842624) (h0 : -1125899906842624 ≤ s0 ∧ s0 ≤ 1125899906842624) (hok : okC (shownV s3 s4 s0 s8) told slew) :
    r17_Rest_g 20000 s0 s1 s2 s3 s4 s5 s6 s7 s8 s9 s10 s11 s12 s13 s14 s15 s16 s17 s18 s19 s20 s21 s22 told slew = some (s0, s1, tw (shownV s3 s4 s0 s8) told slew, tw (shownV s3 s4 s0 s8) told slew, s0, s5, s6, s7, s8, s9, s10, s11, s12, s13, s14, s15, s16, s17, s18, s19, s20, s21, s22, 0, ()) := by
  unfold r17_Rest_g
  have d0 : ((0 : Int) != 0) = false := rfl
  rw [dgo_ok (h3 := h3) (h8 := h8) (h4 := h4) (h0 := h0)]
  simp only [Option.bind_some, d0, cond_false]
  rw [dcorrect_ok hok]
  rfl

section
variable (c0 c1 c2 c3 c4 c5 c6 c7 c8 c9 c10 c11 c12 c13 c14 c15 c16 c17 c18 c19 c20 c21 c22 : Int) (n23 n24 n25 : Nat) (c26 c27 c28 c29 c30 c31 : Int) (b32 : Bool) (c33 c34 c35 : Int) (b36 : Bool) (c37 c38 c39 : Int) (b40 : Bool) (c41 c42 c43 : Int) (b44 : Bool) (c45 c46 c47 : Int) (b48 : Bool) (c49 c50 c51 : Int) (b52 : Bool) (c53 c54 c55 c56 : Int) (X Y Z : Nat → Int)

theorem dhl_ok (K : Nat) : r18_Check_g K c0 c1 c2 c3 c4 c5 c6 c7 c8 c9 c10 c11 c12 c13 c14 c15 c16 c17 c18 c19 c20 c21 c22 n23 n24 n25 c26 c27 c28 c29 c30 c31 b32 c33 c34 c35 b36 c37 c38 c39 b40 c41 c42 c43 b44 c45 c46 c47 b48 c49 c50 c51 b52 c53 c54 c55 c56 X Y Z = some (bif hlB c27 c28 c29 c30 then 0 else 2, ()) := by
  unfold r18_Check_g
  have no : ¬ ((1 ≤ c30 ∧ c30 ≤ 10000) ∧ (1 ≤ c28 ∧ c28 ≤ c29) ∧ c29 ≤ 1125899906842624 ∧ (c28 ≤ c27 ∧ c27 ≤ c29)) → hlB c27 c28 c29 c30 = false := fun h => decide_eq_false h
  by_cases h1 : c30 < 1
  · rw [decide_eq_true h1, no (by omega)]; rfl
  rw [decide_eq_false h1]
  by_cases h2 : c30 > 10000
  · rw [decide_eq_true h2, no (by omega)]; rfl
  rw [decide_eq_false h2]
  by_cases h3 : c28 < 1
  · rw [decide_eq_true h3, no (by omega)]; rfl
  rw [decide_eq_false h3]
  by_cases h4 : c28 > c29
  · rw [decide_eq_true h4, no (by omega)]; rfl
  rw [decide_eq_false h4]
  by_cases h5 : c29 > 1125899906842624
  · rw [decide_eq_true h5, no (by omega)]; rfl
  rw [decide_eq_false h5]
  by_cases h6 : c27 < c28
  · rw [decide_eq_true h6, no (by omega)]; rfl
  rw [decide_eq_false h6]
  by_cases h7 : c27 > c29
  · rw [decide_eq_true h7, no (by omega)]; rfl
  have yes : hlB c27 c28 c29 c30 = true := decide_eq_true (by omega)
  rw [decide_eq_false h7, yes]
  rfl

theorem danchor_ok (s0 s1 s2 s3 s4 s5 s6 s7 s8 s9 s10 s11 s12 s13 s14 s15 s16 s17 s18 s19 s20 s21 s22 : Int) (hR : PH.rightB c27 c28 c29 c30 s0 s2 s8 s9 s10 = true) :
    r18_Anchor_g 20000 c0 c1 c2 c3 c4 c5 c6 c7 c8 c9 c10 c11 c12 c13 c14 c15 c16 c17 c18 c19 c20 c21 c22 n23 n24 n25 c26 c27 c28 c29 c30 c31 b32 c33 c34 c35 b36 c37 c38 c39 b40 c41 c42 c43 b44 c45 c46 c47 b48 c49 c50 c51 b52 c53 c54 c55 c56 s0 s1 s2 s3 s4 s5 s6 s7 s8 s9 s10 s11 s12 s13 s14 s15 s16 s17 s18 s19 s20 s21 s22 X Y Z = some (s0, s1, s2, s3, s4, s5, s6, s7, (PH.anch c28 c29 c30 s0 s2 s8 s9 s10).1, (PH.anch c28 c29 c30 s0 s2 s8 s9 s10).2.1, (PH.anch c28 c29 c30 s0 s2 s8 s9 s10).2.2, s11, s12, s13, s14, s15, s16, s17, s18, s19, s20, s21, s22, 0, ()) := by
  have h := PH.right_of hR
  have d0 : ((0 : Int) == 0) = true := rfl
  have hl : hlB c27 c28 c29 c30 = true := decide_eq_true h.1
  have hm : r18_may_g 20000 c0 c1 c2 c3 c4 c5 c6 c7 c8 c9 c10 c11 c12 c13 c14 c15 c16 c17 c18 c19 c20 c21 c22 n23 n24 n25 c26 c27 c28 c29 c30 c31 b32 c33 c34 c35 b36 c37 c38 c39 b40 c41 c42 c43 b44 c45 c46 c47 b48 c49 c50 c51 b52 c53 c54 c55 c56 s0 s1 s2 s3 s4 s5 s6 s7 s8 s9 s10 s11 s12 s13 s14 s15 s16 s17 s18 s19 s20 s21 s22 X Y Z = some (true, ()) := by
    unfold r18_may_g
    rw [dhl_ok, hl]
    simp only [dsoc8_ok, dchg8_ok, inR_iff.2 h.2.2.2.1, inR_iff.2 h.2.2.2.2.1, inR_iff.2 h.2.2.2.2.2, Option.bind_some, cond_true, d0, decide_eq_true (show s8 ≥ c28 by omega), decide_eq_true (show s8 ≤ c29 by omega)]
    rcases h.2.2.1 with k | k
    · have d : (s9 == -1) = true := by simp [k]
      rw [d]; rfl
    · have d : (s9 == -1) = false := by simp; omega
      rw [d, inR_iff.2 k]; rfl
  unfold r18_Anchor_g
  rw [hm]
  simp only [Option.bind_some, Bool.not_true, cond_false]
  unfold PH.anch
  by_cases h9 : s9 ≥ 0
  · rw [decide_eq_true h9, if_pos h9, wi64_id (x := s2 - s9) (by omega) (by omega), dsize_ok 20000 (x := s2 - s9) (by omega) (by omega)]
    simp only [Option.bind_some, cond_true]
    by_cases hg : ab (s2 - s9) < c30
    · rw [decide_eq_true hg, cond_true, if_pos hg]
    · rw [decide_eq_false hg, cond_false, if_neg hg, dlearned_ok (f := s9) (by omega) h.2.2.2.1 h.2.2.2.2.2 h.2.2.2.2.1]
      simp only [Option.bind_some]
      unfold PH.learnedV
      by_cases hl : PH.learnOk s9 s10 s2 s0
      · have hz := hl.2.2.2.2.2.2.2
        rw [if_pos hl, if_pos hl]
        simp only [cond_true]
        rw [wi64_id (x := PH.rate (s2 - s9) (s0 - s10) - s8) (by omega) (by omega), near8 _ (by omega) (by omega)]
        simp only [Option.bind_some]
        have hb : -1125899906842624 ≤ nr (PH.rate (s2 - s9) (s0 - s10) - s8) 8 ∧ nr (PH.rate (s2 - s9) (s0 - s10) - s8) 8 ≤ 1125899906842624 := by
          unfold nr; split <;> omega
        rw [wi64_id (by omega) (by omega), rbetween_ok]
        rfl
      · rw [if_neg hl, if_neg hl]
        rfl
  · rw [decide_eq_false h9, cond_false, if_neg h9]
    rfl

/-! ### What may be -/
theorem dcheck_exact : r21_Check_g 20000 c0 c1 c2 c3 c4 c5 c6 c7 c8 c9 c10 c11 c12 c13 c14 c15 c16 c17 c18 c19 c20 c21 c22 n23 n24 n25 c26 c27 c28 c29 c30 c31 b32 c33 c34 c35 b36 c37 c38 c39 b40 c41 c42 c43 b44 c45 c46 c47 b48 c49 c50 c51 b52 c53 c54 c55 c56 X Y Z = some (bif chkB c0 c1 c2 c3 c4 c5 c6 c7 c8 c9 c10 c11 c12 c13 c14 c15 c16 c17 c18 c19 c20 c21 c22 n23 n24 n25 c26 c27 c28 c29 c30 c31 b32 c33 c34 c35 b36 c37 c38 c39 b40 c41 c42 c43 b44 c45 c46 c47 b48 c49 c50 c51 b52 c53 c54 c55 c56 X Y Z then 0 else 210, ()) := by
  have d0 : ((0 : Int) != 0) = false := rfl
  have hw : r13_Check_g 20000 c0 c1 c2 c3 c4 c5 c6 c7 c8 c9 c10 c11 c12 c13 c14 = some (bif PA.wayB c0 c1 c2 c3 c4 c5 c6 c7 c8 c9 c10 c11 c12 c13 c14 then 0 else 120, ()) := PA.rway_ok ..
  have hg : r11_Check_g 20000 n23 n24 n25 X Y Z = some (bif dc (GGood n23 n24 n25 X Y Z) then 0 else 110, ()) := by
    rw [rgcheck_ok]
    by_cases h : GGood n23 n24 n25 X Y Z
    · rw [gchk_good h, dc_t h]; rfl
    · rw [gchk_bad h, dc_f h]; rfl
  have hd : r20_Check_g 20000 c31 b32 c33 c34 c35 b36 c37 c38 c39 b40 c41 c42 c43 b44 c45 c46 c47 b48 c49 c50 c51 b52 c53 c54 c55 = some (bif gdB c31 c33 c34 c35 c37 c38 c39 c41 c42 c43 c45 c46 c47 c49 c50 c51 c53 c54 c55 then 0 else 2, ()) := PG.rcheck_k ..
  unfold r21_Check_g chkB
  rw [hw, dcell_ok, hg, dhl_ok, hd]
  simp only [Option.bind_some, dwithin_ok]
  cases PA.wayB c0 c1 c2 c3 c4 c5 c6 c7 c8 c9 c10 c11 c12 c13 c14 with
  | false => rfl
  | true =>
    cases cellB c15 c16 c17 c18 c19 c20 c21 c22 with
    | false => rfl
    | true =>
      cases dc (GGood n23 n24 n25 X Y Z) with
      | false => rfl
      | true => cases inR 1 10000 c26 <;> cases hlB c27 c28 c29 c30 <;> cases gdB c31 c33 c34 c35 c37 c38 c39 c41 c42 c43 c45 c46 c47 c49 c50 c51 c53 c54 c55 <;> cases inR 1 1125899906842624 c56 <;> rfl

theorem fr_loop (s0 s1 s2 s3 s4 s5 s6 s7 s8 s9 s10 s11 s12 s13 s14 s15 s16 s17 s18 s19 s20 s21 s22 : Int) : ∀ (d i N : Nat), i + d = 6 → d < N → r21_Fits_l0 20000 N (i : Int) c0 c1 c2 c3 c4 c5 c6 c7 c8 c9 c10 c11 c12 c13 c14 c15 c16 c17 c18 c19 c20 c21 c22 n23 n24 n25 c26 c27 c28 c29 c30 c31 b32 c33 c34 c35 b36 c37 c38 c39 b40 c41 c42 c43 b44 c45 c46 c47 b48 c49 c50 c51 b52 c53 c54 c55 c56 s0 s1 s2 s3 s4 s5 s6 s7 s8 s9 s10 s11 s12 s13 s14 s15 s16 s17 s18 s19 s20 s21 s22 X Y Z =
    some (bif allR 0 (wi64 (c55 - 1)) (fun j => selI [s15, s16, s17, s18, s19, s20] j) i d then .inl (c0, c1, c2, c3, c4, c5, c6, c7, c8, c9, c10, c11, c12, c13, c14, c15, c16, c17, c18, c19, c20, c21, c22, n23, n24, n25, c26, c27, c28, c29, c30, c31, b32, c33, c34, c35, b36, c37, c38, c39, b40, c41, c42, c43, b44, c45, c46, c47, b48, c49, c50, c51, b52, c53, c54, c55, c56, s0, s1, s2, s3, s4, s5, s6, s7, s8, s9, s10, s11, s12, s13, s14, s15, s16, s17, s18, s19, s20, s21, s22, X, Y, Z, ()) else .inr (false, ())) := by
  intro d
  induction d with
  | zero =>
    intro i N hi hN
    obtain ⟨f, rfl⟩ : ∃ f, N = f + 1 := ⟨N - 1, by omega⟩
    obtain rfl : i = 6 := by omega
    rfl
  | succ d ih =>
    intro i N hi hN
    obtain ⟨f, rfl⟩ : ∃ f, N = f + 1 := ⟨N - 1, by omega⟩
    show r21_Fits_l0r 20000 (r21_Fits_l0 20000 f) (i : Int) c0 c1 c2 c3 c4 c5 c6 c7 c8 c9 c10 c11 c12 c13 c14 c15 c16 c17 c18 c19 c20 c21 c22 n23 n24 n25 c26 c27 c28 c29 c30 c31 b32 c33 c34 c35 b36 c37 c38 c39 b40 c41 c42 c43 b44 c45 c46 c47 b48 c49 c50 c51 b52 c53 c54 c55 c56 s0 s1 s2 s3 s4 s5 s6 s7 s8 s9 s10 s11 s12 s13 s14 s15 s16 s17 s18 s19 s20 s21 s22 X Y Z = _
    unfold r21_Fits_l0r
    have w : wi64 ((i : Int) + 1) = ((i + 1 : Nat) : Int) := by rw [wi64_id (by omega) (by omega)]; simp
    simp only [decide_eq_true (show (i : Int) < 6 by omega), decide_eq_true (show 0 ≤ (i : Int) by omega), Bool.and_self, cond_true, Int.toNat_natCast, dwithin_ok, Option.bind_some, w, allR]
    cases inR 0 (wi64 (c55 - 1)) (selI [s15, s16, s17, s18, s19, s20] i) with
    | false => rfl
    | true => exact ih (i + 1) f (by omega) (by omega)

theorem dfits_exact (s0 s1 s2 s3 s4 s5 s6 s7 s8 s9 s10 s11 s12 s13 s14 s15 s16 s17 s18 s19 s20 s21 s22 : Int) : r21_Fits_g 20000 c0 c1 c2 c3 c4 c5 c6 c7 c8 c9 c10 c11 c12 c13 c14 c15 c16 c17 c18 c19 c20 c21 c22 n23 n24 n25 c26 c27 c28 c29 c30 c31 b32 c33 c34 c35 b36 c37 c38 c39 b40 c41 c42 c43 b44 c45 c46 c47 b48 c49 c50 c51 b52 c53 c54 c55 c56 s0 s1 s2 s3 s4 s5 s6 s7 s8 s9 s10 s11 s12 s13 s14 s15 s16 s17 s18 s19 s20 s21 s22 X Y Z = some (fitsB c0 c1 c2 c3 c4 c5 c6 c7 c8 c9 c10 c11 c12 c13 c14 c15 c16 c17 c18 c19 c20 c21 c22 n23 n24 n25 c26 c27 c28 c29 c30 c31 b32 c33 c34 c35 b36 c37 c38 c39 b40 c41 c42 c43 b44 c45 c46 c47 b48 c49 c50 c51 b52 c53 c54 c55 c56 s0 s1 s2 s3 s4 s5 s6 s7 s8 s9 s10 s11 s12 s13 s14 s15 s16 s17 s18 s19 s20 s21 s22 X Y Z, ()) := by
  have d0 : ((0 : Int) != 0) = false := rfl
  unfold r21_Fits_g r21_most_g fitsB
  rw [dcheck_exact, rcheck_ok, dcyc_ok]
  simp only [Option.bind_some]
  cases chkB c0 c1 c2 c3 c4 c5 c6 c7 c8 c9 c10 c11 c12 c13 c14 c15 c16 c17 c18 c19 c20 c21 c22 n23 n24 n25 c26 c27 c28 c29 c30 c31 b32 c33 c34 c35 b36 c37 c38 c39 b40 c41 c42 c43 b44 c45 c46 c47 b48 c49 c50 c51 b52 c53 c54 c55 c56 X Y Z with
  | false => rfl
  | true =>
    cases chB s0 s1 with
    | false => rfl
    | true =>
      cases cycB s11 s12 s13 s8 with
      | false => rfl
      | true =>
        have hl : r21_Fits_l0 20000 20000 0 c0 c1 c2 c3 c4 c5 c6 c7 c8 c9 c10 c11 c12 c13 c14 c15 c16 c17 c18 c19 c20 c21 c22 n23 n24 n25 c26 c27 c28 c29 c30 c31 b32 c33 c34 c35 b36 c37 c38 c39 b40 c41 c42 c43 b44 c45 c46 c47 b48 c49 c50 c51 b52 c53 c54 c55 c56 s0 s1 s2 s3 s4 s5 s6 s7 s8 s9 s10 s11 s12 s13 s14 s15 s16 s17 s18 s19 s20 s21 s22 X Y Z = _ := fr_loop c0 c1 c2 c3 c4 c5 c6 c7 c8 c9 c10 c11 c12 c13 c14 c15 c16 c17 c18 c19 c20 c21 c22 n23 n24 n25 c26 c27 c28 c29 c30 c31 b32 c33 c34 c35 b36 c37 c38 c39 b40 c41 c42 c43 b44 c45 c46 c47 b48 c49 c50 c51 b52 c53 c54 c55 c56 X Y Z s0 s1 s2 s3 s4 s5 s6 s7 s8 s9 s10 s11 s12 s13 s14 s15 s16 s17 s18 s19 s20 s21 s22 6 0 20000 (by omega) (by omega)
        simp only [cond_true, d0, cond_false]
        rw [hl]
        cases allR 0 (wi64 (c55 - 1)) (fun j => selI [s15, s16, s17, s18, s19, s20] j) 0 6 with
        | false => simp only [cond_false, Option.bind_some, Sum.elim_inr, Bool.false_and, Bool.and_false]
        | true =>
          simp only [cond_true, Option.bind_some, Sum.elim_inl, dwithin_ok, and_ok, anc_eq]
          generalize inR 0 10000 s2 = e1
          generalize inR 0 10000 s3 = e2
          generalize inR (-1125899906842624) 1125899906842624 s4 = e3
          generalize inR (-2147483648) 2147483648 s5 = e4
          generalize inR (-2147483648) 2147483648 s6 = e5
          generalize inR 0 1125899906842624 s7 = e6
          generalize inR c28 c29 s8 = e7
          generalize inR 0 10000 (bif decide (0 > s9) then 0 else s9) = e8
          generalize (!decide (s9 < -1)) = e9
          generalize inR (-1125899906842624) 1125899906842624 s10 = e10
          generalize inR 0 63 s14 = e11
          generalize inR 0 4294967295 s21 = e12
          generalize inR 0 4294967295 s22 = e13
          have e : (e1 && (e2 && (e3 && (e4 && (e5 && (e6 && (e7 && ((e8 && e9) && (e10 && (e11 && (e12 && e13))))))))))) = ((e1 && (e2 && e8)) && (e9 && ((e3 && e10) && ((e4 && e5) && (e6 && (e7 && (e11 && (true && (e12 && e13))))))))) := by
            rw [Bool.true_and]
            ac_rfl
          rw [e]
          rfl
end
end Go.Proofs.YtjmbhhinmbgneaaGreat
