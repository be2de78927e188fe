/-
  Capacities: what the printed functions compute, as plain functions of the numbers.
-/
import Derived.Test.YtjmbhhinmbgneaaGreatsD
namespace Go.Proofs.YtjmbhhinmbgneaaGreat.PH
open Go.Sy
set_option maxHeartbeats 1000000

theorem within_ok (K : Nat) (lo hi n : Int) : health_within_g K lo hi n = some (decide (lo ≤ n ∧ n ≤ hi), ()) := by
  unfold health_within_g
  by_cases h1 : lo ≤ n
  · by_cases h2 : n ≤ hi <;> simp [h1, h2]
  · simp [h1]

def socB (n : Int) : Bool := decide (0 ≤ n ∧ n ≤ 10000)
def chgB (n : Int) : Bool := decide (-1125899906842624 ≤ n ∧ n ≤ 1125899906842624)
theorem socB_iff {n : Int} : socB n = true ↔ 0 ≤ n ∧ n ≤ 10000 := by simp [socB]
theorem chgB_iff {n : Int} : chgB n = true ↔ -1125899906842624 ≤ n ∧ n ≤ 1125899906842624 := by simp [chgB]

theorem soc_ok (K : Nat) (n : Int) : health_soc_g K n = some (socB n, ()) := by unfold health_soc_g; rw [within_ok]; rfl
theorem charge_ok (K : Nat) (n : Int) : health_charge_g K n = some (chgB n, ()) := by unfold health_charge_g; rw [within_ok]; rfl

/-- What a charge by a way comes to. -/
def rate (d c : Int) : Int := if d < 0 then nr (10000 * (-c)) (-d) else nr (10000 * c) d

def learnOk (f t n w : Int) : Prop := 0 ≤ f ∧ f ≤ 10000 ∧ 0 ≤ n ∧ n ≤ 10000 ∧ chgB t = true ∧ chgB w = true ∧ n ≠ f ∧ 1 ≤ rate (n - f) (w - t) ∧ rate (n - f) (w - t) ≤ 1125899906842624
instance (f t n w : Int) : Decidable (learnOk f t n w) := by unfold learnOk; exact inferInstance

def learnedV (f t n w : Int) : Int × Bool × Unit := if learnOk f t n w then (rate (n - f) (w - t), true, ()) else (0, false, ())

theorem fit_e {z : Int} : fit z = (z, 0, ()) ∨ (fit z = (0, 3, ()) ∧ (z < -9223372036854775808 ∨ 9223372036854775808 ≤ z)) := by
  unfold fit
  split
  · exact .inl rfl
  · exact .inr ⟨rfl, by omega⟩

theorem learned_tail (z : Int) : ((some (fit z)).bind fun q7 => (bif (q7.2.1 != 0) then (some ((0 : Int), false, ())) else ((health_within_g 20000 1 1125899906842624 q7.1).bind fun q8 => (bif (!q8.1) then (some (0, false, ())) else (some (q7.1, true, ())))))) =
    some (if 1 ≤ z ∧ z ≤ 1125899906842624 then (z, true, ()) else (0, false, ())) := by
  rcases fit_e (z := z) with h | ⟨h, h2⟩
  · rw [h]
    simp only [Option.bind_some, within_ok]
    by_cases hz : 1 ≤ z ∧ z ≤ 1125899906842624
    · simp [hz]
    · simp [hz]
  · rw [h, if_neg (by omega)]
    rfl

theorem learned_ok (f t n w : Int) : health_Learned_g 20000 f t n w = some (learnedV f t n w) := by
  unfold health_Learned_g
  rw [soc_ok, soc_ok, charge_ok, charge_ok]
  simp only [Option.bind_some]
  by_cases h1 : 0 ≤ f ∧ f ≤ 10000
  · by_cases h2 : 0 ≤ n ∧ n ≤ 10000
    · by_cases h3 : chgB t = true
      · by_cases h4 : chgB w = true
        · have t1 := chgB_iff.1 h3
          have w1 := chgB_iff.1 h4
          simp only [socB_iff.2 h1, socB_iff.2 h2, h3, h4, Bool.not_true, cond_false]
          rw [wi64_id (x := n - f) (by omega) (by omega), wi64_id (x := w - t) (by omega) (by omega), wi64_id (x := 0 - (n - f)) (by omega) (by omega), wi64_id (x := 0 - (w - t)) (by omega) (by omega)]
          by_cases hd : n - f < 0
          · rw [decide_eq_true hd, cond_true, mulnear_ok _ _ _ (by omega) (by omega) (by omega) (by omega) (by omega) (by omega), learned_tail]
            unfold learnedV
            have e : nr (10000 * (0 - (w - t))) (0 - (n - f)) = rate (n - f) (w - t) := by unfold rate; rw [if_pos hd, Int.zero_sub, Int.zero_sub]
            rw [e]
            by_cases hz : 1 ≤ rate (n - f) (w - t) ∧ rate (n - f) (w - t) ≤ 1125899906842624
            · rw [if_pos hz, if_pos ⟨h1.1, h1.2, h2.1, h2.2, h3, h4, by omega, hz.1, hz.2⟩]
            · rw [if_neg hz, if_neg (fun k => hz ⟨k.2.2.2.2.2.2.2.1, k.2.2.2.2.2.2.2.2⟩)]
          · rw [decide_eq_false hd, cond_false]
            by_cases h0 : n - f = 0
            · rw [h0, mulnear_bad _ _ _ (by omega) (by omega) (by omega) (by omega) (by omega)]
              unfold learnedV
              rw [if_neg (fun k => k.2.2.2.2.2.2.1 (by omega))]
              rfl
            · rw [mulnear_ok _ _ _ (by omega) (by omega) (by omega) (by omega) (by omega) (by omega), learned_tail]
              unfold learnedV
              have e : nr (10000 * (w - t)) (n - f) = rate (n - f) (w - t) := by unfold rate; rw [if_neg hd]
              rw [e]
              by_cases hz : 1 ≤ rate (n - f) (w - t) ∧ rate (n - f) (w - t) ≤ 1125899906842624
              · rw [if_pos hz, if_pos ⟨h1.1, h1.2, h2.1, h2.2, h3, h4, by omega, hz.1, hz.2⟩]
              · rw [if_neg hz, if_neg (fun k => hz ⟨k.2.2.2.2.2.2.2.1, k.2.2.2.2.2.2.2.2⟩)]
        · have e : chgB w = false := by simpa using h4
          unfold learnedV
          rw [if_neg (fun k => h4 k.2.2.2.2.2.1)]
          simp [socB_iff.2 h1, socB_iff.2 h2, h3, e]
      · have e : chgB t = false := by simpa using h3
        unfold learnedV
        rw [if_neg (fun k => h3 k.2.2.2.2.1)]
        simp [socB_iff.2 h1, socB_iff.2 h2, e]
    · have e : socB n = false := by simp [socB]; omega
      unfold learnedV
      rw [if_neg (fun k => h2 ⟨k.2.2.1, k.2.2.2.1⟩)]
      simp [socB_iff.2 h1, e]
  · have e : socB f = false := by simp [socB]; omega
    unfold learnedV
    rw [if_neg (fun k => h1 ⟨k.1, k.2.1⟩)]
    simp [e]

/-- May a state be anchored? -/
def rightB (cap least most gap chg soc capa asoc achg : Int) : Bool :=
  decide ((1 ≤ gap ∧ gap ≤ 10000) ∧ (1 ≤ least ∧ least ≤ most) ∧ most ≤ 1125899906842624 ∧ (least ≤ cap ∧ cap ≤ most)) && (decide (least ≤ capa ∧ capa ≤ most) && (decide (asoc = -1 ∨ (0 ≤ asoc ∧ asoc ≤ 10000)) && (socB soc && (chgB chg && chgB achg))))

theorem size_fx (K : Nat) (n : Int) (h : -9223372036854775808 < n) (h' : n < 9223372036854775808) : fx_Size_g K n = some (ab n, ()) := by
  unfold fx_Size_g ab
  by_cases hn : n < 0
  · rw [decide_eq_true hn, if_pos hn, wi64_id (x := 0 - n) (by omega) (by omega), decide_eq_false (show ¬ 0 - n < 0 by omega), Int.zero_sub]
    rfl
  · rw [decide_eq_false hn, if_neg hn]
    rfl

/-- The capacity, and the anchor, behind what was found at rest. -/
def anch (least most gap chg soc capa asoc achg : Int) : Int × Int × Int :=
  if asoc ≥ 0 then (if ab (soc - asoc) < gap then (capa, asoc, achg) else
    (if learnOk asoc achg soc chg then (btw least most (capa + nr (rate (soc - asoc) (chg - achg) - capa) 8), soc, chg) else (capa, soc, chg))) else (capa, soc, chg)

theorem check_ok (c0 : Int) (c1 : Int) (c2 : Int) (c3 : Int) (c4 : Int) (c5 : Int) (c6 : Int) (c7 : Int) (c8 : Int) (c9 : Int) (c10 : Int) (c11 : Int) (c12 : Int) (c13 : Int) (c14 : Int) (c15 : Int) (c16 : Int) (c17 : Int) (c18 : Int) (c19 : Int) (c20 : Int) (c21 : Int) (c22 : Int) (c23 : Nat) (c24 : Nat) (c25 : Nat) (c26 : Int) (c27 : Int) (c28 : Int) (c29 : Int) (c30 : Int) (c31 : Int) (c32 : Bool) (c33 : Int) (c34 : Int) (c35 : Int) (c36 : Bool) (c37 : Int) (c38 : Int) (c39 : Int) (c40 : Bool) (c41 : Int) (c42 : Int) (c43 : Int) (c44 : Bool) (c45 : Int) (c46 : Int) (c47 : Int) (c48 : Bool) (c49 : Int) (c50 : Int) (c51 : Int) (c52 : Bool) (c53 : Int) (c54 : Int) (c55 : Int) (c56 : Int) (m0 m1 m2 : Nat → Int) : health_Check_g 20000 c0 c1 c2 c3 c4 c5 c6 c7 c8 c9 c10 c11 c12 c13 c14 c15 c16 c17 c18 c19 c20 c21 c22 c23 c24 c25 c26 c27 c28 c29 c30 c31 c32 c33 c34 c35 c36 c37 c38 c39 c40 c41 c42 c43 c44 c45 c46 c47 c48 c49 c50 c51 c52 c53 c54 c55 c56 m0 m1 m2 = some (bif decide ((1 ≤ c30 ∧ c30 ≤ 10000) ∧ (1 ≤ c28 ∧ c28 ≤ c29) ∧ c29 ≤ 1125899906842624 ∧ (c28 ≤ c27 ∧ c27 ≤ c29)) then 0 else 2, ()) := by
  unfold health_Check_g
  rw [within_ok, within_ok, within_ok]
  simp only [Option.bind_some]
  by_cases h1 : 1 ≤ c30 ∧ c30 ≤ 10000
  · by_cases h2 : 1 ≤ c28 ∧ c28 ≤ c29
    · by_cases h3 : c29 > 1125899906842624
      · have : ¬ (c29 ≤ 1125899906842624) := by omega
        simp [h1, h2, h3, this]
      · have h3' : c29 ≤ 1125899906842624 := by omega
        by_cases h4 : c28 ≤ c27 ∧ c27 ≤ c29 <;> simp [h1, h2, h3, h3', h4]
    · simp [h1, h2]
  · simp [h1]

theorem right_ok (s0 s1 s2 s3 s4 s5 s6 s7 s8 s9 s10 s11 s12 s13 s14 s15 s16 s17 s18 s19 s20 s21 s22 : Int) (c0 : Int) (c1 : Int) (c2 : Int) (c3 : Int) (c4 : Int) (c5 : Int) (c6 : Int) (c7 : Int) (c8 : Int) (c9 : Int) (c10 : Int) (c11 : Int) (c12 : Int) (c13 : Int) (c14 : Int) (c15 : Int) (c16 : Int) (c17 : Int) (c18 : Int) (c19 : Int) (c20 : Int) (c21 : Int) (c22 : Int) (c23 : Nat) (c24 : Nat) (c25 : Nat) (c26 : Int) (c27 : Int) (c28 : Int) (c29 : Int) (c30 : Int) (c31 : Int) (c32 : Bool) (c33 : Int) (c34 : Int) (c35 : Int) (c36 : Bool) (c37 : Int) (c38 : Int) (c39 : Int) (c40 : Bool) (c41 : Int) (c42 : Int) (c43 : Int) (c44 : Bool) (c45 : Int) (c46 : Int) (c47 : Int) (c48 : Bool) (c49 : Int) (c50 : Int) (c51 : Int) (c52 : Bool) (c53 : Int) (c54 : Int) (c55 : Int) (c56 : Int) (m0 m1 m2 : Nat → Int) : health_anchored_right_g 20000 s0 s1 s2 s3 s4 s5 s6 s7 s8 s9 s10 s11 s12 s13 s14 s15 s16 s17 s18 s19 s20 s21 s22 c0 c1 c2 c3 c4 c5 c6 c7 c8 c9 c10 c11 c12 c13 c14 c15 c16 c17 c18 c19 c20 c21 c22 c23 c24 c25 c26 c27 c28 c29 c30 c31 c32 c33 c34 c35 c36 c37 c38 c39 c40 c41 c42 c43 c44 c45 c46 c47 c48 c49 c50 c51 c52 c53 c54 c55 c56 m0 m1 m2 = some (rightB c27 c28 c29 c30 s0 s2 s8 s9 s10, ()) := by
  unfold health_anchored_right_g
  rw [check_ok, within_ok, soc_ok, soc_ok, charge_ok, charge_ok]
  simp only [Option.bind_some, rightB]
  cases decide ((1 ≤ c30 ∧ c30 ≤ 10000) ∧ (1 ≤ c28 ∧ c28 ≤ c29) ∧ c29 ≤ 1125899906842624 ∧ (c28 ≤ c27 ∧ c27 ≤ c29))
  · cases (s9 == -1) <;> rfl
  · cases decide (c28 ≤ s8 ∧ s8 ≤ c29)
    · cases (s9 == -1) <;> rfl
    · have hs : decide (s9 = -1 ∨ (0 ≤ s9 ∧ s9 ≤ 10000)) = ((s9 == -1) || socB s9) := by
        by_cases h1 : s9 = -1 <;> by_cases h2 : 0 ≤ s9 ∧ s9 ≤ 10000 <;> simp [h1, h2, socB]
      rw [hs]
      cases (s9 == -1) <;> cases socB s9 <;> cases socB s2 <;> cases chgB s0 <;> cases chgB s10 <;> rfl

theorem right_of {cap least most gap chg soc capa asoc achg : Int} (h : rightB cap least most gap chg soc capa asoc achg = true) :
    ((1 ≤ gap ∧ gap ≤ 10000) ∧ (1 ≤ least ∧ least ≤ most) ∧ most ≤ 1125899906842624 ∧ (least ≤ cap ∧ cap ≤ most)) ∧ (least ≤ capa ∧ capa ≤ most) ∧ (asoc = -1 ∨ (0 ≤ asoc ∧ asoc ≤ 10000)) ∧ (0 ≤ soc ∧ soc ≤ 10000) ∧ (-1125899906842624 ≤ chg ∧ chg ≤ 1125899906842624) ∧ (-1125899906842624 ≤ achg ∧ achg ≤ 1125899906842624) := by
  unfold rightB at h
  simp only [Bool.and_eq_true, decide_eq_true_eq] at h
  obtain ⟨h1, h2, h3, h4, h5, h6⟩ := h
  exact ⟨h1, h2, h3, socB_iff.1 h4, chgB_iff.1 h5, chgB_iff.1 h6⟩

def anchorV (s0 s1 s2 s3 s4 s5 s6 s7 s8 s9 s10 s11 s12 s13 s14 s15 s16 s17 s18 s19 s20 s21 s22 cap least most gap : Int) : Int × Int × Int × Int × Int × Int × Int × Int × Int × Int × Int × Int × Int × Int × Int × Int × Int × Int × Int × Int × Int × Int × Int × Int × Unit :=
  bif rightB cap least most gap s0 s2 s8 s9 s10 then (s0, s1, s2, s3, s4, s5, s6, s7, (anch least most gap s0 s2 s8 s9 s10).1, (anch least most gap s0 s2 s8 s9 s10).2.1, (anch least most gap s0 s2 s8 s9 s10).2.2, s11, s12, s13, s14, s15, s16, s17, s18, s19, s20, s21, s22, 0, ()) else (0, 0, 0, 0, 0, 0, 0, 0, 0, 0, 0, 0, 0, 0, 0, 0, 0, 0, 0, 0, 0, 0, 0, 2, ())

theorem anchor_ok (c0 : Int) (c1 : Int) (c2 : Int) (c3 : Int) (c4 : Int) (c5 : Int) (c6 : Int) (c7 : Int) (c8 : Int) (c9 : Int) (c10 : Int) (c11 : Int) (c12 : Int) (c13 : Int) (c14 : Int) (c15 : Int) (c16 : Int) (c17 : Int) (c18 : Int) (c19 : Int) (c20 : Int) (c21 : Int) (c22 : Int) (c23 : Nat) (c24 : Nat) (c25 : Nat) (c26 : Int) (c27 : Int) (c28 : Int) (c29 : Int) (c30 : Int) (c31 : Int) (c32 : Bool) (c33 : Int) (c34 : Int) (c35 : Int) (c36 : Bool) (c37 : Int) (c38 : Int) (c39 : Int) (c40 : Bool) (c41 : Int) (c42 : Int) (c43 : Int) (c44 : Bool) (c45 : Int) (c46 : Int) (c47 : Int) (c48 : Bool) (c49 : Int) (c50 : Int) (c51 : Int) (c52 : Bool) (c53 : Int) (c54 : Int) (c55 : Int) (c56 : Int) (s0 s1 s2 s3 s4 s5 s6 s7 s8 s9 s10 s11 s12 s13 s14 s15 s16 s17 s18 s19 s20 s21 s22 : Int) (m0 m1 m2 : Nat → Int) : health_Anchor_g 20000 c0 c1 c2 c3 c4 c5 c6 c7 c8 c9 c10 c11 c12 c13 c14 c15 c16 c17 c18 c19 c20 c21 c22 c23 c24 c25 c26 c27 c28 c29 c30 c31 c32 c33 c34 c35 c36 c37 c38 c39 c40 c41 c42 c43 c44 c45 c46 c47 c48 c49 c50 c51 c52 c53 c54 c55 c56 s0 s1 s2 s3 s4 s5 s6 s7 s8 s9 s10 s11 s12 s13 s14 s15 s16 s17 s18 s19 s20 s21 s22 m0 m1 m2 = some (anchorV s0 s1 s2 s3 s4 s5 s6 s7 s8 s9 s10 s11 s12 s13 s14 s15 s16 s17 s18 s19 s20 s21 s22 c27 c28 c29 c30) := by
  unfold health_Anchor_g anchorV
  rw [right_ok]
  simp only [Option.bind_some]
  cases hr : rightB c27 c28 c29 c30 s0 s2 s8 s9 s10
  · rfl
  · have h := right_of hr
    simp only [Bool.not_true, cond_false, cond_true]
    unfold anch
    by_cases h9 : s9 ≥ 0
    · rw [decide_eq_true h9, cond_true, if_pos h9, wi64_id (x := s2 - s9) (by omega) (by omega), size_fx 20000 _ (by omega) (by omega)]
      simp only [Option.bind_some]
      by_cases hg : ab (s2 - s9) < c30
      · rw [decide_eq_true hg, cond_true, if_pos hg]
      · rw [decide_eq_false hg, cond_false, if_neg hg, learned_ok]
        simp only [Option.bind_some]
        unfold learnedV
        by_cases hl : learnOk s9 s10 s2 s0
        · have hz := hl.2.2.2.2.2.2.2
          rw [if_pos hl, if_pos hl]
          simp only [Bool.not_true, cond_false]
          rw [wi64_id (x := rate (s2 - s9) (s0 - s10) - s8) (by omega) (by omega), fx_near_ok 20000 _ 8 (by omega) (by omega) (by omega) (by omega)]
          simp only [Option.bind_some]
          have hb : -1125899906842624 ≤ nr (rate (s2 - s9) (s0 - s10) - s8) 8 ∧ nr (rate (s2 - s9) (s0 - s10) - s8) 8 ≤ 1125899906842624 := by
            unfold nr; split <;> omega
          rw [wi64_id (by omega) (by omega), fx_between_ok]
          rfl
        · rw [if_neg hl, if_neg hl]
          rfl
    · rw [decide_eq_false h9, cond_false, if_neg h9]

end Go.Proofs.YtjmbhhinmbgneaaGreat.PH
