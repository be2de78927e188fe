/-
  Law 18 (health), the plain part: what the printed functions compute answers as the laws say.
-/
import Derived.Test.YtjnldeehigmimaaD
namespace Go.Proofs.Ytjnldeehigmimaa
open Go.Sy
set_option maxHeartbeats 2000000

theorem works_ok : rheostatlaw18_works_g 1000 = some (true, ()) := by kernel_rfl

theorem within_ok (K : Nat) (lo hi n : Int) : health_within_g K lo hi n = some (decide (lo ≤ n ∧ n ≤ hi), ()) := by
  unfold health_within_g
  by_cases h1 : lo ≤ n
  · by_cases h2 : n ≤ hi <;> simp [h1, h2]
  · simp [h1]

def socB (n : Int) : Bool := decide (0 ≤ n ∧ n ≤ 10000)
def chgB (n : Int) : Bool := decide (-1125899906842624 ≤ n ∧ n ≤ 1125899906842624)
theorem socB_iff {n : Int} : socB n = true ↔ 0 ≤ n ∧ n ≤ 10000 := by simp [socB]
theorem chgB_iff {n : Int} : chgB n = true ↔ -1125899906842624 ≤ n ∧ n ≤ 1125899906842624 := by simp [chgB]

theorem soc_ok (K : Nat) (n : Int) : health_soc_g K n = some (socB n, ()) := by unfold health_soc_g; rw [within_ok]; rfl
theorem charge_ok (K : Nat) (n : Int) : health_charge_g K n = some (chgB n, ()) := by unfold health_charge_g; rw [within_ok]; rfl

/-- What a charge by a way comes to. -/
def rate (d c : Int) : Int := if d < 0 then nr (10000 * (-c)) (-d) else nr (10000 * c) d

def learnOk (f t n w : Int) : Prop := 0 ≤ f ∧ f ≤ 10000 ∧ 0 ≤ n ∧ n ≤ 10000 ∧ chgB t = true ∧ chgB w = true ∧ n ≠ f ∧ 1 ≤ rate (n - f) (w - t) ∧ rate (n - f) (w - t) ≤ 1125899906842624
instance (f t n w : Int) : Decidable (learnOk f t n w) := by unfold learnOk; exact inferInstance

def learnedV (f t n w : Int) : Int × Bool × Unit := if learnOk f t n w then (rate (n - f) (w - t), true, ()) else (0, false, ())

theorem fit_e {z : Int} : fit z = (z, 0, ()) ∨ (fit z = (0, 3, ()) ∧ (z < -9223372036854775808 ∨ 9223372036854775808 ≤ z)) := by
  unfold fit
  split
  · exact .inl rfl
  · exact .inr ⟨rfl, by omega⟩

theorem learned_tail (z : Int) : ((some (fit z)).bind fun q7 => (bif (q7.2.1 != 0) then (some ((0 : Int), false, ())) else ((health_within_g 1000 1 1125899906842624 q7.1).bind fun q8 => (bif (!q8.1) then (some (0, false, ())) else (some (q7.1, true, ())))))) =
    some (if 1 ≤ z ∧ z ≤ 1125899906842624 then (z, true, ()) else (0, false, ())) := by
  rcases fit_e (z := z) with h | ⟨h, h2⟩
  · rw [h]
    simp only [Option.bind_some, within_ok]
    by_cases hz : 1 ≤ z ∧ z ≤ 1125899906842624
    · simp [hz]
    · simp [hz]
  · rw [h, if_neg (by omega)]
    rfl

theorem learned_ok (f t n w : Int) : health_Learned_g 1000 f t n w = some (learnedV f t n w) := by
  unfold health_Learned_g
  rw [soc_ok, soc_ok, charge_ok, charge_ok]
  simp only [Option.bind_some]
  by_cases h1 : 0 ≤ f ∧ f ≤ 10000
  · by_cases h2 : 0 ≤ n ∧ n ≤ 10000
    · by_cases h3 : chgB t = true
      · by_cases h4 : chgB w = true
        · have t1 := chgB_iff.1 h3
          have w1 := chgB_iff.1 h4
          simp only [socB_iff.2 h1, socB_iff.2 h2, h3, h4, Bool.not_true, cond_false]
          rw [wi64_id (x := n - f) (by omega) (by omega), wi64_id (x := w - t) (by omega) (by omega), wi64_id (x := 0 - (n - f)) (by omega) (by omega), wi64_id (x := 0 - (w - t)) (by omega) (by omega)]
          by_cases hd : n - f < 0
          · rw [decide_eq_true hd, cond_true, mulnear_ok _ _ _ (by omega) (by omega) (by omega) (by omega) (by omega) (by omega), learned_tail]
            unfold learnedV
            have e : nr (10000 * (0 - (w - t))) (0 - (n - f)) = rate (n - f) (w - t) := by unfold rate; rw [if_pos hd, Int.zero_sub, Int.zero_sub]
            rw [e]
            by_cases hz : 1 ≤ rate (n - f) (w - t) ∧ rate (n - f) (w - t) ≤ 1125899906842624
            · rw [if_pos hz, if_pos ⟨h1.1, h1.2, h2.1, h2.2, h3, h4, by omega, hz.1, hz.2⟩]
            · rw [if_neg hz, if_neg (fun k => hz ⟨k.2.2.2.2.2.2.2.1, k.2.2.2.2.2.2.2.2⟩)]
          · rw [decide_eq_false hd, cond_false]
            by_cases h0 : n - f = 0
            · rw [h0, mulnear_bad _ _ _ (by omega) (by omega) (by omega) (by omega) (by omega)]
              unfold learnedV
              rw [if_neg (fun k => k.2.2.2.2.2.2.1 (by omega))]
              rfl
            · rw [mulnear_ok _ _ _ (by omega) (by omega) (by omega) (by omega) (by omega) (by omega), learned_tail]
              unfold learnedV
              have e : nr (10000 * (w - t)) (n - f) = rate (n - f) (w - t) := by unfold rate; rw [if_neg hd]
              rw [e]
              by_cases hz : 1 ≤ rate (n - f) (w - t) ∧ rate (n - f) (w - t) ≤ 1125899906842624
              · rw [if_pos hz, if_pos ⟨h1.1, h1.2, h2.1, h2.2, h3, h4, by omega, hz.1, hz.2⟩]
              · rw [if_neg hz, if_neg (fun k => hz ⟨k.2.2.2.2.2.2.2.1, k.2.2.2.2.2.2.2.2⟩)]
        · have e : chgB w = false := by simpa using h4
          unfold learnedV
          rw [if_neg (fun k => h4 k.2.2.2.2.2.1)]
          simp [socB_iff.2 h1, socB_iff.2 h2, h3, e]
      · have e : chgB t = false := by simpa using h3
        unfold learnedV
        rw [if_neg (fun k => h3 k.2.2.2.2.1)]
        simp [socB_iff.2 h1, socB_iff.2 h2, e]
    · have e : socB n = false := by simp [socB]; omega
      unfold learnedV
      rw [if_neg (fun k => h2 ⟨k.2.2.1, k.2.2.2.1⟩)]
      simp [socB_iff.2 h1, e]
  · have e : socB f = false := by simp [socB]; omega
    unfold learnedV
    rw [if_neg (fun k => h1 ⟨k.1, k.2.1⟩)]
    simp [e]

/-- May a state be anchored? -/
def rightB (cap least most gap chg soc capa asoc achg : Int) : Bool :=
  decide ((1 ≤ gap ∧ gap ≤ 10000) ∧ (1 ≤ least ∧ least ≤ most) ∧ most ≤ 1125899906842624 ∧ (least ≤ cap ∧ cap ≤ most)) && (decide (least ≤ capa ∧ capa ≤ most) && (decide (asoc = -1 ∨ (0 ≤ asoc ∧ asoc ≤ 10000)) && (socB soc && (chgB chg && chgB achg))))

theorem size_fx (K : Nat) (n : Int) (h : -9223372036854775808 < n) (h' : n < 9223372036854775808) : fx_Size_g K n = some (ab n, ()) := by
  unfold fx_Size_g ab
  by_cases hn : n < 0
  · rw [decide_eq_true hn, if_pos hn, wi64_id (x := 0 - n) (by omega) (by omega), decide_eq_false (show ¬ 0 - n < 0 by omega), Int.zero_sub]
    rfl
  · rw [decide_eq_false hn, if_neg hn]
    rfl

/-- The capacity, and the anchor, behind what was found at rest. -/
def anch (least most gap chg soc capa asoc achg : Int) : Int × Int × Int :=
  if asoc ≥ 0 then (if ab (soc - asoc) < gap then (capa, asoc, achg) else
    (if learnOk asoc achg soc chg then (btw least most (capa + nr (rate (soc - asoc) (chg - achg) - capa) 8), soc, chg) else (capa, soc, chg))) else (capa, soc, chg)

theorem check_ok (c0 : Int) (c1 : Int) (c2 : Int) (c3 : Int) (c4 : Int) (c5 : Int) (c6 : Int) (c7 : Int) (c8 : Int) (c9 : Int) (c10 : Int) (c11 : Int) (c12 : Int) (c13 : Int) (c14 : Int) (c15 : Int) (c16 : Int) (c17 : Int) (c18 : Int) (c19 : Int) (c20 : Int) (c21 : Int) (c22 : Int) (c23 : Nat) (c24 : Nat) (c25 : Nat) (c26 : Int) (c27 : Int) (c28 : Int) (c29 : Int) (c30 : Int) (c31 : Int) (c32 : Bool) (c33 : Int) (c34 : Int) (c35 : Int) (c36 : Bool) (c37 : Int) (c38 : Int) (c39 : Int) (c40 : Bool) (c41 : Int) (c42 : Int) (c43 : Int) (c44 : Bool) (c45 : Int) (c46 : Int) (c47 : Int) (c48 : Bool) (c49 : Int) (c50 : Int) (c51 : Int) (c52 : Bool) (c53 : Int) (c54 : Int) (c55 : Int) (c56 : Int) (m0 m1 m2 : Nat → Int) : health_Check_g 1000 c0 c1 c2 c3 c4 c5 c6 c7 c8 c9 c10 c11 c12 c13 c14 c15 c16 c17 c18 c19 c20 c21 c22 c23 c24 c25 c26 c27 c28 c29 c30 c31 c32 c33 c34 c35 c36 c37 c38 c39 c40 c41 c42 c43 c44 c45 c46 c47 c48 c49 c50 c51 c52 c53 c54 c55 c56 m0 m1 m2 = some (bif decide ((1 ≤ c30 ∧ c30 ≤ 10000) ∧ (1 ≤ c28 ∧ c28 ≤ c29) ∧ c29 ≤ 1125899906842624 ∧ (c28 ≤ c27 ∧ c27 ≤ c29)) then 0 else 2, ()) := by
  unfold health_Check_g
  rw [within_ok, within_ok, within_ok]
  simp only [Option.bind_some]
  by_cases h1 : 1 ≤ c30 ∧ c30 ≤ 10000
  · by_cases h2 : 1 ≤ c28 ∧ c28 ≤ c29
    · by_cases h3 : c29 > 1125899906842624
      · have : ¬ (c29 ≤ 1125899906842624) := by omega
        simp [h1, h2, h3, this]
      · have h3' : c29 ≤ 1125899906842624 := by omega
        by_cases h4 : c28 ≤ c27 ∧ c27 ≤ c29 <;> simp [h1, h2, h3, h3', h4]
    · simp [h1, h2]
  · simp [h1]

theorem right_ok (s0 s1 s2 s3 s4 s5 s6 s7 s8 s9 s10 s11 s12 s13 s14 s15 s16 s17 s18 s19 s20 s21 s22 : Int) (c0 : Int) (c1 : Int) (c2 : Int) (c3 : Int) (c4 : Int) (c5 : Int) (c6 : Int) (c7 : Int) (c8 : Int) (c9 : Int) (c10 : Int) (c11 : Int) (c12 : Int) (c13 : Int) (c14 : Int) (c15 : Int) (c16 : Int) (c17 : Int) (c18 : Int) (c19 : Int) (c20 : Int) (c21 : Int) (c22 : Int) (c23 : Nat) (c24 : Nat) (c25 : Nat) (c26 : Int) (c27 : Int) (c28 : Int) (c29 : Int) (c30 : Int) (c31 : Int) (c32 : Bool) (c33 : Int) (c34 : Int) (c35 : Int) (c36 : Bool) (c37 : Int) (c38 : Int) (c39 : Int) (c40 : Bool) (c41 : Int) (c42 : Int) (c43 : Int) (c44 : Bool) (c45 : Int) (c46 : Int) (c47 : Int) (c48 : Bool) (c49 : Int) (c50 : Int) (c51 : Int) (c52 : Bool) (c53 : Int) (c54 : Int) (c55 : Int) (c56 : Int) (m0 m1 m2 : Nat → Int) : health_anchored_right_g 1000 s0 s1 s2 s3 s4 s5 s6 s7 s8 s9 s10 s11 s12 s13 s14 s15 s16 s17 s18 s19 s20 s21 s22 c0 c1 c2 c3 c4 c5 c6 c7 c8 c9 c10 c11 c12 c13 c14 c15 c16 c17 c18 c19 c20 c21 c22 c23 c24 c25 c26 c27 c28 c29 c30 c31 c32 c33 c34 c35 c36 c37 c38 c39 c40 c41 c42 c43 c44 c45 c46 c47 c48 c49 c50 c51 c52 c53 c54 c55 c56 m0 m1 m2 = some (rightB c27 c28 c29 c30 s0 s2 s8 s9 s10, ()) := by
  unfold health_anchored_right_g
  rw [check_ok, within_ok, soc_ok, soc_ok, charge_ok, charge_ok]
  simp only [Option.bind_some, rightB]
  cases decide ((1 ≤ c30 ∧ c30 ≤ 10000) ∧ (1 ≤ c28 ∧ c28 ≤ c29) ∧ c29 ≤ 1125899906842624 ∧ (c28 ≤ c27 ∧ c27 ≤ c29))
  · cases (s9 == -1) <;> rfl
  · cases decide (c28 ≤ s8 ∧ s8 ≤ c29)
    · cases (s9 == -1) <;> rfl
    · have hs : decide (s9 = -1 ∨ (0 ≤ s9 ∧ s9 ≤ 10000)) = ((s9 == -1) || socB s9) := by
        by_cases h1 : s9 = -1 <;> by_cases h2 : 0 ≤ s9 ∧ s9 ≤ 10000 <;> simp [h1, h2, socB]
      rw [hs]
      cases (s9 == -1) <;> cases socB s9 <;> cases socB s2 <;> cases chgB s0 <;> cases chgB s10 <;> rfl

theorem right_of {cap least most gap chg soc capa asoc achg : Int} (h : rightB cap least most gap chg soc capa asoc achg = true) :
    ((1 ≤ gap ∧ gap ≤ 10000) ∧ (1 ≤ least ∧ least ≤ most) ∧ most ≤ 1125899906842624 ∧ (least ≤ cap ∧ cap ≤ most)) ∧ (least ≤ capa ∧ capa ≤ most) ∧ (asoc = -1 ∨ (0 ≤ asoc ∧ asoc ≤ 10000)) ∧ (0 ≤ soc ∧ soc ≤ 10000) ∧ (-1125899906842624 ≤ chg ∧ chg ≤ 1125899906842624) ∧ (-1125899906842624 ≤ achg ∧ achg ≤ 1125899906842624) := by
  unfold rightB at h
  simp only [Bool.and_eq_true, decide_eq_true_eq] at h
  obtain ⟨h1, h2, h3, h4, h5, h6⟩ := h
  exact ⟨h1, h2, h3, socB_iff.1 h4, chgB_iff.1 h5, chgB_iff.1 h6⟩

def anchorV (s0 s1 s2 s3 s4 s5 s6 s7 s8 s9 s10 s11 s12 s13 s14 s15 s16 s17 s18 s19 s20 s21 s22 cap least most gap : Int) : Int × Int × Int × Int × Int × Int × Int × Int × Int × Int × Int × Int × Int × Int × Int × Int × Int × Int × Int × Int × Int × Int × Int × Int × Unit :=
  bif rightB cap least most gap s0 s2 s8 s9 s10 then (s0, s1, s2, s3, s4, s5, s6, s7, (anch least most gap s0 s2 s8 s9 s10).1, (anch least most gap s0 s2 s8 s9 s10).2.1, (anch least most gap s0 s2 s8 s9 s10).2.2, s11, s12, s13, s14, s15, s16, s17, s18, s19, s20, s21, s22, 0, ()) else (0, 0, 0, 0, 0, 0, 0, 0, 0, 0, 0, 0, 0, 0, 0, 0, 0, 0, 0, 0, 0, 0, 0, 2, ())

theorem anchor_ok (c0 : Int) (c1 : Int) (c2 : Int) (c3 : Int) (c4 : Int) (c5 : Int) (c6 : Int) (c7 : Int) (c8 : Int) (c9 : Int) (c10 : Int) (c11 : Int) (c12 : Int) (c13 : Int) (c14 : Int) (c15 : Int) (c16 : Int) (c17 : Int) (c18 : Int) (c19 : Int) (c20 : Int) (c21 : Int) (c22 : Int) (c23 : Nat) (c24 : Nat) (c25 : Nat) (c26 : Int) (c27 : Int) (c28 : Int) (c29 : Int) (c30 : Int) (c31 : Int) (c32 : Bool) (c33 : Int) (c34 : Int) (c35 : Int) (c36 : Bool) (c37 : Int) (c38 : Int) (c39 : Int) (c40 : Bool) (c41 : Int) (c42 : Int) (c43 : Int) (c44 : Bool) (c45 : Int) (c46 : Int) (c47 : Int) (c48 : Bool) (c49 : Int) (c50 : Int) (c51 : Int) (c52 : Bool) (c53 : Int) (c54 : Int) (c55 : Int) (c56 : Int) (s0 s1 s2 s3 s4 s5 s6 s7 s8 s9 s10 s11 s12 s13 s14 s15 s16 s17 s18 s19 s20 s21 s22 : Int) (m0 m1 m2 : Nat → Int) : health_Anchor_g 1000 c0 c1 c2 c3 c4 c5 c6 c7 c8 c9 c10 c11 c12 c13 c14 c15 c16 c17 c18 c19 c20 c21 c22 c23 c24 c25 c26 c27 c28 c29 c30 c31 c32 c33 c34 c35 c36 c37 c38 c39 c40 c41 c42 c43 c44 c45 c46 c47 c48 c49 c50 c51 c52 c53 c54 c55 c56 s0 s1 s2 s3 s4 s5 s6 s7 s8 s9 s10 s11 s12 s13 s14 s15 s16 s17 s18 s19 s20 s21 s22 m0 m1 m2 = some (anchorV s0 s1 s2 s3 s4 s5 s6 s7 s8 s9 s10 s11 s12 s13 s14 s15 s16 s17 s18 s19 s20 s21 s22 c27 c28 c29 c30) := by
  unfold health_Anchor_g anchorV
  rw [right_ok]
  simp only [Option.bind_some]
  cases hr : rightB c27 c28 c29 c30 s0 s2 s8 s9 s10
  · rfl
  · have h := right_of hr
    simp only [Bool.not_true, cond_false, cond_true]
    unfold anch
    by_cases h9 : s9 ≥ 0
    · rw [decide_eq_true h9, cond_true, if_pos h9, wi64_id (x := s2 - s9) (by omega) (by omega), size_fx 1000 _ (by omega) (by omega)]
      simp only [Option.bind_some]
      by_cases hg : ab (s2 - s9) < c30
      · rw [decide_eq_true hg, cond_true, if_pos hg]
      · rw [decide_eq_false hg, cond_false, if_neg hg, learned_ok]
        simp only [Option.bind_some]
        unfold learnedV
        by_cases hl : learnOk s9 s10 s2 s0
        · have hz := hl.2.2.2.2.2.2.2
          rw [if_pos hl, if_pos hl]
          simp only [Bool.not_true, cond_false]
          rw [wi64_id (x := rate (s2 - s9) (s0 - s10) - s8) (by omega) (by omega), fx_near_ok 1000 _ 8 (by omega) (by omega) (by omega) (by omega)]
          simp only [Option.bind_some]
          have hb : -1125899906842624 ≤ nr (rate (s2 - s9) (s0 - s10) - s8) 8 ∧ nr (rate (s2 - s9) (s0 - s10) - s8) 8 ≤ 1125899906842624 := by
            unfold nr; split <;> omega
          rw [wi64_id (by omega) (by omega), fx_between_ok]
          rfl
        · rw [if_neg hl, if_neg hl]
          rfl
    · rw [decide_eq_false h9, cond_false, if_neg h9]

theorem mx_ok (x : Int) (h : -9223372036854775808 < x) (h' : x < 9223372036854775808) : (bif decide (wi64 (0 - x) > x) then wi64 (0 - x) else x) = ab x := by
  rw [wi64_id (x := 0 - x) (by omega) (by omega)]
  unfold ab
  by_cases hx : x < 0
  · rw [decide_eq_true (by omega), if_pos hx, cond_true, Int.zero_sub]
  · rw [if_neg hx]
    rw [decide_eq_false (by omega), cond_false]

theorem bounds_tail (s0 s2 s8 s9 s10 c27 c28 c29 c30 : Int) (h : rightB c27 c28 c29 c30 s0 s2 s8 s9 s10 = true) : (fun b : Int => (bif (decide (b < c28)) then (some false) else (bif (decide (b > c29)) then (some false) else ((health_Learned_g 1000 s9 s10 s2 s0).bind fun q3 => (bif (!q3.2.1) then (some (b == s8)) else (bif (decide (s9 < 0)) then (some (b == s8)) else (bif ((wi64 (b - s8)) == 0) then (some (decide ((wi64 (8 * (bif (decide ((wi64 (0 - (wi64 (b - s8)))) > (wi64 (b - s8)))) then (wi64 (0 - (wi64 (b - s8)))) else (wi64 (b - s8))))) ≤ (wi64 ((bif (decide ((wi64 (0 - (wi64 (q3.1 - s8)))) > (wi64 (q3.1 - s8)))) then (wi64 (0 - (wi64 (q3.1 - s8)))) else (wi64 (q3.1 - s8))) + 4))))) else (bif ((decide ((wi64 (b - s8)) > 0)) == (decide ((wi64 (q3.1 - s8)) > 0))) then (some (decide ((wi64 (8 * (bif (decide ((wi64 (0 - (wi64 (b - s8)))) > (wi64 (b - s8)))) then (wi64 (0 - (wi64 (b - s8)))) else (wi64 (b - s8))))) ≤ (wi64 ((bif (decide ((wi64 (0 - (wi64 (q3.1 - s8)))) > (wi64 (q3.1 - s8)))) then (wi64 (0 - (wi64 (q3.1 - s8)))) else (wi64 (q3.1 - s8))) + 4))))) else (some false))))))))) (anch c28 c29 c30 s0 s2 s8 s9 s10).1 = some true := by
  have h := right_of h
  rw [learned_ok]
  unfold anch learnedV
  by_cases hl : learnOk s9 s10 s2 s0
  · have hz := hl.2.2.2.2.2.2.2
    have h9 : s9 ≥ 0 := hl.1
    rw [if_pos hl, if_pos h9, if_pos hl]
    by_cases hg : ab (s2 - s9) < c30
    · rw [if_pos hg]
      simp only [Option.bind_some, Bool.not_true, cond_false, decide_eq_false (show ¬ s8 < c28 by omega), decide_eq_false (show ¬ s8 > c29 by omega), decide_eq_false (show ¬ s9 < 0 by omega), Int.sub_self, show wi64 0 = 0 from rfl]
      rw [wi64_id (x := rate (s2 - s9) (s0 - s10) - s8) (by omega) (by omega), mx_ok (rate (s2 - s9) (s0 - s10) - s8) (by omega) (by omega)]
      have h0 := ab_nonneg (rate (s2 - s9) (s0 - s10) - s8)
      have h1 := ab_bound (x := rate (s2 - s9) (s0 - s10) - s8) (M := 1125899906842624) (by omega) (by omega)
      rw [wi64_id (x := ab (rate (s2 - s9) (s0 - s10) - s8) + 4) (by omega) (by omega)]
      simp only [beq_self_eq_true, cond_true, Option.some.injEq, decide_eq_true_eq]
      have hw : wi64 (8 * bif decide ((0 : Int) > 0) then (0 : Int) else 0) = 0 := rfl
      omega
    · rw [if_neg hg]
      generalize rate (s2 - s9) (s0 - s10) = x at *
      have hb := btw_le (lo := c28) (hi := c29) (n := s8 + nr (x - s8) 8) (by omega)
      have key : (btw c28 c29 (s8 + nr (x - s8) 8) - s8 = 0 ∨ (decide (btw c28 c29 (s8 + nr (x - s8) 8) - s8 > 0) = decide (x - s8 > 0))) ∧ 8 * ab (btw c28 c29 (s8 + nr (x - s8) 8) - s8) ≤ ab (x - s8) + 4 := by
        have hn : (x - s8 > 0 → 0 ≤ nr (x - s8) 8 ∧ 8 * nr (x - s8) 8 ≤ x - s8 + 4) ∧ (¬ x - s8 > 0 → nr (x - s8) 8 ≤ 0 ∧ -(8 * nr (x - s8) 8) ≤ -(x - s8) + 4) := by
          unfold nr
          split <;> omega
        generalize nr (x - s8) 8 = e at *
        unfold ab btw
        by_cases hx : x - s8 > 0
        · obtain ⟨k1, k2⟩ := hn.1 hx
          rw [if_neg (show ¬ s8 + e < c28 by omega)]
          split
          · constructor
            · by_cases hq : c29 - s8 = 0
              · exact .inl hq
              · exact .inr (by rw [decide_eq_true (show c29 - s8 > 0 by omega), decide_eq_true hx])
            · rw [if_neg (by omega), if_neg (by omega)]; omega
          · constructor
            · by_cases hq : s8 + e - s8 = 0
              · exact .inl hq
              · exact .inr (by rw [decide_eq_true (show s8 + e - s8 > 0 by omega), decide_eq_true hx])
            · rw [if_neg (by omega), if_neg (by omega)]; omega
        · obtain ⟨k1, k2⟩ := hn.2 hx
          by_cases hlow : s8 + e < c28
          · rw [if_pos hlow]
            constructor
            · exact .inr (by rw [decide_eq_false (show ¬ c28 - s8 > 0 by omega), decide_eq_false hx])
            · split <;> split <;> omega
          · rw [if_neg hlow, if_neg (show ¬ s8 + e > c29 by omega)]
            constructor
            · exact .inr (by rw [decide_eq_false (show ¬ s8 + e - s8 > 0 by omega), decide_eq_false hx])
            · split <;> split <;> omega
      generalize btw c28 c29 (s8 + nr (x - s8) 8) = b at *
      have h1 := ab_bound (x := b - s8) (M := 1125899906842624) (by omega) (by omega)
      have h2 := ab_bound (x := x - s8) (M := 1125899906842624) (by omega) (by omega)
      have h3 := ab_nonneg (b - s8)
      have h4 := ab_nonneg (x - s8)
      simp only [Option.bind_some, Bool.not_true, cond_false, decide_eq_false (show ¬ b < c28 by omega), decide_eq_false (show ¬ b > c29 by omega), decide_eq_false (show ¬ s9 < 0 by omega)]
      rw [wi64_id (x := b - s8) (by omega) (by omega), wi64_id (x := x - s8) (by omega) (by omega), mx_ok (b - s8) (by omega) (by omega), mx_ok (x - s8) (by omega) (by omega)]
      rw [wi64_id (x := 8 * ab (b - s8)) (by omega) (by omega), wi64_id (x := ab (x - s8) + 4) (by omega) (by omega), decide_eq_true key.2]
      rcases key.1 with k | k
      · rw [k]; rfl
      · rw [k]
        cases (b - s8 == 0) <;> simp
  · rw [if_neg hl]
    have hcap : (if s9 ≥ 0 then (if ab (s2 - s9) < c30 then (s8, s9, s10) else (if learnOk s9 s10 s2 s0 then (btw c28 c29 (s8 + nr (rate (s2 - s9) (s0 - s10) - s8) 8), s2, s0) else (s8, s2, s0))) else (s8, s2, s0)).1 = s8 := by
      rw [if_neg hl]
      split
      · split <;> rfl
      · rfl
    rw [hcap]
    simp only [Option.bind_some, Bool.not_false, cond_true, decide_eq_false (show ¬ s8 < c28 by omega), decide_eq_false (show ¬ s8 > c29 by omega), cond_false, beq_self_eq_true]

theorem HealthBounds_ok (c0 : Int) (c1 : Int) (c2 : Int) (c3 : Int) (c4 : Int) (c5 : Int) (c6 : Int) (c7 : Int) (c8 : Int) (c9 : Int) (c10 : Int) (c11 : Int) (c12 : Int) (c13 : Int) (c14 : Int) (c15 : Int) (c16 : Int) (c17 : Int) (c18 : Int) (c19 : Int) (c20 : Int) (c21 : Int) (c22 : Int) (c23 : Nat) (c24 : Nat) (c25 : Nat) (c26 : Int) (c27 : Int) (c28 : Int) (c29 : Int) (c30 : Int) (c31 : Int) (c32 : Bool) (c33 : Int) (c34 : Int) (c35 : Int) (c36 : Bool) (c37 : Int) (c38 : Int) (c39 : Int) (c40 : Bool) (c41 : Int) (c42 : Int) (c43 : Int) (c44 : Bool) (c45 : Int) (c46 : Int) (c47 : Int) (c48 : Bool) (c49 : Int) (c50 : Int) (c51 : Int) (c52 : Bool) (c53 : Int) (c54 : Int) (c55 : Int) (c56 : Int) (s0 s1 s2 s3 s4 s5 s6 s7 s8 s9 s10 s11 s12 s13 s14 s15 s16 s17 s18 s19 s20 s21 s22 : Int) (m0 m1 m2 : Nat → Int) : rheostatlaw18_HealthBounds_g 1000 c0 c1 c2 c3 c4 c5 c6 c7 c8 c9 c10 c11 c12 c13 c14 c15 c16 c17 c18 c19 c20 c21 c22 c23 c24 c25 c26 c27 c28 c29 c30 c31 c32 c33 c34 c35 c36 c37 c38 c39 c40 c41 c42 c43 c44 c45 c46 c47 c48 c49 c50 c51 c52 c53 c54 c55 c56 s0 s1 s2 s3 s4 s5 s6 s7 s8 s9 s10 s11 s12 s13 s14 s15 s16 s17 s18 s19 s20 s21 s22 m0 m1 m2 = some true := by
  unfold rheostatlaw18_HealthBounds_g
  rw [works_ok, anchor_ok]
  simp only [Option.bind_some, Bool.not_true, cond_false]
  unfold anchorV
  cases hr : rightB c27 c28 c29 c30 s0 s2 s8 s9 s10
  · rfl
  · exact bounds_tail s0 s2 s8 s9 s10 c27 c28 c29 c30 hr

theorem mx2_ok (x y : Int) (h : -1000000 ≤ x) (h' : x ≤ 1000000) (k : -1000000 ≤ y) (k' : y ≤ 1000000) : (bif decide (wi64 (y - x) > wi64 (x - y)) then wi64 (y - x) else wi64 (x - y)) = ab (x - y) := by
  rw [wi64_id (x := y - x) (by omega) (by omega), wi64_id (x := x - y) (by omega) (by omega)]
  unfold ab
  by_cases hx : x - y < 0
  · rw [decide_eq_true (by omega), if_pos hx, cond_true]; omega
  · rw [if_neg hx, decide_eq_false (by omega), cond_false]

theorem right_mk {cap least most gap chg soc capa asoc achg : Int} (h1 : (1 ≤ gap ∧ gap ≤ 10000) ∧ (1 ≤ least ∧ least ≤ most) ∧ most ≤ 1125899906842624 ∧ (least ≤ cap ∧ cap ≤ most)) (h2 : least ≤ capa ∧ capa ≤ most) (h3 : asoc = -1 ∨ (0 ≤ asoc ∧ asoc ≤ 10000)) (h4 : 0 ≤ soc ∧ soc ≤ 10000) (h5 : -1125899906842624 ≤ chg ∧ chg ≤ 1125899906842624) (h6 : -1125899906842624 ≤ achg ∧ achg ≤ 1125899906842624) :
    rightB cap least most gap chg soc capa asoc achg = true := by
  unfold rightB
  simp only [Bool.and_eq_true, decide_eq_true_eq]
  exact ⟨h1, h2, h3, socB_iff.2 h4, chgB_iff.2 h5, chgB_iff.2 h6⟩

theorem anch_cap {cap least most gap chg soc capa asoc achg : Int} (h : rightB cap least most gap chg soc capa asoc achg = true) : least ≤ (anch least most gap chg soc capa asoc achg).1 ∧ (anch least most gap chg soc capa asoc achg).1 ≤ most := by
  have h := right_of h
  unfold anch
  split
  · split
    · exact h.2.1
    · split
      · exact btw_le (by omega)
      · exact h.2.1
  · exact h.2.1

/-- The way was too short: nothing changes. -/
theorem anch_short {least most gap chg soc capa asoc achg : Int} (h : asoc ≥ 0) (h' : ab (soc - asoc) < gap) : anch least most gap chg soc capa asoc achg = (capa, asoc, achg) := by
  unfold anch
  rw [if_pos h, if_pos h']

theorem anch_long {least most gap chg soc capa asoc achg : Int} (h : ¬ (asoc ≥ 0 ∧ ab (soc - asoc) < gap)) : (anch least most gap chg soc capa asoc achg).2 = (soc, chg) := by
  unfold anch
  by_cases h1 : asoc ≥ 0
  · rw [if_pos h1, if_neg (fun k => h ⟨h1, k⟩)]
    split <;> rfl
  · rw [if_neg h1]

theorem anch_again {gap soc : Int} (least most chg capa : Int) (h : 0 ≤ soc) (hg : 1 ≤ gap) : anch least most gap chg soc capa soc chg = (capa, soc, chg) := anch_short h (by rw [Int.sub_self]; unfold ab; omega)

theorem keeps_tail (c0 : Int) (c1 : Int) (c2 : Int) (c3 : Int) (c4 : Int) (c5 : Int) (c6 : Int) (c7 : Int) (c8 : Int) (c9 : Int) (c10 : Int) (c11 : Int) (c12 : Int) (c13 : Int) (c14 : Int) (c15 : Int) (c16 : Int) (c17 : Int) (c18 : Int) (c19 : Int) (c20 : Int) (c21 : Int) (c22 : Int) (c23 : Nat) (c24 : Nat) (c25 : Nat) (c26 : Int) (c27 : Int) (c28 : Int) (c29 : Int) (c30 : Int) (c31 : Int) (c32 : Bool) (c33 : Int) (c34 : Int) (c35 : Int) (c36 : Bool) (c37 : Int) (c38 : Int) (c39 : Int) (c40 : Bool) (c41 : Int) (c42 : Int) (c43 : Int) (c44 : Bool) (c45 : Int) (c46 : Int) (c47 : Int) (c48 : Bool) (c49 : Int) (c50 : Int) (c51 : Int) (c52 : Bool) (c53 : Int) (c54 : Int) (c55 : Int) (c56 : Int) (s0 s1 s2 s3 s4 s5 s6 s7 s8 s9 s10 s11 s12 s13 s14 s15 s16 s17 s18 s19 s20 s21 s22 : Int) (m0 m1 m2 : Nat → Int) (hr : rightB c27 c28 c29 c30 s0 s2 s8 s9 s10 = true) : (fun x8 x9 x10 : Int => (bif (decide (s9 ≥ 0)) then ((health_Anchor_g 1000 c0 c1 c2 c3 c4 c5 c6 c7 c8 c9 c10 c11 c12 c13 c14 c15 c16 c17 c18 c19 c20 c21 c22 c23 c24 c25 c26 c27 c28 c29 c30 c31 c32 c33 c34 c35 c36 c37 c38 c39 c40 c41 c42 c43 c44 c45 c46 c47 c48 c49 c50 c51 c52 c53 c54 c55 c56 s0 s1 s2 s3 s4 s5 s6 s7 x8 x9 x10 s11 s12 s13 s14 s15 s16 s17 s18 s19 s20 s21 s22 m0 m1 m2).bind fun q3 => (bif ((s0 == s0) && ((s1 == s1) && ((s2 == s2) && ((s3 == s3) && ((s4 == s4) && ((s5 == s5) && ((s6 == s6) && ((s7 == s7) && ((s8 == s8) && ((s9 == s9) && ((s10 == s10) && ((s11 == s11) && ((s12 == s12) && ((s13 == s13) && ((s14 == s14) && ((s15 == s15) && ((s16 == s16) && ((s17 == s17) && ((s18 == s18) && ((s19 == s19) && ((s20 == s20) && ((s21 == s21) && (s22 == s22))))))))))))))))))))))) then (bif ((s0 == s0) && ((s1 == s1) && ((s2 == s2) && ((s3 == s3) && ((s4 == s4) && ((s5 == s5) && ((s6 == s6) && ((s7 == s7) && ((x8 == s8) && ((x9 == s9) && ((x10 == s10) && ((s11 == s11) && ((s12 == s12) && ((s13 == s13) && ((s14 == s14) && ((s15 == s15) && ((s16 == s16) && ((s17 == s17) && ((s18 == s18) && ((s19 == s19) && ((s20 == s20) && ((s21 == s21) && (s22 == s22))))))))))))))))))))))) then (bif (decide ((bif (decide ((wi64 (s9 - s2)) > (wi64 (s2 - s9)))) then (wi64 (s9 - s2)) else (wi64 (s2 - s9))) < c30)) then (bif (q3.2.2.2.2.2.2.2.2.2.2.2.2.2.2.2.2.2.2.2.2.2.2.2.1 == 0) then (some ((q3.1 == s0) && ((q3.2.1 == s1) && ((q3.2.2.1 == s2) && ((q3.2.2.2.1 == s3) && ((q3.2.2.2.2.1 == s4) && ((q3.2.2.2.2.2.1 == s5) && ((q3.2.2.2.2.2.2.1 == s6) && ((q3.2.2.2.2.2.2.2.1 == s7) && ((q3.2.2.2.2.2.2.2.2.1 == x8) && ((q3.2.2.2.2.2.2.2.2.2.1 == x9) && ((q3.2.2.2.2.2.2.2.2.2.2.1 == x10) && ((q3.2.2.2.2.2.2.2.2.2.2.2.1 == s11) && ((q3.2.2.2.2.2.2.2.2.2.2.2.2.1 == s12) && ((q3.2.2.2.2.2.2.2.2.2.2.2.2.2.1 == s13) && ((q3.2.2.2.2.2.2.2.2.2.2.2.2.2.2.1 == s14) && ((q3.2.2.2.2.2.2.2.2.2.2.2.2.2.2.2.1 == s15) && ((q3.2.2.2.2.2.2.2.2.2.2.2.2.2.2.2.2.1 == s16) && ((q3.2.2.2.2.2.2.2.2.2.2.2.2.2.2.2.2.2.1 == s17) && ((q3.2.2.2.2.2.2.2.2.2.2.2.2.2.2.2.2.2.2.1 == s18) && ((q3.2.2.2.2.2.2.2.2.2.2.2.2.2.2.2.2.2.2.2.1 == s19) && ((q3.2.2.2.2.2.2.2.2.2.2.2.2.2.2.2.2.2.2.2.2.1 == s20) && ((q3.2.2.2.2.2.2.2.2.2.2.2.2.2.2.2.2.2.2.2.2.2.1 == s21) && (q3.2.2.2.2.2.2.2.2.2.2.2.2.2.2.2.2.2.2.2.2.2.2.1 == s22)))))))))))))))))))))))) else (some false)) else (bif (x9 == s2) then (bif (x10 == s0) then (bif (q3.2.2.2.2.2.2.2.2.2.2.2.2.2.2.2.2.2.2.2.2.2.2.2.1 == 0) then (some ((q3.1 == s0) && ((q3.2.1 == s1) && ((q3.2.2.1 == s2) && ((q3.2.2.2.1 == s3) && ((q3.2.2.2.2.1 == s4) && ((q3.2.2.2.2.2.1 == s5) && ((q3.2.2.2.2.2.2.1 == s6) && ((q3.2.2.2.2.2.2.2.1 == s7) && ((q3.2.2.2.2.2.2.2.2.1 == x8) && ((q3.2.2.2.2.2.2.2.2.2.1 == x9) && ((q3.2.2.2.2.2.2.2.2.2.2.1 == x10) && ((q3.2.2.2.2.2.2.2.2.2.2.2.1 == s11) && ((q3.2.2.2.2.2.2.2.2.2.2.2.2.1 == s12) && ((q3.2.2.2.2.2.2.2.2.2.2.2.2.2.1 == s13) && ((q3.2.2.2.2.2.2.2.2.2.2.2.2.2.2.1 == s14) && ((q3.2.2.2.2.2.2.2.2.2.2.2.2.2.2.2.1 == s15) && ((q3.2.2.2.2.2.2.2.2.2.2.2.2.2.2.2.2.1 == s16) && ((q3.2.2.2.2.2.2.2.2.2.2.2.2.2.2.2.2.2.1 == s17) && ((q3.2.2.2.2.2.2.2.2.2.2.2.2.2.2.2.2.2.2.1 == s18) && ((q3.2.2.2.2.2.2.2.2.2.2.2.2.2.2.2.2.2.2.2.1 == s19) && ((q3.2.2.2.2.2.2.2.2.2.2.2.2.2.2.2.2.2.2.2.2.1 == s20) && ((q3.2.2.2.2.2.2.2.2.2.2.2.2.2.2.2.2.2.2.2.2.2.1 == s21) && (q3.2.2.2.2.2.2.2.2.2.2.2.2.2.2.2.2.2.2.2.2.2.2.1 == s22)))))))))))))))))))))))) else (some false)) else (some false)) else (some false))) else (bif (!(decide ((bif (decide ((wi64 (s9 - s2)) > (wi64 (s2 - s9)))) then (wi64 (s9 - s2)) else (wi64 (s2 - s9))) < c30))) then (bif (decide ((bif (decide ((wi64 (s9 - s2)) > (wi64 (s2 - s9)))) then (wi64 (s9 - s2)) else (wi64 (s2 - s9))) < c30)) then (bif (q3.2.2.2.2.2.2.2.2.2.2.2.2.2.2.2.2.2.2.2.2.2.2.2.1 == 0) then (some ((q3.1 == s0) && ((q3.2.1 == s1) && ((q3.2.2.1 == s2) && ((q3.2.2.2.1 == s3) && ((q3.2.2.2.2.1 == s4) && ((q3.2.2.2.2.2.1 == s5) && ((q3.2.2.2.2.2.2.1 == s6) && ((q3.2.2.2.2.2.2.2.1 == s7) && ((q3.2.2.2.2.2.2.2.2.1 == x8) && ((q3.2.2.2.2.2.2.2.2.2.1 == x9) && ((q3.2.2.2.2.2.2.2.2.2.2.1 == x10) && ((q3.2.2.2.2.2.2.2.2.2.2.2.1 == s11) && ((q3.2.2.2.2.2.2.2.2.2.2.2.2.1 == s12) && ((q3.2.2.2.2.2.2.2.2.2.2.2.2.2.1 == s13) && ((q3.2.2.2.2.2.2.2.2.2.2.2.2.2.2.1 == s14) && ((q3.2.2.2.2.2.2.2.2.2.2.2.2.2.2.2.1 == s15) && ((q3.2.2.2.2.2.2.2.2.2.2.2.2.2.2.2.2.1 == s16) && ((q3.2.2.2.2.2.2.2.2.2.2.2.2.2.2.2.2.2.1 == s17) && ((q3.2.2.2.2.2.2.2.2.2.2.2.2.2.2.2.2.2.2.1 == s18) && ((q3.2.2.2.2.2.2.2.2.2.2.2.2.2.2.2.2.2.2.2.1 == s19) && ((q3.2.2.2.2.2.2.2.2.2.2.2.2.2.2.2.2.2.2.2.2.1 == s20) && ((q3.2.2.2.2.2.2.2.2.2.2.2.2.2.2.2.2.2.2.2.2.2.1 == s21) && (q3.2.2.2.2.2.2.2.2.2.2.2.2.2.2.2.2.2.2.2.2.2.2.1 == s22)))))))))))))))))))))))) else (some false)) else (bif (x9 == s2) then (bif (x10 == s0) then (bif (q3.2.2.2.2.2.2.2.2.2.2.2.2.2.2.2.2.2.2.2.2.2.2.2.1 == 0) then (some ((q3.1 == s0) && ((q3.2.1 == s1) && ((q3.2.2.1 == s2) && ((q3.2.2.2.1 == s3) && ((q3.2.2.2.2.1 == s4) && ((q3.2.2.2.2.2.1 == s5) && ((q3.2.2.2.2.2.2.1 == s6) && ((q3.2.2.2.2.2.2.2.1 == s7) && ((q3.2.2.2.2.2.2.2.2.1 == x8) && ((q3.2.2.2.2.2.2.2.2.2.1 == x9) && ((q3.2.2.2.2.2.2.2.2.2.2.1 == x10) && ((q3.2.2.2.2.2.2.2.2.2.2.2.1 == s11) && ((q3.2.2.2.2.2.2.2.2.2.2.2.2.1 == s12) && ((q3.2.2.2.2.2.2.2.2.2.2.2.2.2.1 == s13) && ((q3.2.2.2.2.2.2.2.2.2.2.2.2.2.2.1 == s14) && ((q3.2.2.2.2.2.2.2.2.2.2.2.2.2.2.2.1 == s15) && ((q3.2.2.2.2.2.2.2.2.2.2.2.2.2.2.2.2.1 == s16) && ((q3.2.2.2.2.2.2.2.2.2.2.2.2.2.2.2.2.2.1 == s17) && ((q3.2.2.2.2.2.2.2.2.2.2.2.2.2.2.2.2.2.2.1 == s18) && ((q3.2.2.2.2.2.2.2.2.2.2.2.2.2.2.2.2.2.2.2.1 == s19) && ((q3.2.2.2.2.2.2.2.2.2.2.2.2.2.2.2.2.2.2.2.2.1 == s20) && ((q3.2.2.2.2.2.2.2.2.2.2.2.2.2.2.2.2.2.2.2.2.2.1 == s21) && (q3.2.2.2.2.2.2.2.2.2.2.2.2.2.2.2.2.2.2.2.2.2.2.1 == s22)))))))))))))))))))))))) else (some false)) else (some false)) else (some false))) else (some false))) else (some false))) else ((health_Anchor_g 1000 c0 c1 c2 c3 c4 c5 c6 c7 c8 c9 c10 c11 c12 c13 c14 c15 c16 c17 c18 c19 c20 c21 c22 c23 c24 c25 c26 c27 c28 c29 c30 c31 c32 c33 c34 c35 c36 c37 c38 c39 c40 c41 c42 c43 c44 c45 c46 c47 c48 c49 c50 c51 c52 c53 c54 c55 c56 s0 s1 s2 s3 s4 s5 s6 s7 x8 x9 x10 s11 s12 s13 s14 s15 s16 s17 s18 s19 s20 s21 s22 m0 m1 m2).bind fun q4 => (bif ((s0 == s0) && ((s1 == s1) && ((s2 == s2) && ((s3 == s3) && ((s4 == s4) && ((s5 == s5) && ((s6 == s6) && ((s7 == s7) && ((s8 == s8) && ((s9 == s9) && ((s10 == s10) && ((s11 == s11) && ((s12 == s12) && ((s13 == s13) && ((s14 == s14) && ((s15 == s15) && ((s16 == s16) && ((s17 == s17) && ((s18 == s18) && ((s19 == s19) && ((s20 == s20) && ((s21 == s21) && (s22 == s22))))))))))))))))))))))) then (bif ((s0 == s0) && ((s1 == s1) && ((s2 == s2) && ((s3 == s3) && ((s4 == s4) && ((s5 == s5) && ((s6 == s6) && ((s7 == s7) && ((x8 == s8) && ((x9 == s9) && ((x10 == s10) && ((s11 == s11) && ((s12 == s12) && ((s13 == s13) && ((s14 == s14) && ((s15 == s15) && ((s16 == s16) && ((s17 == s17) && ((s18 == s18) && ((s19 == s19) && ((s20 == s20) && ((s21 == s21) && (s22 == s22))))))))))))))))))))))) then (bif (x9 == s2) then (bif (x10 == s0) then (bif (q4.2.2.2.2.2.2.2.2.2.2.2.2.2.2.2.2.2.2.2.2.2.2.2.1 == 0) then (some ((q4.1 == s0) && ((q4.2.1 == s1) && ((q4.2.2.1 == s2) && ((q4.2.2.2.1 == s3) && ((q4.2.2.2.2.1 == s4) && ((q4.2.2.2.2.2.1 == s5) && ((q4.2.2.2.2.2.2.1 == s6) && ((q4.2.2.2.2.2.2.2.1 == s7) && ((q4.2.2.2.2.2.2.2.2.1 == x8) && ((q4.2.2.2.2.2.2.2.2.2.1 == x9) && ((q4.2.2.2.2.2.2.2.2.2.2.1 == x10) && ((q4.2.2.2.2.2.2.2.2.2.2.2.1 == s11) && ((q4.2.2.2.2.2.2.2.2.2.2.2.2.1 == s12) && ((q4.2.2.2.2.2.2.2.2.2.2.2.2.2.1 == s13) && ((q4.2.2.2.2.2.2.2.2.2.2.2.2.2.2.1 == s14) && ((q4.2.2.2.2.2.2.2.2.2.2.2.2.2.2.2.1 == s15) && ((q4.2.2.2.2.2.2.2.2.2.2.2.2.2.2.2.2.1 == s16) && ((q4.2.2.2.2.2.2.2.2.2.2.2.2.2.2.2.2.2.1 == s17) && ((q4.2.2.2.2.2.2.2.2.2.2.2.2.2.2.2.2.2.2.1 == s18) && ((q4.2.2.2.2.2.2.2.2.2.2.2.2.2.2.2.2.2.2.2.1 == s19) && ((q4.2.2.2.2.2.2.2.2.2.2.2.2.2.2.2.2.2.2.2.2.1 == s20) && ((q4.2.2.2.2.2.2.2.2.2.2.2.2.2.2.2.2.2.2.2.2.2.1 == s21) && (q4.2.2.2.2.2.2.2.2.2.2.2.2.2.2.2.2.2.2.2.2.2.2.1 == s22)))))))))))))))))))))))) else (some false)) else (some false)) else (some false)) else (bif (x9 == s2) then (bif (x10 == s0) then (bif (q4.2.2.2.2.2.2.2.2.2.2.2.2.2.2.2.2.2.2.2.2.2.2.2.1 == 0) then (some ((q4.1 == s0) && ((q4.2.1 == s1) && ((q4.2.2.1 == s2) && ((q4.2.2.2.1 == s3) && ((q4.2.2.2.2.1 == s4) && ((q4.2.2.2.2.2.1 == s5) && ((q4.2.2.2.2.2.2.1 == s6) && ((q4.2.2.2.2.2.2.2.1 == s7) && ((q4.2.2.2.2.2.2.2.2.1 == x8) && ((q4.2.2.2.2.2.2.2.2.2.1 == x9) && ((q4.2.2.2.2.2.2.2.2.2.2.1 == x10) && ((q4.2.2.2.2.2.2.2.2.2.2.2.1 == s11) && ((q4.2.2.2.2.2.2.2.2.2.2.2.2.1 == s12) && ((q4.2.2.2.2.2.2.2.2.2.2.2.2.2.1 == s13) && ((q4.2.2.2.2.2.2.2.2.2.2.2.2.2.2.1 == s14) && ((q4.2.2.2.2.2.2.2.2.2.2.2.2.2.2.2.1 == s15) && ((q4.2.2.2.2.2.2.2.2.2.2.2.2.2.2.2.2.1 == s16) && ((q4.2.2.2.2.2.2.2.2.2.2.2.2.2.2.2.2.2.1 == s17) && ((q4.2.2.2.2.2.2.2.2.2.2.2.2.2.2.2.2.2.2.1 == s18) && ((q4.2.2.2.2.2.2.2.2.2.2.2.2.2.2.2.2.2.2.2.1 == s19) && ((q4.2.2.2.2.2.2.2.2.2.2.2.2.2.2.2.2.2.2.2.2.1 == s20) && ((q4.2.2.2.2.2.2.2.2.2.2.2.2.2.2.2.2.2.2.2.2.2.1 == s21) && (q4.2.2.2.2.2.2.2.2.2.2.2.2.2.2.2.2.2.2.2.2.2.2.1 == s22)))))))))))))))))))))))) else (some false)) else (some false)) else (some false))) else (some false))))) (anch c28 c29 c30 s0 s2 s8 s9 s10).1 (anch c28 c29 c30 s0 s2 s8 s9 s10).2.1 (anch c28 c29 c30 s0 s2 s8 s9 s10).2.2 = some true := by
  have h := right_of hr
  have hcap := anch_cap hr
  by_cases hs : s9 ≥ 0 ∧ ab (s2 - s9) < c30
  · rw [anch_short hs.1 hs.2]
    simp only [anchor_ok, anchorV, hr, cond_true, anch_short hs.1 hs.2, Option.bind_some, decide_eq_true hs.1]
    rw [mx2_ok s2 s9 (by omega) (by omega) (by omega) (by omega)]
    simp [hs.2]
  · have hl := anch_long (least := c28) (most := c29) (chg := s0) (capa := s8) (achg := s10) hs
    generalize anch c28 c29 c30 s0 s2 s8 s9 s10 = X at *
    obtain ⟨x8, x9, x10⟩ := X
    injection hl with e1 e2
    have e1 := e1.symm
    have e2 := e2.symm
    subst e1 e2
    have hr2 : rightB c27 c28 c29 c30 s0 s2 x8 s2 s0 = true := right_mk h.1 hcap (.inr h.2.2.2.1) h.2.2.2.1 h.2.2.2.2.1 h.2.2.2.2.1
    simp only [anchor_ok, anchorV, hr2, cond_true, anch_again _ _ _ _ h.2.2.2.1.1 h.1.1.1, Option.bind_some]
    by_cases h9 : s9 ≥ 0
    · have hg : ¬ ab (s2 - s9) < c30 := fun k => hs ⟨h9, k⟩
      rw [decide_eq_true h9, cond_true, mx2_ok s2 s9 (by omega) (by omega) (by omega) (by omega), decide_eq_false hg]
      simp
    · rw [decide_eq_false h9]
      simp

theorem HealthKeeps_ok (c0 : Int) (c1 : Int) (c2 : Int) (c3 : Int) (c4 : Int) (c5 : Int) (c6 : Int) (c7 : Int) (c8 : Int) (c9 : Int) (c10 : Int) (c11 : Int) (c12 : Int) (c13 : Int) (c14 : Int) (c15 : Int) (c16 : Int) (c17 : Int) (c18 : Int) (c19 : Int) (c20 : Int) (c21 : Int) (c22 : Int) (c23 : Nat) (c24 : Nat) (c25 : Nat) (c26 : Int) (c27 : Int) (c28 : Int) (c29 : Int) (c30 : Int) (c31 : Int) (c32 : Bool) (c33 : Int) (c34 : Int) (c35 : Int) (c36 : Bool) (c37 : Int) (c38 : Int) (c39 : Int) (c40 : Bool) (c41 : Int) (c42 : Int) (c43 : Int) (c44 : Bool) (c45 : Int) (c46 : Int) (c47 : Int) (c48 : Bool) (c49 : Int) (c50 : Int) (c51 : Int) (c52 : Bool) (c53 : Int) (c54 : Int) (c55 : Int) (c56 : Int) (s0 s1 s2 s3 s4 s5 s6 s7 s8 s9 s10 s11 s12 s13 s14 s15 s16 s17 s18 s19 s20 s21 s22 : Int) (m0 m1 m2 : Nat → Int) : rheostatlaw18_HealthKeeps_g 1000 c0 c1 c2 c3 c4 c5 c6 c7 c8 c9 c10 c11 c12 c13 c14 c15 c16 c17 c18 c19 c20 c21 c22 c23 c24 c25 c26 c27 c28 c29 c30 c31 c32 c33 c34 c35 c36 c37 c38 c39 c40 c41 c42 c43 c44 c45 c46 c47 c48 c49 c50 c51 c52 c53 c54 c55 c56 s0 s1 s2 s3 s4 s5 s6 s7 s8 s9 s10 s11 s12 s13 s14 s15 s16 s17 s18 s19 s20 s21 s22 m0 m1 m2 = some true := by
  unfold rheostatlaw18_HealthKeeps_g
  rw [works_ok, anchor_ok]
  simp only [Option.bind_some, Bool.not_true, cond_false]
  unfold anchorV
  cases hr : rightB c27 c28 c29 c30 s0 s2 s8 s9 s10
  · rfl
  · exact keeps_tail c0 c1 c2 c3 c4 c5 c6 c7 c8 c9 c10 c11 c12 c13 c14 c15 c16 c17 c18 c19 c20 c21 c22 c23 c24 c25 c26 c27 c28 c29 c30 c31 c32 c33 c34 c35 c36 c37 c38 c39 c40 c41 c42 c43 c44 c45 c46 c47 c48 c49 c50 c51 c52 c53 c54 c55 c56 s0 s1 s2 s3 s4 s5 s6 s7 s8 s9 s10 s11 s12 s13 s14 s15 s16 s17 s18 s19 s20 s21 s22 m0 m1 m2 hr

theorem among_ok (K : Nat) (x n : Int) (hn : 1 ≤ n) (hn' : n < 9223372036854775808) : ∃ r, 0 ≤ r ∧ r < n ∧ rheostatbase_Among_g K x n = some (r, ()) := by
  unfold rheostatbase_Among_g
  have d1 : decide (n < 1) = false := by simp; omega
  have e : wu64 n = n := wu64_id (by omega) (by omega)
  have d2 : (n == 0) = false := by simp; omega
  have hx : 0 ≤ wu64 x := by rw [wu64_def]; omega
  rw [d1, e, d2, (tdiv_pos hx).2]
  have h0 : 0 ≤ wu64 x % n := Int.emod_nonneg _ (by omega)
  have h1 : wu64 x % n < n := Int.emod_lt_of_pos _ (by omega)
  refine ⟨wu64 x % n, h0, h1, ?_⟩
  rw [wi64_id (by omega) (by omega)]
  rfl

theorem learn_math {C b : Int} (hC : 1 ≤ C) (hC' : C ≤ 1099511627776) (hb : 1 ≤ b) (hb' : b ≤ 10000) :
    (C * b / 10000 = 0 → nr (10000 * (C * b / 10000)) b = 0) ∧ (C * b / 10000 ≠ 0 → 1 ≤ nr (10000 * (C * b / 10000)) b ∧ nr (10000 * (C * b / 10000)) b ≤ C ∧ C - 10000 / b - 1 ≤ nr (10000 * (C * b / 10000)) b) := by
  have hp : 0 ≤ C * b := Int.mul_nonneg (by omega) (by omega)
  have hbp : 0 < b := by omega
  constructor
  · intro h
    rw [h, Int.mul_zero, nr_zero hbp]
  · intro h
    have k1 : nr (10000 * (C * b / 10000)) b ≤ nr (b * C) b := nr_mono hbp (by rw [Int.mul_comm b C]; omega)
    have k2 : nr (b * 1) b ≤ nr (10000 * (C * b / 10000)) b := nr_mono hbp (by omega)
    have ht : 10000 < b * (10000 / b + 1) := by
      have := Int.lt_ediv_add_one_mul_self 10000 hbp
      rw [Int.mul_comm]
      exact this
    have e : b * (C - 10000 / b - 1) = C * b - b * (10000 / b + 1) := by grind
    have k3 : nr (b * (C - 10000 / b - 1)) b ≤ nr (10000 * (C * b / 10000)) b := nr_mono hbp (by omega)
    rw [nr_mul hbp] at k1 k2 k3
    exact ⟨k2, k1, k3⟩

theorem learns_tail (a f n : Int) (ha : 0 ≤ a) (ha' : a < 1099511627776) (hf : 0 ≤ f) (hf' : f ≤ 10000) (hn : 0 ≤ n) (hn' : n ≤ 10000) : (bif (f == n) then ((health_Learned_g 1000 f 0 n 5).bind fun q5 => (some (!q5.2.1))) else (bif (decide ((wi64 (n - f)) < 0)) then ((health_Learned_g 1000 f 7 n (wi64 (7 + (wi64 (0 - (wi64 (Int.tdiv (wi64 ((wi64 (1 + a)) * (bif (decide ((wi64 (0 - (wi64 (n - f)))) > (wi64 (n - f)))) then (wi64 (0 - (wi64 (n - f)))) else (wi64 (n - f))))) 10000))))))).bind fun q6 => (bif ((wi64 (0 - (wi64 (Int.tdiv (wi64 ((wi64 (1 + a)) * (bif (decide ((wi64 (0 - (wi64 (n - f)))) > (wi64 (n - f)))) then (wi64 (0 - (wi64 (n - f)))) else (wi64 (n - f))))) 10000)))) == 0) then (some (!q6.2.1)) else (bif q6.2.1 then (bif (decide (q6.1 ≤ (wi64 ((wi64 (1 + a)) + 1)))) then (bif ((bif (decide ((wi64 (0 - (wi64 (n - f)))) > (wi64 (n - f)))) then (wi64 (0 - (wi64 (n - f)))) else (wi64 (n - f))) == 0) then none else (some (decide (q6.1 ≥ (wi64 ((wi64 ((wi64 (1 + a)) - (wi64 (Int.tdiv 10000 (bif (decide ((wi64 (0 - (wi64 (n - f)))) > (wi64 (n - f)))) then (wi64 (0 - (wi64 (n - f)))) else (wi64 (n - f))))))) - 1)))))) else (some false)) else (some false)))) else ((health_Learned_g 1000 f 7 n (wi64 (7 + (wi64 (Int.tdiv (wi64 ((wi64 (1 + a)) * (bif (decide ((wi64 (0 - (wi64 (n - f)))) > (wi64 (n - f)))) then (wi64 (0 - (wi64 (n - f)))) else (wi64 (n - f))))) 10000))))).bind fun q7 => (bif ((wi64 (Int.tdiv (wi64 ((wi64 (1 + a)) * (bif (decide ((wi64 (0 - (wi64 (n - f)))) > (wi64 (n - f)))) then (wi64 (0 - (wi64 (n - f)))) else (wi64 (n - f))))) 10000)) == 0) then (some (!q7.2.1)) else (bif q7.2.1 then (bif (decide (q7.1 ≤ (wi64 ((wi64 (1 + a)) + 1)))) then (bif ((bif (decide ((wi64 (0 - (wi64 (n - f)))) > (wi64 (n - f)))) then (wi64 (0 - (wi64 (n - f)))) else (wi64 (n - f))) == 0) then none else (some (decide (q7.1 ≥ (wi64 ((wi64 ((wi64 (1 + a)) - (wi64 (Int.tdiv 10000 (bif (decide ((wi64 (0 - (wi64 (n - f)))) > (wi64 (n - f)))) then (wi64 (0 - (wi64 (n - f)))) else (wi64 (n - f))))))) - 1)))))) else (some false)) else (some false)))))) = some true := by
  by_cases hfn : f = n
  · subst hfn
    rw [beq_self_eq_true, cond_true, learned_ok]
    unfold learnedV
    rw [if_neg (fun k => k.2.2.2.2.2.2.1 rfl)]
    rfl
  · have hb1 : 1 ≤ ab (n - f) := by unfold ab; split <;> omega
    have hb2 : ab (n - f) ≤ 10000 := ab_bound (by omega) (by omega)
    rw [show (f == n) = false by simpa using hfn, cond_false, wi64_id (x := n - f) (by omega) (by omega), mx_ok (n - f) (by omega) (by omega), wi64_id (x := 1 + a) (by omega) (by omega)]
    obtain ⟨m1, m2⟩ := learn_math (C := 1 + a) (b := ab (n - f)) (by omega) (by omega) hb1 hb2
    have hp := mul_range (x := 1 + a) (y := ab (n - f)) (a := 1099511627776) (b := 10000) (by omega) (by omega) (by omega) hb2
    have ht0 : 0 ≤ 10000 / ab (n - f) := Int.ediv_nonneg (by omega) (by omega)
    have ht1 : 10000 / ab (n - f) ≤ 10000 := Int.ediv_le_self _ (by omega)
    rw [wi64_id (x := (1 + a) * ab (n - f)) (by omega) (by omega), (tdiv_pos hp.1).1, (tdiv_pos (a := 10000) (b := ab (n - f)) (by omega)).1]
    have hrate : ∀ q : Int, rate (n - f) (if n - f < 0 then -q else q) = nr (10000 * q) (ab (n - f)) := by
      intro q
      unfold rate ab
      by_cases hd : n - f < 0
      · rw [if_pos hd, if_pos hd, if_pos hd, Int.neg_neg]
      · rw [if_neg hd, if_neg hd, if_neg hd]
    have hA : (ab (n - f) == 0) = false := by simp; omega
    generalize (1 + a) * ab (n - f) = P at *
    have hq0 : 0 ≤ P / 10000 := by omega
    have hq1 : P / 10000 ≤ 1099511627776 := by omega
    generalize P / 10000 = q at *
    have hz := hrate q
    generalize nr (10000 * q) (ab (n - f)) = z at *
    have fin : ∀ w : Int, w = 7 + (if n - f < 0 then -q else q) → learnedV f 7 n w = if q = 0 then (0, false, ()) else (z, true, ()) := by
      intro w hw
      unfold learnedV
      have e : rate (n - f) (w - 7) = z := by rw [hw, ← hz]; congr 1; omega
      have hwb : -1099511627776 ≤ w - 7 ∧ w - 7 ≤ 1099511627776 := by rw [hw]; split <;> omega
      by_cases hq : q = 0
      · rw [if_pos hq, if_neg]
        intro k
        have := k.2.2.2.2.2.2.2.1
        rw [e, m1 hq] at this
        omega
      · have k := m2 hq
        rw [if_neg hq, if_pos, e]
        exact ⟨hf, hf', hn, hn', by decide, chgB_iff.2 (by omega), fun h => hfn h.symm, by rw [e]; omega, by rw [e]; omega⟩
    rw [wi64_id (x := q) (by omega) (by omega), wi64_id (x := 0 - q) (by omega) (by omega), wi64_id (x := 7 + q) (by omega) (by omega), wi64_id (x := 7 + (0 - q)) (by omega) (by omega)]
    rw [wi64_id (x := 10000 / ab (n - f)) (by omega) (by omega), wi64_id (x := 1 + a + 1) (by omega) (by omega), wi64_id (x := 1 + a - 10000 / ab (n - f)) (by omega) (by omega), wi64_id (x := 1 + a - 10000 / ab (n - f) - 1) (by omega) (by omega), hA]
    by_cases hd : n - f < 0
    · rw [decide_eq_true hd, cond_true, learned_ok, fin _ (by rw [if_pos hd]; omega)]
      by_cases hq : q = 0
      · subst hq
        simp
      · have k := m2 hq
        rw [if_neg hq]
        have hb : ((0 - q) == 0) = false := by simp; omega
        simp only [Option.bind_some, hb, cond_false, cond_true, decide_eq_true (show z ≤ 1 + a + 1 by omega), decide_eq_true (show z ≥ 1 + a - 10000 / ab (n - f) - 1 by omega)]
    · rw [decide_eq_false hd, cond_false, learned_ok, fin _ (by rw [if_neg hd])]
      by_cases hq : q = 0
      · subst hq
        simp
      · have k := m2 hq
        rw [if_neg hq]
        have hb : (q == 0) = false := by simpa using hq
        simp only [Option.bind_some, hb, cond_false, cond_true, decide_eq_true (show z ≤ 1 + a + 1 by omega), decide_eq_true (show z ≥ 1 + a - 10000 / ab (n - f) - 1 by omega)]

theorem HealthLearns_ok (x y z : Int) : rheostatlaw18_HealthLearns_g 1000 x y z = some true := by
  unfold rheostatlaw18_HealthLearns_g
  obtain ⟨a, a0, a1, ha⟩ := among_ok 1000 x 1099511627776 (by omega) (by omega)
  obtain ⟨f, f0, f1, hf⟩ := among_ok 1000 y 10001 (by omega) (by omega)
  obtain ⟨n, n0, n1, hn⟩ := among_ok 1000 z 10001 (by omega) (by omega)
  rw [works_ok, ha, hf, hn]
  exact learns_tail a f n a0 a1 f0 (by omega) n0 (by omega)

theorem near8 {cap L : Int} (h : 1 ≤ cap ∧ cap ≤ 100000) (h' : 1 ≤ L ∧ L ≤ 100000) : (1 ≤ btw 1 100000 (cap + nr (L - cap) 8) ∧ btw 1 100000 (cap + nr (L - cap) 8) ≤ 100000) ∧ ab (btw 1 100000 (cap + nr (L - cap) 8) - L) = ab (cap - L) - (2 * ab (cap - L) + 8) / 16 := by
  refine ⟨btw_le (by omega), ?_⟩
  have hb : 1 ≤ cap + nr (L - cap) 8 ∧ cap + nr (L - cap) 8 ≤ 100000 := by unfold nr; split <;> omega
  rw [btw_id hb.1 hb.2]
  unfold nr ab
  split <;> split <;> (try split) <;> omega

def shrink : Nat → Nat
  | 0 => 99999
  | n + 1 => shrink n - (2 * shrink n + 8) / 16

theorem shrink_end : shrink 120 ≤ 4 := by decide +kernel

theorem anchor_near (cp ch so L cap aso ac : Int) (hcp : 1 ≤ cp ∧ cp ≤ 100000) (hL : 1 ≤ L ∧ L ≤ 100000) (hc : 1 ≤ cap ∧ cap ≤ 100000) (hd : (so = 10000 ∧ ch = L ∧ aso = 0 ∧ ac = 0) ∨ (so = 0 ∧ ch = 0 ∧ aso = 10000 ∧ ac = L)) :
    health_Anchor_g 1000 0 0 0 0 0 0 0 0 0 0 0 0 0 0 0 0 0 0 0 0 0 0 0 0 0 0 0 cp 1 100000 10000 0 false 0 0 0 false 0 0 0 false 0 0 0 false 0 0 0 false 0 0 0 false 0 0 0 0 ch 0 so 0 0 0 0 0 cap aso ac 0 0 0 0 0 0 0 0 0 0 0 0 (fun _ => 0) (fun _ => 0) (fun _ => 0) = some (ch, 0, so, 0, 0, 0, 0, 0, (btw 1 100000 (cap + nr (L - cap) 8)), so, ch, 0, 0, 0, 0, 0, 0, 0, 0, 0, 0, 0, 0, 0, ()) := by
  rw [anchor_ok]
  unfold anchorV
  have hr : rightB cp 1 100000 10000 ch so cap aso ac = true := right_mk (by omega) hc (by omega) (by omega) (by omega) (by omega)
  have hrate : rate (so - aso) (ch - ac) = L := by
    unfold rate
    rcases hd with ⟨rfl, rfl, rfl, rfl⟩ | ⟨rfl, rfl, rfl, rfl⟩
    · rw [if_neg (by omega), show (10000 : Int) * (ch - 0) = 10000 * ch by omega]
      exact nr_mul (by omega)
    · rw [if_pos (by omega), show (10000 : Int) * -(0 - ac) = 10000 * ac by omega]
      exact nr_mul (by omega)
  have hl : learnOk aso ac so ch := by
    refine ⟨by omega, by omega, by omega, by omega, chgB_iff.2 (by omega), chgB_iff.2 (by omega), by omega, ?_, ?_⟩ <;> rw [hrate] <;> omega
  have ha : anch 1 100000 10000 ch so cap aso ac = (btw 1 100000 (cap + nr (L - cap) 8), so, ch) := by
    unfold anch
    have hab : ab (so - aso) = 10000 := by rcases hd with ⟨rfl, _, rfl, _⟩ | ⟨rfl, _, rfl, _⟩ <;> rfl
    rw [if_pos (by omega), hab, if_neg (by omega), if_pos hl, hrate]
  rw [hr, ha]
  rfl

theorem mx3_ok (x y : Int) (h : -1000000 ≤ x) (h' : x ≤ 1000000) (k : -1000000 ≤ y) (k' : y ≤ 1000000) : (bif decide (wi64 (y - x) > wi64 (x - y)) then wi64 (y - x) else wi64 (x - y)) = ab (x - y) := mx2_ok x y h h' k k'

theorem nears_loop (cp L : Int) (hcp : 1 ≤ cp ∧ cp ≤ 100000) (hL : 1 ≤ L ∧ L ≤ 100000) : ∀ (d i fuel : Nat) (ch so cap aso ac : Int), i + d = 120 → d < fuel → (1 ≤ cap ∧ cap ≤ 100000) → ab (cap - L) ≤ (shrink i : Nat) → ((i % 2 = 0 ∧ aso = 0 ∧ ac = 0) ∨ (i % 2 = 1 ∧ aso = 10000 ∧ ac = L)) →
    ∃ ch' so' cap' aso' ac', rheostatlaw18_HealthNears_l0 1000 fuel L (i : Int) 0 0 0 0 0 0 0 0 0 0 0 0 0 0 0 0 0 0 0 0 0 0 0 0 cp 1 100000 10000 0 false 0 0 0 false 0 0 0 false 0 0 0 false 0 0 0 false 0 0 0 false 0 0 0 0 ch 0 so 0 0 0 0 0 cap aso ac 0 0 0 0 0 0 0 0 0 0 0 0 = some (.inl (L, ch', 0, so', 0, 0, 0, 0, 0, cap', aso', ac', 0, 0, 0, 0, 0, 0, 0, 0, 0, 0, 0, 0, ())) ∧ (1 ≤ cap' ∧ cap' ≤ 100000) ∧ ab (cap' - L) ≤ 4
  | 0, i, fuel, ch, so, cap, aso, ac, hd, hf, hc, hs, hp => by
    obtain ⟨f, rfl⟩ : ∃ f, fuel = f + 1 := ⟨fuel - 1, by omega⟩
    have e : i = 120 := by omega
    subst e
    have := shrink_end
    exact ⟨ch, so, cap, aso, ac, rfl, hc, by omega⟩
  | d + 1, i, fuel, ch, so, cap, aso, ac, hd, hf, hc, hs, hp => by
    obtain ⟨f, rfl⟩ : ∃ f, fuel = f + 1 := ⟨fuel - 1, by omega⟩
    have hi : i < 120 := by omega
    obtain ⟨n1, n2⟩ := near8 hc hL
    have e0 : rheostatlaw18_HealthNears_l0 1000 (f + 1) L (i : Int) 0 0 0 0 0 0 0 0 0 0 0 0 0 0 0 0 0 0 0 0 0 0 0 0 cp 1 100000 10000 0 false 0 0 0 false 0 0 0 false 0 0 0 false 0 0 0 false 0 0 0 false 0 0 0 0 ch 0 so 0 0 0 0 0 cap aso ac 0 0 0 0 0 0 0 0 0 0 0 0 = rheostatlaw18_HealthNears_l0r 1000 (rheostatlaw18_HealthNears_l0 1000 f) L (i : Int) 0 0 0 0 0 0 0 0 0 0 0 0 0 0 0 0 0 0 0 0 0 0 0 0 cp 1 100000 10000 0 false 0 0 0 false 0 0 0 false 0 0 0 false 0 0 0 false 0 0 0 false 0 0 0 0 ch 0 so 0 0 0 0 0 cap aso ac 0 0 0 0 0 0 0 0 0 0 0 0 := rfl
    rw [e0]
    have hw : wi64 ((i : Int) + 1) = ((i + 1 : Nat) : Int) := by rw [wi64_id (by omega) (by omega)]; simp
    have hm : Int.tmod (i : Int) 2 = ((i % 2 : Nat) : Int) := by rw [Int.tmod_eq_emod_of_nonneg (by omega)]; omega
    have hsh : ab (btw 1 100000 (cap + nr (L - cap) 8) - L) ≤ (shrink (i + 1) : Nat) ∧ ab (btw 1 100000 (cap + nr (L - cap) 8) - L) ≤ ab (cap - L) := by
      have h0 := ab_nonneg (cap - L)
      have : shrink (i + 1) = shrink i - (2 * shrink i + 8) / 16 := rfl
      rw [n2, this]
      omega
    rcases hp with ⟨hp, rfl, rfl⟩ | ⟨hp, rfl, rfl⟩
    · have hA := anchor_near cp L 10000 L cap 0 0 hcp hL hc (.inl ⟨rfl, rfl, rfl, rfl⟩)
      obtain ⟨ch', so', cap', aso', ac', h1, h2⟩ := nears_loop cp L hcp hL d (i + 1) f L 10000 _ 10000 L (by omega) (by omega) n1 hsh.1 (.inr ⟨by omega, rfl, rfl⟩)
      refine ⟨ch', so', cap', aso', ac', ?_, h2⟩
      unfold rheostatlaw18_HealthNears_l0r
      rw [decide_eq_true (show (i : Int) < 120 by omega), hm, hp, hA, ← h1, hw]
      generalize btw 1 100000 (cap + nr (L - cap) 8) = b at *
      show (bif decide ((bif decide (wi64 (L - b) > wi64 (b - L)) then wi64 (L - b) else wi64 (b - L)) > (bif decide (wi64 (L - cap) > wi64 (cap - L)) then wi64 (L - cap) else wi64 (cap - L))) then some (.inr (false, ())) else rheostatlaw18_HealthNears_l0 1000 f L ((i + 1 : Nat) : Int) 0 0 0 0 0 0 0 0 0 0 0 0 0 0 0 0 0 0 0 0 0 0 0 0 cp 1 100000 10000 0 false 0 0 0 false 0 0 0 false 0 0 0 false 0 0 0 false 0 0 0 false 0 0 0 0 L 0 10000 0 0 0 0 0 b 10000 L 0 0 0 0 0 0 0 0 0 0 0 0) = _
      rw [mx2_ok b L (by omega) (by omega) (by omega) (by omega), mx2_ok cap L (by omega) (by omega) (by omega) (by omega), decide_eq_false (by omega)]
      rfl
    · have hA := anchor_near cp 0 0 ac cap 10000 ac hcp hL hc (.inr ⟨rfl, rfl, rfl, rfl⟩)
      obtain ⟨ch', so', cap', aso', ac', h1, h2⟩ := nears_loop cp ac hcp hL d (i + 1) f 0 0 _ 0 0 (by omega) (by omega) n1 hsh.1 (.inl ⟨by omega, rfl, rfl⟩)
      refine ⟨ch', so', cap', aso', ac', ?_, h2⟩
      unfold rheostatlaw18_HealthNears_l0r
      rw [decide_eq_true (show (i : Int) < 120 by omega), hm, hp, hA, ← h1, hw]
      generalize btw 1 100000 (cap + nr (ac - cap) 8) = b at *
      show (bif decide ((bif decide (wi64 (ac - b) > wi64 (b - ac)) then wi64 (ac - b) else wi64 (b - ac)) > (bif decide (wi64 (ac - cap) > wi64 (cap - ac)) then wi64 (ac - cap) else wi64 (cap - ac))) then some (.inr (false, ())) else rheostatlaw18_HealthNears_l0 1000 f ac ((i + 1 : Nat) : Int) 0 0 0 0 0 0 0 0 0 0 0 0 0 0 0 0 0 0 0 0 0 0 0 0 cp 1 100000 10000 0 false 0 0 0 false 0 0 0 false 0 0 0 false 0 0 0 false 0 0 0 false 0 0 0 0 0 0 0 0 0 0 0 0 b 0 0 0 0 0 0 0 0 0 0 0 0 0 0) = _
      rw [mx2_ok b ac (by omega) (by omega) (by omega) (by omega), mx2_ok cap ac (by omega) (by omega) (by omega) (by omega), decide_eq_false (by omega)]
      rfl

theorem HealthNears_ok (x y z : Int) : rheostatlaw18_HealthNears_g 1000 x y z = some true := by
  unfold rheostatlaw18_HealthNears_g
  obtain ⟨a, a0, a1, ha⟩ := among_ok 1000 x 100000 (by omega) (by omega)
  obtain ⟨b, b0, b1, hb⟩ := among_ok 1000 y 100000 (by omega) (by omega)
  rw [works_ok, ha, hb]
  have hsh : ab (1 + a - (1 + b)) ≤ (shrink 0 : Nat) := ab_bound (M := 99999) (by omega) (by omega)
  obtain ⟨ch', so', cap', aso', ac', h1, h2, h3⟩ := nears_loop (1 + a) (1 + b) (by omega) (by omega) 120 0 1000 0 0 (1 + a) 0 0 (by omega) (by omega) (by omega) hsh (.inl ⟨rfl, rfl, rfl⟩)
  rw [← wi64_id (x := 1 + b) (by omega) (by omega), ← wi64_id (x := 1 + a) (by omega) (by omega)] at h1
  simp only [Option.bind_some, Bool.not_true, cond_false]
  generalize hL0 : rheostatlaw18_HealthNears_l0 1000 1000 = L0 at h1 ⊢
  have h1' : L0 (wi64 (1 + b)) 0 0 0 0 0 0 0 0 0 0 0 0 0 0 0 0 0 0 0 0 0 0 0 0 0 (wi64 (1 + a)) 1 100000 10000 0 false 0 0 0 false 0 0 0 false 0 0 0 false 0 0 0 false 0 0 0 false 0 0 0 0 0 0 0 0 0 0 0 0 (wi64 (1 + a)) 0 0 0 0 0 0 0 0 0 0 0 0 0 0 = _ := h1
  rw [h1', wi64_id (x := 1 + b) (by omega) (by omega)]
  show some (decide ((bif decide (wi64 (1 + b - cap') > wi64 (cap' - (1 + b))) then wi64 (1 + b - cap') else wi64 (cap' - (1 + b))) ≤ 4)) = some true
  rw [mx2_ok cap' (1 + b) (by omega) (by omega) (by omega) (by omega), decide_eq_true h3]
end Go.Proofs.Ytjnldeehigmimaa
