/-
  What comes of a state that fits fits.
-/
import Derived.Test.YtjmbhhinmbgneaaGreatxV
import Derived.Test.YtjmbhhinmbgneaaGreatxO
namespace Go.Proofs.YtjmbhhinmbgneaaGreat
open Go.Sy
set_option maxHeartbeats 4000000

theorem fits_mk (c0 c1 c2 c3 c4 c5 c6 c7 c8 c9 c10 c11 c12 c13 c14 c15 c16 c17 c18 c19 c20 c21 c22 : Int) (n23 n24 n25 : Nat) (c26 c27 c28 c29 c30 c31 : Int) (b32 : Bool) (c33 c34 c35 : Int) (b36 : Bool) (c37 c38 c39 : Int) (b40 : Bool) (c41 c42 c43 : Int) (b44 : Bool) (c45 c46 c47 : Int) (b48 : Bool) (c49 c50 c51 : Int) (b52 : Bool) (c53 c54 c55 c56 : Int) (s0 s1 s2 s3 s4 s5 s6 s7 s8 s9 s10 s11 s12 s13 s14 s15 s16 s17 s18 s19 s20 s21 s22 : Int) (X Y Z : Nat → Int) (q : 1 ≤ c56 ∧ c56 ≤ 1125899906842624) (h : Fits c0 c1 c2 c3 c4 c5 c6 c7 c8 c9 c10 c11 c12 c13 c14 c15 c16 c17 c18 c19 c20 c21 c22 n23 n24 n25 c26 c27 c28 c29 c30 c31 b32 c33 c34 c35 b36 c37 c38 c39 b40 c41 c42 c43 b44 c45 c46 c47 b48 c49 c50 c51 b52 c53 c54 c55 c56 s0 s1 s2 s3 s4 s5 s6 s7 s8 s9 s10 s11 s12 s13 s14 s15 s16 s17 s18 s19 s20 s21 s22 X Y Z) : fitsB c0 c1 c2 c3 c4 c5 c6 c7 c8 c9 c10 c11 c12 c13 c14 c15 c16 c17 c18 c19 c20 c21 c22 n23 n24 n25 c26 c27 c28 c29 c30 c31 b32 c33 c34 c35 b36 c37 c38 c39 b40 c41 c42 c43 b44 c45 c46 c47 b48 c49 c50 c51 b52 c53 c54 c55 c56 s0 s1 s2 s3 s4 s5 s6 s7 s8 s9 s10 s11 s12 s13 s14 s15 s16 s17 s18 s19 s20 s21 s22 X Y Z = true := by
  unfold fitsB chkB
  have hd : 1 ≤ c55 ∧ c55 ≤ 31 := by
    have k := h.gd
    unfold gdB at k
    simp only [Bool.and_eq_true, decide_eq_true_eq] at k
    exact k.2
  have hr : (inR 0 (c55 - 1) s15 && (inR 0 (c55 - 1) s16 && (inR 0 (c55 - 1) s17 && (inR 0 (c55 - 1) s18 && (inR 0 (c55 - 1) s19 && (inR 0 (c55 - 1) s20 && true)))))) = true := by
    simp only [Bool.and_eq_true, inR_iff]
    exact ⟨h.run.1, h.run.2.1, h.run.2.2.1, h.run.2.2.2.1, h.run.2.2.2.2.1, h.run.2.2.2.2.2, trivial⟩
  have hr' : allR 0 (wi64 (c55 - 1)) (fun j => selI [s15, s16, s17, s18, s19, s20] j) 0 6 = true := by
    rw [wi64_id (x := c55 - 1) (by omega) (by omega)]
    exact hr
  have h9 : inR 0 10000 (bif decide (0 > s9) then 0 else s9) = true := by
    rcases h.anc with k | k
    · rw [decide_eq_true (show 0 > s9 by omega), cond_true]
      exact inR_iff.2 ⟨by omega, by omega⟩
    · rw [decide_eq_false (show ¬ 0 > s9 by omega), cond_false]
      exact inR_iff.2 k
  have h9' : decide (s9 < -1) = false := decide_eq_false (by rcases h.anc with k | k <;> omega)
  rw [h.way, h.cell, dc_t h.good, h.gd, h.ch, h.cyc, hr', h9, h9']
  have e : hlB c27 c28 c29 c30 = true := decide_eq_true h.hl
  rw [e, inR_iff.2 h.slew, inR_iff.2 q, inR_iff.2 h.soc, inR_iff.2 h.base, inR_iff.2 h.cb, inR_iff.2 h.ac, inR_iff.2 h.u1, inR_iff.2 h.u2, inR_iff.2 h.rest, inR_iff.2 h.cap, inR_iff.2 h.up, inR_iff.2 h.goods, inR_iff.2 h.bads]
  rfl

theorem quantum_of (c0 c1 c2 c3 c4 c5 c6 c7 c8 c9 c10 c11 c12 c13 c14 c15 c16 c17 c18 c19 c20 c21 c22 : Int) (n23 n24 n25 : Nat) (c26 c27 c28 c29 c30 c31 : Int) (b32 : Bool) (c33 c34 c35 : Int) (b36 : Bool) (c37 c38 c39 : Int) (b40 : Bool) (c41 c42 c43 : Int) (b44 : Bool) (c45 c46 c47 : Int) (b48 : Bool) (c49 c50 c51 : Int) (b52 : Bool) (c53 c54 c55 c56 : Int) (s0 s1 s2 s3 s4 s5 s6 s7 s8 s9 s10 s11 s12 s13 s14 s15 s16 s17 s18 s19 s20 s21 s22 : Int) (X Y Z : Nat → Int) (h : fitsB c0 c1 c2 c3 c4 c5 c6 c7 c8 c9 c10 c11 c12 c13 c14 c15 c16 c17 c18 c19 c20 c21 c22 n23 n24 n25 c26 c27 c28 c29 c30 c31 b32 c33 c34 c35 b36 c37 c38 c39 b40 c41 c42 c43 b44 c45 c46 c47 b48 c49 c50 c51 b52 c53 c54 c55 c56 s0 s1 s2 s3 s4 s5 s6 s7 s8 s9 s10 s11 s12 s13 s14 s15 s16 s17 s18 s19 s20 s21 s22 X Y Z = true) : 1 ≤ c56 ∧ c56 ≤ 1125899906842624 := by
  unfold fitsB chkB at h
  simp only [Bool.and_eq_true, inR_iff] at h
  exact h.1.2.2.2.2.2.2

theorem cnt_in {g : Int} (h : 0 ≤ g ∧ g ≤ 4294967295) : (0 ≤ (bif decide (4294967295 < wi64 (g + 1)) then (4294967295 : Int) else wi64 (g + 1)) ∧ (bif decide (4294967295 < wi64 (g + 1)) then (4294967295 : Int) else wi64 (g + 1)) ≤ 4294967295) ∧
    ((bif decide (4294967295 < wi64 (g + 1)) then (4294967295 : Int) else wi64 (g + 1)) = wi64 (g + 1) ∨ g = 4294967295) := by
  rw [wi64_id (x := g + 1) (by omega) (by omega)]
  by_cases k : 4294967295 < g + 1
  · rw [decide_eq_true k]
    exact ⟨⟨by show (0 : Int) ≤ 4294967295; omega, Int.le_refl _⟩, .inr (by omega)⟩
  · rw [decide_eq_false k]
    exact ⟨⟨by show 0 ≤ g + 1; omega, by show g + 1 ≤ 4294967295; omega⟩, .inl rfl⟩

theorem cnt_tail {g y : Int} (h : y = wi64 (g + 1) ∨ g = 4294967295) : (bif (y == wi64 (g + 1)) then some true else some (g == 4294967295)) = some true := by
  rcases h with rfl | rfl
  · rw [beq_self_eq_true]; rfl
  · cases (y == wi64 (4294967295 + 1)) <;> rfl

theorem anch_facts {le mo ga ch so ca an ac : Int} (h : le ≤ mo) (hc : le ≤ ca ∧ ca ≤ mo) :
    (le ≤ (PH.anch le mo ga ch so ca an ac).1 ∧ (PH.anch le mo ga ch so ca an ac).1 ≤ mo) ∧ ((PH.anch le mo ga ch so ca an ac).2.1 = an ∨ (PH.anch le mo ga ch so ca an ac).2.1 = so) ∧ ((PH.anch le mo ga ch so ca an ac).2.2 = ac ∨ (PH.anch le mo ga ch so ca an ac).2.2 = ch) := by
  unfold PH.anch
  split
  · split
    · exact ⟨hc, .inl rfl, .inl rfl⟩
    · split
      · exact ⟨btw_le h, .inr rfl, .inr rfl⟩
      · exact ⟨hc, .inr rfl, .inr rfl⟩
  · exact ⟨hc, .inr rfl, .inr rfl⟩

theorem cyc_keep {th su cy cap cap' c t : Int} (h : cycB th su cy cap = true) (hc : 1 ≤ cap' ∧ cap' ≤ 1125899906842624) (ht : 1 ≤ t) : cycB (cycT th su c t / 1000) (cycT th su c t % 1000) (cycN (cycT th su c t / 1000) cap cy) cap' = true := by
  have k := of_decide_eq_true h
  have hT : 0 ≤ cycT th su c t ∧ cycT th su c t ≤ 1125899906842624000 := by
    have h1 := Int.mul_nonneg (ab_nonneg c) (show 0 ≤ t by omega)
    unfold cycT btw
    split
    · omega
    · split <;> omega
  have h4 : 0 ≤ cycT th su c t / 1000 / 2 / cap := Int.ediv_nonneg (by omega) (by omega)
  have hn : 0 ≤ cycN (cycT th su c t / 1000) cap cy ∧ cycN (cycT th su c t / 1000) cap cy ≤ 2147483647 := by
    unfold cycN
    generalize cycT th su c t / 1000 / 2 / cap = q at *
    have e : (bif decide (2147483647 < q) then (2147483647 : Int) else q) ≤ 2147483647 ∧ 0 ≤ (bif decide (2147483647 < q) then (2147483647 : Int) else q) := by
      by_cases k : 2147483647 < q
      · rw [decide_eq_true k]; exact ⟨Int.le_refl _, by show (0 : Int) ≤ 2147483647; omega⟩
      · rw [decide_eq_false k]; exact ⟨by show q ≤ _; omega, h4⟩
    generalize (bif decide (2147483647 < q) then (2147483647 : Int) else q) = w at *
    by_cases k : w > cy
    · rw [decide_eq_true k]; exact ⟨e.2, e.1⟩
    · rw [decide_eq_false k]; exact ⟨by show 0 ≤ cy; omega, by show cy ≤ _; omega⟩
  exact decide_eq_true ⟨by omega, hc, by omega, hn, by omega⟩

end Go.Proofs.YtjmbhhinmbgneaaGreat
