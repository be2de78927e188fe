/-
  What comes of a state that fits fits.
-/
import Derived.Test.YtjmbhhinmbgneaaGreatfV
import Derived.Test.YtjmbhhinmbgneaaGreatfO
namespace Go.Proofs.YtjmbhhinmbgneaaGreat
open Go.Sy
set_option maxHeartbeats 4000000

theorem fits_mk (c0 c1 c2 c3 c4 c5 c6 c7 c8 c9 c10 c11 c12 c13 c14 c15 c16 c17 c18 c19 c20 c21 c22 : Int) (n23 n24 n25 : Nat) (c26 c27 c28 c29 c30 c31 : Int) (b32 : Bool) (c33 c34 c35 : Int) (b36 : Bool) (c37 c38 c39 : Int) (b40 : Bool) (c41 c42 c43 : Int) (b44 : Bool) (c45 c46 c47 : Int) (b48 : Bool) (c49 c50 c51 : Int) (b52 : Bool) (c53 c54 c55 c56 : Int) (s0 s1 s2 s3 s4 s5 s6 s7 s8 s9 s10 s11 s12 s13 s14 s15 s16 s17 s18 s19 s20 s21 s22 : Int) (X Y Z : Nat → Int) (q : 1 ≤ c56 ∧ c56 ≤ 1125899906842624) (h : Fits c0 c1 c2 c3 c4 c5 c6 c7 c8 c9 c10 c11 c12 c13 c14 c15 c16 c17 c18 c19 c20 c21 c22 n23 n24 n25 c26 c27 c28 c29 c30 c31 b32 c33 c34 c35 b36 c37 c38 c39 b40 c41 c42 c43 b44 c45 c46 c47 b48 c49 c50 c51 b52 c53 c54 c55 c56 s0 s1 s2 s3 s4 s5 s6 s7 s8 s9 s10 s11 s12 s13 s14 s15 s16 s17 s18 s19 s20 s21 s22 X Y Z) : fitsB c0 c1 c2 c3 c4 c5 c6 c7 c8 c9 c10 c11 c12 c13 c14 c15 c16 c17 c18 c19 c20 c21 c22 n23 n24 n25 c26 c27 c28 c29 c30 c31 b32 c33 c34 c35 b36 c37 c38 c39 b40 c41 c42 c43 b44 c45 c46 c47 b48 c49 c50 c51 b52 c53 c54 c55 c56 s0 s1 s2 s3 s4 s5 s6 s7 s8 s9 s10 s11 s12 s13 s14 s15 s16 s17 s18 s19 s20 s21 s22 X Y Z = true := by
  unfold fitsB chkB
  have hd : 1 ≤ c55 ∧ c55 ≤ 31 := by
    have k := h.gd
    unfold gdB at k
    simp only [Bool.and_eq_true, decide_eq_true_eq] at k
    exact k.2
  have hr : (inR 0 (c55 - 1) s15 && (inR 0 (c55 - 1) s16 && (inR 0 (c55 - 1) s17 && (inR 0 (c55 - 1) s18 && (inR 0 (c55 - 1) s19 && (inR 0 (c55 - 1) s20 && true)))))) = true := by
    simp only [Bool.and_eq_true, inR_iff]
    exact ⟨h.run.1, h.run.2.1, h.run.2.2.1, h.run.2.2.2.1, h.run.2.2.2.2.1, h.run.2.2.2.2.2, trivial⟩
  have hr' : allR 0 (wi64 (c55 - 1)) (fun j => selI [s15, s16, s17, s18, s19, s20] j) 0 6 = true := by
    rw [wi64_id (x := c55 - 1) (by omega) (by omega)]
    exact hr
  have h9 : inR 0 10000 (bif decide (0 > s9) then 0 else s9) = true := by
    rcases h.anc with k | k
    · rw [decide_eq_true (show 0 > s9 by omega), cond_true]
      exact inR_iff.2 ⟨by omega, by omega⟩
    · rw [decide_eq_false (show ¬ 0 > s9 by omega), cond_false]
      exact inR_iff.2 k
  have h9' : decide (s9 < -1) = false := decide_eq_false (by rcases h.anc with k | k <;> omega)
  rw [h.way, h.cell, dc_t h.good, h.gd, h.ch, h.cyc, hr', h9, h9']
  have e : hlB c27 c28 c29 c30 = true := decide_eq_true h.hl
  rw [e, inR_iff.2 h.slew, inR_iff.2 q, inR_iff.2 h.soc, inR_iff.2 h.base, inR_iff.2 h.cb, inR_iff.2 h.ac, inR_iff.2 h.u1, inR_iff.2 h.u2, inR_iff.2 h.rest, inR_iff.2 h.cap, inR_iff.2 h.up, inR_iff.2 h.goods, inR_iff.2 h.bads]
  rfl

theorem quantum_of (c0 c1 c2 c3 c4 c5 c6 c7 c8 c9 c10 c11 c12 c13 c14 c15 c16 c17 c18 c19 c20 c21 c22 : Int) (n23 n24 n25 : Nat) (c26 c27 c28 c29 c30 c31 : Int) (b32 : Bool) (c33 c34 c35 : Int) (b36 : Bool) (c37 c38 c39 : Int) (b40 : Bool) (c41 c42 c43 : Int) (b44 : Bool) (c45 c46 c47 : Int) (b48 : Bool) (c49 c50 c51 : Int) (b52 : Bool) (c53 c54 c55 c56 : Int) (s0 s1 s2 s3 s4 s5 s6 s7 s8 s9 s10 s11 s12 s13 s14 s15 s16 s17 s18 s19 s20 s21 s22 : Int) (X Y Z : Nat → Int) (h : fitsB c0 c1 c2 c3 c4 c5 c6 c7 c8 c9 c10 c11 c12 c13 c14 c15 c16 c17 c18 c19 c20 c21 c22 n23 n24 n25 c26 c27 c28 c29 c30 c31 b32 c33 c34 c35 b36 c37 c38 c39 b40 c41 c42 c43 b44 c45 c46 c47 b48 c49 c50 c51 b52 c53 c54 c55 c56 s0 s1 s2 s3 s4 s5 s6 s7 s8 s9 s10 s11 s12 s13 s14 s15 s16 s17 s18 s19 s20 s21 s22 X Y Z = true) : 1 ≤ c56 ∧ c56 ≤ 1125899906842624 := by
  unfold fitsB chkB at h
  simp only [Bool.and_eq_true, inR_iff] at h
  exact h.1.2.2.2.2.2.2

theorem cnt_in {g : Int} (h : 0 ≤ g ∧ g ≤ 4294967295) : (0 ≤ (bif decide (4294967295 < wi64 (g + 1)) then (4294967295 : Int) else wi64 (g + 1)) ∧ (bif decide (4294967295 < wi64 (g + 1)) then (4294967295 : Int) else wi64 (g + 1)) ≤ 4294967295) ∧
    ((bif decide (4294967295 < wi64 (g + 1)) then (4294967295 : Int) else wi64 (g + 1)) = wi64 (g + 1) ∨ g = 4294967295) := by
  rw [wi64_id (x := g + 1) (by omega) (by omega)]
  by_cases k : 4294967295 < g + 1
  · rw [decide_eq_true k]
    exact ⟨⟨by show (0 : Int) ≤ 4294967295; omega, Int.le_refl _⟩, .inr (by omega)⟩
  · rw [decide_eq_false k]
    exact ⟨⟨by show 0 ≤ g + 1; omega, by show g + 1 ≤ 4294967295; omega⟩, .inl rfl⟩

theorem cnt_tail {g y : Int} (h : y = wi64 (g + 1) ∨ g = 4294967295) : (bif (y == wi64 (g + 1)) then some true else some (g == 4294967295)) = some true := by
  rcases h with rfl | rfl
  · rw [beq_self_eq_true]; rfl
  · cases (y == wi64 (4294967295 + 1)) <;> rfl

theorem anch_facts {le mo ga ch so ca an ac : Int} (h : le ≤ mo) (hc : le ≤ ca ∧ ca ≤ mo) :
    (le ≤ (PH.anch le mo ga ch so ca an ac).1 ∧ (PH.anch le mo ga ch so ca an ac).1 ≤ mo) ∧ ((PH.anch le mo ga ch so ca an ac).2.1 = an ∨ (PH.anch le mo ga ch so ca an ac).2.1 = so) ∧ ((PH.anch le mo ga ch so ca an ac).2.2 = ac ∨ (PH.anch le mo ga ch so ca an ac).2.2 = ch) := by
  unfold PH.anch
  split
  · split
    · exact ⟨hc, .inl rfl, .inl rfl⟩
    · split
      · exact ⟨btw_le h, .inr rfl, .inr rfl⟩
      · exact ⟨hc, .inr rfl, .inr rfl⟩
  · exact ⟨hc, .inr rfl, .inr rfl⟩

theorem cyc_keep {th su cy cap cap' c t : Int} (h : cycB th su cy cap = true) (hc : 1 ≤ cap' ∧ cap' ≤ 1125899906842624) (ht : 1 ≤ t) : cycB (cycT th su c t / 1000) (cycT th su c t % 1000) (cycN (cycT th su c t / 1000) cap cy) cap' = true := by
  have k := of_decide_eq_true h
  have hT : 0 ≤ cycT th su c t ∧ cycT th su c t ≤ 1125899906842624000 := by
    have h1 := Int.mul_nonneg (ab_nonneg c) (show 0 ≤ t by omega)
    unfold cycT btw
    split
    · omega
    · split <;> omega
  have h4 : 0 ≤ cycT th su c t / 1000 / 2 / cap := Int.ediv_nonneg (by omega) (by omega)
  have hn : 0 ≤ cycN (cycT th su c t / 1000) cap cy ∧ cycN (cycT th su c t / 1000) cap cy ≤ 2147483647 := by
    unfold cycN
    generalize cycT th su c t / 1000 / 2 / cap = q at *
    have e : (bif decide (2147483647 < q) then (2147483647 : Int) else q) ≤ 2147483647 ∧ 0 ≤ (bif decide (2147483647 < q) then (2147483647 : Int) else q) := by
      by_cases k : 2147483647 < q
      · rw [decide_eq_true k]; exact ⟨Int.le_refl _, by show (0 : Int) ≤ 2147483647; omega⟩
      · rw [decide_eq_false k]; exact ⟨by show q ≤ _; omega, h4⟩
    generalize (bif decide (2147483647 < q) then (2147483647 : Int) else q) = w at *
    by_cases k : w > cy
    · rw [decide_eq_true k]; exact ⟨e.2, e.1⟩
    · rw [decide_eq_false k]; exact ⟨by show 0 ≤ cy; omega, by show cy ≤ _; omega⟩
  exact decide_eq_true ⟨by omega, hc, by omega, hn, by omega⟩

theorem StateFits_ok (c0 c1 c2 c3 c4 c5 c6 c7 c8 c9 c10 c11 c12 c13 c14 c15 c16 c17 c18 c19 c20 c21 c22 : Int) (n23 n24 n25 : Nat) (c26 c27 c28 c29 c30 c31 : Int) (b32 : Bool) (c33 c34 c35 : Int) (b36 : Bool) (c37 c38 c39 : Int) (b40 : Bool) (c41 c42 c43 : Int) (b44 : Bool) (c45 c46 c47 : Int) (b48 : Bool) (c49 c50 c51 : Int) (b52 : Bool) (c53 c54 c55 c56 : Int) (s0 s1 s2 s3 s4 s5 s6 s7 s8 s9 s10 s11 s12 s13 s14 s15 s16 s17 s18 s19 s20 s21 s22 : Int) (x0 x1 x2 x3 : Int) (X Y Z : Nat → Int) : w_StateFits_g 20000 c0 c1 c2 c3 c4 c5 c6 c7 c8 c9 c10 c11 c12 c13 c14 c15 c16 c17 c18 c19 c20 c21 c22 n23 n24 n25 c26 c27 c28 c29 c30 c31 b32 c33 c34 c35 b36 c37 c38 c39 b40 c41 c42 c43 b44 c45 c46 c47 b48 c49 c50 c51 b52 c53 c54 c55 c56 s0 s1 s2 s3 s4 s5 s6 s7 s8 s9 s10 s11 s12 s13 s14 s15 s16 s17 s18 s19 s20 s21 s22 x0 x1 x2 x3 X Y Z = some true := by
  have d0 : ((0 : Int) != 0) = false := rfl
  have d1 : ((0 : Int) == 0) = true := rfl
  unfold w_StateFits_g
  obtain ⟨l, hl⟩ := light_cases c0 c1 c2 c3 c4 c5 c6 c7 c8 c9 c10 c11 c12 c13 c14 c15 c16 c17 c18 c19 c20 c21 c22 n23 n24 n25 c26 c27 c28 c29 c30 c31 b32 c33 c34 c35 b36 c37 c38 c39 b40 c41 c42 c43 b44 c45 c46 c47 b48 c49 c50 c51 b52 c53 c54 c55 c56 X Y Z
  rw [works_ok, hl]
  cases l with
  | false => rfl
  | true =>
    simp only [Option.bind_some, Bool.not_true, cond_false, fits_exact]
    cases hB : fitsB c0 c1 c2 c3 c4 c5 c6 c7 c8 c9 c10 c11 c12 c13 c14 c15 c16 c17 c18 c19 c20 c21 c22 n23 n24 n25 c26 c27 c28 c29 c30 c31 b32 c33 c34 c35 b36 c37 c38 c39 b40 c41 c42 c43 b44 c45 c46 c47 b48 c49 c50 c51 b52 c53 c54 c55 c56 s0 s1 s2 s3 s4 s5 s6 s7 s8 s9 s10 s11 s12 s13 s14 s15 s16 s17 s18 s19 s20 s21 s22 X Y Z with
    | false =>
      rw [step_bad c0 c1 c2 c3 c4 c5 c6 c7 c8 c9 c10 c11 c12 c13 c14 c15 c16 c17 c18 c19 c20 c21 c22 n23 n24 n25 c26 c27 c28 c29 c30 c31 b32 c33 c34 c35 b36 c37 c38 c39 b40 c41 c42 c43 b44 c45 c46 c47 b48 c49 c50 c51 b52 c53 c54 c55 c56 s0 s1 s2 s3 s4 s5 s6 s7 s8 s9 s10 s11 s12 s13 s14 s15 s16 s17 s18 s19 s20 s21 s22 x0 x1 x2 x3 X Y Z hB]
      rfl
    | true =>
      have hF := fits_of c0 c1 c2 c3 c4 c5 c6 c7 c8 c9 c10 c11 c12 c13 c14 c15 c16 c17 c18 c19 c20 c21 c22 n23 n24 n25 c26 c27 c28 c29 c30 c31 b32 c33 c34 c35 b36 c37 c38 c39 b40 c41 c42 c43 b44 c45 c46 c47 b48 c49 c50 c51 b52 c53 c54 c55 c56 X Y Z s0 s1 s2 s3 s4 s5 s6 s7 s8 s9 s10 s11 s12 s13 s14 s15 s16 s17 s18 s19 s20 s21 s22 hB
      have hq := quantum_of c0 c1 c2 c3 c4 c5 c6 c7 c8 c9 c10 c11 c12 c13 c14 c15 c16 c17 c18 c19 c20 c21 c22 n23 n24 n25 c26 c27 c28 c29 c30 c31 b32 c33 c34 c35 b36 c37 c38 c39 b40 c41 c42 c43 b44 c45 c46 c47 b48 c49 c50 c51 b52 c53 c54 c55 c56 s0 s1 s2 s3 s4 s5 s6 s7 s8 s9 s10 s11 s12 s13 s14 s15 s16 s17 s18 s19 s20 s21 s22 X Y Z hB
      have hrr : r13_Read_g 20000 c0 c1 c2 c3 c4 c5 c6 c7 c8 c9 c10 c11 c12 c13 c14 x0 x1 x2 x3 = sample_Read_g 20000 c0 c1 c2 c3 c4 c5 c6 c7 c8 c9 c10 c11 c12 c13 c14 x0 x1 x2 x3 := by rw [PA.rread_ok, PA.read_ok]
      rw [hrr]
      rcases read_cases (x0 := x0) (x1 := x1) (x2 := x2) (x3 := x3) (c0 := c0) (c1 := c1) (c2 := c2) (c3 := c3) (c4 := c4) (c5 := c5) (c6 := c6) (c7 := c7) (c8 := c8) (c9 := c9) (c10 := c10) (c11 := c11) (c12 := c12) (c13 := c13) (c14 := c14) with ⟨e, he, hread⟩ | ⟨r0, r1, r2, r3, hc, hv, ht, hread⟩
      · have hcn := cnt_in hF.bads
        have hN : fitsB c0 c1 c2 c3 c4 c5 c6 c7 c8 c9 c10 c11 c12 c13 c14 c15 c16 c17 c18 c19 c20 c21 c22 n23 n24 n25 c26 c27 c28 c29 c30 c31 b32 c33 c34 c35 b36 c37 c38 c39 b40 c41 c42 c43 b44 c45 c46 c47 b48 c49 c50 c51 b52 c53 c54 c55 c56 s0 s1 s2 s3 s4 s5 s6 s7 s8 s9 s10 s11 s12 s13 s14 s15 s16 s17 s18 s19 s20 s21 (bif decide (4294967295 < wi64 (s22 + 1)) then 4294967295 else wi64 (s22 + 1)) X Y Z = true := fits_mk c0 c1 c2 c3 c4 c5 c6 c7 c8 c9 c10 c11 c12 c13 c14 c15 c16 c17 c18 c19 c20 c21 c22 n23 n24 n25 c26 c27 c28 c29 c30 c31 b32 c33 c34 c35 b36 c37 c38 c39 b40 c41 c42 c43 b44 c45 c46 c47 b48 c49 c50 c51 b52 c53 c54 c55 c56 s0 s1 s2 s3 s4 s5 s6 s7 s8 s9 s10 s11 s12 s13 s14 s15 s16 s17 s18 s19 s20 s21 (bif decide (4294967295 < wi64 (s22 + 1)) then 4294967295 else wi64 (s22 + 1)) X Y Z hq
          ⟨hF.way, hF.cell, hF.good, hF.hl, hF.gd, hF.slew, hF.ch, hF.cyc, hF.soc, hF.base, hF.anc, hF.cb, hF.ac, hF.u1, hF.u2, hF.rest, hF.cap, hF.up, hF.run, hF.goods, hcn.1⟩
        rw [step_skip (h := hB) (he := he) (hread := hread) ..]
        simp only [Bool.not_true, cond_false, Option.bind_some, hN, hread, he, cond_true, beq_self_eq_true, Bool.and_self]
        exact cnt_tail hcn.2
      · have kh := hF.hl
        have kcap := hF.cap
        have kc := cellB_iff.1 hF.cell
        have hT := nT_in s0 s1 r0 r3
        have hch := ch_of hT.1 hT.2
        have hu1 := behind_in (r := c16) (tau := c18) (u := s5) (c := r0) (t := r3) hF.u1 kc.2.1.1.1 ht.1
        have hu2 := behind_in (r := c17) (tau := c19) (u := s6) (c := r0) (t := r3) hF.u2 kc.2.1.2.1.1 ht.1
        have hre := restV_in (ca := c20) (se := c21) (ti := c22) (re := s7) (c := r0) (u1 := (behindV c16 c18 s5 r0 r3)) (u2 := (behindV c17 c19 s6 r0 r3)) (t := r3) hF.rest ht
        have hcn := cnt_in hF.goods
        have w1 : 0 ≤ (shownV s3 s4 (nT s0 s1 r0 r3 / 1000) s8) ∧ (shownV s3 s4 (nT s0 s1 r0 r3 / 1000) s8) ≤ 10000 := bw (s3 + btw (-10000) 10000 (nr (10000 * ((nT s0 s1 r0 r3 / 1000) - s4)) s8))
        have hcc : -1125899906842624 ≤ (nT s0 s1 r0 r3 / 1000) ∧ (nT s0 s1 r0 r3 / 1000) ≤ 1125899906842624 := by omega
        cases hno : (restB c20 c21 c22 (restV c20 c21 c22 s7 r0 (behindV c16 c18 s5 r0 r3) (behindV c17 c19 s6 r0 r3) r3) && decide ((restV c20 c21 c22 s7 r0 (behindV c16 c18 s5 r0 r3) (behindV c17 c19 s6 r0 r3) r3) ≥ c22)) with
        | false =>
          obtain ⟨y, p0, p1, p2, p3, p4, p5, hy, hp, _, hst⟩ := step_free (hF := hF) (hread := hread) (hc := hc) (hv := hv) (ht := ht) (h := hB) (hno := hno) ..
          have hN : fitsB c0 c1 c2 c3 c4 c5 c6 c7 c8 c9 c10 c11 c12 c13 c14 c15 c16 c17 c18 c19 c20 c21 c22 n23 n24 n25 c26 c27 c28 c29 c30 c31 b32 c33 c34 c35 b36 c37 c38 c39 b40 c41 c42 c43 b44 c45 c46 c47 b48 c49 c50 c51 b52 c53 c54 c55 c56 (nT s0 s1 r0 r3 / 1000) (nT s0 s1 r0 r3 % 1000) (shownV s3 s4 (nT s0 s1 r0 r3 / 1000) s8) s3 s4 (behindV c16 c18 s5 r0 r3) (behindV c17 c19 s6 r0 r3) (restV c20 c21 c22 s7 r0 (behindV c16 c18 s5 r0 r3) (behindV c17 c19 s6 r0 r3) r3) s8 s9 s10 (cycT s11 s12 r0 r3 / 1000) (cycT s11 s12 r0 r3 % 1000) (cycN (cycT s11 s12 r0 r3 / 1000) s8 s13) y p0 p1 p2 p3 p4 p5 (bif decide (4294967295 < wi64 (s21 + 1)) then 4294967295 else wi64 (s21 + 1)) s22 X Y Z = true := fits_mk c0 c1 c2 c3 c4 c5 c6 c7 c8 c9 c10 c11 c12 c13 c14 c15 c16 c17 c18 c19 c20 c21 c22 n23 n24 n25 c26 c27 c28 c29 c30 c31 b32 c33 c34 c35 b36 c37 c38 c39 b40 c41 c42 c43 b44 c45 c46 c47 b48 c49 c50 c51 b52 c53 c54 c55 c56 (nT s0 s1 r0 r3 / 1000) (nT s0 s1 r0 r3 % 1000) (shownV s3 s4 (nT s0 s1 r0 r3 / 1000) s8) s3 s4 (behindV c16 c18 s5 r0 r3) (behindV c17 c19 s6 r0 r3) (restV c20 c21 c22 s7 r0 (behindV c16 c18 s5 r0 r3) (behindV c17 c19 s6 r0 r3) r3) s8 s9 s10 (cycT s11 s12 r0 r3 / 1000) (cycT s11 s12 r0 r3 % 1000) (cycN (cycT s11 s12 r0 r3 / 1000) s8 s13) y p0 p1 p2 p3 p4 p5 (bif decide (4294967295 < wi64 (s21 + 1)) then 4294967295 else wi64 (s21 + 1)) s22 X Y Z hq
            ⟨hF.way, hF.cell, hF.good, hF.hl, hF.gd, hF.slew, hch, cyc_keep hF.cyc ⟨by omega, by omega⟩ ht.1, w1, hF.base, hF.anc, hF.cb, hF.ac, hu1, hu2, hre, hF.cap, hy, hp, hcn.1, hF.bads⟩
          rw [hst]
          simp only [Bool.not_true, cond_false, Option.bind_some, hN, hread, d0, d1, cond_true, beq_self_eq_true]
          exact cnt_tail hcn.2
        | true =>
          obtain ⟨y, p0, p1, p2, p3, p4, p5, hy, hp, _, _, hst⟩ := step_rest (hF := hF) (hread := hread) (hc := hc) (hv := hv) (ht := ht) (h := hB) (hno := hno) ..
          have hso : 0 ≤ (tw (shownV s3 s4 (nT s0 s1 r0 r3 / 1000) s8) (toldV n23 n24 X Y Z (restedV c15 (behindV c16 c18 s5 r0 r3) (behindV c17 c19 s6 r0 r3) r0 r1) r2) c26) ∧ (tw (shownV s3 s4 (nT s0 s1 r0 r3 / 1000) s8) (toldV n23 n24 X Y Z (restedV c15 (behindV c16 c18 s5 r0 r3) (behindV c17 c19 s6 r0 r3) r0 r1) r2) c26) ≤ 10000 := tw_in ⟨bw _, bw _, hF.slew⟩
          have han := anch_facts (le := c28) (mo := c29) (ga := c30) (ch := (nT s0 s1 r0 r3 / 1000)) (so := (tw (shownV s3 s4 (nT s0 s1 r0 r3 / 1000) s8) (toldV n23 n24 X Y Z (restedV c15 (behindV c16 c18 s5 r0 r3) (behindV c17 c19 s6 r0 r3) r0 r1) r2) c26)) (ca := s8) (an := s9) (ac := s10) kh.2.1.2 kcap
          have hN : fitsB c0 c1 c2 c3 c4 c5 c6 c7 c8 c9 c10 c11 c12 c13 c14 c15 c16 c17 c18 c19 c20 c21 c22 n23 n24 n25 c26 c27 c28 c29 c30 c31 b32 c33 c34 c35 b36 c37 c38 c39 b40 c41 c42 c43 b44 c45 c46 c47 b48 c49 c50 c51 b52 c53 c54 c55 c56 (nT s0 s1 r0 r3 / 1000) (nT s0 s1 r0 r3 % 1000) (tw (shownV s3 s4 (nT s0 s1 r0 r3 / 1000) s8) (toldV n23 n24 X Y Z (restedV c15 (behindV c16 c18 s5 r0 r3) (behindV c17 c19 s6 r0 r3) r0 r1) r2) c26) (tw (shownV s3 s4 (nT s0 s1 r0 r3 / 1000) s8) (toldV n23 n24 X Y Z (restedV c15 (behindV c16 c18 s5 r0 r3) (behindV c17 c19 s6 r0 r3) r0 r1) r2) c26) (nT s0 s1 r0 r3 / 1000) (behindV c16 c18 s5 r0 r3) (behindV c17 c19 s6 r0 r3) (restV c20 c21 c22 s7 r0 (behindV c16 c18 s5 r0 r3) (behindV c17 c19 s6 r0 r3) r3) (PH.anch c28 c29 c30 (nT s0 s1 r0 r3 / 1000) (tw (shownV s3 s4 (nT s0 s1 r0 r3 / 1000) s8) (toldV n23 n24 X Y Z (restedV c15 (behindV c16 c18 s5 r0 r3) (behindV c17 c19 s6 r0 r3) r0 r1) r2) c26) s8 s9 s10).1 (PH.anch c28 c29 c30 (nT s0 s1 r0 r3 / 1000) (tw (shownV s3 s4 (nT s0 s1 r0 r3 / 1000) s8) (toldV n23 n24 X Y Z (restedV c15 (behindV c16 c18 s5 r0 r3) (behindV c17 c19 s6 r0 r3) r0 r1) r2) c26) s8 s9 s10).2.1 (PH.anch c28 c29 c30 (nT s0 s1 r0 r3 / 1000) (tw (shownV s3 s4 (nT s0 s1 r0 r3 / 1000) s8) (toldV n23 n24 X Y Z (restedV c15 (behindV c16 c18 s5 r0 r3) (behindV c17 c19 s6 r0 r3) r0 r1) r2) c26) s8 s9 s10).2.2 (cycT s11 s12 r0 r3 / 1000) (cycT s11 s12 r0 r3 % 1000) (cycN (cycT s11 s12 r0 r3 / 1000) s8 s13) y p0 p1 p2 p3 p4 p5 (bif decide (4294967295 < wi64 (s21 + 1)) then 4294967295 else wi64 (s21 + 1)) s22 X Y Z = true := fits_mk c0 c1 c2 c3 c4 c5 c6 c7 c8 c9 c10 c11 c12 c13 c14 c15 c16 c17 c18 c19 c20 c21 c22 n23 n24 n25 c26 c27 c28 c29 c30 c31 b32 c33 c34 c35 b36 c37 c38 c39 b40 c41 c42 c43 b44 c45 c46 c47 b48 c49 c50 c51 b52 c53 c54 c55 c56 (nT s0 s1 r0 r3 / 1000) (nT s0 s1 r0 r3 % 1000) (tw (shownV s3 s4 (nT s0 s1 r0 r3 / 1000) s8) (toldV n23 n24 X Y Z (restedV c15 (behindV c16 c18 s5 r0 r3) (behindV c17 c19 s6 r0 r3) r0 r1) r2) c26) (tw (shownV s3 s4 (nT s0 s1 r0 r3 / 1000) s8) (toldV n23 n24 X Y Z (restedV c15 (behindV c16 c18 s5 r0 r3) (behindV c17 c19 s6 r0 r3) r0 r1) r2) c26) (nT s0 s1 r0 r3 / 1000) (behindV c16 c18 s5 r0 r3) (behindV c17 c19 s6 r0 r3) (restV c20 c21 c22 s7 r0 (behindV c16 c18 s5 r0 r3) (behindV c17 c19 s6 r0 r3) r3) (PH.anch c28 c29 c30 (nT s0 s1 r0 r3 / 1000) (tw (shownV s3 s4 (nT s0 s1 r0 r3 / 1000) s8) (toldV n23 n24 X Y Z (restedV c15 (behindV c16 c18 s5 r0 r3) (behindV c17 c19 s6 r0 r3) r0 r1) r2) c26) s8 s9 s10).1 (PH.anch c28 c29 c30 (nT s0 s1 r0 r3 / 1000) (tw (shownV s3 s4 (nT s0 s1 r0 r3 / 1000) s8) (toldV n23 n24 X Y Z (restedV c15 (behindV c16 c18 s5 r0 r3) (behindV c17 c19 s6 r0 r3) r0 r1) r2) c26) s8 s9 s10).2.1 (PH.anch c28 c29 c30 (nT s0 s1 r0 r3 / 1000) (tw (shownV s3 s4 (nT s0 s1 r0 r3 / 1000) s8) (toldV n23 n24 X Y Z (restedV c15 (behindV c16 c18 s5 r0 r3) (behindV c17 c19 s6 r0 r3) r0 r1) r2) c26) s8 s9 s10).2.2 (cycT s11 s12 r0 r3 / 1000) (cycT s11 s12 r0 r3 % 1000) (cycN (cycT s11 s12 r0 r3 / 1000) s8 s13) y p0 p1 p2 p3 p4 p5 (bif decide (4294967295 < wi64 (s21 + 1)) then 4294967295 else wi64 (s21 + 1)) s22 X Y Z hq
            ⟨hF.way, hF.cell, hF.good, hF.hl, hF.gd, hF.slew, hch, cyc_keep hF.cyc ⟨by have := han.1; omega, by have := han.1; omega⟩ ht.1, hso, hso, by rcases han.2.1 with k | k <;> rw [k]; exact hF.anc; exact .inr hso, hcc,
              by rcases han.2.2 with k | k <;> rw [k]; exact hF.ac; exact hcc, hu1, hu2, hre, han.1, hy, hp, hcn.1, hF.bads⟩
          rw [hst]
          simp only [Bool.not_true, cond_false, Option.bind_some, hN, hread, d0, d1, cond_true, beq_self_eq_true]
          exact cnt_tail hcn.2
end Go.Proofs.YtjmbhhinmbgneaaGreat
