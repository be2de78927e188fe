/-
  Both steps, the program's and the document's, are one; StateSteps.
-/
import Derived.Test.YtjmbhhinmbgneaaGreatsDB
import Derived.Test.YtjmbhhinmbgneaaGreatsV
namespace Go.Proofs.YtjmbhhinmbgneaaGreat
open Go.Sy
set_option maxHeartbeats 4000000

section
variable (c0 c1 c2 c3 c4 c5 c6 c7 c8 c9 c10 c11 c12 c13 c14 c15 c16 c17 c18 c19 c20 c21 c22 : Int) (n23 n24 n25 : Nat) (c26 c27 c28 c29 c30 c31 : Int) (b32 : Bool) (c33 c34 c35 : Int) (b36 : Bool) (c37 c38 c39 : Int) (b40 : Bool) (c41 c42 c43 : Int) (b44 : Bool) (c45 c46 c47 : Int) (b48 : Bool) (c49 c50 c51 : Int) (b52 : Bool) (c53 c54 c55 c56 : Int) (s0 s1 s2 s3 s4 s5 s6 s7 s8 s9 s10 s11 s12 s13 s14 s15 s16 s17 s18 s19 s20 s21 s22 : Int) (x0 x1 x2 x3 : Int) (X Y Z : Nat → Int)

theorem step_same : ∃ q, state_Step_g 20000 c0 c1 c2 c3 c4 c5 c6 c7 c8 c9 c10 c11 c12 c13 c14 c15 c16 c17 c18 c19 c20 c21 c22 n23 n24 n25 c26 c27 c28 c29 c30 c31 b32 c33 c34 c35 b36 c37 c38 c39 b40 c41 c42 c43 b44 c45 c46 c47 b48 c49 c50 c51 b52 c53 c54 c55 c56 s0 s1 s2 s3 s4 s5 s6 s7 s8 s9 s10 s11 s12 s13 s14 s15 s16 s17 s18 s19 s20 s21 s22 x0 x1 x2 x3 X Y Z = some q ∧ r21_Step_g 20000 c0 c1 c2 c3 c4 c5 c6 c7 c8 c9 c10 c11 c12 c13 c14 c15 c16 c17 c18 c19 c20 c21 c22 n23 n24 n25 c26 c27 c28 c29 c30 c31 b32 c33 c34 c35 b36 c37 c38 c39 b40 c41 c42 c43 b44 c45 c46 c47 b48 c49 c50 c51 b52 c53 c54 c55 c56 s0 s1 s2 s3 s4 s5 s6 s7 s8 s9 s10 s11 s12 s13 s14 s15 s16 s17 s18 s19 s20 s21 s22 x0 x1 x2 x3 X Y Z = some q := by
  have d0 : ((0 : Int) != 0) = false := rfl
  have hrr : r13_Read_g 20000 c0 c1 c2 c3 c4 c5 c6 c7 c8 c9 c10 c11 c12 c13 c14 x0 x1 x2 x3 = sample_Read_g 20000 c0 c1 c2 c3 c4 c5 c6 c7 c8 c9 c10 c11 c12 c13 c14 x0 x1 x2 x3 := by rw [PA.rread_ok, PA.read_ok]
  cases hB : fitsB c0 c1 c2 c3 c4 c5 c6 c7 c8 c9 c10 c11 c12 c13 c14 c15 c16 c17 c18 c19 c20 c21 c22 n23 n24 n25 c26 c27 c28 c29 c30 c31 b32 c33 c34 c35 b36 c37 c38 c39 b40 c41 c42 c43 b44 c45 c46 c47 b48 c49 c50 c51 b52 c53 c54 c55 c56 s0 s1 s2 s3 s4 s5 s6 s7 s8 s9 s10 s11 s12 s13 s14 s15 s16 s17 s18 s19 s20 s21 s22 X Y Z with
  | false =>
    rw [step_bad (h := hB)]
    refine ⟨_, rfl, ?_⟩
    unfold r21_Step_g
    rw [dfits_exact, hB]
    rfl
  | true =>
    have hF := fits_of c0 c1 c2 c3 c4 c5 c6 c7 c8 c9 c10 c11 c12 c13 c14 c15 c16 c17 c18 c19 c20 c21 c22 n23 n24 n25 c26 c27 c28 c29 c30 c31 b32 c33 c34 c35 b36 c37 c38 c39 b40 c41 c42 c43 b44 c45 c46 c47 b48 c49 c50 c51 b52 c53 c54 c55 c56 X Y Z s0 s1 s2 s3 s4 s5 s6 s7 s8 s9 s10 s11 s12 s13 s14 s15 s16 s17 s18 s19 s20 s21 s22 hB
    rcases read_cases (x0 := x0) (x1 := x1) (x2 := x2) (x3 := x3) (c0 := c0) (c1 := c1) (c2 := c2) (c3 := c3) (c4 := c4) (c5 := c5) (c6 := c6) (c7 := c7) (c8 := c8) (c9 := c9) (c10 := c10) (c11 := c11) (c12 := c12) (c13 := c13) (c14 := c14) with ⟨e, he, hread⟩ | ⟨r0, r1, r2, r3, hc, hv, ht, hread⟩
    · rw [step_skip (h := hB) (he := he) (hread := hread)]
      refine ⟨_, rfl, ?_⟩
      unfold r21_Step_g r21_most_g
      rw [dfits_exact, hB, hrr, hread]
      simp only [Option.bind_some, Bool.not_true, cond_false, he, cond_true]
    · have kc := cellB_iff.1 hF.cell
      have kh := hF.hl
      have kcap := hF.cap
      have hT := nT_in s0 s1 r0 r3
      have hu1 := behind_in (r := c16) (tau := c18) (u := s5) (c := r0) (t := r3) hF.u1 kc.2.1.1.1 ht.1
      have hu2 := behind_in (r := c17) (tau := c19) (u := s6) (c := r0) (t := r3) hF.u2 kc.2.1.2.1.1 ht.1
      have hre := restV_in (ca := c20) (se := c21) (ti := c22) (re := s7) (c := r0) (u1 := (behindV c16 c18 s5 r0 r3)) (u2 := (behindV c17 c19 s6 r0 r3)) (t := r3) hF.rest ht
      have hrb0 : restB c20 c21 c22 s7 = true := restB_iff.2 ⟨kc.2.2, by omega, hF.rest⟩
      have hrb : restB c20 c21 c22 (restV c20 c21 c22 s7 r0 (behindV c16 c18 s5 r0 r3) (behindV c17 c19 s6 r0 r3) r3) = true := restB_iff.2 ⟨kc.2.2, by omega, hre⟩
      have h8 : 1 ≤ s8 ∧ s8 ≤ 1125899906842624 := by omega
      have h0 : -1125899906842624 ≤ (nT s0 s1 r0 r3 / 1000) ∧ (nT s0 s1 r0 r3 / 1000) ≤ 1125899906842624 := by omega
      cases hno : (restB c20 c21 c22 (restV c20 c21 c22 s7 r0 (behindV c16 c18 s5 r0 r3) (behindV c17 c19 s6 r0 r3) r3) && decide ((restV c20 c21 c22 s7 r0 (behindV c16 c18 s5 r0 r3) (behindV c17 c19 s6 r0 r3) r3) ≥ c22)) with
      | false =>
        obtain ⟨y, p0, p1, p2, p3, p4, p5, hy, hpp, hgs, hst⟩ := step_free (hF := hF) (hread := hread) (hc := hc) (hv := hv) (ht := ht) (h := hB) (hno := hno) ..
        rw [hst]
        refine ⟨_, rfl, ?_⟩
        rw [hrb, Bool.true_and] at hno
        unfold r21_Step_g r21_most_g
        rw [dfits_exact, hB, hrr, hread]
        simp only [Option.bind_some, Bool.not_true, cond_false, d0]
        rw [dadd_ok hF.ch hc ht]
        simp only [Option.bind_some]
        rw [dcstep_ok hF.cyc hc ht]
        simp only [Option.bind_some]
        rw [dstep_ok hF.cell hF.u1 hF.u2 hc ht]
        simp only [Option.bind_some]
        rw [drstep_ok (hs := hrb0) (hc := hc) (k1 := hu1) (k2 := hu2) (ht := ht)]
        simp only [Option.bind_some]
        rw [dgo_ok (h3 := hF.base) (h8 := h8) (h4 := hF.cb) (h0 := h0)]
        simp only [Option.bind_some]
        rw [dis_ok (hs := hrb), hno]
        simp only [Option.bind_some, cond_false]
        rw [PG.rstep_same s15 s16 s17 s18 s19 s20 r0 r1 r2 (shownV s3 s4 (nT s0 s1 r0 r3 / 1000) s8) c55 s14 c31 b32 c33 c34 c35 b36 c37 c38 c39 b40 c41 c42 c43 b44 c45 c46 c47 b48 c49 c50 c51 b52 c53 c54 hF.gd hF.up hF.run.1 hF.run.2.1 hF.run.2.2.1 hF.run.2.2.2.1 hF.run.2.2.2.2.1 hF.run.2.2.2.2.2, hgs]
        rfl
      | true =>
        obtain ⟨y, p0, p1, p2, p3, p4, p5, hy, hpp, hgs, hR, hst⟩ := step_rest (hF := hF) (hread := hread) (hc := hc) (hv := hv) (ht := ht) (h := hB) (hno := hno) ..
        rw [hst]
        refine ⟨_, rfl, ?_⟩
        rw [hrb, Bool.true_and] at hno
        have hok : okC (shownV s3 s4 (nT s0 s1 r0 r3 / 1000) s8) (toldV n23 n24 X Y Z (restedV c15 (behindV c16 c18 s5 r0 r3) (behindV c17 c19 s6 r0 r3) r0 r1) r2) c26 := ⟨bw _, bw _, hF.slew⟩
        unfold r21_Step_g r21_most_g
        rw [dfits_exact, hB, hrr, hread]
        simp only [Option.bind_some, Bool.not_true, cond_false, d0]
        rw [dadd_ok hF.ch hc ht]
        simp only [Option.bind_some]
        rw [dcstep_ok hF.cyc hc ht]
        simp only [Option.bind_some]
        rw [dstep_ok hF.cell hF.u1 hF.u2 hc ht]
        simp only [Option.bind_some]
        rw [drstep_ok (hs := hrb0) (hc := hc) (k1 := hu1) (k2 := hu2) (ht := ht)]
        simp only [Option.bind_some]
        rw [dgo_ok (h3 := hF.base) (h8 := h8) (h4 := hF.cb) (h0 := h0)]
        simp only [Option.bind_some]
        rw [dis_ok (hs := hrb), hno]
        simp only [Option.bind_some, cond_true]
        rw [drested_ok hF.cell hu1 hu2 hc hv]
        simp only [Option.bind_some]
        rw [dtold_ok hF.good]
        simp only [Option.bind_some]
        rw [drest_ok (h3 := hF.base) (h8 := h8) (h4 := hF.cb) (h0 := h0) (hok := hok)]
        simp only [Option.bind_some]
        rw [danchor_ok (hR := hR)]
        simp only [Option.bind_some]
        rw [PG.rstep_same s15 s16 s17 s18 s19 s20 r0 r1 r2 (tw (shownV s3 s4 (nT s0 s1 r0 r3 / 1000) s8) (toldV n23 n24 X Y Z (restedV c15 (behindV c16 c18 s5 r0 r3) (behindV c17 c19 s6 r0 r3) r0 r1) r2) c26) c55 s14 c31 b32 c33 c34 c35 b36 c37 c38 c39 b40 c41 c42 c43 b44 c45 c46 c47 b48 c49 c50 c51 b52 c53 c54 hF.gd hF.up hF.run.1 hF.run.2.1 hF.run.2.2.1 hF.run.2.2.2.1 hF.run.2.2.2.2.1 hF.run.2.2.2.2.2, hgs]
        rfl

theorem news_same : ∃ q, state_New_g 20000 c0 c1 c2 c3 c4 c5 c6 c7 c8 c9 c10 c11 c12 c13 c14 c15 c16 c17 c18 c19 c20 c21 c22 n23 n24 n25 c26 c27 c28 c29 c30 c31 b32 c33 c34 c35 b36 c37 c38 c39 b40 c41 c42 c43 b44 c45 c46 c47 b48 c49 c50 c51 b52 c53 c54 c55 c56 X Y Z = some q ∧ r21_New_g 20000 c0 c1 c2 c3 c4 c5 c6 c7 c8 c9 c10 c11 c12 c13 c14 c15 c16 c17 c18 c19 c20 c21 c22 n23 n24 n25 c26 c27 c28 c29 c30 c31 b32 c33 c34 c35 b36 c37 c38 c39 b40 c41 c42 c43 b44 c45 c46 c47 b48 c49 c50 c51 b52 c53 c54 c55 c56 X Y Z = some q := by
  unfold state_New_g r21_New_g
  rw [check_exact, dcheck_exact]
  cases chkB c0 c1 c2 c3 c4 c5 c6 c7 c8 c9 c10 c11 c12 c13 c14 c15 c16 c17 c18 c19 c20 c21 c22 n23 n24 n25 c26 c27 c28 c29 c30 c31 b32 c33 c34 c35 b36 c37 c38 c39 b40 c41 c42 c43 b44 c45 c46 c47 b48 c49 c50 c51 b52 c53 c54 c55 c56 X Y Z <;> exact ⟨_, rfl, rfl⟩

theorem StateSteps_ok : w_StateSteps_g 20000 c0 c1 c2 c3 c4 c5 c6 c7 c8 c9 c10 c11 c12 c13 c14 c15 c16 c17 c18 c19 c20 c21 c22 n23 n24 n25 c26 c27 c28 c29 c30 c31 b32 c33 c34 c35 b36 c37 c38 c39 b40 c41 c42 c43 b44 c45 c46 c47 b48 c49 c50 c51 b52 c53 c54 c55 c56 s0 s1 s2 s3 s4 s5 s6 s7 s8 s9 s10 s11 s12 s13 s14 s15 s16 s17 s18 s19 s20 s21 s22 x0 x1 x2 x3 X Y Z = some true := by
  unfold w_StateSteps_g
  obtain ⟨l, hl⟩ := light_cases c0 c1 c2 c3 c4 c5 c6 c7 c8 c9 c10 c11 c12 c13 c14 c15 c16 c17 c18 c19 c20 c21 c22 n23 n24 n25 c26 c27 c28 c29 c30 c31 b32 c33 c34 c35 b36 c37 c38 c39 b40 c41 c42 c43 b44 c45 c46 c47 b48 c49 c50 c51 b52 c53 c54 c55 c56 X Y Z
  obtain ⟨q, h1, h2⟩ := step_same c0 c1 c2 c3 c4 c5 c6 c7 c8 c9 c10 c11 c12 c13 c14 c15 c16 c17 c18 c19 c20 c21 c22 n23 n24 n25 c26 c27 c28 c29 c30 c31 b32 c33 c34 c35 b36 c37 c38 c39 b40 c41 c42 c43 b44 c45 c46 c47 b48 c49 c50 c51 b52 c53 c54 c55 c56 s0 s1 s2 s3 s4 s5 s6 s7 s8 s9 s10 s11 s12 s13 s14 s15 s16 s17 s18 s19 s20 s21 s22 x0 x1 x2 x3 X Y Z
  obtain ⟨p, k1, k2⟩ := news_same c0 c1 c2 c3 c4 c5 c6 c7 c8 c9 c10 c11 c12 c13 c14 c15 c16 c17 c18 c19 c20 c21 c22 n23 n24 n25 c26 c27 c28 c29 c30 c31 b32 c33 c34 c35 b36 c37 c38 c39 b40 c41 c42 c43 b44 c45 c46 c47 b48 c49 c50 c51 b52 c53 c54 c55 c56 X Y Z
  rw [hl, works_ok, check_exact, dcheck_exact, fits_exact, dfits_exact, k1, k2, h1, h2]
  cases l with
  | false => rfl
  | true => simp only [Option.bind_some, Bool.not_true, cond_false, beq_self_eq_true, Bool.and_self, cond_true]
end
end Go.Proofs.YtjmbhhinmbgneaaGreat
