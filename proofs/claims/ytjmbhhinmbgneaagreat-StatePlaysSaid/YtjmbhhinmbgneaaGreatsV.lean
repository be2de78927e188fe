/-
  A state's step, the whole of it.
-/
import Derived.Test.YtjmbhhinmbgneaaGreatsL
import Derived.Test.YtjmbhhinmbgneaaGreatsH
import Derived.Test.YtjmbhhinmbgneaaGreatsM
namespace Go.Proofs.YtjmbhhinmbgneaaGreat
open Go.Sy
set_option maxHeartbeats 4000000

theorem works_ok : w_works_g 20000 = some (true, ()) := by kernel_rfl

/-- A relaxation lies between what it was and what is driven. -/
theorem behind_in {r tau u c t : Int} (hu : -2147483648 ≤ u ∧ u ≤ 2147483648) (ht : 1 ≤ tau) (hk : 1 ≤ t) : -2147483648 ≤ behindV r tau u c t ∧ behindV r tau u c t ≤ 2147483648 := by
  have hd := U_in (nr (c * r) 1000)
  have hd' : -2147483648 ≤ driveV c r ∧ driveV c r ≤ 2147483648 := hd
  have k := nr_part (t := t) (d := tau + t) (D := driveV c r - u) (by omega) (by omega) (by omega)
  unfold behindV
  rw [Int.mul_comm (driveV c r - u) t]
  rcases Int.le_total 0 (driveV c r - u) with h | h
  · have := k.1 h; omega
  · have := k.2 h; omega

theorem nT_in (s0 s1 r0 r3 : Int) : -1125899906842624000 ≤ nT s0 s1 r0 r3 ∧ nT s0 s1 r0 r3 ≤ 1125899906842624000 := btw_le (by omega)

section
variable (c0 c1 c2 c3 c4 c5 c6 c7 c8 c9 c10 c11 c12 c13 c14 c15 c16 c17 c18 c19 c20 c21 c22 : Int) (n23 n24 n25 : Nat) (c26 c27 c28 c29 c30 c31 : Int) (b32 : Bool) (c33 c34 c35 : Int) (b36 : Bool) (c37 c38 c39 : Int) (b40 : Bool) (c41 c42 c43 : Int) (b44 : Bool) (c45 c46 c47 : Int) (b48 : Bool) (c49 c50 c51 : Int) (b52 : Bool) (c53 c54 c55 c56 : Int) (s0 s1 s2 s3 s4 s5 s6 s7 s8 s9 s10 s11 s12 s13 s14 s15 s16 s17 s18 s19 s20 s21 s22 : Int) (x0 x1 x2 x3 r0 r1 r2 r3 : Int) (X Y Z : Nat → Int)

theorem step_bad (h : fitsB c0 c1 c2 c3 c4 c5 c6 c7 c8 c9 c10 c11 c12 c13 c14 c15 c16 c17 c18 c19 c20 c21 c22 n23 n24 n25 c26 c27 c28 c29 c30 c31 b32 c33 c34 c35 b36 c37 c38 c39 b40 c41 c42 c43 b44 c45 c46 c47 b48 c49 c50 c51 b52 c53 c54 c55 c56 s0 s1 s2 s3 s4 s5 s6 s7 s8 s9 s10 s11 s12 s13 s14 s15 s16 s17 s18 s19 s20 s21 s22 X Y Z = false) : state_Step_g 20000 c0 c1 c2 c3 c4 c5 c6 c7 c8 c9 c10 c11 c12 c13 c14 c15 c16 c17 c18 c19 c20 c21 c22 n23 n24 n25 c26 c27 c28 c29 c30 c31 b32 c33 c34 c35 b36 c37 c38 c39 b40 c41 c42 c43 b44 c45 c46 c47 b48 c49 c50 c51 b52 c53 c54 c55 c56 s0 s1 s2 s3 s4 s5 s6 s7 s8 s9 s10 s11 s12 s13 s14 s15 s16 s17 s18 s19 s20 s21 s22 x0 x1 x2 x3 X Y Z = some (0, 0, 0, 0, 0, 0, 0, 0, 0, 0, 0, 0, 0, 0, 0, 0, 0, 0, 0, 0, 0, 0, 0, 210, ()) := by
  unfold state_Step_g
  rw [fits_exact, h]
  rfl

theorem step_skip (h : fitsB c0 c1 c2 c3 c4 c5 c6 c7 c8 c9 c10 c11 c12 c13 c14 c15 c16 c17 c18 c19 c20 c21 c22 n23 n24 n25 c26 c27 c28 c29 c30 c31 b32 c33 c34 c35 b36 c37 c38 c39 b40 c41 c42 c43 b44 c45 c46 c47 b48 c49 c50 c51 b52 c53 c54 c55 c56 s0 s1 s2 s3 s4 s5 s6 s7 s8 s9 s10 s11 s12 s13 s14 s15 s16 s17 s18 s19 s20 s21 s22 X Y Z = true) {e : Int} (he : (e != 0) = true) (hread : sample_Read_g 20000 c0 c1 c2 c3 c4 c5 c6 c7 c8 c9 c10 c11 c12 c13 c14 x0 x1 x2 x3 = some (0, 0, 0, 0, e, ())) :
    state_Step_g 20000 c0 c1 c2 c3 c4 c5 c6 c7 c8 c9 c10 c11 c12 c13 c14 c15 c16 c17 c18 c19 c20 c21 c22 n23 n24 n25 c26 c27 c28 c29 c30 c31 b32 c33 c34 c35 b36 c37 c38 c39 b40 c41 c42 c43 b44 c45 c46 c47 b48 c49 c50 c51 b52 c53 c54 c55 c56 s0 s1 s2 s3 s4 s5 s6 s7 s8 s9 s10 s11 s12 s13 s14 s15 s16 s17 s18 s19 s20 s21 s22 x0 x1 x2 x3 X Y Z = some (s0, s1, s2, s3, s4, s5, s6, s7, s8, s9, s10, s11, s12, s13, s14, s15, s16, s17, s18, s19, s20, s21, (bif decide (4294967295 < wi64 (s22 + 1)) then 4294967295 else wi64 (s22 + 1)), 130, ()) := by
  unfold state_Step_g
  rw [fits_exact, h, hread]
  simp only [Option.bind_some, Bool.not_true, cond_false, he, cond_true]

theorem step_free (hF : Fits c0 c1 c2 c3 c4 c5 c6 c7 c8 c9 c10 c11 c12 c13 c14 c15 c16 c17 c18 c19 c20 c21 c22 n23 n24 n25 c26 c27 c28 c29 c30 c31 b32 c33 c34 c35 b36 c37 c38 c39 b40 c41 c42 c43 b44 c45 c46 c47 b48 c49 c50 c51 b52 c53 c54 c55 c56 s0 s1 s2 s3 s4 s5 s6 s7 s8 s9 s10 s11 s12 s13 s14 s15 s16 s17 s18 s19 s20 s21 s22 X Y Z) (hread : sample_Read_g 20000 c0 c1 c2 c3 c4 c5 c6 c7 c8 c9 c10 c11 c12 c13 c14 x0 x1 x2 x3 = some (r0, r1, r2, r3, 0, ())) (hc : -2147483648 ≤ r0 ∧ r0 ≤ 2147483648) (hv : -2147483648 ≤ r1 ∧ r1 ≤ 2147483648) (ht : 1 ≤ r3 ∧ r3 ≤ 60000) (h : fitsB c0 c1 c2 c3 c4 c5 c6 c7 c8 c9 c10 c11 c12 c13 c14 c15 c16 c17 c18 c19 c20 c21 c22 n23 n24 n25 c26 c27 c28 c29 c30 c31 b32 c33 c34 c35 b36 c37 c38 c39 b40 c41 c42 c43 b44 c45 c46 c47 b48 c49 c50 c51 b52 c53 c54 c55 c56 s0 s1 s2 s3 s4 s5 s6 s7 s8 s9 s10 s11 s12 s13 s14 s15 s16 s17 s18 s19 s20 s21 s22 X Y Z = true) (hno : (restB c20 c21 c22 (restV c20 c21 c22 s7 r0 (behindV c16 c18 s5 r0 r3) (behindV c17 c19 s6 r0 r3) r3) && decide ((restV c20 c21 c22 s7 r0 (behindV c16 c18 s5 r0 r3) (behindV c17 c19 s6 r0 r3) r3) ≥ c22)) = false) :
    ∃ y p0 p1 p2 p3 p4 p5 : Int, (0 ≤ y ∧ y ≤ 63) ∧ (PG.rin c55 p0 ∧ PG.rin c55 p1 ∧ PG.rin c55 p2 ∧ PG.rin c55 p3 ∧ PG.rin c55 p4 ∧ PG.rin c55 p5) ∧
      guard_Step_g 20000 c31 b32 c33 c34 c35 b36 c37 c38 c39 b40 c41 c42 c43 b44 c45 c46 c47 b48 c49 c50 c51 b52 c53 c54 c55 s14 s15 s16 s17 s18 s19 s20 r0 r1 r2 (shownV s3 s4 (nT s0 s1 r0 r3 / 1000) s8) = some (y, p0, p1, p2, p3, p4, p5, 0, ()) ∧
      state_Step_g 20000 c0 c1 c2 c3 c4 c5 c6 c7 c8 c9 c10 c11 c12 c13 c14 c15 c16 c17 c18 c19 c20 c21 c22 n23 n24 n25 c26 c27 c28 c29 c30 c31 b32 c33 c34 c35 b36 c37 c38 c39 b40 c41 c42 c43 b44 c45 c46 c47 b48 c49 c50 c51 b52 c53 c54 c55 c56 s0 s1 s2 s3 s4 s5 s6 s7 s8 s9 s10 s11 s12 s13 s14 s15 s16 s17 s18 s19 s20 s21 s22 x0 x1 x2 x3 X Y Z = some ((nT s0 s1 r0 r3 / 1000), (nT s0 s1 r0 r3 % 1000), (shownV s3 s4 (nT s0 s1 r0 r3 / 1000) s8), s3, s4, (behindV c16 c18 s5 r0 r3), (behindV c17 c19 s6 r0 r3), (restV c20 c21 c22 s7 r0 (behindV c16 c18 s5 r0 r3) (behindV c17 c19 s6 r0 r3) r3), s8, s9, s10, (cycT s11 s12 r0 r3 / 1000), (cycT s11 s12 r0 r3 % 1000), (cycN (cycT s11 s12 r0 r3 / 1000) s8 s13), y, p0, p1, p2, p3, p4, p5, (bif decide (4294967295 < wi64 (s21 + 1)) then 4294967295 else wi64 (s21 + 1)), s22, 0, ()) := by
  obtain ⟨y, p0, p1, p2, p3, p4, p5, hy, hp, hg⟩ := PG.gstep_good c31 b32 c33 c34 c35 b36 c37 c38 c39 b40 c41 c42 c43 b44 c45 c46 c47 b48 c49 c50 c51 b52 c53 c54 r0 r1 r2 (shownV s3 s4 (nT s0 s1 r0 r3 / 1000) s8) hF.gd hF.up hF.run.1 hF.run.2.1 hF.run.2.2.1 hF.run.2.2.2.1 hF.run.2.2.2.2.1 hF.run.2.2.2.2.2
  refine ⟨y, p0, p1, p2, p3, p4, p5, hy, hp, hg, ?_⟩
  have kc := cellB_iff.1 hF.cell
  have kh := hF.hl
  have kcap := hF.cap
  have hu1 := behind_in (r := c16) (tau := c18) (u := s5) (c := r0) (t := r3) hF.u1 kc.2.1.1.1 ht.1
  have hu2 := behind_in (r := c17) (tau := c19) (u := s6) (c := r0) (t := r3) hF.u2 kc.2.1.2.1.1 ht.1
  have hT := nT_in s0 s1 r0 r3
  have hrb : restB c20 c21 c22 s7 = true := restB_iff.2 ⟨kc.2.2, by omega, hF.rest⟩
  have hl : state_Step_l0 20000 20000 0 7 7 0 0 0 0 0 0 0 0 0 0 0 0 0 0 0 0 0 0 0 0 0 0 0 0 s0 s1 s2 s3 s4 s5 s6 s7 s8 s9 s10 s11 s12 s13 s14 s15 s16 s17 s18 s19 s20 s21 s22 c0 c1 c2 c3 c4 c5 c6 c7 c8 c9 c10 c11 c12 c13 c14 c15 c16 c17 c18 c19 c20 c21 c22 n23 n24 n25 c26 c27 c28 c29 c30 c31 b32 c33 c34 c35 b36 c37 c38 c39 b40 c41 c42 c43 b44 c45 c46 c47 b48 c49 c50 c51 b52 c53 c54 c55 c56 r0 r1 r2 r3 X Y Z = _ :=
    (rd0 (hs := hF.ch) (hc := hc) (ht := ht) ..).trans ((rd1 (hs := hF.cyc) (hc := hc) (ht := ht) ..).trans ((rd2 (hs := hF.cell) (h5 := hF.u1) (h6 := hF.u2) (hc := hc) (ht := ht) ..).trans
      ((rd3 (hs := hrb) (h5 := hu1) (h6 := hu2) (hc := hc) (ht := ht) ..).trans ((rd4 (h3 := hF.base) (h8 := ⟨by omega, by omega⟩) (h4 := hF.cb) (h0 := ⟨by omega, by omega⟩) ..).trans ((rd5 (hs := hno) ..).trans (rd6 (hg := hg) ..))))))
  have d0 : ((0 : Int) != 0) = false := rfl
  unfold state_Step_g
  rw [fits_exact, h, hread]
  simp only [Option.bind_some, Bool.not_true, cond_false, d0]
  rw [hl]
  rfl

theorem step_rest (hF : Fits c0 c1 c2 c3 c4 c5 c6 c7 c8 c9 c10 c11 c12 c13 c14 c15 c16 c17 c18 c19 c20 c21 c22 n23 n24 n25 c26 c27 c28 c29 c30 c31 b32 c33 c34 c35 b36 c37 c38 c39 b40 c41 c42 c43 b44 c45 c46 c47 b48 c49 c50 c51 b52 c53 c54 c55 c56 s0 s1 s2 s3 s4 s5 s6 s7 s8 s9 s10 s11 s12 s13 s14 s15 s16 s17 s18 s19 s20 s21 s22 X Y Z) (hread : sample_Read_g 20000 c0 c1 c2 c3 c4 c5 c6 c7 c8 c9 c10 c11 c12 c13 c14 x0 x1 x2 x3 = some (r0, r1, r2, r3, 0, ())) (hc : -2147483648 ≤ r0 ∧ r0 ≤ 2147483648) (hv : -2147483648 ≤ r1 ∧ r1 ≤ 2147483648) (ht : 1 ≤ r3 ∧ r3 ≤ 60000) (h : fitsB c0 c1 c2 c3 c4 c5 c6 c7 c8 c9 c10 c11 c12 c13 c14 c15 c16 c17 c18 c19 c20 c21 c22 n23 n24 n25 c26 c27 c28 c29 c30 c31 b32 c33 c34 c35 b36 c37 c38 c39 b40 c41 c42 c43 b44 c45 c46 c47 b48 c49 c50 c51 b52 c53 c54 c55 c56 s0 s1 s2 s3 s4 s5 s6 s7 s8 s9 s10 s11 s12 s13 s14 s15 s16 s17 s18 s19 s20 s21 s22 X Y Z = true) (hno : (restB c20 c21 c22 (restV c20 c21 c22 s7 r0 (behindV c16 c18 s5 r0 r3) (behindV c17 c19 s6 r0 r3) r3) && decide ((restV c20 c21 c22 s7 r0 (behindV c16 c18 s5 r0 r3) (behindV c17 c19 s6 r0 r3) r3) ≥ c22)) = true) :
    ∃ y p0 p1 p2 p3 p4 p5 : Int, (0 ≤ y ∧ y ≤ 63) ∧ (PG.rin c55 p0 ∧ PG.rin c55 p1 ∧ PG.rin c55 p2 ∧ PG.rin c55 p3 ∧ PG.rin c55 p4 ∧ PG.rin c55 p5) ∧
      guard_Step_g 20000 c31 b32 c33 c34 c35 b36 c37 c38 c39 b40 c41 c42 c43 b44 c45 c46 c47 b48 c49 c50 c51 b52 c53 c54 c55 s14 s15 s16 s17 s18 s19 s20 r0 r1 r2 (tw (shownV s3 s4 (nT s0 s1 r0 r3 / 1000) s8) (toldV n23 n24 X Y Z (restedV c15 (behindV c16 c18 s5 r0 r3) (behindV c17 c19 s6 r0 r3) r0 r1) r2) c26) = some (y, p0, p1, p2, p3, p4, p5, 0, ()) ∧
      PH.rightB c27 c28 c29 c30 (nT s0 s1 r0 r3 / 1000) (tw (shownV s3 s4 (nT s0 s1 r0 r3 / 1000) s8) (toldV n23 n24 X Y Z (restedV c15 (behindV c16 c18 s5 r0 r3) (behindV c17 c19 s6 r0 r3) r0 r1) r2) c26) s8 s9 s10 = true ∧
      state_Step_g 20000 c0 c1 c2 c3 c4 c5 c6 c7 c8 c9 c10 c11 c12 c13 c14 c15 c16 c17 c18 c19 c20 c21 c22 n23 n24 n25 c26 c27 c28 c29 c30 c31 b32 c33 c34 c35 b36 c37 c38 c39 b40 c41 c42 c43 b44 c45 c46 c47 b48 c49 c50 c51 b52 c53 c54 c55 c56 s0 s1 s2 s3 s4 s5 s6 s7 s8 s9 s10 s11 s12 s13 s14 s15 s16 s17 s18 s19 s20 s21 s22 x0 x1 x2 x3 X Y Z = some ((nT s0 s1 r0 r3 / 1000), (nT s0 s1 r0 r3 % 1000), (tw (shownV s3 s4 (nT s0 s1 r0 r3 / 1000) s8) (toldV n23 n24 X Y Z (restedV c15 (behindV c16 c18 s5 r0 r3) (behindV c17 c19 s6 r0 r3) r0 r1) r2) c26), (tw (shownV s3 s4 (nT s0 s1 r0 r3 / 1000) s8) (toldV n23 n24 X Y Z (restedV c15 (behindV c16 c18 s5 r0 r3) (behindV c17 c19 s6 r0 r3) r0 r1) r2) c26), (nT s0 s1 r0 r3 / 1000), (behindV c16 c18 s5 r0 r3), (behindV c17 c19 s6 r0 r3), (restV c20 c21 c22 s7 r0 (behindV c16 c18 s5 r0 r3) (behindV c17 c19 s6 r0 r3) r3), (PH.anch c28 c29 c30 (nT s0 s1 r0 r3 / 1000) (tw (shownV s3 s4 (nT s0 s1 r0 r3 / 1000) s8) (toldV n23 n24 X Y Z (restedV c15 (behindV c16 c18 s5 r0 r3) (behindV c17 c19 s6 r0 r3) r0 r1) r2) c26) s8 s9 s10).1, (PH.anch c28 c29 c30 (nT s0 s1 r0 r3 / 1000) (tw (shownV s3 s4 (nT s0 s1 r0 r3 / 1000) s8) (toldV n23 n24 X Y Z (restedV c15 (behindV c16 c18 s5 r0 r3) (behindV c17 c19 s6 r0 r3) r0 r1) r2) c26) s8 s9 s10).2.1, (PH.anch c28 c29 c30 (nT s0 s1 r0 r3 / 1000) (tw (shownV s3 s4 (nT s0 s1 r0 r3 / 1000) s8) (toldV n23 n24 X Y Z (restedV c15 (behindV c16 c18 s5 r0 r3) (behindV c17 c19 s6 r0 r3) r0 r1) r2) c26) s8 s9 s10).2.2, (cycT s11 s12 r0 r3 / 1000), (cycT s11 s12 r0 r3 % 1000), (cycN (cycT s11 s12 r0 r3 / 1000) s8 s13), y, p0, p1, p2, p3, p4, p5, (bif decide (4294967295 < wi64 (s21 + 1)) then 4294967295 else wi64 (s21 + 1)), s22, 0, ()) := by
  obtain ⟨y, p0, p1, p2, p3, p4, p5, hy, hp, hg⟩ := PG.gstep_good c31 b32 c33 c34 c35 b36 c37 c38 c39 b40 c41 c42 c43 b44 c45 c46 c47 b48 c49 c50 c51 b52 c53 c54 r0 r1 r2 (tw (shownV s3 s4 (nT s0 s1 r0 r3 / 1000) s8) (toldV n23 n24 X Y Z (restedV c15 (behindV c16 c18 s5 r0 r3) (behindV c17 c19 s6 r0 r3) r0 r1) r2) c26) hF.gd hF.up hF.run.1 hF.run.2.1 hF.run.2.2.1 hF.run.2.2.2.1 hF.run.2.2.2.2.1 hF.run.2.2.2.2.2
  have kc := cellB_iff.1 hF.cell
  have kh := hF.hl
  have kcap := hF.cap
  have hu1 := behind_in (r := c16) (tau := c18) (u := s5) (c := r0) (t := r3) hF.u1 kc.2.1.1.1 ht.1
  have hu2 := behind_in (r := c17) (tau := c19) (u := s6) (c := r0) (t := r3) hF.u2 kc.2.1.2.1.1 ht.1
  have hT := nT_in s0 s1 r0 r3
  have hrb : restB c20 c21 c22 s7 = true := restB_iff.2 ⟨kc.2.2, by omega, hF.rest⟩
  have hso : 0 ≤ (tw (shownV s3 s4 (nT s0 s1 r0 r3 / 1000) s8) (toldV n23 n24 X Y Z (restedV c15 (behindV c16 c18 s5 r0 r3) (behindV c17 c19 s6 r0 r3) r0 r1) r2) c26) ∧ (tw (shownV s3 s4 (nT s0 s1 r0 r3 / 1000) s8) (toldV n23 n24 X Y Z (restedV c15 (behindV c16 c18 s5 r0 r3) (behindV c17 c19 s6 r0 r3) r0 r1) r2) c26) ≤ 10000 := tw_in ⟨bw _, bw _, hF.slew⟩
  have hR : PH.rightB c27 c28 c29 c30 (nT s0 s1 r0 r3 / 1000) (tw (shownV s3 s4 (nT s0 s1 r0 r3 / 1000) s8) (toldV n23 n24 X Y Z (restedV c15 (behindV c16 c18 s5 r0 r3) (behindV c17 c19 s6 r0 r3) r0 r1) r2) c26) s8 s9 s10 = true := by
    unfold PH.rightB
    simp only [Bool.and_eq_true, decide_eq_true_eq]
    exact ⟨hF.hl, hF.cap, hF.anc, PH.socB_iff.2 hso, PH.chgB_iff.2 ⟨by omega, by omega⟩, PH.chgB_iff.2 hF.ac⟩
  refine ⟨y, p0, p1, p2, p3, p4, p5, hy, hp, hg, hR, ?_⟩
  have hl : state_Step_l0 20000 20000 0 7 7 0 0 0 0 0 0 0 0 0 0 0 0 0 0 0 0 0 0 0 0 0 0 0 0 s0 s1 s2 s3 s4 s5 s6 s7 s8 s9 s10 s11 s12 s13 s14 s15 s16 s17 s18 s19 s20 s21 s22 c0 c1 c2 c3 c4 c5 c6 c7 c8 c9 c10 c11 c12 c13 c14 c15 c16 c17 c18 c19 c20 c21 c22 n23 n24 n25 c26 c27 c28 c29 c30 c31 b32 c33 c34 c35 b36 c37 c38 c39 b40 c41 c42 c43 b44 c45 c46 c47 b48 c49 c50 c51 b52 c53 c54 c55 c56 r0 r1 r2 r3 X Y Z = _ :=
    (rd0 (hs := hF.ch) (hc := hc) (ht := ht) ..).trans ((rd1 (hs := hF.cyc) (hc := hc) (ht := ht) ..).trans ((rd2 (hs := hF.cell) (h5 := hF.u1) (h6 := hF.u2) (hc := hc) (ht := ht) ..).trans
      ((rd3 (hs := hrb) (h5 := hu1) (h6 := hu2) (hc := hc) (ht := ht) ..).trans ((rd4 (h3 := hF.base) (h8 := ⟨by omega, by omega⟩) (h4 := hF.cb) (h0 := ⟨by omega, by omega⟩) ..).trans
        ((rd5r (hs := hno) (hcl := hF.cell) (hg := hF.good) (h5 := hu1) (h6 := hu2) (hc := hc) (hv := hv) (h3 := hF.base) (h8 := ⟨by omega, by omega⟩) (h4 := hF.cb) (h0 := ⟨by omega, by omega⟩) (hsl := hF.slew) (hR := hR) ..).trans (rd6 (hg := hg) ..))))))
  have d0 : ((0 : Int) != 0) = false := rfl
  unfold state_Step_g
  rw [fits_exact, h, hread]
  simp only [Option.bind_some, Bool.not_true, cond_false, d0]
  rw [hl]
  rfl

/-- What is read: a sample, or nothing. -/
theorem read_cases : (∃ e : Int, (e != 0) = true ∧ sample_Read_g 20000 c0 c1 c2 c3 c4 c5 c6 c7 c8 c9 c10 c11 c12 c13 c14 x0 x1 x2 x3 = some (0, 0, 0, 0, e, ())) ∨
    (∃ a b c d : Int, (-2147483648 ≤ a ∧ a ≤ 2147483648) ∧ (-2147483648 ≤ b ∧ b ≤ 2147483648) ∧ (1 ≤ d ∧ d ≤ 60000) ∧ sample_Read_g 20000 c0 c1 c2 c3 c4 c5 c6 c7 c8 c9 c10 c11 c12 c13 c14 x0 x1 x2 x3 = some (a, b, c, d, 0, ())) := by
  rw [PA.read_ok]
  unfold PA.readE
  cases hr : PA.readB c0 c1 c2 c3 c4 c5 c6 c7 c8 c9 c10 c11 c12 c13 c14 x0 x1 x2 x3 with
  | false =>
    left
    cases PA.wayB c0 c1 c2 c3 c4 c5 c6 c7 c8 c9 c10 c11 c12 c13 c14
    · exact ⟨120, rfl, rfl⟩
    · exact ⟨130, rfl, rfl⟩
  | true =>
    right
    have ht := (PA.read_iff hr).2.1
    exact ⟨_, _, _, _, btw_le (by omega), btw_le (by omega), ht, rfl⟩
end

theorem light_cases (c0 c1 c2 c3 c4 c5 c6 c7 c8 c9 c10 c11 c12 c13 c14 c15 c16 c17 c18 c19 c20 c21 c22 : Int) (n23 n24 n25 : Nat) (c26 c27 c28 c29 c30 c31 : Int) (b32 : Bool) (c33 c34 c35 : Int) (b36 : Bool) (c37 c38 c39 : Int) (b40 : Bool) (c41 c42 c43 : Int) (b44 : Bool) (c45 c46 c47 : Int) (b48 : Bool) (c49 c50 c51 : Int) (b52 : Bool) (c53 c54 c55 c56 : Int) (X Y Z : Nat → Int) : ∃ b, w_light_g 20000 c0 c1 c2 c3 c4 c5 c6 c7 c8 c9 c10 c11 c12 c13 c14 c15 c16 c17 c18 c19 c20 c21 c22 n23 n24 n25 c26 c27 c28 c29 c30 c31 b32 c33 c34 c35 b36 c37 c38 c39 b40 c41 c42 c43 b44 c45 c46 c47 b48 c49 c50 c51 b52 c53 c54 c55 c56 X Y Z = some (b, ()) := by
  unfold w_light_g
  cases decide (wi64 (((n23 : Nat) : Int) + ((n24 : Nat) : Int)) ≤ 100) with
  | true => exact ⟨_, rfl⟩
  | false => exact ⟨_, rfl⟩

end Go.Proofs.YtjmbhhinmbgneaaGreat
