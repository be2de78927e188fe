/-
  A state's step: what the printed functions compute, as plain functions of the numbers.
-/
import Derived.Test.YtjmbhhinmbgneaaGreatsB
import Derived.Test.YtjmbhhinmbgneaaGreatsF
import Derived.Test.YtjmbhhinmbgneaaGreatsX
import Derived.Test.YtjmbhhinmbgneaaGreatsY
import Derived.Test.YtjmbhhinmbgneaaGreatsJ
namespace Go.Proofs.YtjmbhhinmbgneaaGreat
open Go.Sy
set_option maxHeartbeats 4000000

/-! ### A configuration -/
def hlB (ca le mo ga : Int) : Bool := decide ((1 ≤ ga ∧ ga ≤ 10000) ∧ (1 ≤ le ∧ le ≤ mo) ∧ mo ≤ 1125899906842624 ∧ (le ≤ ca ∧ ca ≤ mo))

section
variable (c0 c1 c2 c3 c4 c5 c6 c7 c8 c9 c10 c11 c12 c13 c14 c15 c16 c17 c18 c19 c20 c21 c22 : Int) (n23 n24 n25 : Nat) (c26 c27 c28 c29 c30 c31 : Int) (b32 : Bool) (c33 c34 c35 : Int) (b36 : Bool) (c37 c38 c39 : Int) (b40 : Bool) (c41 c42 c43 : Int) (b44 : Bool) (c45 c46 c47 : Int) (b48 : Bool) (c49 c50 c51 : Int) (b52 : Bool) (c53 c54 c55 c56 : Int) (X Y Z : Nat → Int)

def gdB (c31 c33 c34 c35 c37 c38 c39 c41 c42 c43 c45 c46 c47 c49 c50 c51 c53 c54 c55 : Int) : Bool := PG.mayAll c31 c33 c34 c35 c37 c38 c39 c41 c42 c43 c45 c46 c47 c49 c50 c51 c53 c54 && decide (1 ≤ c55 ∧ c55 ≤ 31)
noncomputable def chkB (c0 c1 c2 c3 c4 c5 c6 c7 c8 c9 c10 c11 c12 c13 c14 c15 c16 c17 c18 c19 c20 c21 c22 : Int) (n23 n24 n25 : Nat) (c26 c27 c28 c29 c30 c31 : Int) (b32 : Bool) (c33 c34 c35 : Int) (b36 : Bool) (c37 c38 c39 : Int) (b40 : Bool) (c41 c42 c43 : Int) (b44 : Bool) (c45 c46 c47 : Int) (b48 : Bool) (c49 c50 c51 : Int) (b52 : Bool) (c53 c54 c55 c56 : Int) (X Y Z : Nat → Int) : Bool :=
  PA.wayB c0 c1 c2 c3 c4 c5 c6 c7 c8 c9 c10 c11 c12 c13 c14 && (cellB c15 c16 c17 c18 c19 c20 c21 c22 && (dc (GGood n23 n24 n25 X Y Z) && (hlB c27 c28 c29 c30 && (gdB c31 c33 c34 c35 c37 c38 c39 c41 c42 c43 c45 c46 c47 c49 c50 c51 c53 c54 c55 && (inR 1 10000 c26 && inR 1 1125899906842624 c56)))))

theorem sway_ok : sample_Check_g 20000 c0 c1 c2 c3 c4 c5 c6 c7 c8 c9 c10 c11 c12 c13 c14 = some (bif PA.wayB c0 c1 c2 c3 c4 c5 c6 c7 c8 c9 c10 c11 c12 c13 c14 then 0 else 120, ()) := PA.way_ok ..
theorem sgrid_ok (n m p : Nat) : grid_Check_g 20000 n m p X Y Z = some (bif dc (GGood n m p X Y Z) then 0 else 110, ()) := by
  rw [gcheck_ok]
  by_cases h : GGood n m p X Y Z
  · rw [gchk_good h, dc_t h]; rfl
  · rw [gchk_bad h, dc_f h]; rfl
theorem shl_ok : health_Check_g 20000 c0 c1 c2 c3 c4 c5 c6 c7 c8 c9 c10 c11 c12 c13 c14 c15 c16 c17 c18 c19 c20 c21 c22 n23 n24 n25 c26 c27 c28 c29 c30 c31 b32 c33 c34 c35 b36 c37 c38 c39 b40 c41 c42 c43 b44 c45 c46 c47 b48 c49 c50 c51 b52 c53 c54 c55 c56 X Y Z = some (bif hlB c27 c28 c29 c30 then 0 else 2, ()) := PH.check_ok ..
theorem sgd_ok : guard_Check_g 20000 c31 b32 c33 c34 c35 b36 c37 c38 c39 b40 c41 c42 c43 b44 c45 c46 c47 b48 c49 c50 c51 b52 c53 c54 c55 = some (bif gdB c31 c33 c34 c35 c37 c38 c39 c41 c42 c43 c45 c46 c47 c49 c50 c51 c53 c54 c55 then 0 else 2, ()) := PG.check_k ..

theorem schk_ok (e0 e1 e2 e3 e4 : Int) : state_Check_l0 20000 20000 0 5 5 0 c0 c1 c2 c3 c4 c5 c6 c7 c8 c9 c10 c11 c12 c13 c14 c15 c16 c17 c18 c19 c20 c21 c22 n23 n24 n25 c26 c27 c28 c29 c30 c31 b32 c33 c34 c35 b36 c37 c38 c39 b40 c41 c42 c43 b44 c45 c46 c47 b48 c49 c50 c51 b52 c53 c54 c55 c56 e0 e1 e2 e3 e4 X Y Z =
    (bif (e0 != 0) then some (.inr (210, ())) else bif (e1 != 0) then some (.inr (210, ())) else bif (e2 != 0) then some (.inr (210, ())) else bif (e3 != 0) then some (.inr (210, ())) else bif (e4 != 0) then some (.inr (210, ())) else
      some (.inl (c0, c1, c2, c3, c4, c5, c6, c7, c8, c9, c10, c11, c12, c13, c14, c15, c16, c17, c18, c19, c20, c21, c22, n23, n24, n25, c26, c27, c28, c29, c30, c31, b32, c33, c34, c35, b36, c37, c38, c39, b40, c41, c42, c43, b44, c45, c46, c47, b48, c49, c50, c51, b52, c53, c54, c55, c56, X, Y, Z, ()))) := by
  have r5 : ∀ f, state_Check_l0 20000 (f + 1) 0 5 5 5 c0 c1 c2 c3 c4 c5 c6 c7 c8 c9 c10 c11 c12 c13 c14 c15 c16 c17 c18 c19 c20 c21 c22 n23 n24 n25 c26 c27 c28 c29 c30 c31 b32 c33 c34 c35 b36 c37 c38 c39 b40 c41 c42 c43 b44 c45 c46 c47 b48 c49 c50 c51 b52 c53 c54 c55 c56 e0 e1 e2 e3 e4 X Y Z = some (.inl (c0, c1, c2, c3, c4, c5, c6, c7, c8, c9, c10, c11, c12, c13, c14, c15, c16, c17, c18, c19, c20, c21, c22, n23, n24, n25, c26, c27, c28, c29, c30, c31, b32, c33, c34, c35, b36, c37, c38, c39, b40, c41, c42, c43, b44, c45, c46, c47, b48, c49, c50, c51, b52, c53, c54, c55, c56, X, Y, Z, ())) := fun f => rfl
  have r4 : ∀ f, state_Check_l0 20000 (f + 1) 0 5 5 4 c0 c1 c2 c3 c4 c5 c6 c7 c8 c9 c10 c11 c12 c13 c14 c15 c16 c17 c18 c19 c20 c21 c22 n23 n24 n25 c26 c27 c28 c29 c30 c31 b32 c33 c34 c35 b36 c37 c38 c39 b40 c41 c42 c43 b44 c45 c46 c47 b48 c49 c50 c51 b52 c53 c54 c55 c56 e0 e1 e2 e3 e4 X Y Z = bif (e4 != 0) then some (.inr (210, ())) else state_Check_l0 20000 f 0 5 5 5 c0 c1 c2 c3 c4 c5 c6 c7 c8 c9 c10 c11 c12 c13 c14 c15 c16 c17 c18 c19 c20 c21 c22 n23 n24 n25 c26 c27 c28 c29 c30 c31 b32 c33 c34 c35 b36 c37 c38 c39 b40 c41 c42 c43 b44 c45 c46 c47 b48 c49 c50 c51 b52 c53 c54 c55 c56 e0 e1 e2 e3 e4 X Y Z := fun f => rfl
  have r3 : ∀ f, state_Check_l0 20000 (f + 1) 0 5 5 3 c0 c1 c2 c3 c4 c5 c6 c7 c8 c9 c10 c11 c12 c13 c14 c15 c16 c17 c18 c19 c20 c21 c22 n23 n24 n25 c26 c27 c28 c29 c30 c31 b32 c33 c34 c35 b36 c37 c38 c39 b40 c41 c42 c43 b44 c45 c46 c47 b48 c49 c50 c51 b52 c53 c54 c55 c56 e0 e1 e2 e3 e4 X Y Z = bif (e3 != 0) then some (.inr (210, ())) else state_Check_l0 20000 f 0 5 5 4 c0 c1 c2 c3 c4 c5 c6 c7 c8 c9 c10 c11 c12 c13 c14 c15 c16 c17 c18 c19 c20 c21 c22 n23 n24 n25 c26 c27 c28 c29 c30 c31 b32 c33 c34 c35 b36 c37 c38 c39 b40 c41 c42 c43 b44 c45 c46 c47 b48 c49 c50 c51 b52 c53 c54 c55 c56 e0 e1 e2 e3 e4 X Y Z := fun f => rfl
  have r2 : ∀ f, state_Check_l0 20000 (f + 1) 0 5 5 2 c0 c1 c2 c3 c4 c5 c6 c7 c8 c9 c10 c11 c12 c13 c14 c15 c16 c17 c18 c19 c20 c21 c22 n23 n24 n25 c26 c27 c28 c29 c30 c31 b32 c33 c34 c35 b36 c37 c38 c39 b40 c41 c42 c43 b44 c45 c46 c47 b48 c49 c50 c51 b52 c53 c54 c55 c56 e0 e1 e2 e3 e4 X Y Z = bif (e2 != 0) then some (.inr (210, ())) else state_Check_l0 20000 f 0 5 5 3 c0 c1 c2 c3 c4 c5 c6 c7 c8 c9 c10 c11 c12 c13 c14 c15 c16 c17 c18 c19 c20 c21 c22 n23 n24 n25 c26 c27 c28 c29 c30 c31 b32 c33 c34 c35 b36 c37 c38 c39 b40 c41 c42 c43 b44 c45 c46 c47 b48 c49 c50 c51 b52 c53 c54 c55 c56 e0 e1 e2 e3 e4 X Y Z := fun f => rfl
  have r1 : ∀ f, state_Check_l0 20000 (f + 1) 0 5 5 1 c0 c1 c2 c3 c4 c5 c6 c7 c8 c9 c10 c11 c12 c13 c14 c15 c16 c17 c18 c19 c20 c21 c22 n23 n24 n25 c26 c27 c28 c29 c30 c31 b32 c33 c34 c35 b36 c37 c38 c39 b40 c41 c42 c43 b44 c45 c46 c47 b48 c49 c50 c51 b52 c53 c54 c55 c56 e0 e1 e2 e3 e4 X Y Z = bif (e1 != 0) then some (.inr (210, ())) else state_Check_l0 20000 f 0 5 5 2 c0 c1 c2 c3 c4 c5 c6 c7 c8 c9 c10 c11 c12 c13 c14 c15 c16 c17 c18 c19 c20 c21 c22 n23 n24 n25 c26 c27 c28 c29 c30 c31 b32 c33 c34 c35 b36 c37 c38 c39 b40 c41 c42 c43 b44 c45 c46 c47 b48 c49 c50 c51 b52 c53 c54 c55 c56 e0 e1 e2 e3 e4 X Y Z := fun f => rfl
  have r0 : ∀ f, state_Check_l0 20000 (f + 1) 0 5 5 0 c0 c1 c2 c3 c4 c5 c6 c7 c8 c9 c10 c11 c12 c13 c14 c15 c16 c17 c18 c19 c20 c21 c22 n23 n24 n25 c26 c27 c28 c29 c30 c31 b32 c33 c34 c35 b36 c37 c38 c39 b40 c41 c42 c43 b44 c45 c46 c47 b48 c49 c50 c51 b52 c53 c54 c55 c56 e0 e1 e2 e3 e4 X Y Z = bif (e0 != 0) then some (.inr (210, ())) else state_Check_l0 20000 f 0 5 5 1 c0 c1 c2 c3 c4 c5 c6 c7 c8 c9 c10 c11 c12 c13 c14 c15 c16 c17 c18 c19 c20 c21 c22 n23 n24 n25 c26 c27 c28 c29 c30 c31 b32 c33 c34 c35 b36 c37 c38 c39 b40 c41 c42 c43 b44 c45 c46 c47 b48 c49 c50 c51 b52 c53 c54 c55 c56 e0 e1 e2 e3 e4 X Y Z := fun f => rfl
  refine (r0 19999).trans ?_
  cases (e0 != 0) with
  | true => rfl
  | false =>
    refine (r1 19998).trans ?_
    cases (e1 != 0) with
    | true => rfl
    | false =>
      refine (r2 19997).trans ?_
      cases (e2 != 0) with
      | true => rfl
      | false =>
        refine (r3 19996).trans ?_
        cases (e3 != 0) with
        | true => rfl
        | false =>
          refine (r4 19995).trans ?_
          cases (e4 != 0) with
          | true => rfl
          | false => exact r5 19994

theorem check_exact : state_Check_g 20000 c0 c1 c2 c3 c4 c5 c6 c7 c8 c9 c10 c11 c12 c13 c14 c15 c16 c17 c18 c19 c20 c21 c22 n23 n24 n25 c26 c27 c28 c29 c30 c31 b32 c33 c34 c35 b36 c37 c38 c39 b40 c41 c42 c43 b44 c45 c46 c47 b48 c49 c50 c51 b52 c53 c54 c55 c56 X Y Z = some (bif chkB c0 c1 c2 c3 c4 c5 c6 c7 c8 c9 c10 c11 c12 c13 c14 c15 c16 c17 c18 c19 c20 c21 c22 n23 n24 n25 c26 c27 c28 c29 c30 c31 b32 c33 c34 c35 b36 c37 c38 c39 b40 c41 c42 c43 b44 c45 c46 c47 b48 c49 c50 c51 b52 c53 c54 c55 c56 X Y Z then 0 else 210, ()) := by
  have d0 : ((0 : Int) != 0) = false := rfl
  unfold state_Check_g chkB
  rw [sway_ok, mcheck_ok, sgrid_ok, shl_ok, sgd_ok]
  simp only [Option.bind_some]
  rw [schk_ok]
  cases PA.wayB c0 c1 c2 c3 c4 c5 c6 c7 c8 c9 c10 c11 c12 c13 c14 with
  | false => rfl
  | true =>
    cases cellB c15 c16 c17 c18 c19 c20 c21 c22 with
    | false => rfl
    | true =>
      cases dc (GGood n23 n24 n25 X Y Z) with
      | false => rfl
      | true =>
        cases hlB c27 c28 c29 c30 with
        | false => rfl
        | true =>
          cases gdB c31 c33 c34 c35 c37 c38 c39 c41 c42 c43 c45 c46 c47 c49 c50 c51 c53 c54 c55 with
          | false => rfl
          | true =>
            simp only [cond_true, d0, cond_false, Option.bind_some, Sum.elim_inl, state_range_has_all _ _ _ _ (show 1 < 900 by omega), all1, Bool.true_and]
            cases inR 1 10000 c26 with
            | false => rfl
            | true => cases inR 1 1125899906842624 c56 <;> rfl

/-! ### A state that fits -/
noncomputable def fitsB (c0 c1 c2 c3 c4 c5 c6 c7 c8 c9 c10 c11 c12 c13 c14 c15 c16 c17 c18 c19 c20 c21 c22 : Int) (n23 n24 n25 : Nat) (c26 c27 c28 c29 c30 c31 : Int) (b32 : Bool) (c33 c34 c35 : Int) (b36 : Bool) (c37 c38 c39 : Int) (b40 : Bool) (c41 c42 c43 : Int) (b44 : Bool) (c45 c46 c47 : Int) (b48 : Bool) (c49 c50 c51 : Int) (b52 : Bool) (c53 c54 c55 c56 : Int) (s0 s1 s2 s3 s4 s5 s6 s7 s8 s9 s10 s11 s12 s13 s14 s15 s16 s17 s18 s19 s20 s21 s22 : Int) (X Y Z : Nat → Int) : Bool :=
  chkB c0 c1 c2 c3 c4 c5 c6 c7 c8 c9 c10 c11 c12 c13 c14 c15 c16 c17 c18 c19 c20 c21 c22 n23 n24 n25 c26 c27 c28 c29 c30 c31 b32 c33 c34 c35 b36 c37 c38 c39 b40 c41 c42 c43 b44 c45 c46 c47 b48 c49 c50 c51 b52 c53 c54 c55 c56 X Y Z && (chB s0 s1 && (cycB s11 s12 s13 s8 && ((inR 0 10000 s2 && (inR 0 10000 s3 && inR 0 10000 (bif decide (0 > s9) then 0 else s9))) && (!(decide (s9 < -1)) && ((inR (-1125899906842624) 1125899906842624 s4 && inR (-1125899906842624) 1125899906842624 s10) &&
    ((inR (-2147483648) 2147483648 s5 && inR (-2147483648) 2147483648 s6) && (inR 0 1125899906842624 s7 && (inR c28 c29 s8 && (inR 0 63 s14 && (allR 0 (wi64 (c55 - 1)) (fun j => selI [s15, s16, s17, s18, s19, s20] j) 0 6 && (inR 0 4294967295 s21 && inR 0 4294967295 s22)))))))))))

theorem fits_exact (s0 s1 s2 s3 s4 s5 s6 s7 s8 s9 s10 s11 s12 s13 s14 s15 s16 s17 s18 s19 s20 s21 s22 : Int) : state_Fits_g 20000 c0 c1 c2 c3 c4 c5 c6 c7 c8 c9 c10 c11 c12 c13 c14 c15 c16 c17 c18 c19 c20 c21 c22 n23 n24 n25 c26 c27 c28 c29 c30 c31 b32 c33 c34 c35 b36 c37 c38 c39 b40 c41 c42 c43 b44 c45 c46 c47 b48 c49 c50 c51 b52 c53 c54 c55 c56 s0 s1 s2 s3 s4 s5 s6 s7 s8 s9 s10 s11 s12 s13 s14 s15 s16 s17 s18 s19 s20 s21 s22 X Y Z = some (fitsB c0 c1 c2 c3 c4 c5 c6 c7 c8 c9 c10 c11 c12 c13 c14 c15 c16 c17 c18 c19 c20 c21 c22 n23 n24 n25 c26 c27 c28 c29 c30 c31 b32 c33 c34 c35 b36 c37 c38 c39 b40 c41 c42 c43 b44 c45 c46 c47 b48 c49 c50 c51 b52 c53 c54 c55 c56 s0 s1 s2 s3 s4 s5 s6 s7 s8 s9 s10 s11 s12 s13 s14 s15 s16 s17 s18 s19 s20 s21 s22 X Y Z, ()) := by
  have d0 : ((0 : Int) != 0) = false := rfl
  unfold state_Fits_g state_soc_g state_charge_g state_unit_g state_count_g fitsB
  rw [check_exact, ccheck_ok, cycheck_ok]
  simp only [Option.bind_some, state_range_has_all _ _ _ _ (show 3 < 900 by omega), state_range_has_all _ _ _ _ (show 1 < 900 by omega), state_range_has_all _ _ _ _ (show 2 < 900 by omega), state_range_has_all _ _ _ _ (show 6 < 900 by omega), all1, all2r, all3]
  cases chkB c0 c1 c2 c3 c4 c5 c6 c7 c8 c9 c10 c11 c12 c13 c14 c15 c16 c17 c18 c19 c20 c21 c22 n23 n24 n25 c26 c27 c28 c29 c30 c31 b32 c33 c34 c35 b36 c37 c38 c39 b40 c41 c42 c43 b44 c45 c46 c47 b48 c49 c50 c51 b52 c53 c54 c55 c56 X Y Z with
  | false => rfl
  | true =>
    cases chB s0 s1 with
    | false => rfl
    | true =>
      cases cycB s11 s12 s13 s8 with
      | false => rfl
      | true =>
        cases (inR 0 10000 s2 && (inR 0 10000 s3 && inR 0 10000 (bif decide (0 > s9) then 0 else s9))) with
        | false => rfl
        | true =>
          cases decide (s9 < -1) with
          | true => rfl
          | false =>
            cases (inR (-1125899906842624) 1125899906842624 s4 && inR (-1125899906842624) 1125899906842624 s10) with
            | false => rfl
            | true =>
              cases (inR (-2147483648) 2147483648 s5 && inR (-2147483648) 2147483648 s6) with
              | false => rfl
              | true =>
                cases inR 0 1125899906842624 s7 with
                | false => rfl
                | true =>
                  cases inR c28 c29 s8 with
                  | false => rfl
                  | true =>
                    cases inR 0 63 s14 with
                    | false => rfl
                    | true =>
                      cases allR 0 (wi64 (c55 - 1)) (fun j => selI [s15, s16, s17, s18, s19, s20] j) 0 6 with
                      | false => rfl
                      | true =>
                        rfl

structure Fits (c0 c1 c2 c3 c4 c5 c6 c7 c8 c9 c10 c11 c12 c13 c14 c15 c16 c17 c18 c19 c20 c21 c22 : Int) (n23 n24 n25 : Nat) (c26 c27 c28 c29 c30 c31 : Int) (b32 : Bool) (c33 c34 c35 : Int) (b36 : Bool) (c37 c38 c39 : Int) (b40 : Bool) (c41 c42 c43 : Int) (b44 : Bool) (c45 c46 c47 : Int) (b48 : Bool) (c49 c50 c51 : Int) (b52 : Bool) (c53 c54 c55 c56 : Int) (s0 s1 s2 s3 s4 s5 s6 s7 s8 s9 s10 s11 s12 s13 s14 s15 s16 s17 s18 s19 s20 s21 s22 : Int) (X Y Z : Nat → Int) : Prop where
  way : PA.wayB c0 c1 c2 c3 c4 c5 c6 c7 c8 c9 c10 c11 c12 c13 c14 = true
  cell : cellB c15 c16 c17 c18 c19 c20 c21 c22 = true
  good : GGood n23 n24 n25 X Y Z
  hl : (1 ≤ c30 ∧ c30 ≤ 10000) ∧ (1 ≤ c28 ∧ c28 ≤ c29) ∧ c29 ≤ 1125899906842624 ∧ (c28 ≤ c27 ∧ c27 ≤ c29)
  gd : gdB c31 c33 c34 c35 c37 c38 c39 c41 c42 c43 c45 c46 c47 c49 c50 c51 c53 c54 c55 = true
  slew : 1 ≤ c26 ∧ c26 ≤ 10000
  ch : chB s0 s1 = true
  cyc : cycB s11 s12 s13 s8 = true
  soc : 0 ≤ s2 ∧ s2 ≤ 10000
  base : 0 ≤ s3 ∧ s3 ≤ 10000
  anc : s9 = -1 ∨ (0 ≤ s9 ∧ s9 ≤ 10000)
  cb : -1125899906842624 ≤ s4 ∧ s4 ≤ 1125899906842624
  ac : -1125899906842624 ≤ s10 ∧ s10 ≤ 1125899906842624
  u1 : -2147483648 ≤ s5 ∧ s5 ≤ 2147483648
  u2 : -2147483648 ≤ s6 ∧ s6 ≤ 2147483648
  rest : 0 ≤ s7 ∧ s7 ≤ 1125899906842624
  cap : c28 ≤ s8 ∧ s8 ≤ c29
  up : 0 ≤ s14 ∧ s14 ≤ 63
  run : PG.rin c55 s15 ∧ PG.rin c55 s16 ∧ PG.rin c55 s17 ∧ PG.rin c55 s18 ∧ PG.rin c55 s19 ∧ PG.rin c55 s20
  goods : 0 ≤ s21 ∧ s21 ≤ 4294967295
  bads : 0 ≤ s22 ∧ s22 ≤ 4294967295

theorem fits_of (s0 s1 s2 s3 s4 s5 s6 s7 s8 s9 s10 s11 s12 s13 s14 s15 s16 s17 s18 s19 s20 s21 s22 : Int) (h : fitsB c0 c1 c2 c3 c4 c5 c6 c7 c8 c9 c10 c11 c12 c13 c14 c15 c16 c17 c18 c19 c20 c21 c22 n23 n24 n25 c26 c27 c28 c29 c30 c31 b32 c33 c34 c35 b36 c37 c38 c39 b40 c41 c42 c43 b44 c45 c46 c47 b48 c49 c50 c51 b52 c53 c54 c55 c56 s0 s1 s2 s3 s4 s5 s6 s7 s8 s9 s10 s11 s12 s13 s14 s15 s16 s17 s18 s19 s20 s21 s22 X Y Z = true) : Fits c0 c1 c2 c3 c4 c5 c6 c7 c8 c9 c10 c11 c12 c13 c14 c15 c16 c17 c18 c19 c20 c21 c22 n23 n24 n25 c26 c27 c28 c29 c30 c31 b32 c33 c34 c35 b36 c37 c38 c39 b40 c41 c42 c43 b44 c45 c46 c47 b48 c49 c50 c51 b52 c53 c54 c55 c56 s0 s1 s2 s3 s4 s5 s6 s7 s8 s9 s10 s11 s12 s13 s14 s15 s16 s17 s18 s19 s20 s21 s22 X Y Z := by
  unfold fitsB chkB at h
  simp only [Bool.and_eq_true, inR_iff, Bool.not_eq_true', decide_eq_false_iff_not] at h
  obtain ⟨⟨k1, k2, k3, k4, k5, k6, k7⟩, k8, k9, ⟨k10, k11, k12⟩, k13, ⟨k14, k15⟩, ⟨k16, k17⟩, k18, k19, k20, k21, k22, k23⟩ := h
  have hd : 1 ≤ c55 ∧ c55 ≤ 31 := by
    unfold gdB at k5
    simp only [Bool.and_eq_true, decide_eq_true_eq] at k5
    exact k5.2
  rw [wi64_id (x := c55 - 1) (by omega) (by omega)] at k21
  have hr : (inR 0 (c55 - 1) s15 && (inR 0 (c55 - 1) s16 && (inR 0 (c55 - 1) s17 && (inR 0 (c55 - 1) s18 && (inR 0 (c55 - 1) s19 && (inR 0 (c55 - 1) s20 && true)))))) = true := k21
  simp only [Bool.and_eq_true, inR_iff] at hr
  refine ⟨k1, k2, of_dc k3, of_decide_eq_true k4, k5, k6, k8, k9, k10, k11, ?_, k14, k15, k16, k17, k18, k19, k20, ⟨hr.1, hr.2.1, hr.2.2.1, hr.2.2.2.1, hr.2.2.2.2.1, hr.2.2.2.2.2.1⟩, k22, k23⟩
  by_cases h0 : 0 > s9
  · left; omega
  · rw [decide_eq_false h0] at k12
    exact .inr k12

/-! ### The parts of a step -/
variable (z0 z1 z2 z3 z4 z5 z6 z7 z8 z9 z10 z11 z12 z13 z14 z15 z16 z17 z18 z19 z20 z21 z22 : Int) (r0 r1 r2 r3 : Int)
def nT (s0 s1 r0 r3 : Int) : Int := btw (-1125899906842624000) 1125899906842624000 (s0 * 1000 + s1 + r0 * r3)

theorem rd0 (f : Nat) (s0 s1 s2 s3 s4 s5 s6 s7 s8 s9 s10 s11 s12 s13 s14 s15 s16 s17 s18 s19 s20 s21 s22 : Int) (hs : chB s0 s1 = true) (hc : -2147483648 ≤ r0 ∧ r0 ≤ 2147483648) (ht : 1 ≤ r3 ∧ r3 ≤ 60000) : state_Step_l0 20000 (f + 1) 0 7 7 0 z0 z1 z2 z3 z4 z5 z6 z7 z8 z9 z10 z11 z12 z13 z14 z15 z16 z17 z18 z19 z20 z21 z22 s0 s1 s2 s3 s4 s5 s6 s7 s8 s9 s10 s11 s12 s13 s14 s15 s16 s17 s18 s19 s20 s21 s22 c0 c1 c2 c3 c4 c5 c6 c7 c8 c9 c10 c11 c12 c13 c14 c15 c16 c17 c18 c19 c20 c21 c22 n23 n24 n25 c26 c27 c28 c29 c30 c31 b32 c33 c34 c35 b36 c37 c38 c39 b40 c41 c42 c43 b44 c45 c46 c47 b48 c49 c50 c51 b52 c53 c54 c55 c56 r0 r1 r2 r3 X Y Z = state_Step_l0 20000 f 0 7 7 1 z0 z1 z2 z3 z4 z5 z6 z7 z8 z9 z10 z11 z12 z13 z14 z15 z16 z17 z18 z19 z20 z21 z22 (nT s0 s1 r0 r3 / 1000) (nT s0 s1 r0 r3 % 1000) s2 s3 s4 s5 s6 s7 s8 s9 s10 s11 s12 s13 s14 s15 s16 s17 s18 s19 s20 s21 s22 c0 c1 c2 c3 c4 c5 c6 c7 c8 c9 c10 c11 c12 c13 c14 c15 c16 c17 c18 c19 c20 c21 c22 n23 n24 n25 c26 c27 c28 c29 c30 c31 b32 c33 c34 c35 b36 c37 c38 c39 b40 c41 c42 c43 b44 c45 c46 c47 b48 c49 c50 c51 b52 c53 c54 c55 c56 r0 r1 r2 r3 X Y Z := by
  have d0 : ((0 : Int) != 0) = false := rfl
  show state_Step_l0r 20000 (state_Step_l0 20000 f) 0 7 7 0 z0 z1 z2 z3 z4 z5 z6 z7 z8 z9 z10 z11 z12 z13 z14 z15 z16 z17 z18 z19 z20 z21 z22 s0 s1 s2 s3 s4 s5 s6 s7 s8 s9 s10 s11 s12 s13 s14 s15 s16 s17 s18 s19 s20 s21 s22 c0 c1 c2 c3 c4 c5 c6 c7 c8 c9 c10 c11 c12 c13 c14 c15 c16 c17 c18 c19 c20 c21 c22 n23 n24 n25 c26 c27 c28 c29 c30 c31 b32 c33 c34 c35 b36 c37 c38 c39 b40 c41 c42 c43 b44 c45 c46 c47 b48 c49 c50 c51 b52 c53 c54 c55 c56 r0 r1 r2 r3 X Y Z = _
  unfold state_Step_l0r
  have d1 : decide ((0 : Int) < 7) = true := rfl
  have d2 : decide (0 ≤ (0 : Int)) = true := rfl
  have d3 : decide ((0 : Int) < ((7 : Nat) : Int)) = true := rfl
  have w : wi64 (0 + 1) = 1 := rfl
  have b6 : Nat.beq (Int.toNat (0 : Int) + 0) 6 = false := rfl
  have b5 : Nat.beq (Int.toNat (0 : Int) + 0) 5 = false := rfl
  have b4 : Nat.beq (Int.toNat (0 : Int) + 0) 4 = false := rfl
  have b3 : Nat.beq (Int.toNat (0 : Int) + 0) 3 = false := rfl
  have b2 : Nat.beq (Int.toNat (0 : Int) + 0) 2 = false := rfl
  have b1 : Nat.beq (Int.toNat (0 : Int) + 0) 1 = false := rfl
  have b0 : Nat.beq (Int.toNat (0 : Int) + 0) 0 = true := rfl
  simp only [d1, d2, d3, w, b6, b5, b4, b3, b2, b1, b0, Bool.and_self, cond_true, cond_false]
  rw [Add_ok]
  unfold addE
  rw [if_pos ⟨hs, hc, ht⟩]
  rfl

theorem rd1 (f : Nat) (s0 s1 s2 s3 s4 s5 s6 s7 s8 s9 s10 s11 s12 s13 s14 s15 s16 s17 s18 s19 s20 s21 s22 : Int) (hs : cycB s11 s12 s13 s8 = true) (hc : -2147483648 ≤ r0 ∧ r0 ≤ 2147483648) (ht : 1 ≤ r3 ∧ r3 ≤ 60000) : state_Step_l0 20000 (f + 1) 0 7 7 1 z0 z1 z2 z3 z4 z5 z6 z7 z8 z9 z10 z11 z12 z13 z14 z15 z16 z17 z18 z19 z20 z21 z22 s0 s1 s2 s3 s4 s5 s6 s7 s8 s9 s10 s11 s12 s13 s14 s15 s16 s17 s18 s19 s20 s21 s22 c0 c1 c2 c3 c4 c5 c6 c7 c8 c9 c10 c11 c12 c13 c14 c15 c16 c17 c18 c19 c20 c21 c22 n23 n24 n25 c26 c27 c28 c29 c30 c31 b32 c33 c34 c35 b36 c37 c38 c39 b40 c41 c42 c43 b44 c45 c46 c47 b48 c49 c50 c51 b52 c53 c54 c55 c56 r0 r1 r2 r3 X Y Z = state_Step_l0 20000 f 0 7 7 2 z0 z1 z2 z3 z4 z5 z6 z7 z8 z9 z10 z11 z12 z13 z14 z15 z16 z17 z18 z19 z20 z21 z22 s0 s1 s2 s3 s4 s5 s6 s7 s8 s9 s10 (cycT s11 s12 r0 r3 / 1000) (cycT s11 s12 r0 r3 % 1000) (cycN (cycT s11 s12 r0 r3 / 1000) s8 s13) s14 s15 s16 s17 s18 s19 s20 s21 s22 c0 c1 c2 c3 c4 c5 c6 c7 c8 c9 c10 c11 c12 c13 c14 c15 c16 c17 c18 c19 c20 c21 c22 n23 n24 n25 c26 c27 c28 c29 c30 c31 b32 c33 c34 c35 b36 c37 c38 c39 b40 c41 c42 c43 b44 c45 c46 c47 b48 c49 c50 c51 b52 c53 c54 c55 c56 r0 r1 r2 r3 X Y Z := by
  have d0 : ((0 : Int) != 0) = false := rfl
  show state_Step_l0r 20000 (state_Step_l0 20000 f) 0 7 7 1 z0 z1 z2 z3 z4 z5 z6 z7 z8 z9 z10 z11 z12 z13 z14 z15 z16 z17 z18 z19 z20 z21 z22 s0 s1 s2 s3 s4 s5 s6 s7 s8 s9 s10 s11 s12 s13 s14 s15 s16 s17 s18 s19 s20 s21 s22 c0 c1 c2 c3 c4 c5 c6 c7 c8 c9 c10 c11 c12 c13 c14 c15 c16 c17 c18 c19 c20 c21 c22 n23 n24 n25 c26 c27 c28 c29 c30 c31 b32 c33 c34 c35 b36 c37 c38 c39 b40 c41 c42 c43 b44 c45 c46 c47 b48 c49 c50 c51 b52 c53 c54 c55 c56 r0 r1 r2 r3 X Y Z = _
  unfold state_Step_l0r
  have d1 : decide ((1 : Int) < 7) = true := rfl
  have d2 : decide (0 ≤ (1 : Int)) = true := rfl
  have d3 : decide ((1 : Int) < ((7 : Nat) : Int)) = true := rfl
  have w : wi64 (1 + 1) = 2 := rfl
  have b6 : Nat.beq (Int.toNat (1 : Int) + 0) 6 = false := rfl
  have b5 : Nat.beq (Int.toNat (1 : Int) + 0) 5 = false := rfl
  have b4 : Nat.beq (Int.toNat (1 : Int) + 0) 4 = false := rfl
  have b3 : Nat.beq (Int.toNat (1 : Int) + 0) 3 = false := rfl
  have b2 : Nat.beq (Int.toNat (1 : Int) + 0) 2 = false := rfl
  have b1 : Nat.beq (Int.toNat (1 : Int) + 0) 1 = true := rfl
  simp only [d1, d2, d3, w, b6, b5, b4, b3, b2, b1, Bool.and_self, cond_true, cond_false]
  rw [cycstep_ok hs hc ht]
  rfl

theorem rd2 (f : Nat) (s0 s1 s2 s3 s4 s5 s6 s7 s8 s9 s10 s11 s12 s13 s14 s15 s16 s17 s18 s19 s20 s21 s22 : Int) (hs : cellB c15 c16 c17 c18 c19 c20 c21 c22 = true) (h5 : -2147483648 ≤ s5 ∧ s5 ≤ 2147483648) (h6 : -2147483648 ≤ s6 ∧ s6 ≤ 2147483648) (hc : -2147483648 ≤ r0 ∧ r0 ≤ 2147483648) (ht : 1 ≤ r3 ∧ r3 ≤ 60000) : state_Step_l0 20000 (f + 1) 0 7 7 2 z0 z1 z2 z3 z4 z5 z6 z7 z8 z9 z10 z11 z12 z13 z14 z15 z16 z17 z18 z19 z20 z21 z22 s0 s1 s2 s3 s4 s5 s6 s7 s8 s9 s10 s11 s12 s13 s14 s15 s16 s17 s18 s19 s20 s21 s22 c0 c1 c2 c3 c4 c5 c6 c7 c8 c9 c10 c11 c12 c13 c14 c15 c16 c17 c18 c19 c20 c21 c22 n23 n24 n25 c26 c27 c28 c29 c30 c31 b32 c33 c34 c35 b36 c37 c38 c39 b40 c41 c42 c43 b44 c45 c46 c47 b48 c49 c50 c51 b52 c53 c54 c55 c56 r0 r1 r2 r3 X Y Z = state_Step_l0 20000 f 0 7 7 3 z0 z1 z2 z3 z4 z5 z6 z7 z8 z9 z10 z11 z12 z13 z14 z15 z16 z17 z18 z19 z20 z21 z22 s0 s1 s2 s3 s4 (behindV c16 c18 s5 r0 r3) (behindV c17 c19 s6 r0 r3) s7 s8 s9 s10 s11 s12 s13 s14 s15 s16 s17 s18 s19 s20 s21 s22 c0 c1 c2 c3 c4 c5 c6 c7 c8 c9 c10 c11 c12 c13 c14 c15 c16 c17 c18 c19 c20 c21 c22 n23 n24 n25 c26 c27 c28 c29 c30 c31 b32 c33 c34 c35 b36 c37 c38 c39 b40 c41 c42 c43 b44 c45 c46 c47 b48 c49 c50 c51 b52 c53 c54 c55 c56 r0 r1 r2 r3 X Y Z := by
  have d0 : ((0 : Int) != 0) = false := rfl
  show state_Step_l0r 20000 (state_Step_l0 20000 f) 0 7 7 2 z0 z1 z2 z3 z4 z5 z6 z7 z8 z9 z10 z11 z12 z13 z14 z15 z16 z17 z18 z19 z20 z21 z22 s0 s1 s2 s3 s4 s5 s6 s7 s8 s9 s10 s11 s12 s13 s14 s15 s16 s17 s18 s19 s20 s21 s22 c0 c1 c2 c3 c4 c5 c6 c7 c8 c9 c10 c11 c12 c13 c14 c15 c16 c17 c18 c19 c20 c21 c22 n23 n24 n25 c26 c27 c28 c29 c30 c31 b32 c33 c34 c35 b36 c37 c38 c39 b40 c41 c42 c43 b44 c45 c46 c47 b48 c49 c50 c51 b52 c53 c54 c55 c56 r0 r1 r2 r3 X Y Z = _
  unfold state_Step_l0r
  have d1 : decide ((2 : Int) < 7) = true := rfl
  have d2 : decide (0 ≤ (2 : Int)) = true := rfl
  have d3 : decide ((2 : Int) < ((7 : Nat) : Int)) = true := rfl
  have w : wi64 (2 + 1) = 3 := rfl
  have b6 : Nat.beq (Int.toNat (2 : Int) + 0) 6 = false := rfl
  have b5 : Nat.beq (Int.toNat (2 : Int) + 0) 5 = false := rfl
  have b4 : Nat.beq (Int.toNat (2 : Int) + 0) 4 = false := rfl
  have b3 : Nat.beq (Int.toNat (2 : Int) + 0) 3 = false := rfl
  have b2 : Nat.beq (Int.toNat (2 : Int) + 0) 2 = true := rfl
  simp only [d1, d2, d3, w, b6, b5, b4, b3, b2, Bool.and_self, cond_true, cond_false]
  rw [mstep_ok]
  unfold mstepE
  rw [hs, inR_iff.2 h5, inR_iff.2 h6, inR_iff.2 hc, inR_iff.2 ht]
  rfl

def restV (ca se ti re c u1 u2 t : Int) : Int := bif calmB ca se c u1 u2 then btw (-1125899906842624) 1125899906842624 (re + t) else 0
theorem restV_in {ca se ti re c u1 u2 t : Int} (hr : 0 ≤ re ∧ re ≤ 1125899906842624) (ht : 1 ≤ t ∧ t ≤ 60000) : 0 ≤ restV ca se ti re c u1 u2 t ∧ restV ca se ti re c u1 u2 t ≤ 1125899906842624 := by
  unfold restV
  cases calmB ca se c u1 u2 with
  | false => exact ⟨Int.le_refl _, by show (0 : Int) ≤ _; omega⟩
  | true =>
    rw [cond_true]
    unfold btw
    split
    · omega
    · split <;> omega

theorem rd3 (f : Nat) (s0 s1 s2 s3 s4 s5 s6 s7 s8 s9 s10 s11 s12 s13 s14 s15 s16 s17 s18 s19 s20 s21 s22 : Int) (hs : restB c20 c21 c22 s7 = true) (h5 : -2147483648 ≤ s5 ∧ s5 ≤ 2147483648) (h6 : -2147483648 ≤ s6 ∧ s6 ≤ 2147483648) (hc : -2147483648 ≤ r0 ∧ r0 ≤ 2147483648) (ht : 1 ≤ r3 ∧ r3 ≤ 60000) : state_Step_l0 20000 (f + 1) 0 7 7 3 z0 z1 z2 z3 z4 z5 z6 z7 z8 z9 z10 z11 z12 z13 z14 z15 z16 z17 z18 z19 z20 z21 z22 s0 s1 s2 s3 s4 s5 s6 s7 s8 s9 s10 s11 s12 s13 s14 s15 s16 s17 s18 s19 s20 s21 s22 c0 c1 c2 c3 c4 c5 c6 c7 c8 c9 c10 c11 c12 c13 c14 c15 c16 c17 c18 c19 c20 c21 c22 n23 n24 n25 c26 c27 c28 c29 c30 c31 b32 c33 c34 c35 b36 c37 c38 c39 b40 c41 c42 c43 b44 c45 c46 c47 b48 c49 c50 c51 b52 c53 c54 c55 c56 r0 r1 r2 r3 X Y Z = state_Step_l0 20000 f 0 7 7 4 z0 z1 z2 z3 z4 z5 z6 z7 z8 z9 z10 z11 z12 z13 z14 z15 z16 z17 z18 z19 z20 z21 z22 s0 s1 s2 s3 s4 s5 s6 (restV c20 c21 c22 s7 r0 s5 s6 r3) s8 s9 s10 s11 s12 s13 s14 s15 s16 s17 s18 s19 s20 s21 s22 c0 c1 c2 c3 c4 c5 c6 c7 c8 c9 c10 c11 c12 c13 c14 c15 c16 c17 c18 c19 c20 c21 c22 n23 n24 n25 c26 c27 c28 c29 c30 c31 b32 c33 c34 c35 b36 c37 c38 c39 b40 c41 c42 c43 b44 c45 c46 c47 b48 c49 c50 c51 b52 c53 c54 c55 c56 r0 r1 r2 r3 X Y Z := by
  have d0 : ((0 : Int) != 0) = false := rfl
  show state_Step_l0r 20000 (state_Step_l0 20000 f) 0 7 7 3 z0 z1 z2 z3 z4 z5 z6 z7 z8 z9 z10 z11 z12 z13 z14 z15 z16 z17 z18 z19 z20 z21 z22 s0 s1 s2 s3 s4 s5 s6 s7 s8 s9 s10 s11 s12 s13 s14 s15 s16 s17 s18 s19 s20 s21 s22 c0 c1 c2 c3 c4 c5 c6 c7 c8 c9 c10 c11 c12 c13 c14 c15 c16 c17 c18 c19 c20 c21 c22 n23 n24 n25 c26 c27 c28 c29 c30 c31 b32 c33 c34 c35 b36 c37 c38 c39 b40 c41 c42 c43 b44 c45 c46 c47 b48 c49 c50 c51 b52 c53 c54 c55 c56 r0 r1 r2 r3 X Y Z = _
  unfold state_Step_l0r
  have d1 : decide ((3 : Int) < 7) = true := rfl
  have d2 : decide (0 ≤ (3 : Int)) = true := rfl
  have d3 : decide ((3 : Int) < ((7 : Nat) : Int)) = true := rfl
  have w : wi64 (3 + 1) = 4 := rfl
  have b6 : Nat.beq (Int.toNat (3 : Int) + 0) 6 = false := rfl
  have b5 : Nat.beq (Int.toNat (3 : Int) + 0) 5 = false := rfl
  have b4 : Nat.beq (Int.toNat (3 : Int) + 0) 4 = false := rfl
  have b3 : Nat.beq (Int.toNat (3 : Int) + 0) 3 = true := rfl
  simp only [d1, d2, d3, w, b6, b5, b4, b3, Bool.and_self, cond_true, cond_false]
  rw [rstep_ok]
  unfold rstepE restV
  rw [hs, inR_iff.2 h5, inR_iff.2 h6, inR_iff.2 hc, inR_iff.2 ht]
  cases calmB c20 c21 r0 s5 s6 <;> rfl

theorem rd4 (f : Nat) (s0 s1 s2 s3 s4 s5 s6 s7 s8 s9 s10 s11 s12 s13 s14 s15 s16 s17 s18 s19 s20 s21 s22 : Int) (h3 : 0 ≤ s3 ∧ s3 ≤ 10000) (h8 : 1 ≤ s8 ∧ s8 ≤ 1125899906842624) (h4 : -1125899906842624 ≤ s4 ∧ s4 ≤ 1125899906842624) (h0 : -1125899906842624 ≤ s0 ∧ s0 ≤ 1125899906842624) : state_Step_l0 20000 (f + 1) 0 7 7 4 z0 z1 z2 z3 z4 z5 z6 z7 z8 z9 z10 z11 z12 z13 z14 z15 z16 z17 z18 z19 z20 z21 z22 s0 s1 s2 s3 s4 s5 s6 s7 s8 s9 s10 s11 s12 s13 s14 s15 s16 s17 s18 s19 s20 s21 s22 c0 c1 c2 c3 c4 c5 c6 c7 c8 c9 c10 c11 c12 c13 c14 c15 c16 c17 c18 c19 c20 c21 c22 n23 n24 n25 c26 c27 c28 c29 c30 c31 b32 c33 c34 c35 b36 c37 c38 c39 b40 c41 c42 c43 b44 c45 c46 c47 b48 c49 c50 c51 b52 c53 c54 c55 c56 r0 r1 r2 r3 X Y Z = state_Step_l0 20000 f 0 7 7 5 z0 z1 z2 z3 z4 z5 z6 z7 z8 z9 z10 z11 z12 z13 z14 z15 z16 z17 z18 z19 z20 z21 z22 s0 s1 (shownV s3 s4 s0 s8) s3 s4 s5 s6 s7 s8 s9 s10 s11 s12 s13 s14 s15 s16 s17 s18 s19 s20 s21 s22 c0 c1 c2 c3 c4 c5 c6 c7 c8 c9 c10 c11 c12 c13 c14 c15 c16 c17 c18 c19 c20 c21 c22 n23 n24 n25 c26 c27 c28 c29 c30 c31 b32 c33 c34 c35 b36 c37 c38 c39 b40 c41 c42 c43 b44 c45 c46 c47 b48 c49 c50 c51 b52 c53 c54 c55 c56 r0 r1 r2 r3 X Y Z := by
  have d0 : ((0 : Int) != 0) = false := rfl
  show state_Step_l0r 20000 (state_Step_l0 20000 f) 0 7 7 4 z0 z1 z2 z3 z4 z5 z6 z7 z8 z9 z10 z11 z12 z13 z14 z15 z16 z17 z18 z19 z20 z21 z22 s0 s1 s2 s3 s4 s5 s6 s7 s8 s9 s10 s11 s12 s13 s14 s15 s16 s17 s18 s19 s20 s21 s22 c0 c1 c2 c3 c4 c5 c6 c7 c8 c9 c10 c11 c12 c13 c14 c15 c16 c17 c18 c19 c20 c21 c22 n23 n24 n25 c26 c27 c28 c29 c30 c31 b32 c33 c34 c35 b36 c37 c38 c39 b40 c41 c42 c43 b44 c45 c46 c47 b48 c49 c50 c51 b52 c53 c54 c55 c56 r0 r1 r2 r3 X Y Z = _
  unfold state_Step_l0r
  have d1 : decide ((4 : Int) < 7) = true := rfl
  have d2 : decide (0 ≤ (4 : Int)) = true := rfl
  have d3 : decide ((4 : Int) < ((7 : Nat) : Int)) = true := rfl
  have w : wi64 (4 + 1) = 5 := rfl
  have b6 : Nat.beq (Int.toNat (4 : Int) + 0) 6 = false := rfl
  have b5 : Nat.beq (Int.toNat (4 : Int) + 0) 5 = false := rfl
  have b4 : Nat.beq (Int.toNat (4 : Int) + 0) 4 = true := rfl
  simp only [d1, d2, d3, w, b6, b5, b4, Bool.and_self, cond_true, cond_false]
  rw [go_ok, if_pos ⟨h3, h8, inB_iff.2 h4, inB_iff.2 h0⟩]
  rfl

theorem rd5 (f : Nat) (s0 s1 s2 s3 s4 s5 s6 s7 s8 s9 s10 s11 s12 s13 s14 s15 s16 s17 s18 s19 s20 s21 s22 : Int) (hs : (restB c20 c21 c22 s7 && decide (s7 ≥ c22)) = false) : state_Step_l0 20000 (f + 1) 0 7 7 5 z0 z1 z2 z3 z4 z5 z6 z7 z8 z9 z10 z11 z12 z13 z14 z15 z16 z17 z18 z19 z20 z21 z22 s0 s1 s2 s3 s4 s5 s6 s7 s8 s9 s10 s11 s12 s13 s14 s15 s16 s17 s18 s19 s20 s21 s22 c0 c1 c2 c3 c4 c5 c6 c7 c8 c9 c10 c11 c12 c13 c14 c15 c16 c17 c18 c19 c20 c21 c22 n23 n24 n25 c26 c27 c28 c29 c30 c31 b32 c33 c34 c35 b36 c37 c38 c39 b40 c41 c42 c43 b44 c45 c46 c47 b48 c49 c50 c51 b52 c53 c54 c55 c56 r0 r1 r2 r3 X Y Z = state_Step_l0 20000 f 0 7 7 6 z0 z1 z2 z3 z4 z5 z6 z7 z8 z9 z10 z11 z12 z13 z14 z15 z16 z17 z18 z19 z20 z21 z22 s0 s1 s2 s3 s4 s5 s6 s7 s8 s9 s10 s11 s12 s13 s14 s15 s16 s17 s18 s19 s20 s21 s22 c0 c1 c2 c3 c4 c5 c6 c7 c8 c9 c10 c11 c12 c13 c14 c15 c16 c17 c18 c19 c20 c21 c22 n23 n24 n25 c26 c27 c28 c29 c30 c31 b32 c33 c34 c35 b36 c37 c38 c39 b40 c41 c42 c43 b44 c45 c46 c47 b48 c49 c50 c51 b52 c53 c54 c55 c56 r0 r1 r2 r3 X Y Z := by
  have d0 : ((0 : Int) != 0) = false := rfl
  show state_Step_l0r 20000 (state_Step_l0 20000 f) 0 7 7 5 z0 z1 z2 z3 z4 z5 z6 z7 z8 z9 z10 z11 z12 z13 z14 z15 z16 z17 z18 z19 z20 z21 z22 s0 s1 s2 s3 s4 s5 s6 s7 s8 s9 s10 s11 s12 s13 s14 s15 s16 s17 s18 s19 s20 s21 s22 c0 c1 c2 c3 c4 c5 c6 c7 c8 c9 c10 c11 c12 c13 c14 c15 c16 c17 c18 c19 c20 c21 c22 n23 n24 n25 c26 c27 c28 c29 c30 c31 b32 c33 c34 c35 b36 c37 c38 c39 b40 c41 c42 c43 b44 c45 c46 c47 b48 c49 c50 c51 b52 c53 c54 c55 c56 r0 r1 r2 r3 X Y Z = _
  unfold state_Step_l0r
  have d1 : decide ((5 : Int) < 7) = true := rfl
  have d2 : decide (0 ≤ (5 : Int)) = true := rfl
  have d3 : decide ((5 : Int) < ((7 : Nat) : Int)) = true := rfl
  have w : wi64 (5 + 1) = 6 := rfl
  have b6 : Nat.beq (Int.toNat (5 : Int) + 0) 6 = false := rfl
  have b5 : Nat.beq (Int.toNat (5 : Int) + 0) 5 = true := rfl
  simp only [d1, d2, d3, w, b6, b5, Bool.and_self, cond_true, cond_false]
  rw [ris_ok, hs]
  rfl

noncomputable def toldV (n m : Nat) (X Y Z : Nat → Int) (v t : Int) : Int := btw 0 10000 (gV n m X Y Z v t)
def restedV (c15 u1 u2 r0 r1 : Int) : Int := U (r1 - driveV r0 c15 - u1 - u2)

theorem rd5r (f : Nat) (s0 s1 s2 s3 s4 s5 s6 s7 s8 s9 s10 s11 s12 s13 s14 s15 s16 s17 s18 s19 s20 s21 s22 : Int) (hs : (restB c20 c21 c22 s7 && decide (s7 ≥ c22)) = true) (hcl : cellB c15 c16 c17 c18 c19 c20 c21 c22 = true) (hg : GGood n23 n24 n25 X Y Z) (h5 : -2147483648 ≤ s5 ∧ s5 ≤ 2147483648) (h6 : -2147483648 ≤ s6 ∧ s6 ≤ 2147483648) (hc : -2147483648 ≤ r0 ∧ r0 ≤ 2147483648) (hv : -2147483648 ≤ r1 ∧ r1 ≤ 2147483648) (h3 : 0 ≤ s3 ∧ s3 ≤ 10000) (h8 : 1 ≤ s8 ∧ s8 ≤ 1125899906842624) (h4 : -1125899906842624 ≤ s4 ∧ s4 ≤ 1125899906842624) (h0 : -1125899906842624 ≤ s0 ∧ s0 ≤ 1125899906842624) (hsl : 1 ≤ c26 ∧ c26 ≤ 10000) (hR : PH.rightB c27 c28 c29 c30 s0 (tw (shownV s3 s4 s0 s8) (toldV n23 n24 X Y Z (restedV c15 s5 s6 r0 r1) r2) c26) s8 s9 s10 = true) : state_Step_l0 20000 (f + 1) 0 7 7 5 z0 z1 z2 z3 z4 z5 z6 z7 z8 z9 z10 z11 z12 z13 z14 z15 z16 z17 z18 z19 z20 z21 z22 s0 s1 s2 s3 s4 s5 s6 s7 s8 s9 s10 s11 s12 s13 s14 s15 s16 s17 s18 s19 s20 s21 s22 c0 c1 c2 c3 c4 c5 c6 c7 c8 c9 c10 c11 c12 c13 c14 c15 c16 c17 c18 c19 c20 c21 c22 n23 n24 n25 c26 c27 c28 c29 c30 c31 b32 c33 c34 c35 b36 c37 c38 c39 b40 c41 c42 c43 b44 c45 c46 c47 b48 c49 c50 c51 b52 c53 c54 c55 c56 r0 r1 r2 r3 X Y Z = state_Step_l0 20000 f 0 7 7 6 z0 z1 z2 z3 z4 z5 z6 z7 z8 z9 z10 z11 z12 z13 z14 z15 z16 z17 z18 z19 z20 z21 z22 s0 s1 (tw (shownV s3 s4 s0 s8) (toldV n23 n24 X Y Z (restedV c15 s5 s6 r0 r1) r2) c26) (tw (shownV s3 s4 s0 s8) (toldV n23 n24 X Y Z (restedV c15 s5 s6 r0 r1) r2) c26) s0 s5 s6 s7 (PH.anch c28 c29 c30 s0 (tw (shownV s3 s4 s0 s8) (toldV n23 n24 X Y Z (restedV c15 s5 s6 r0 r1) r2) c26) s8 s9 s10).1 (PH.anch c28 c29 c30 s0 (tw (shownV s3 s4 s0 s8) (toldV n23 n24 X Y Z (restedV c15 s5 s6 r0 r1) r2) c26) s8 s9 s10).2.1 (PH.anch c28 c29 c30 s0 (tw (shownV s3 s4 s0 s8) (toldV n23 n24 X Y Z (restedV c15 s5 s6 r0 r1) r2) c26) s8 s9 s10).2.2 s11 s12 s13 s14 s15 s16 s17 s18 s19 s20 s21 s22 c0 c1 c2 c3 c4 c5 c6 c7 c8 c9 c10 c11 c12 c13 c14 c15 c16 c17 c18 c19 c20 c21 c22 n23 n24 n25 c26 c27 c28 c29 c30 c31 b32 c33 c34 c35 b36 c37 c38 c39 b40 c41 c42 c43 b44 c45 c46 c47 b48 c49 c50 c51 b52 c53 c54 c55 c56 r0 r1 r2 r3 X Y Z := by
  have d0 : ((0 : Int) != 0) = false := rfl
  show state_Step_l0r 20000 (state_Step_l0 20000 f) 0 7 7 5 z0 z1 z2 z3 z4 z5 z6 z7 z8 z9 z10 z11 z12 z13 z14 z15 z16 z17 z18 z19 z20 z21 z22 s0 s1 s2 s3 s4 s5 s6 s7 s8 s9 s10 s11 s12 s13 s14 s15 s16 s17 s18 s19 s20 s21 s22 c0 c1 c2 c3 c4 c5 c6 c7 c8 c9 c10 c11 c12 c13 c14 c15 c16 c17 c18 c19 c20 c21 c22 n23 n24 n25 c26 c27 c28 c29 c30 c31 b32 c33 c34 c35 b36 c37 c38 c39 b40 c41 c42 c43 b44 c45 c46 c47 b48 c49 c50 c51 b52 c53 c54 c55 c56 r0 r1 r2 r3 X Y Z = _
  unfold state_Step_l0r
  have d1 : decide ((5 : Int) < 7) = true := rfl
  have d2 : decide (0 ≤ (5 : Int)) = true := rfl
  have d3 : decide ((5 : Int) < ((7 : Nat) : Int)) = true := rfl
  have w : wi64 (5 + 1) = 6 := rfl
  have b6 : Nat.beq (Int.toNat (5 : Int) + 0) 6 = false := rfl
  have b5 : Nat.beq (Int.toNat (5 : Int) + 0) 5 = true := rfl
  simp only [d1, d2, d3, w, b6, b5, Bool.and_self, cond_true, cond_false]
  have d1' : ((0 : Int) == 0) = true := rfl
  have hsh := bw (s3 + btw (-10000) 10000 (nr (10000 * (s0 - s4)) s8))
  have hto := bw (gV n23 n24 X Y Z (restedV c15 s5 s6 r0 r1) r2)
  have hok : okC (shownV s3 s4 s0 s8) (toldV n23 n24 X Y Z (restedV c15 s5 s6 r0 r1) r2) c26 := ⟨hsh, hto, hsl⟩
  rw [ris_ok, hs]
  simp only [Option.bind_some, Bool.not_true, cond_false]
  rw [rested_ok]
  unfold restedE
  rw [inR_iff.2 h5, inR_iff.2 h6, inR_iff.2 hc, inR_iff.2 hv, hcl]
  simp only [Bool.and_self, cond_true, Option.bind_some, d0, cond_false]
  rw [told_ok]
  unfold tellE
  rw [gchk_good hg, if_pos rfl]
  simp only [Option.bind_some, d0, cond_false]
  have e1 : btw 0 10000 (gV n23 n24 X Y Z (U (r1 - driveV r0 c15 - s5 - s6)) r2) = toldV n23 n24 X Y Z (restedV c15 s5 s6 r0 r1) r2 := rfl
  rw [e1, rest_ok, if_pos ⟨⟨h3, h8, inB_iff.2 h4, inB_iff.2 h0⟩, hok⟩]
  simp only [Option.bind_some, d1', cond_true]
  rw [PH.anchor_ok]
  unfold PH.anchorV
  rw [hR]
  rfl

theorem rd6 (f : Nat) (s0 s1 s2 s3 s4 s5 s6 s7 s8 s9 s10 s11 s12 s13 s14 s15 s16 s17 s18 s19 s20 s21 s22 : Int) {y p0 p1 p2 p3 p4 p5 : Int} (hg : guard_Step_g 20000 c31 b32 c33 c34 c35 b36 c37 c38 c39 b40 c41 c42 c43 b44 c45 c46 c47 b48 c49 c50 c51 b52 c53 c54 c55 s14 s15 s16 s17 s18 s19 s20 r0 r1 r2 s2 = some (y, p0, p1, p2, p3, p4, p5, 0, ())) : state_Step_l0 20000 (f + 2) 0 7 7 6 z0 z1 z2 z3 z4 z5 z6 z7 z8 z9 z10 z11 z12 z13 z14 z15 z16 z17 z18 z19 z20 z21 z22 s0 s1 s2 s3 s4 s5 s6 s7 s8 s9 s10 s11 s12 s13 s14 s15 s16 s17 s18 s19 s20 s21 s22 c0 c1 c2 c3 c4 c5 c6 c7 c8 c9 c10 c11 c12 c13 c14 c15 c16 c17 c18 c19 c20 c21 c22 n23 n24 n25 c26 c27 c28 c29 c30 c31 b32 c33 c34 c35 b36 c37 c38 c39 b40 c41 c42 c43 b44 c45 c46 c47 b48 c49 c50 c51 b52 c53 c54 c55 c56 r0 r1 r2 r3 X Y Z =
    some (.inl (z0, z1, z2, z3, z4, z5, z6, z7, z8, z9, z10, z11, z12, z13, z14, z15, z16, z17, z18, z19, z20, z21, z22, s0, s1, s2, s3, s4, s5, s6, s7, s8, s9, s10, s11, s12, s13, y, p0, p1, p2, p3, p4, p5, s21, s22, c0, c1, c2, c3, c4, c5, c6, c7, c8, c9, c10, c11, c12, c13, c14, c15, c16, c17, c18, c19, c20, c21, c22, n23, n24, n25, c26, c27, c28, c29, c30, c31, b32, c33, c34, c35, b36, c37, c38, c39, b40, c41, c42, c43, b44, c45, c46, c47, b48, c49, c50, c51, b52, c53, c54, c55, c56, r0, r1, r2, r3, X, Y, Z, ())) := by
  have d0 : ((0 : Int) != 0) = false := rfl
  show state_Step_l0r 20000 (state_Step_l0 20000 (f + 1)) 0 7 7 6 z0 z1 z2 z3 z4 z5 z6 z7 z8 z9 z10 z11 z12 z13 z14 z15 z16 z17 z18 z19 z20 z21 z22 s0 s1 s2 s3 s4 s5 s6 s7 s8 s9 s10 s11 s12 s13 s14 s15 s16 s17 s18 s19 s20 s21 s22 c0 c1 c2 c3 c4 c5 c6 c7 c8 c9 c10 c11 c12 c13 c14 c15 c16 c17 c18 c19 c20 c21 c22 n23 n24 n25 c26 c27 c28 c29 c30 c31 b32 c33 c34 c35 b36 c37 c38 c39 b40 c41 c42 c43 b44 c45 c46 c47 b48 c49 c50 c51 b52 c53 c54 c55 c56 r0 r1 r2 r3 X Y Z = _
  unfold state_Step_l0r
  have d1 : decide ((6 : Int) < 7) = true := rfl
  have d2 : decide (0 ≤ (6 : Int)) = true := rfl
  have d3 : decide ((6 : Int) < ((7 : Nat) : Int)) = true := rfl
  have b6 : Nat.beq (Int.toNat (6 : Int) + 0) 6 = true := rfl
  simp only [d1, d2, d3, b6, Bool.and_self, cond_true]
  rw [hg]
  rfl
end
end Go.Proofs.YtjmbhhinmbgneaaGreat
