/-
  Law 21 (state): a step comes to something, whatever it is handed; and done again it comes to the same.
-/
import Derived.Test.YtjmbhhinmbgneaaGreatH
import Derived.Test.YtjmbhhinmbgneaaGreatB
import Derived.Test.YtjmbhhinmbgneaaGreatF
import Derived.Test.YtjmbhhinmbgneaaGreatX
import Derived.Test.YtjmbhhinmbgneaaGreatY
import Derived.Test.YtjmbhhinmbgneaaGreatZ
namespace Go.Proofs.YtjmbhhinmbgneaaGreat
open Go.Sy
set_option maxHeartbeats 4000000

theorem works_ok : w_works_g 20000 = some (true, ()) := by kernel_rfl

theorem tlt' {i n : Nat} (h : i < n) : decide ((i : Int) < (n : Int)) = true := by simp; omega

theorem cyc_total (s0 s1 s2 s3 s4 s5 s6 s7 s8 s9 s10 s11 s12 s13 s14 s15 s16 s17 s18 s19 s20 s21 s22 c t : Int) (hc : -9223372036854775807 ≤ c ∧ c < 9223372036854775808) :
    ∃ q, cycle_Step_g 20000 s0 s1 s2 s3 s4 s5 s6 s7 s8 s9 s10 s11 s12 s13 s14 s15 s16 s17 s18 s19 s20 s21 s22 c t = some q := by
  by_cases h : cycB s11 s12 s13 s8 = true ∧ (-2147483648 ≤ c ∧ c ≤ 2147483648) ∧ (1 ≤ t ∧ t ≤ 60000)
  · exact ⟨_, cycstep_ok h.1 h.2.1 h.2.2⟩
  · unfold cycle_Step_g
    rw [fxs_ok 20000 hc.1 hc.2, cright_ok]
    simp only [Option.bind_some]
    cases hB : cycB s11 s12 s13 s8 with
    | false => exact ⟨_, rfl⟩
    | true =>
      simp only [Bool.not_true, cond_false]
      by_cases h1 : ab c > 2147483648
      · rw [decide_eq_true h1]; exact ⟨_, rfl⟩
      · rw [decide_eq_false h1]
        by_cases h2 : t < 1
        · rw [decide_eq_true h2]; exact ⟨_, rfl⟩
        · rw [decide_eq_false h2]
          by_cases h3 : t > 60000
          · rw [decide_eq_true h3]; exact ⟨_, rfl⟩
          · exfalso
            refine h ⟨hB, ?_, by omega, by omega⟩
            unfold ab at h1
            split at h1 <;> omega

section
variable (c0 c1 c2 c3 c4 c5 c6 c7 c8 c9 c10 c11 c12 c13 c14 c15 c16 c17 c18 c19 c20 c21 c22 : Int) (n23 n24 n25 : Nat) (c26 c27 c28 c29 c30 c31 : Int) (b32 : Bool) (c33 c34 c35 : Int) (b36 : Bool) (c37 c38 c39 : Int) (b40 : Bool) (c41 c42 c43 : Int) (b44 : Bool) (c45 c46 c47 : Int) (b48 : Bool) (c49 c50 c51 : Int) (b52 : Bool) (c53 c54 c55 c56 : Int) (X Y Z : Nat → Int)

theorem schk_loop (e0 e1 e2 e3 e4 : Int) : ∀ (d i N : Nat), i + d = 5 → d < N → ∃ q, state_Check_l0 20000 N 0 5 5 (i : Int) c0 c1 c2 c3 c4 c5 c6 c7 c8 c9 c10 c11 c12 c13 c14 c15 c16 c17 c18 c19 c20 c21 c22 n23 n24 n25 c26 c27 c28 c29 c30 c31 b32 c33 c34 c35 b36 c37 c38 c39 b40 c41 c42 c43 b44 c45 c46 c47 b48 c49 c50 c51 b52 c53 c54 c55 c56 e0 e1 e2 e3 e4 X Y Z = some q
  | 0, i, N, hd, hf => by
    obtain ⟨f, rfl⟩ : ∃ f, N = f + 1 := ⟨N - 1, by omega⟩
    obtain rfl : i = 5 := by omega
    exact ⟨_, rfl⟩
  | d + 1, i, N, hd, hf => by
    obtain ⟨f, rfl⟩ : ∃ f, N = f + 1 := ⟨N - 1, by omega⟩
    have ih := schk_loop e0 e1 e2 e3 e4 d (i + 1) f (by omega) (by omega)
    show ∃ q, state_Check_l0r 20000 (state_Check_l0 20000 f) 0 5 5 (i : Int) c0 c1 c2 c3 c4 c5 c6 c7 c8 c9 c10 c11 c12 c13 c14 c15 c16 c17 c18 c19 c20 c21 c22 n23 n24 n25 c26 c27 c28 c29 c30 c31 b32 c33 c34 c35 b36 c37 c38 c39 b40 c41 c42 c43 b44 c45 c46 c47 b48 c49 c50 c51 b52 c53 c54 c55 c56 e0 e1 e2 e3 e4 X Y Z = some q
    unfold state_Check_l0r
    have w : wi64 ((i : Int) + 1) = ((i + 1 : Nat) : Int) := by rw [wi64_id (by omega) (by omega)]; simp
    rw [w, decide_eq_true (show (i : Int) < 5 by omega), decide_eq_true (show 0 ≤ (i : Int) by omega), tlt' (show i < 5 by omega)]
    simp only [Bool.and_self, cond_true]
    exact PG.ex_bif ⟨_, rfl⟩ ih

theorem chk_total : ∃ q, state_Check_g 20000 c0 c1 c2 c3 c4 c5 c6 c7 c8 c9 c10 c11 c12 c13 c14 c15 c16 c17 c18 c19 c20 c21 c22 n23 n24 n25 c26 c27 c28 c29 c30 c31 b32 c33 c34 c35 b36 c37 c38 c39 b40 c41 c42 c43 b44 c45 c46 c47 b48 c49 c50 c51 b52 c53 c54 c55 c56 X Y Z = some q := by
  unfold state_Check_g
  rw [PA.way_ok, mcheck_ok, gcheck_ok, PH.check_ok, PG.check_k]
  simp only [Option.bind_some]
  refine PG.ex_bind (schk_loop c0 c1 c2 c3 c4 c5 c6 c7 c8 c9 c10 c11 c12 c13 c14 c15 c16 c17 c18 c19 c20 c21 c22 n23 n24 n25 c26 c27 c28 c29 c30 c31 b32 c33 c34 c35 b36 c37 c38 c39 b40 c41 c42 c43 b44 c45 c46 c47 b48 c49 c50 c51 b52 c53 c54 c55 c56 X Y Z _ _ _ _ _ 5 0 20000 (by omega) (by omega)) fun a => PG.ex_sum (fun t => ?_) (fun t => ⟨_, rfl⟩) a
  rw [state_range_has_all _ _ _ _ (show 1 < 900 by omega), state_range_has_all _ _ _ _ (show 1 < 900 by omega)]
  simp only [Option.bind_some]
  exact PG.ex_bif ⟨_, rfl⟩ (PG.ex_bif ⟨_, rfl⟩ ⟨_, rfl⟩)

theorem fits_total (s0 s1 s2 s3 s4 s5 s6 s7 s8 s9 s10 s11 s12 s13 s14 s15 s16 s17 s18 s19 s20 s21 s22 : Int) : ∃ q, state_Fits_g 20000 c0 c1 c2 c3 c4 c5 c6 c7 c8 c9 c10 c11 c12 c13 c14 c15 c16 c17 c18 c19 c20 c21 c22 n23 n24 n25 c26 c27 c28 c29 c30 c31 b32 c33 c34 c35 b36 c37 c38 c39 b40 c41 c42 c43 b44 c45 c46 c47 b48 c49 c50 c51 b52 c53 c54 c55 c56 s0 s1 s2 s3 s4 s5 s6 s7 s8 s9 s10 s11 s12 s13 s14 s15 s16 s17 s18 s19 s20 s21 s22 X Y Z = some q := by
  unfold state_Fits_g state_soc_g state_charge_g state_unit_g state_count_g
  refine PG.ex_bind (chk_total c0 c1 c2 c3 c4 c5 c6 c7 c8 c9 c10 c11 c12 c13 c14 c15 c16 c17 c18 c19 c20 c21 c22 n23 n24 n25 c26 c27 c28 c29 c30 c31 b32 c33 c34 c35 b36 c37 c38 c39 b40 c41 c42 c43 b44 c45 c46 c47 b48 c49 c50 c51 b52 c53 c54 c55 c56 X Y Z) fun a => PG.ex_bif ⟨_, rfl⟩ ?_
  rw [ccheck_ok, cycheck_ok]
  simp only [Option.bind_some, state_range_has_all _ _ _ _ (show 3 < 900 by omega), state_range_has_all _ _ _ _ (show 1 < 900 by omega), state_range_has_all _ _ _ _ (show 2 < 900 by omega), state_range_has_all _ _ _ _ (show 6 < 900 by omega)]
  repeat' first
    | apply PG.ex_bif
    | exact ⟨_, rfl⟩

/-! ### The parts of a step, the last one first -/
variable (z0 z1 z2 z3 z4 z5 z6 z7 z8 z9 z10 z11 z12 z13 z14 z15 z16 z17 z18 z19 z20 z21 z22 : Int) (r0 r1 r2 r3 : Int)

theorem st7 (f : Nat) (hr : -9223372036854775807 ≤ r0 ∧ r0 < 9223372036854775808) (s0 s1 s2 s3 s4 s5 s6 s7 s8 s9 s10 s11 s12 s13 s14 s15 s16 s17 s18 s19 s20 s21 s22 : Int) : ∃ q, state_Step_l0 20000 (f + 1) 0 7 7 7 z0 z1 z2 z3 z4 z5 z6 z7 z8 z9 z10 z11 z12 z13 z14 z15 z16 z17 z18 z19 z20 z21 z22 s0 s1 s2 s3 s4 s5 s6 s7 s8 s9 s10 s11 s12 s13 s14 s15 s16 s17 s18 s19 s20 s21 s22 c0 c1 c2 c3 c4 c5 c6 c7 c8 c9 c10 c11 c12 c13 c14 c15 c16 c17 c18 c19 c20 c21 c22 n23 n24 n25 c26 c27 c28 c29 c30 c31 b32 c33 c34 c35 b36 c37 c38 c39 b40 c41 c42 c43 b44 c45 c46 c47 b48 c49 c50 c51 b52 c53 c54 c55 c56 r0 r1 r2 r3 X Y Z = some q := by
  exact ⟨_, rfl⟩

theorem st6 (f : Nat) (hr : -9223372036854775807 ≤ r0 ∧ r0 < 9223372036854775808) (s0 s1 s2 s3 s4 s5 s6 s7 s8 s9 s10 s11 s12 s13 s14 s15 s16 s17 s18 s19 s20 s21 s22 : Int) : ∃ q, state_Step_l0 20000 (f + 2) 0 7 7 6 z0 z1 z2 z3 z4 z5 z6 z7 z8 z9 z10 z11 z12 z13 z14 z15 z16 z17 z18 z19 z20 z21 z22 s0 s1 s2 s3 s4 s5 s6 s7 s8 s9 s10 s11 s12 s13 s14 s15 s16 s17 s18 s19 s20 s21 s22 c0 c1 c2 c3 c4 c5 c6 c7 c8 c9 c10 c11 c12 c13 c14 c15 c16 c17 c18 c19 c20 c21 c22 n23 n24 n25 c26 c27 c28 c29 c30 c31 b32 c33 c34 c35 b36 c37 c38 c39 b40 c41 c42 c43 b44 c45 c46 c47 b48 c49 c50 c51 b52 c53 c54 c55 c56 r0 r1 r2 r3 X Y Z = some q := by
  show ∃ q, state_Step_l0r 20000 (state_Step_l0 20000 (f + 1)) 0 7 7 6 z0 z1 z2 z3 z4 z5 z6 z7 z8 z9 z10 z11 z12 z13 z14 z15 z16 z17 z18 z19 z20 z21 z22 s0 s1 s2 s3 s4 s5 s6 s7 s8 s9 s10 s11 s12 s13 s14 s15 s16 s17 s18 s19 s20 s21 s22 c0 c1 c2 c3 c4 c5 c6 c7 c8 c9 c10 c11 c12 c13 c14 c15 c16 c17 c18 c19 c20 c21 c22 n23 n24 n25 c26 c27 c28 c29 c30 c31 b32 c33 c34 c35 b36 c37 c38 c39 b40 c41 c42 c43 b44 c45 c46 c47 b48 c49 c50 c51 b52 c53 c54 c55 c56 r0 r1 r2 r3 X Y Z = some q
  unfold state_Step_l0r
  have d1 : decide ((6 : Int) < 7) = true := rfl
  have d2 : decide (0 ≤ (6 : Int)) = true := rfl
  have d3 : decide ((6 : Int) < ((7 : Nat) : Int)) = true := rfl
  have w : wi64 (6 + 1) = 7 := rfl
  have b6 : Nat.beq (Int.toNat (6 : Int) + 0) 6 = true := rfl
  simp only [d1, d2, d3, w, b6, Bool.and_self, cond_true, cond_false]
  exact PG.ex_bind (PG.gstep_ok ..) fun _ => PG.ex_bif ⟨_, rfl⟩ (st7 c0 c1 c2 c3 c4 c5 c6 c7 c8 c9 c10 c11 c12 c13 c14 c15 c16 c17 c18 c19 c20 c21 c22 n23 n24 n25 c26 c27 c28 c29 c30 c31 b32 c33 c34 c35 b36 c37 c38 c39 b40 c41 c42 c43 b44 c45 c46 c47 b48 c49 c50 c51 b52 c53 c54 c55 c56 X Y Z z0 z1 z2 z3 z4 z5 z6 z7 z8 z9 z10 z11 z12 z13 z14 z15 z16 z17 z18 z19 z20 z21 z22 r0 r1 r2 r3 f hr ..)

theorem st5 (f : Nat) (hr : -9223372036854775807 ≤ r0 ∧ r0 < 9223372036854775808) (s0 s1 s2 s3 s4 s5 s6 s7 s8 s9 s10 s11 s12 s13 s14 s15 s16 s17 s18 s19 s20 s21 s22 : Int) : ∃ q, state_Step_l0 20000 (f + 3) 0 7 7 5 z0 z1 z2 z3 z4 z5 z6 z7 z8 z9 z10 z11 z12 z13 z14 z15 z16 z17 z18 z19 z20 z21 z22 s0 s1 s2 s3 s4 s5 s6 s7 s8 s9 s10 s11 s12 s13 s14 s15 s16 s17 s18 s19 s20 s21 s22 c0 c1 c2 c3 c4 c5 c6 c7 c8 c9 c10 c11 c12 c13 c14 c15 c16 c17 c18 c19 c20 c21 c22 n23 n24 n25 c26 c27 c28 c29 c30 c31 b32 c33 c34 c35 b36 c37 c38 c39 b40 c41 c42 c43 b44 c45 c46 c47 b48 c49 c50 c51 b52 c53 c54 c55 c56 r0 r1 r2 r3 X Y Z = some q := by
  show ∃ q, state_Step_l0r 20000 (state_Step_l0 20000 (f + 2)) 0 7 7 5 z0 z1 z2 z3 z4 z5 z6 z7 z8 z9 z10 z11 z12 z13 z14 z15 z16 z17 z18 z19 z20 z21 z22 s0 s1 s2 s3 s4 s5 s6 s7 s8 s9 s10 s11 s12 s13 s14 s15 s16 s17 s18 s19 s20 s21 s22 c0 c1 c2 c3 c4 c5 c6 c7 c8 c9 c10 c11 c12 c13 c14 c15 c16 c17 c18 c19 c20 c21 c22 n23 n24 n25 c26 c27 c28 c29 c30 c31 b32 c33 c34 c35 b36 c37 c38 c39 b40 c41 c42 c43 b44 c45 c46 c47 b48 c49 c50 c51 b52 c53 c54 c55 c56 r0 r1 r2 r3 X Y Z = some q
  unfold state_Step_l0r
  have d1 : decide ((5 : Int) < 7) = true := rfl
  have d2 : decide (0 ≤ (5 : Int)) = true := rfl
  have d3 : decide ((5 : Int) < ((7 : Nat) : Int)) = true := rfl
  have w : wi64 (5 + 1) = 6 := rfl
  have b6 : Nat.beq (Int.toNat (5 : Int) + 0) 6 = false := rfl
  have b5 : Nat.beq (Int.toNat (5 : Int) + 0) 5 = true := rfl
  simp only [d1, d2, d3, w, b6, b5, Bool.and_self, cond_true, cond_false]
  repeat' first
    | apply PG.ex_bif
    | refine PG.ex_bind ⟨_, ris_ok ..⟩ fun _ => ?_
    | refine PG.ex_bind ⟨_, rested_ok ..⟩ fun _ => ?_
    | refine PG.ex_bind ⟨_, told_ok ..⟩ fun _ => ?_
    | refine PG.ex_bind ⟨_, rest_ok ..⟩ fun _ => ?_
    | refine PG.ex_bind ⟨_, PH.anchor_ok ..⟩ fun _ => ?_
    | exact st6 c0 c1 c2 c3 c4 c5 c6 c7 c8 c9 c10 c11 c12 c13 c14 c15 c16 c17 c18 c19 c20 c21 c22 n23 n24 n25 c26 c27 c28 c29 c30 c31 b32 c33 c34 c35 b36 c37 c38 c39 b40 c41 c42 c43 b44 c45 c46 c47 b48 c49 c50 c51 b52 c53 c54 c55 c56 X Y Z z0 z1 z2 z3 z4 z5 z6 z7 z8 z9 z10 z11 z12 z13 z14 z15 z16 z17 z18 z19 z20 z21 z22 r0 r1 r2 r3 f hr ..
    | exact ⟨_, rfl⟩

theorem st4 (f : Nat) (hr : -9223372036854775807 ≤ r0 ∧ r0 < 9223372036854775808) (s0 s1 s2 s3 s4 s5 s6 s7 s8 s9 s10 s11 s12 s13 s14 s15 s16 s17 s18 s19 s20 s21 s22 : Int) : ∃ q, state_Step_l0 20000 (f + 4) 0 7 7 4 z0 z1 z2 z3 z4 z5 z6 z7 z8 z9 z10 z11 z12 z13 z14 z15 z16 z17 z18 z19 z20 z21 z22 s0 s1 s2 s3 s4 s5 s6 s7 s8 s9 s10 s11 s12 s13 s14 s15 s16 s17 s18 s19 s20 s21 s22 c0 c1 c2 c3 c4 c5 c6 c7 c8 c9 c10 c11 c12 c13 c14 c15 c16 c17 c18 c19 c20 c21 c22 n23 n24 n25 c26 c27 c28 c29 c30 c31 b32 c33 c34 c35 b36 c37 c38 c39 b40 c41 c42 c43 b44 c45 c46 c47 b48 c49 c50 c51 b52 c53 c54 c55 c56 r0 r1 r2 r3 X Y Z = some q := by
  show ∃ q, state_Step_l0r 20000 (state_Step_l0 20000 (f + 3)) 0 7 7 4 z0 z1 z2 z3 z4 z5 z6 z7 z8 z9 z10 z11 z12 z13 z14 z15 z16 z17 z18 z19 z20 z21 z22 s0 s1 s2 s3 s4 s5 s6 s7 s8 s9 s10 s11 s12 s13 s14 s15 s16 s17 s18 s19 s20 s21 s22 c0 c1 c2 c3 c4 c5 c6 c7 c8 c9 c10 c11 c12 c13 c14 c15 c16 c17 c18 c19 c20 c21 c22 n23 n24 n25 c26 c27 c28 c29 c30 c31 b32 c33 c34 c35 b36 c37 c38 c39 b40 c41 c42 c43 b44 c45 c46 c47 b48 c49 c50 c51 b52 c53 c54 c55 c56 r0 r1 r2 r3 X Y Z = some q
  unfold state_Step_l0r
  have d1 : decide ((4 : Int) < 7) = true := rfl
  have d2 : decide (0 ≤ (4 : Int)) = true := rfl
  have d3 : decide ((4 : Int) < ((7 : Nat) : Int)) = true := rfl
  have w : wi64 (4 + 1) = 5 := rfl
  have b6 : Nat.beq (Int.toNat (4 : Int) + 0) 6 = false := rfl
  have b5 : Nat.beq (Int.toNat (4 : Int) + 0) 5 = false := rfl
  have b4 : Nat.beq (Int.toNat (4 : Int) + 0) 4 = true := rfl
  simp only [d1, d2, d3, w, b6, b5, b4, Bool.and_self, cond_true, cond_false]
  exact PG.ex_bind ⟨_, go_ok ..⟩ fun _ => PG.ex_bif ⟨_, rfl⟩ (st5 c0 c1 c2 c3 c4 c5 c6 c7 c8 c9 c10 c11 c12 c13 c14 c15 c16 c17 c18 c19 c20 c21 c22 n23 n24 n25 c26 c27 c28 c29 c30 c31 b32 c33 c34 c35 b36 c37 c38 c39 b40 c41 c42 c43 b44 c45 c46 c47 b48 c49 c50 c51 b52 c53 c54 c55 c56 X Y Z z0 z1 z2 z3 z4 z5 z6 z7 z8 z9 z10 z11 z12 z13 z14 z15 z16 z17 z18 z19 z20 z21 z22 r0 r1 r2 r3 f hr ..)

theorem st3 (f : Nat) (hr : -9223372036854775807 ≤ r0 ∧ r0 < 9223372036854775808) (s0 s1 s2 s3 s4 s5 s6 s7 s8 s9 s10 s11 s12 s13 s14 s15 s16 s17 s18 s19 s20 s21 s22 : Int) : ∃ q, state_Step_l0 20000 (f + 5) 0 7 7 3 z0 z1 z2 z3 z4 z5 z6 z7 z8 z9 z10 z11 z12 z13 z14 z15 z16 z17 z18 z19 z20 z21 z22 s0 s1 s2 s3 s4 s5 s6 s7 s8 s9 s10 s11 s12 s13 s14 s15 s16 s17 s18 s19 s20 s21 s22 c0 c1 c2 c3 c4 c5 c6 c7 c8 c9 c10 c11 c12 c13 c14 c15 c16 c17 c18 c19 c20 c21 c22 n23 n24 n25 c26 c27 c28 c29 c30 c31 b32 c33 c34 c35 b36 c37 c38 c39 b40 c41 c42 c43 b44 c45 c46 c47 b48 c49 c50 c51 b52 c53 c54 c55 c56 r0 r1 r2 r3 X Y Z = some q := by
  show ∃ q, state_Step_l0r 20000 (state_Step_l0 20000 (f + 4)) 0 7 7 3 z0 z1 z2 z3 z4 z5 z6 z7 z8 z9 z10 z11 z12 z13 z14 z15 z16 z17 z18 z19 z20 z21 z22 s0 s1 s2 s3 s4 s5 s6 s7 s8 s9 s10 s11 s12 s13 s14 s15 s16 s17 s18 s19 s20 s21 s22 c0 c1 c2 c3 c4 c5 c6 c7 c8 c9 c10 c11 c12 c13 c14 c15 c16 c17 c18 c19 c20 c21 c22 n23 n24 n25 c26 c27 c28 c29 c30 c31 b32 c33 c34 c35 b36 c37 c38 c39 b40 c41 c42 c43 b44 c45 c46 c47 b48 c49 c50 c51 b52 c53 c54 c55 c56 r0 r1 r2 r3 X Y Z = some q
  unfold state_Step_l0r
  have d1 : decide ((3 : Int) < 7) = true := rfl
  have d2 : decide (0 ≤ (3 : Int)) = true := rfl
  have d3 : decide ((3 : Int) < ((7 : Nat) : Int)) = true := rfl
  have w : wi64 (3 + 1) = 4 := rfl
  have b6 : Nat.beq (Int.toNat (3 : Int) + 0) 6 = false := rfl
  have b5 : Nat.beq (Int.toNat (3 : Int) + 0) 5 = false := rfl
  have b4 : Nat.beq (Int.toNat (3 : Int) + 0) 4 = false := rfl
  have b3 : Nat.beq (Int.toNat (3 : Int) + 0) 3 = true := rfl
  simp only [d1, d2, d3, w, b6, b5, b4, b3, Bool.and_self, cond_true, cond_false]
  exact PG.ex_bind ⟨_, rstep_ok ..⟩ fun _ => PG.ex_bif ⟨_, rfl⟩ (st4 c0 c1 c2 c3 c4 c5 c6 c7 c8 c9 c10 c11 c12 c13 c14 c15 c16 c17 c18 c19 c20 c21 c22 n23 n24 n25 c26 c27 c28 c29 c30 c31 b32 c33 c34 c35 b36 c37 c38 c39 b40 c41 c42 c43 b44 c45 c46 c47 b48 c49 c50 c51 b52 c53 c54 c55 c56 X Y Z z0 z1 z2 z3 z4 z5 z6 z7 z8 z9 z10 z11 z12 z13 z14 z15 z16 z17 z18 z19 z20 z21 z22 r0 r1 r2 r3 f hr ..)

theorem st2 (f : Nat) (hr : -9223372036854775807 ≤ r0 ∧ r0 < 9223372036854775808) (s0 s1 s2 s3 s4 s5 s6 s7 s8 s9 s10 s11 s12 s13 s14 s15 s16 s17 s18 s19 s20 s21 s22 : Int) : ∃ q, state_Step_l0 20000 (f + 6) 0 7 7 2 z0 z1 z2 z3 z4 z5 z6 z7 z8 z9 z10 z11 z12 z13 z14 z15 z16 z17 z18 z19 z20 z21 z22 s0 s1 s2 s3 s4 s5 s6 s7 s8 s9 s10 s11 s12 s13 s14 s15 s16 s17 s18 s19 s20 s21 s22 c0 c1 c2 c3 c4 c5 c6 c7 c8 c9 c10 c11 c12 c13 c14 c15 c16 c17 c18 c19 c20 c21 c22 n23 n24 n25 c26 c27 c28 c29 c30 c31 b32 c33 c34 c35 b36 c37 c38 c39 b40 c41 c42 c43 b44 c45 c46 c47 b48 c49 c50 c51 b52 c53 c54 c55 c56 r0 r1 r2 r3 X Y Z = some q := by
  show ∃ q, state_Step_l0r 20000 (state_Step_l0 20000 (f + 5)) 0 7 7 2 z0 z1 z2 z3 z4 z5 z6 z7 z8 z9 z10 z11 z12 z13 z14 z15 z16 z17 z18 z19 z20 z21 z22 s0 s1 s2 s3 s4 s5 s6 s7 s8 s9 s10 s11 s12 s13 s14 s15 s16 s17 s18 s19 s20 s21 s22 c0 c1 c2 c3 c4 c5 c6 c7 c8 c9 c10 c11 c12 c13 c14 c15 c16 c17 c18 c19 c20 c21 c22 n23 n24 n25 c26 c27 c28 c29 c30 c31 b32 c33 c34 c35 b36 c37 c38 c39 b40 c41 c42 c43 b44 c45 c46 c47 b48 c49 c50 c51 b52 c53 c54 c55 c56 r0 r1 r2 r3 X Y Z = some q
  unfold state_Step_l0r
  have d1 : decide ((2 : Int) < 7) = true := rfl
  have d2 : decide (0 ≤ (2 : Int)) = true := rfl
  have d3 : decide ((2 : Int) < ((7 : Nat) : Int)) = true := rfl
  have w : wi64 (2 + 1) = 3 := rfl
  have b6 : Nat.beq (Int.toNat (2 : Int) + 0) 6 = false := rfl
  have b5 : Nat.beq (Int.toNat (2 : Int) + 0) 5 = false := rfl
  have b4 : Nat.beq (Int.toNat (2 : Int) + 0) 4 = false := rfl
  have b3 : Nat.beq (Int.toNat (2 : Int) + 0) 3 = false := rfl
  have b2 : Nat.beq (Int.toNat (2 : Int) + 0) 2 = true := rfl
  simp only [d1, d2, d3, w, b6, b5, b4, b3, b2, Bool.and_self, cond_true, cond_false]
  exact PG.ex_bind ⟨_, mstep_ok ..⟩ fun _ => PG.ex_bif ⟨_, rfl⟩ (st3 c0 c1 c2 c3 c4 c5 c6 c7 c8 c9 c10 c11 c12 c13 c14 c15 c16 c17 c18 c19 c20 c21 c22 n23 n24 n25 c26 c27 c28 c29 c30 c31 b32 c33 c34 c35 b36 c37 c38 c39 b40 c41 c42 c43 b44 c45 c46 c47 b48 c49 c50 c51 b52 c53 c54 c55 c56 X Y Z z0 z1 z2 z3 z4 z5 z6 z7 z8 z9 z10 z11 z12 z13 z14 z15 z16 z17 z18 z19 z20 z21 z22 r0 r1 r2 r3 f hr ..)

theorem st1 (f : Nat) (hr : -9223372036854775807 ≤ r0 ∧ r0 < 9223372036854775808) (s0 s1 s2 s3 s4 s5 s6 s7 s8 s9 s10 s11 s12 s13 s14 s15 s16 s17 s18 s19 s20 s21 s22 : Int) : ∃ q, state_Step_l0 20000 (f + 7) 0 7 7 1 z0 z1 z2 z3 z4 z5 z6 z7 z8 z9 z10 z11 z12 z13 z14 z15 z16 z17 z18 z19 z20 z21 z22 s0 s1 s2 s3 s4 s5 s6 s7 s8 s9 s10 s11 s12 s13 s14 s15 s16 s17 s18 s19 s20 s21 s22 c0 c1 c2 c3 c4 c5 c6 c7 c8 c9 c10 c11 c12 c13 c14 c15 c16 c17 c18 c19 c20 c21 c22 n23 n24 n25 c26 c27 c28 c29 c30 c31 b32 c33 c34 c35 b36 c37 c38 c39 b40 c41 c42 c43 b44 c45 c46 c47 b48 c49 c50 c51 b52 c53 c54 c55 c56 r0 r1 r2 r3 X Y Z = some q := by
  show ∃ q, state_Step_l0r 20000 (state_Step_l0 20000 (f + 6)) 0 7 7 1 z0 z1 z2 z3 z4 z5 z6 z7 z8 z9 z10 z11 z12 z13 z14 z15 z16 z17 z18 z19 z20 z21 z22 s0 s1 s2 s3 s4 s5 s6 s7 s8 s9 s10 s11 s12 s13 s14 s15 s16 s17 s18 s19 s20 s21 s22 c0 c1 c2 c3 c4 c5 c6 c7 c8 c9 c10 c11 c12 c13 c14 c15 c16 c17 c18 c19 c20 c21 c22 n23 n24 n25 c26 c27 c28 c29 c30 c31 b32 c33 c34 c35 b36 c37 c38 c39 b40 c41 c42 c43 b44 c45 c46 c47 b48 c49 c50 c51 b52 c53 c54 c55 c56 r0 r1 r2 r3 X Y Z = some q
  unfold state_Step_l0r
  have d1 : decide ((1 : Int) < 7) = true := rfl
  have d2 : decide (0 ≤ (1 : Int)) = true := rfl
  have d3 : decide ((1 : Int) < ((7 : Nat) : Int)) = true := rfl
  have w : wi64 (1 + 1) = 2 := rfl
  have b6 : Nat.beq (Int.toNat (1 : Int) + 0) 6 = false := rfl
  have b5 : Nat.beq (Int.toNat (1 : Int) + 0) 5 = false := rfl
  have b4 : Nat.beq (Int.toNat (1 : Int) + 0) 4 = false := rfl
  have b3 : Nat.beq (Int.toNat (1 : Int) + 0) 3 = false := rfl
  have b2 : Nat.beq (Int.toNat (1 : Int) + 0) 2 = false := rfl
  have b1 : Nat.beq (Int.toNat (1 : Int) + 0) 1 = true := rfl
  simp only [d1, d2, d3, w, b6, b5, b4, b3, b2, b1, Bool.and_self, cond_true, cond_false]
  exact PG.ex_bind (cyc_total _ _ _ _ _ _ _ _ _ _ _ _ _ _ _ _ _ _ _ _ _ _ _ _ _ hr) fun _ => PG.ex_bif ⟨_, rfl⟩ (st2 c0 c1 c2 c3 c4 c5 c6 c7 c8 c9 c10 c11 c12 c13 c14 c15 c16 c17 c18 c19 c20 c21 c22 n23 n24 n25 c26 c27 c28 c29 c30 c31 b32 c33 c34 c35 b36 c37 c38 c39 b40 c41 c42 c43 b44 c45 c46 c47 b48 c49 c50 c51 b52 c53 c54 c55 c56 X Y Z z0 z1 z2 z3 z4 z5 z6 z7 z8 z9 z10 z11 z12 z13 z14 z15 z16 z17 z18 z19 z20 z21 z22 r0 r1 r2 r3 f hr ..)

theorem st0 (f : Nat) (hr : -9223372036854775807 ≤ r0 ∧ r0 < 9223372036854775808) (s0 s1 s2 s3 s4 s5 s6 s7 s8 s9 s10 s11 s12 s13 s14 s15 s16 s17 s18 s19 s20 s21 s22 : Int) : ∃ q, state_Step_l0 20000 (f + 8) 0 7 7 0 z0 z1 z2 z3 z4 z5 z6 z7 z8 z9 z10 z11 z12 z13 z14 z15 z16 z17 z18 z19 z20 z21 z22 s0 s1 s2 s3 s4 s5 s6 s7 s8 s9 s10 s11 s12 s13 s14 s15 s16 s17 s18 s19 s20 s21 s22 c0 c1 c2 c3 c4 c5 c6 c7 c8 c9 c10 c11 c12 c13 c14 c15 c16 c17 c18 c19 c20 c21 c22 n23 n24 n25 c26 c27 c28 c29 c30 c31 b32 c33 c34 c35 b36 c37 c38 c39 b40 c41 c42 c43 b44 c45 c46 c47 b48 c49 c50 c51 b52 c53 c54 c55 c56 r0 r1 r2 r3 X Y Z = some q := by
  show ∃ q, state_Step_l0r 20000 (state_Step_l0 20000 (f + 7)) 0 7 7 0 z0 z1 z2 z3 z4 z5 z6 z7 z8 z9 z10 z11 z12 z13 z14 z15 z16 z17 z18 z19 z20 z21 z22 s0 s1 s2 s3 s4 s5 s6 s7 s8 s9 s10 s11 s12 s13 s14 s15 s16 s17 s18 s19 s20 s21 s22 c0 c1 c2 c3 c4 c5 c6 c7 c8 c9 c10 c11 c12 c13 c14 c15 c16 c17 c18 c19 c20 c21 c22 n23 n24 n25 c26 c27 c28 c29 c30 c31 b32 c33 c34 c35 b36 c37 c38 c39 b40 c41 c42 c43 b44 c45 c46 c47 b48 c49 c50 c51 b52 c53 c54 c55 c56 r0 r1 r2 r3 X Y Z = some q
  unfold state_Step_l0r
  have d1 : decide ((0 : Int) < 7) = true := rfl
  have d2 : decide (0 ≤ (0 : Int)) = true := rfl
  have d3 : decide ((0 : Int) < ((7 : Nat) : Int)) = true := rfl
  have w : wi64 (0 + 1) = 1 := rfl
  have b6 : Nat.beq (Int.toNat (0 : Int) + 0) 6 = false := rfl
  have b5 : Nat.beq (Int.toNat (0 : Int) + 0) 5 = false := rfl
  have b4 : Nat.beq (Int.toNat (0 : Int) + 0) 4 = false := rfl
  have b3 : Nat.beq (Int.toNat (0 : Int) + 0) 3 = false := rfl
  have b2 : Nat.beq (Int.toNat (0 : Int) + 0) 2 = false := rfl
  have b1 : Nat.beq (Int.toNat (0 : Int) + 0) 1 = false := rfl
  have b0 : Nat.beq (Int.toNat (0 : Int) + 0) 0 = true := rfl
  simp only [d1, d2, d3, w, b6, b5, b4, b3, b2, b1, b0, Bool.and_self, cond_true, cond_false]
  exact PG.ex_bind ⟨_, Add_ok ..⟩ fun _ => PG.ex_bif ⟨_, rfl⟩ (st1 c0 c1 c2 c3 c4 c5 c6 c7 c8 c9 c10 c11 c12 c13 c14 c15 c16 c17 c18 c19 c20 c21 c22 n23 n24 n25 c26 c27 c28 c29 c30 c31 b32 c33 c34 c35 b36 c37 c38 c39 b40 c41 c42 c43 b44 c45 c46 c47 b48 c49 c50 c51 b52 c53 c54 c55 c56 X Y Z z0 z1 z2 z3 z4 z5 z6 z7 z8 z9 z10 z11 z12 z13 z14 z15 z16 z17 z18 z19 z20 z21 z22 r0 r1 r2 r3 f hr ..)
end

theorem step_total (c0 c1 c2 c3 c4 c5 c6 c7 c8 c9 c10 c11 c12 c13 c14 c15 c16 c17 c18 c19 c20 c21 c22 : Int) (n23 n24 n25 : Nat) (c26 c27 c28 c29 c30 c31 : Int) (b32 : Bool) (c33 c34 c35 : Int) (b36 : Bool) (c37 c38 c39 : Int) (b40 : Bool) (c41 c42 c43 : Int) (b44 : Bool) (c45 c46 c47 : Int) (b48 : Bool) (c49 c50 c51 : Int) (b52 : Bool) (c53 c54 c55 c56 : Int) (s0 s1 s2 s3 s4 s5 s6 s7 s8 s9 s10 s11 s12 s13 s14 s15 s16 s17 s18 s19 s20 s21 s22 : Int) (x0 x1 x2 x3 : Int) (X Y Z : Nat → Int) : ∃ q, state_Step_g 20000 c0 c1 c2 c3 c4 c5 c6 c7 c8 c9 c10 c11 c12 c13 c14 c15 c16 c17 c18 c19 c20 c21 c22 n23 n24 n25 c26 c27 c28 c29 c30 c31 b32 c33 c34 c35 b36 c37 c38 c39 b40 c41 c42 c43 b44 c45 c46 c47 b48 c49 c50 c51 b52 c53 c54 c55 c56 s0 s1 s2 s3 s4 s5 s6 s7 s8 s9 s10 s11 s12 s13 s14 s15 s16 s17 s18 s19 s20 s21 s22 x0 x1 x2 x3 X Y Z = some q := by
  unfold state_Step_g
  refine PG.ex_bind (fits_total c0 c1 c2 c3 c4 c5 c6 c7 c8 c9 c10 c11 c12 c13 c14 c15 c16 c17 c18 c19 c20 c21 c22 n23 n24 n25 c26 c27 c28 c29 c30 c31 b32 c33 c34 c35 b36 c37 c38 c39 b40 c41 c42 c43 b44 c45 c46 c47 b48 c49 c50 c51 b52 c53 c54 c55 c56 X Y Z s0 s1 s2 s3 s4 s5 s6 s7 s8 s9 s10 s11 s12 s13 s14 s15 s16 s17 s18 s19 s20 s21 s22) fun a => PG.ex_bif ⟨_, rfl⟩ ?_
  rw [PA.read_ok]
  simp only [Option.bind_some]
  cases hr : PA.readB c0 c1 c2 c3 c4 c5 c6 c7 c8 c9 c10 c11 c12 c13 c14 x0 x1 x2 x3 with
  | false =>
    unfold PA.readE
    rw [hr]
    cases PA.wayB c0 c1 c2 c3 c4 c5 c6 c7 c8 c9 c10 c11 c12 c13 c14 <;> exact ⟨_, rfl⟩
  | true =>
    unfold PA.readE
    rw [hr]
    have hu := btw_le (lo := -2147483648) (hi := 2147483648) (n := nr ((x0 - c0) * c1) c2) (by omega)
    have hu' : -9223372036854775807 ≤ PA.unitV c0 c1 c2 x0 ∧ PA.unitV c0 c1 c2 x0 < 9223372036854775808 := by
      unfold PA.unitV
      omega
    refine PG.ex_bif ⟨_, rfl⟩ (PG.ex_bind (st0 c0 c1 c2 c3 c4 c5 c6 c7 c8 c9 c10 c11 c12 c13 c14 c15 c16 c17 c18 c19 c20 c21 c22 n23 n24 n25 c26 c27 c28 c29 c30 c31 b32 c33 c34 c35 b36 c37 c38 c39 b40 c41 c42 c43 b44 c45 c46 c47 b48 c49 c50 c51 b52 c53 c54 c55 c56 X Y Z 0 0 0 0 0 0 0 0 0 0 0 0 0 0 0 0 0 0 0 0 0 0 0 _ _ _ _ 19992 hu' ..) fun a => PG.ex_sum (fun _ => ⟨_, rfl⟩) (fun _ => ⟨_, rfl⟩) a)

/-! ### Twice -/
theorem ints_ok (n : Nat) (f : Nat → Int) (hn : n ≤ 1048576) : ∃ g : Nat → Int, (∀ j, j < n → f j = g j) ∧ rb_Ints_g 20000 n f = some (n, g, ()) := by
  unfold rb_Ints_g
  by_cases h : n = 0
  · subst h
    exact ⟨fun _ => 0, fun j hj => absurd hj (by omega), rfl⟩
  · have hb : Nat.ble ((0 + n) * 8) 140737488355328 = true := by rw [Nat.ble_eq]; omega
    rw [kblt_t (show 0 < n by omega), hb, Nat.zero_add]
    exact ⟨f, fun _ _ => rfl, rfl⟩

theorem same_loop (n : Nat) (f g : Nat → Int) (hn : n ≤ 6000) (h : ∀ j, j < n → f j = g j) : ∀ (d i N : Nat), i + d = n → d < N → rb_SameInts_l0 20000 N n n (i : Int) f g = some (.inl ())
  | 0, i, N, hd, hf => by
    obtain ⟨e, rfl⟩ : ∃ e, N = e + 1 := ⟨N - 1, by omega⟩
    have e : i = n := by omega
    subst e
    show rb_SameInts_l0r 20000 (rb_SameInts_l0 20000 _) i i (i : Int) f g = _
    unfold rb_SameInts_l0r
    rw [tself]
    rfl
  | d + 1, i, N, hd, hf => by
    obtain ⟨e, rfl⟩ : ∃ e, N = e + 1 := ⟨N - 1, by omega⟩
    have hin : i < n := by omega
    have e0 : rb_SameInts_l0 20000 (e + 1) n n (i : Int) f g = rb_SameInts_l0r 20000 (rb_SameInts_l0 20000 e) n n (i : Int) f g := rfl
    rw [e0]
    unfold rb_SameInts_l0r
    have d1 : (f i != g i) = false := by rw [h i hin]; simp
    simp only [tlt hin, tnn, Bool.and_self, cond_true, Int.toNat_natCast, tup (show i < 1000000 by omega), d1]
    exact same_loop n f g hn h d (i + 1) e (by omega) (by omega)

theorem same_ok (n : Nat) (f g : Nat → Int) (hn : n ≤ 6000) (h : ∀ j, j < n → f j = g j) : rb_SameInts_g 20000 n n f g = some (true, ()) := by
  unfold rb_SameInts_g
  have d : (((n : Nat) : Int) != ((n : Nat) : Int)) = false := by simp
  have hl := same_loop n f g hn h n 0 20000 (by omega) (by omega)
  have e0 : ((0 : Nat) : Int) = 0 := rfl
  rw [e0] at hl
  rw [d, hl]
  rfl

theorem StateTwice_ok (c0 c1 c2 c3 c4 c5 c6 c7 c8 c9 c10 c11 c12 c13 c14 c15 c16 c17 c18 c19 c20 c21 c22 : Int) (n23 n24 n25 : Nat) (c26 c27 c28 c29 c30 c31 : Int) (b32 : Bool) (c33 c34 c35 : Int) (b36 : Bool) (c37 c38 c39 : Int) (b40 : Bool) (c41 c42 c43 : Int) (b44 : Bool) (c45 c46 c47 : Int) (b48 : Bool) (c49 c50 c51 : Int) (b52 : Bool) (c53 c54 c55 c56 : Int) (s0 s1 s2 s3 s4 s5 s6 s7 s8 s9 s10 s11 s12 s13 s14 s15 s16 s17 s18 s19 s20 s21 s22 : Int) (x0 x1 x2 x3 : Int) (X Y Z : Nat → Int) (hn : n23 ≤ 1048576) (hm : n24 ≤ 1048576) (hp : n25 ≤ 1048576) : w_StateTwice_g 20000 c0 c1 c2 c3 c4 c5 c6 c7 c8 c9 c10 c11 c12 c13 c14 c15 c16 c17 c18 c19 c20 c21 c22 n23 n24 n25 c26 c27 c28 c29 c30 c31 b32 c33 c34 c35 b36 c37 c38 c39 b40 c41 c42 c43 b44 c45 c46 c47 b48 c49 c50 c51 b52 c53 c54 c55 c56 s0 s1 s2 s3 s4 s5 s6 s7 s8 s9 s10 s11 s12 s13 s14 s15 s16 s17 s18 s19 s20 s21 s22 x0 x1 x2 x3 X Y Z = some true := by
  unfold w_StateTwice_g w_light_g
  rw [works_ok, wi64_id (x := (n23 : Int) + (n24 : Int)) (by omega) (by omega)]
  by_cases h1 : (n23 : Int) + (n24 : Int) ≤ 100
  · rw [decide_eq_true h1]
    by_cases h2 : (n25 : Int) ≤ 1000
    · rw [decide_eq_true h2]
      obtain ⟨q, hq⟩ := step_total c0 c1 c2 c3 c4 c5 c6 c7 c8 c9 c10 c11 c12 c13 c14 c15 c16 c17 c18 c19 c20 c21 c22 n23 n24 n25 c26 c27 c28 c29 c30 c31 b32 c33 c34 c35 b36 c37 c38 c39 b40 c41 c42 c43 b44 c45 c46 c47 b48 c49 c50 c51 b52 c53 c54 c55 c56 s0 s1 s2 s3 s4 s5 s6 s7 s8 s9 s10 s11 s12 s13 s14 s15 s16 s17 s18 s19 s20 s21 s22 x0 x1 x2 x3 X Y Z
      obtain ⟨X', hX, eX⟩ := ints_ok n23 X hn
      obtain ⟨Y', hY, eY⟩ := ints_ok n24 Y hm
      obtain ⟨Z', hZ, eZ⟩ := ints_ok n25 Z hp
      rw [eX, eY, eZ, hq]
      simp only [Option.bind_some, Bool.not_true, cond_false, cond_true, beq_self_eq_true, Bool.and_self]
      rw [same_ok n23 X X' (by omega) hX, same_ok n24 Y Y' (by omega) hY, same_ok n25 Z Z' (by omega) hZ]
      simp only [Option.bind_some, cond_true]
      kernel_rfl
    · rw [decide_eq_false h2]
      rfl
  · rw [decide_eq_false h1]
    rfl
end Go.Proofs.YtjmbhhinmbgneaaGreat
