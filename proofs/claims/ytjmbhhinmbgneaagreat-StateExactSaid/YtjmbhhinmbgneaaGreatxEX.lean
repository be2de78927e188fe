/-
  Between two corrections the charge grows by just the sum of currents times ticks.
-/
import Derived.Test.YtjmbhhinmbgneaaGreatxU
namespace Go.Proofs.YtjmbhhinmbgneaaGreat
open Go.Sy
set_option maxHeartbeats 8000000

theorem nr_near {a b : Int} (hb : 0 < b) : (nr a b - 1) * b < a ∧ a < (nr a b + 1) * b := by
  have hm := ab_nonneg a
  have hq := Int.mul_ediv_add_emod (ab a) b
  have hr0 := Int.emod_nonneg (ab a) (show b ≠ 0 by omega)
  have hr1 := Int.emod_lt_of_pos (ab a) hb
  rw [nr_ab, half_div hb]
  generalize ab a / b = q at *
  generalize ab a % b = r at *
  have e : ab a = if a < 0 then -a else a := rfl
  generalize hbq : b * q = x at *
  by_cases hn : a < 0
  · rw [if_pos hn] at e ⊢
    split
    · rw [show (-(q + 1) - 1) * b = -(b * q) - 2 * b by grind, show (-(q + 1) + 1) * b = -(b * q) by grind, hbq]; omega
    · rw [show (-q - 1) * b = -(b * q) - b by grind, show (-q + 1) * b = -(b * q) + b by grind, hbq]; omega
  · rw [if_neg hn] at e ⊢
    split
    · rw [show (q + 1 - 1) * b = b * q by grind, show (q + 1 + 1) * b = b * q + 2 * b by grind, hbq]; omega
    · rw [show (q - 1) * b = b * q - b by grind, show (q + 1) * b = b * q + b by grind, hbq]; omega

theorem cmp_not {r : Int} {x y : Int} (h : decide (r < 0) = decide (x < y)) (hxy : x < y) : decide (r > 0) = false := by
  rw [decide_eq_true hxy] at h
  have := of_decide_eq_true h
  exact decide_eq_false (by omega)

/-- What is shown between bounds is within one of what it was and Full times the difference by the capacity. -/
theorem near_tail {α : Type} (v b ch cb cap : Int) (R bad : Option α) (hv : v = shownV b cb ch cap) (hb : 0 ≤ b ∧ b ≤ 10000) (hcap : 1 ≤ cap ∧ cap ≤ 1125899906842624) (hch : -1125899906842624 ≤ ch ∧ ch ≤ 1125899906842624) (hcb : -1125899906842624 ≤ cb ∧ cb ≤ 1125899906842624) :
    ((r04_Mul_g 20000 10000 (wi64 (ch - cb))).bind fun q5 => ((r04_Mul_g 20000 (wi64 ((wi64 (v - b)) - 1)) cap).bind fun q6 => ((r04_Mul_g 20000 (wi64 ((wi64 (v - b)) + 1)) cap).bind fun q7 => (bif (decide (v > 0)) then (bif (decide (v < 10000)) then ((r04_Compare_g 20000 q6.1 q6.2.1 q6.2.2.1 q6.2.2.2.1 q6.2.2.2.2.1 q6.2.2.2.2.2.1 q6.2.2.2.2.2.2.1 q6.2.2.2.2.2.2.2.1 q6.2.2.2.2.2.2.2.2.1 q6.2.2.2.2.2.2.2.2.2.1 q6.2.2.2.2.2.2.2.2.2.2.1 q6.2.2.2.2.2.2.2.2.2.2.2.1 q6.2.2.2.2.2.2.2.2.2.2.2.2.1 q6.2.2.2.2.2.2.2.2.2.2.2.2.2.1 q6.2.2.2.2.2.2.2.2.2.2.2.2.2.2.1 q6.2.2.2.2.2.2.2.2.2.2.2.2.2.2.2.1 q6.2.2.2.2.2.2.2.2.2.2.2.2.2.2.2.2.1 q6.2.2.2.2.2.2.2.2.2.2.2.2.2.2.2.2.2.1 q6.2.2.2.2.2.2.2.2.2.2.2.2.2.2.2.2.2.2.1 q6.2.2.2.2.2.2.2.2.2.2.2.2.2.2.2.2.2.2.2.1 q6.2.2.2.2.2.2.2.2.2.2.2.2.2.2.2.2.2.2.2.2.1 q5.1 q5.2.1 q5.2.2.1 q5.2.2.2.1 q5.2.2.2.2.1 q5.2.2.2.2.2.1 q5.2.2.2.2.2.2.1 q5.2.2.2.2.2.2.2.1 q5.2.2.2.2.2.2.2.2.1 q5.2.2.2.2.2.2.2.2.2.1 q5.2.2.2.2.2.2.2.2.2.2.1 q5.2.2.2.2.2.2.2.2.2.2.2.1 q5.2.2.2.2.2.2.2.2.2.2.2.2.1 q5.2.2.2.2.2.2.2.2.2.2.2.2.2.1 q5.2.2.2.2.2.2.2.2.2.2.2.2.2.2.1 q5.2.2.2.2.2.2.2.2.2.2.2.2.2.2.2.1 q5.2.2.2.2.2.2.2.2.2.2.2.2.2.2.2.2.1 q5.2.2.2.2.2.2.2.2.2.2.2.2.2.2.2.2.2.1 q5.2.2.2.2.2.2.2.2.2.2.2.2.2.2.2.2.2.2.1 q5.2.2.2.2.2.2.2.2.2.2.2.2.2.2.2.2.2.2.2.1 q5.2.2.2.2.2.2.2.2.2.2.2.2.2.2.2.2.2.2.2.2.1).bind fun q8 => (bif (decide (q8.1 > 0)) then bad else ((r04_Compare_g 20000 q5.1 q5.2.1 q5.2.2.1 q5.2.2.2.1 q5.2.2.2.2.1 q5.2.2.2.2.2.1 q5.2.2.2.2.2.2.1 q5.2.2.2.2.2.2.2.1 q5.2.2.2.2.2.2.2.2.1 q5.2.2.2.2.2.2.2.2.2.1 q5.2.2.2.2.2.2.2.2.2.2.1 q5.2.2.2.2.2.2.2.2.2.2.2.1 q5.2.2.2.2.2.2.2.2.2.2.2.2.1 q5.2.2.2.2.2.2.2.2.2.2.2.2.2.1 q5.2.2.2.2.2.2.2.2.2.2.2.2.2.2.1 q5.2.2.2.2.2.2.2.2.2.2.2.2.2.2.2.1 q5.2.2.2.2.2.2.2.2.2.2.2.2.2.2.2.2.1 q5.2.2.2.2.2.2.2.2.2.2.2.2.2.2.2.2.2.1 q5.2.2.2.2.2.2.2.2.2.2.2.2.2.2.2.2.2.2.1 q5.2.2.2.2.2.2.2.2.2.2.2.2.2.2.2.2.2.2.2.1 q5.2.2.2.2.2.2.2.2.2.2.2.2.2.2.2.2.2.2.2.2.1 q7.1 q7.2.1 q7.2.2.1 q7.2.2.2.1 q7.2.2.2.2.1 q7.2.2.2.2.2.1 q7.2.2.2.2.2.2.1 q7.2.2.2.2.2.2.2.1 q7.2.2.2.2.2.2.2.2.1 q7.2.2.2.2.2.2.2.2.2.1 q7.2.2.2.2.2.2.2.2.2.2.1 q7.2.2.2.2.2.2.2.2.2.2.2.1 q7.2.2.2.2.2.2.2.2.2.2.2.2.1 q7.2.2.2.2.2.2.2.2.2.2.2.2.2.1 q7.2.2.2.2.2.2.2.2.2.2.2.2.2.2.1 q7.2.2.2.2.2.2.2.2.2.2.2.2.2.2.2.1 q7.2.2.2.2.2.2.2.2.2.2.2.2.2.2.2.2.1 q7.2.2.2.2.2.2.2.2.2.2.2.2.2.2.2.2.2.1 q7.2.2.2.2.2.2.2.2.2.2.2.2.2.2.2.2.2.2.1 q7.2.2.2.2.2.2.2.2.2.2.2.2.2.2.2.2.2.2.2.1 q7.2.2.2.2.2.2.2.2.2.2.2.2.2.2.2.2.2.2.2.2.1).bind fun q9 => (bif (decide (q9.1 > 0)) then bad else R)))) else R) else R)))) = R := by
  have hV : 0 ≤ v ∧ v ≤ 10000 := by rw [hv]; exact btw_le (by omega)
  have eV : v = btw 0 10000 (b + btw (-10000) 10000 (nr (10000 * (ch - cb)) cap)) := hv
  clear hv
  rw [wi64_id (x := ch - cb) (by omega) (by omega), wi64_id (x := v - b) (by omega) (by omega), wi64_id (x := v - b - 1) (by omega) (by omega), wi64_id (x := v - b + 1) (by omega) (by omega)]
  obtain ⟨fa, A, a1, a2, a3, _⟩ := rmul_sv 10000 (ch - cb) (by omega) (by omega) (by omega) (by omega)
  obtain ⟨fb, B, b1, b2, b3, _⟩ := rmul_sv (v - b - 1) cap (by omega) (by omega) (by omega) (by omega)
  obtain ⟨fc, C, d1, d2, d3, _⟩ := rmul_sv (v - b + 1) cap (by omega) (by omega) (by omega) (by omega)
  rw [a2, b2, d2]
  simp only [Option.bind_some]
  by_cases h1 : v > 0
  · rw [decide_eq_true h1, cond_true]
    by_cases h2 : v < 10000
    · rw [decide_eq_true h2, cond_true]
      have hz : v = b + nr (10000 * (ch - cb)) cap := by
        have k := btw_le (lo := -10000) (hi := 10000) (n := nr (10000 * (ch - cb)) cap) (by omega)
        generalize nr (10000 * (ch - cb)) cap = d at *
        unfold btw at eV
        split at eV
        · omega
        · split at eV
          · omega
          · split at eV <;> (try split at eV) <;> (try split at eV) <;> omega
      have hnear := nr_near (a := 10000 * (ch - cb)) (b := cap) (by omega)
      have he : nr (10000 * (ch - cb)) cap = v - b := by omega
      rw [he] at hnear
      obtain ⟨r, r1, r2⟩ := compare_ok fb fa B A b1 a1
      obtain ⟨t, t1, t2⟩ := compare_ok fa fc A C a1 d1
      have ea : sv fa A = 10000 * (ch - cb) := a3
      have eb : sv fb B = (v - b - 1) * cap := b3
      have ec : sv fc C = (v - b + 1) * cap := d3
      rw [r1]
      simp only [Option.bind_some]
      rw [cmp_not r2 (by rw [eb, ea]; exact hnear.1), cond_false, t1]
      simp only [Option.bind_some]
      rw [cmp_not t2 (by rw [ea, ec]; exact hnear.2), cond_false]
    · rw [decide_eq_false h2, cond_false]
  · rw [decide_eq_false h1, cond_false]

theorem total_ok {a b : Int} (h : chB a b = true) : r14_Total_g 20000 a b = some (a * 1000 + b, 0, ()) := by
  rw [rtotal_ok]
  unfold totE
  rw [h]
  rfl

theorem tlt' {i n : Nat} (h : i < n) : decide ((i : Int) < (n : Int)) = true := by simp; omega

theorem nT_free {s0 s1 r0 r3 : Int} (h1 : nT s0 s1 r0 r3 / 1000 ≠ 1125899906842624) (h2 : nT s0 s1 r0 r3 / 1000 ≠ -1125899906842624) : nT s0 s1 r0 r3 = s0 * 1000 + s1 + r0 * r3 := by
  have e : nT s0 s1 r0 r3 = btw (-1125899906842624000) 1125899906842624000 (s0 * 1000 + s1 + r0 * r3) := rfl
  unfold btw at e
  split at e
  · omega
  · split at e
    · omega
    · exact e

set_option maxRecDepth 20000 in
theorem exact_loop (n : Nat) (A B D T : Nat → Int) (c0 c1 c2 c3 c4 c5 c6 c7 c8 c9 c10 c11 c12 c13 c14 c15 c16 c17 c18 c19 c20 c21 c22 : Int) (n23 n24 n25 : Nat) (c26 c27 c28 c29 c30 c31 : Int) (b32 : Bool) (c33 c34 c35 : Int) (b36 : Bool) (c37 c38 c39 : Int) (b40 : Bool) (c41 c42 c43 : Int) (b44 : Bool) (c45 c46 c47 : Int) (b48 : Bool) (c49 c50 c51 : Int) (b52 : Bool) (c53 c54 c55 c56 : Int) (X Y Z : Nat → Int) : ∀ (d i N : Nat) (sum : Int) (met : Bool) (s0 s1 s2 s3 s4 s5 s6 s7 s8 s9 s10 s11 s12 s13 s14 s15 s16 s17 s18 s19 s20 s21 s22 : Int) (f0 f1 f2 f3 f4 f5 f6 f7 f8 f9 f10 f11 f12 f13 f14 f15 f16 f17 f18 f19 f20 f21 f22 : Int), i + d = 60 → d < N → fitsB c0 c1 c2 c3 c4 c5 c6 c7 c8 c9 c10 c11 c12 c13 c14 c15 c16 c17 c18 c19 c20 c21 c22 n23 n24 n25 c26 c27 c28 c29 c30 c31 b32 c33 c34 c35 b36 c37 c38 c39 b40 c41 c42 c43 b44 c45 c46 c47 b48 c49 c50 c51 b52 c53 c54 c55 c56 s0 s1 s2 s3 s4 s5 s6 s7 s8 s9 s10 s11 s12 s13 s14 s15 s16 s17 s18 s19 s20 s21 s22 X Y Z = true → chB f0 f1 = true → f3 = s3 → f4 = s4 →
    (-((i : Int) * 130000000000000) ≤ sum ∧ sum ≤ (i : Int) * 130000000000000) → (met = false → s0 * 1000 + s1 = f0 * 1000 + f1 + sum) →
    w_StateExact_l0 20000 N n sum met (i : Int) A B D T c0 c1 c2 c3 c4 c5 c6 c7 c8 c9 c10 c11 c12 c13 c14 c15 c16 c17 c18 c19 c20 c21 c22 n23 n24 n25 c26 c27 c28 c29 c30 c31 b32 c33 c34 c35 b36 c37 c38 c39 b40 c41 c42 c43 b44 c45 c46 c47 b48 c49 c50 c51 b52 c53 c54 c55 c56 s0 s1 s2 s3 s4 s5 s6 s7 s8 s9 s10 s11 s12 s13 s14 s15 s16 s17 s18 s19 s20 s21 s22 f0 f1 f2 f3 f4 f5 f6 f7 f8 f9 f10 f11 f12 f13 f14 f15 f16 f17 f18 f19 f20 f21 f22 X Y Z = some (.inl ()) := by
  intro d
  induction d with
  | zero =>
    intro i N sum met s0 s1 s2 s3 s4 s5 s6 s7 s8 s9 s10 s11 s12 s13 s14 s15 s16 s17 s18 s19 s20 s21 s22 f0 f1 f2 f3 f4 f5 f6 f7 f8 f9 f10 f11 f12 f13 f14 f15 f16 f17 f18 f19 f20 f21 f22 hd hf hB hfc h3 h4 hs hm
    obtain ⟨f, rfl⟩ : ∃ f, N = f + 1 := ⟨N - 1, by omega⟩
    obtain rfl : i = 60 := by omega
    show w_StateExact_l0r 20000 (w_StateExact_l0 20000 f) n sum met ((60 : Nat) : Int) A B D T c0 c1 c2 c3 c4 c5 c6 c7 c8 c9 c10 c11 c12 c13 c14 c15 c16 c17 c18 c19 c20 c21 c22 n23 n24 n25 c26 c27 c28 c29 c30 c31 b32 c33 c34 c35 b36 c37 c38 c39 b40 c41 c42 c43 b44 c45 c46 c47 b48 c49 c50 c51 b52 c53 c54 c55 c56 s0 s1 s2 s3 s4 s5 s6 s7 s8 s9 s10 s11 s12 s13 s14 s15 s16 s17 s18 s19 s20 s21 s22 f0 f1 f2 f3 f4 f5 f6 f7 f8 f9 f10 f11 f12 f13 f14 f15 f16 f17 f18 f19 f20 f21 f22 X Y Z = _
    unfold w_StateExact_l0r
    cases decide (((60 : Nat) : Int) < (n : Int)) <;> rfl
  | succ d ih0 =>
    intro i N sum met s0 s1 s2 s3 s4 s5 s6 s7 s8 s9 s10 s11 s12 s13 s14 s15 s16 s17 s18 s19 s20 s21 s22 f0 f1 f2 f3 f4 f5 f6 f7 f8 f9 f10 f11 f12 f13 f14 f15 f16 f17 f18 f19 f20 f21 f22 hd hf hB hfc h3 h4 hs hm
    obtain ⟨f, rfl⟩ : ∃ f, N = f + 1 := ⟨N - 1, by omega⟩
    subst h3
    subst h4
    show w_StateExact_l0r 20000 (w_StateExact_l0 20000 f) n sum met (i : Int) A B D T c0 c1 c2 c3 c4 c5 c6 c7 c8 c9 c10 c11 c12 c13 c14 c15 c16 c17 c18 c19 c20 c21 c22 n23 n24 n25 c26 c27 c28 c29 c30 c31 b32 c33 c34 c35 b36 c37 c38 c39 b40 c41 c42 c43 b44 c45 c46 c47 b48 c49 c50 c51 b52 c53 c54 c55 c56 s0 s1 s2 f3 f4 s5 s6 s7 s8 s9 s10 s11 s12 s13 s14 s15 s16 s17 s18 s19 s20 s21 s22 f0 f1 f2 f3 f4 f5 f6 f7 f8 f9 f10 f11 f12 f13 f14 f15 f16 f17 f18 f19 f20 f21 f22 X Y Z = _
    unfold w_StateExact_l0r
    by_cases hin : i < n
    · have w : wi64 ((i : Int) + 1) = ((i + 1 : Nat) : Int) := by rw [wi64_id (by omega) (by omega)]; simp
      have ih := ih0 (i + 1) f
      have d0 : ((0 : Int) == 130) = false := rfl
      have d1 : ((130 : Int) == 130) = true := rfl
      simp only [tlt' hin, decide_eq_true (show (i : Int) < 60 by omega), decide_eq_true (show 0 ≤ (i : Int) by omega), Bool.and_self, cond_true, Int.toNat_natCast, w]
      have hF := fits_of c0 c1 c2 c3 c4 c5 c6 c7 c8 c9 c10 c11 c12 c13 c14 c15 c16 c17 c18 c19 c20 c21 c22 n23 n24 n25 c26 c27 c28 c29 c30 c31 b32 c33 c34 c35 b36 c37 c38 c39 b40 c41 c42 c43 b44 c45 c46 c47 b48 c49 c50 c51 b52 c53 c54 c55 c56 X Y Z s0 s1 s2 f3 f4 s5 s6 s7 s8 s9 s10 s11 s12 s13 s14 s15 s16 s17 s18 s19 s20 s21 s22 hB
      have hq := quantum_of c0 c1 c2 c3 c4 c5 c6 c7 c8 c9 c10 c11 c12 c13 c14 c15 c16 c17 c18 c19 c20 c21 c22 n23 n24 n25 c26 c27 c28 c29 c30 c31 b32 c33 c34 c35 b36 c37 c38 c39 b40 c41 c42 c43 b44 c45 c46 c47 b48 c49 c50 c51 b52 c53 c54 c55 c56 s0 s1 s2 f3 f4 s5 s6 s7 s8 s9 s10 s11 s12 s13 s14 s15 s16 s17 s18 s19 s20 s21 s22 X Y Z hB
      have hrr : r13_Read_g 20000 c0 c1 c2 c3 c4 c5 c6 c7 c8 c9 c10 c11 c12 c13 c14 (A i) (B i) (D i) (T i) = sample_Read_g 20000 c0 c1 c2 c3 c4 c5 c6 c7 c8 c9 c10 c11 c12 c13 c14 (A i) (B i) (D i) (T i) := by rw [PA.rread_ok, PA.read_ok]
      rw [hrr]
      rcases read_cases (x0 := A i) (x1 := B i) (x2 := D i) (x3 := T i) (c0 := c0) (c1 := c1) (c2 := c2) (c3 := c3) (c4 := c4) (c5 := c5) (c6 := c6) (c7 := c7) (c8 := c8) (c9 := c9) (c10 := c10) (c11 := c11) (c12 := c12) (c13 := c13) (c14 := c14) with ⟨e, he, hread⟩ | ⟨r0, r1, r2, r3, hc, hv, ht, hread⟩
      · have hcn := cnt_in hF.bads
        have hN : fitsB c0 c1 c2 c3 c4 c5 c6 c7 c8 c9 c10 c11 c12 c13 c14 c15 c16 c17 c18 c19 c20 c21 c22 n23 n24 n25 c26 c27 c28 c29 c30 c31 b32 c33 c34 c35 b36 c37 c38 c39 b40 c41 c42 c43 b44 c45 c46 c47 b48 c49 c50 c51 b52 c53 c54 c55 c56 s0 s1 s2 f3 f4 s5 s6 s7 s8 s9 s10 s11 s12 s13 s14 s15 s16 s17 s18 s19 s20 s21 (bif decide (4294967295 < wi64 (s22 + 1)) then 4294967295 else wi64 (s22 + 1)) X Y Z = true := fits_mk c0 c1 c2 c3 c4 c5 c6 c7 c8 c9 c10 c11 c12 c13 c14 c15 c16 c17 c18 c19 c20 c21 c22 n23 n24 n25 c26 c27 c28 c29 c30 c31 b32 c33 c34 c35 b36 c37 c38 c39 b40 c41 c42 c43 b44 c45 c46 c47 b48 c49 c50 c51 b52 c53 c54 c55 c56 s0 s1 s2 f3 f4 s5 s6 s7 s8 s9 s10 s11 s12 s13 s14 s15 s16 s17 s18 s19 s20 s21 (bif decide (4294967295 < wi64 (s22 + 1)) then 4294967295 else wi64 (s22 + 1)) X Y Z hq
          ⟨hF.way, hF.cell, hF.good, hF.hl, hF.gd, hF.slew, hF.ch, hF.cyc, hF.soc, hF.base, hF.anc, hF.cb, hF.ac, hF.u1, hF.u2, hF.rest, hF.cap, hF.up, hF.run, hF.goods, hcn.1⟩
        rw [step_skip (h := hB) (he := he) (hread := hread) ..]
        simp only [Option.bind_some, d1, cond_true]
        exact ih sum met s0 s1 s2 f3 f4 s5 s6 s7 s8 s9 s10 s11 s12 s13 s14 s15 s16 s17 s18 s19 s20 s21 (bif decide (4294967295 < wi64 (s22 + 1)) then 4294967295 else wi64 (s22 + 1)) f0 f1 f2 f3 f4 f5 f6 f7 f8 f9 f10 f11 f12 f13 f14 f15 f16 f17 f18 f19 f20 f21 f22 (by omega) (by omega) hN hfc rfl rfl (by omega) hm
      · have kh := hF.hl
        have kcap := hF.cap
        have kc := cellB_iff.1 hF.cell
        have hT := nT_in s0 s1 r0 r3
        have hch := ch_of hT.1 hT.2
        have hfc' := chB_iff.1 hfc
        have hu1 := behind_in (r := c16) (tau := c18) (u := s5) (c := r0) (t := r3) hF.u1 kc.2.1.1.1 ht.1
        have hu2 := behind_in (r := c17) (tau := c19) (u := s6) (c := r0) (t := r3) hF.u2 kc.2.1.2.1.1 ht.1
        have hre := restV_in (ca := c20) (se := c21) (ti := c22) (re := s7) (c := r0) (u1 := (behindV c16 c18 s5 r0 r3)) (u2 := (behindV c17 c19 s6 r0 r3)) (t := r3) hF.rest ht
        have hrb : restB c20 c21 c22 (restV c20 c21 c22 s7 r0 (behindV c16 c18 s5 r0 r3) (behindV c17 c19 s6 r0 r3) r3) = true := restB_iff.2 ⟨kc.2.2, by omega, hre⟩
        have hcn := cnt_in hF.goods
        have w1 : 0 ≤ (shownV f3 f4 (nT s0 s1 r0 r3 / 1000) s8) ∧ (shownV f3 f4 (nT s0 s1 r0 r3 / 1000) s8) ≤ 10000 := bw (f3 + btw (-10000) 10000 (nr (10000 * ((nT s0 s1 r0 r3 / 1000) - f4)) s8))
        have hcc : -1125899906842624 ≤ (nT s0 s1 r0 r3 / 1000) ∧ (nT s0 s1 r0 r3 / 1000) ≤ 1125899906842624 := by omega
        have hp := ab_prod hc (B := 60000) (b := r3) (by omega)
        have hp' : -128849018880000 ≤ r0 * r3 ∧ r0 * r3 ≤ 128849018880000 := by
          unfold ab at hp
          split at hp <;> omega
        have hTT : nT s0 s1 r0 r3 / 1000 * 1000 + nT s0 s1 r0 r3 % 1000 = nT s0 s1 r0 r3 := by omega
        have hsum : wi64 (sum + wi64 (r0 * r3)) = sum + r0 * r3 := by rw [wi64_id (x := r0 * r3) (by omega) (by omega), wi64_id (by omega) (by omega)]
        have hs' : -(((i + 1 : Nat) : Int) * 130000000000000) ≤ sum + r0 * r3 ∧ sum + r0 * r3 ≤ ((i + 1 : Nat) : Int) * 130000000000000 := by omega
        have hs0 : -(((i + 1 : Nat) : Int) * 130000000000000) ≤ (0 : Int) ∧ (0 : Int) ≤ ((i + 1 : Nat) : Int) * 130000000000000 := by omega
        have hmet : nT s0 s1 r0 r3 / 1000 ≠ 1125899906842624 → nT s0 s1 r0 r3 / 1000 ≠ -1125899906842624 → met = false → nT s0 s1 r0 r3 = f0 * 1000 + f1 + (sum + r0 * r3) := fun h1 h2 h => by
          rw [nT_free h1 h2, hm h]
          omega
        cases hno : (restB c20 c21 c22 (restV c20 c21 c22 s7 r0 (behindV c16 c18 s5 r0 r3) (behindV c17 c19 s6 r0 r3) r3) && decide ((restV c20 c21 c22 s7 r0 (behindV c16 c18 s5 r0 r3) (behindV c17 c19 s6 r0 r3) r3) ≥ c22)) with
        | false =>
          obtain ⟨y, p0, p1, p2, p3, p4, p5, hy, hpp, _, hst⟩ := step_free (hF := hF) (hread := hread) (hc := hc) (hv := hv) (ht := ht) (h := hB) (hno := hno) ..
          have hlt : (restV c20 c21 c22 s7 r0 (behindV c16 c18 s5 r0 r3) (behindV c17 c19 s6 r0 r3) r3) < c22 := by
            rw [hrb, Bool.true_and] at hno
            have := of_decide_eq_false hno
            omega
          have hN : fitsB c0 c1 c2 c3 c4 c5 c6 c7 c8 c9 c10 c11 c12 c13 c14 c15 c16 c17 c18 c19 c20 c21 c22 n23 n24 n25 c26 c27 c28 c29 c30 c31 b32 c33 c34 c35 b36 c37 c38 c39 b40 c41 c42 c43 b44 c45 c46 c47 b48 c49 c50 c51 b52 c53 c54 c55 c56 (nT s0 s1 r0 r3 / 1000) (nT s0 s1 r0 r3 % 1000) (shownV f3 f4 (nT s0 s1 r0 r3 / 1000) s8) f3 f4 (behindV c16 c18 s5 r0 r3) (behindV c17 c19 s6 r0 r3) (restV c20 c21 c22 s7 r0 (behindV c16 c18 s5 r0 r3) (behindV c17 c19 s6 r0 r3) r3) s8 s9 s10 (cycT s11 s12 r0 r3 / 1000) (cycT s11 s12 r0 r3 % 1000) (cycN (cycT s11 s12 r0 r3 / 1000) s8 s13) y p0 p1 p2 p3 p4 p5 (bif decide (4294967295 < wi64 (s21 + 1)) then 4294967295 else wi64 (s21 + 1)) s22 X Y Z = true := fits_mk c0 c1 c2 c3 c4 c5 c6 c7 c8 c9 c10 c11 c12 c13 c14 c15 c16 c17 c18 c19 c20 c21 c22 n23 n24 n25 c26 c27 c28 c29 c30 c31 b32 c33 c34 c35 b36 c37 c38 c39 b40 c41 c42 c43 b44 c45 c46 c47 b48 c49 c50 c51 b52 c53 c54 c55 c56 (nT s0 s1 r0 r3 / 1000) (nT s0 s1 r0 r3 % 1000) (shownV f3 f4 (nT s0 s1 r0 r3 / 1000) s8) f3 f4 (behindV c16 c18 s5 r0 r3) (behindV c17 c19 s6 r0 r3) (restV c20 c21 c22 s7 r0 (behindV c16 c18 s5 r0 r3) (behindV c17 c19 s6 r0 r3) r3) s8 s9 s10 (cycT s11 s12 r0 r3 / 1000) (cycT s11 s12 r0 r3 % 1000) (cycN (cycT s11 s12 r0 r3 / 1000) s8 s13) y p0 p1 p2 p3 p4 p5 (bif decide (4294967295 < wi64 (s21 + 1)) then 4294967295 else wi64 (s21 + 1)) s22 X Y Z hq
            ⟨hF.way, hF.cell, hF.good, hF.hl, hF.gd, hF.slew, hch, cyc_keep hF.cyc ⟨by omega, by omega⟩ ht.1, w1, hF.base, hF.anc, hF.cb, hF.ac, hu1, hu2, hre, hF.cap, hy, hpp, hcn.1, hF.bads⟩
          have go := fun (m : Bool) (hmm : m = false → nT s0 s1 r0 r3 / 1000 * 1000 + nT s0 s1 r0 r3 % 1000 = f0 * 1000 + f1 + (sum + r0 * r3)) => ih (sum + r0 * r3) m (nT s0 s1 r0 r3 / 1000) (nT s0 s1 r0 r3 % 1000) (shownV f3 f4 (nT s0 s1 r0 r3 / 1000) s8) f3 f4 (behindV c16 c18 s5 r0 r3) (behindV c17 c19 s6 r0 r3) (restV c20 c21 c22 s7 r0 (behindV c16 c18 s5 r0 r3) (behindV c17 c19 s6 r0 r3) r3) s8 s9 s10 (cycT s11 s12 r0 r3 / 1000) (cycT s11 s12 r0 r3 % 1000) (cycN (cycT s11 s12 r0 r3 / 1000) s8 s13) y p0 p1 p2 p3 p4 p5 (bif decide (4294967295 < wi64 (s21 + 1)) then 4294967295 else wi64 (s21 + 1)) s22 f0 f1 f2 f3 f4 f5 f6 f7 f8 f9 f10 f11 f12 f13 f14 f15 f16 f17 f18 f19 f20 f21 f22 (by omega) (by omega) hN hfc rfl rfl hs' hmm
          rw [hst]
          simp only [Option.bind_some, d0, cond_false, hread]
          rw [total_ok hch, total_ok hfc]
          simp only [Option.bind_some, beq_self_eq_true, cond_true, decide_eq_true hlt, hsum, hTT]
          cases met with
          | true =>
            simp only [cond_true]
            rw [near_tail (shownV f3 f4 (nT s0 s1 r0 r3 / 1000) s8) f3 (nT s0 s1 r0 r3 / 1000) f4 s8 (hv := rfl) (hb := hF.base) (hcap := ⟨by omega, by omega⟩) (hch := hcc) (hcb := hF.cb)]
            exact go true (fun h => by cases h)
          | false =>
            simp only [cond_false]
            cases k1 : ((nT s0 s1 r0 r3 / 1000) == 1125899906842624) with
            | true =>
              simp only [cond_true]
              rw [near_tail (shownV f3 f4 (nT s0 s1 r0 r3 / 1000) s8) f3 (nT s0 s1 r0 r3 / 1000) f4 s8 (hv := rfl) (hb := hF.base) (hcap := ⟨by omega, by omega⟩) (hch := hcc) (hcb := hF.cb)]
              exact go true (fun h => by cases h)
            | false =>
              cases k2 : ((nT s0 s1 r0 r3 / 1000) == -1125899906842624) with
              | true =>
                simp only [cond_false, Bool.not_true]
                rw [near_tail (shownV f3 f4 (nT s0 s1 r0 r3 / 1000) s8) f3 (nT s0 s1 r0 r3 / 1000) f4 s8 (hv := rfl) (hb := hF.base) (hcap := ⟨by omega, by omega⟩) (hch := hcc) (hcb := hF.cb)]
                exact go true (fun h => by cases h)
              | false =>
                have n1 : nT s0 s1 r0 r3 / 1000 ≠ 1125899906842624 := by simpa using k1
                have n2 : nT s0 s1 r0 r3 / 1000 ≠ -1125899906842624 := by simpa using k2
                have e := hmet n1 n2 rfl
                rw [wi64_id (x := f0 * 1000 + f1 + (sum + r0 * r3)) (by omega) (by omega), ← e]
                have dn : (nT s0 s1 r0 r3 != nT s0 s1 r0 r3) = false := by simp
                simp only [cond_false, Bool.not_false, cond_true, dn]
                rw [near_tail (shownV f3 f4 (nT s0 s1 r0 r3 / 1000) s8) f3 (nT s0 s1 r0 r3 / 1000) f4 s8 (hv := rfl) (hb := hF.base) (hcap := ⟨by omega, by omega⟩) (hch := hcc) (hcb := hF.cb)]
                exact go false (fun _ => by rw [hTT]; exact e)
        | true =>
          obtain ⟨y, p0, p1, p2, p3, p4, p5, hy, hpp, _, _, hst⟩ := step_rest (hF := hF) (hread := hread) (hc := hc) (hv := hv) (ht := ht) (h := hB) (hno := hno) ..
          have hge : ¬ (restV c20 c21 c22 s7 r0 (behindV c16 c18 s5 r0 r3) (behindV c17 c19 s6 r0 r3) r3) < c22 := by
            rw [hrb, Bool.true_and] at hno
            have := of_decide_eq_true hno
            omega
          have hso : 0 ≤ (tw (shownV f3 f4 (nT s0 s1 r0 r3 / 1000) s8) (toldV n23 n24 X Y Z (restedV c15 (behindV c16 c18 s5 r0 r3) (behindV c17 c19 s6 r0 r3) r0 r1) r2) c26) ∧ (tw (shownV f3 f4 (nT s0 s1 r0 r3 / 1000) s8) (toldV n23 n24 X Y Z (restedV c15 (behindV c16 c18 s5 r0 r3) (behindV c17 c19 s6 r0 r3) r0 r1) r2) c26) ≤ 10000 := tw_in ⟨bw _, bw _, hF.slew⟩
          have han := anch_facts (le := c28) (mo := c29) (ga := c30) (ch := (nT s0 s1 r0 r3 / 1000)) (so := (tw (shownV f3 f4 (nT s0 s1 r0 r3 / 1000) s8) (toldV n23 n24 X Y Z (restedV c15 (behindV c16 c18 s5 r0 r3) (behindV c17 c19 s6 r0 r3) r0 r1) r2) c26)) (ca := s8) (an := s9) (ac := s10) kh.2.1.2 kcap
          have hN : fitsB c0 c1 c2 c3 c4 c5 c6 c7 c8 c9 c10 c11 c12 c13 c14 c15 c16 c17 c18 c19 c20 c21 c22 n23 n24 n25 c26 c27 c28 c29 c30 c31 b32 c33 c34 c35 b36 c37 c38 c39 b40 c41 c42 c43 b44 c45 c46 c47 b48 c49 c50 c51 b52 c53 c54 c55 c56 (nT s0 s1 r0 r3 / 1000) (nT s0 s1 r0 r3 % 1000) (tw (shownV f3 f4 (nT s0 s1 r0 r3 / 1000) s8) (toldV n23 n24 X Y Z (restedV c15 (behindV c16 c18 s5 r0 r3) (behindV c17 c19 s6 r0 r3) r0 r1) r2) c26) (tw (shownV f3 f4 (nT s0 s1 r0 r3 / 1000) s8) (toldV n23 n24 X Y Z (restedV c15 (behindV c16 c18 s5 r0 r3) (behindV c17 c19 s6 r0 r3) r0 r1) r2) c26) (nT s0 s1 r0 r3 / 1000) (behindV c16 c18 s5 r0 r3) (behindV c17 c19 s6 r0 r3) (restV c20 c21 c22 s7 r0 (behindV c16 c18 s5 r0 r3) (behindV c17 c19 s6 r0 r3) r3) (PH.anch c28 c29 c30 (nT s0 s1 r0 r3 / 1000) (tw (shownV f3 f4 (nT s0 s1 r0 r3 / 1000) s8) (toldV n23 n24 X Y Z (restedV c15 (behindV c16 c18 s5 r0 r3) (behindV c17 c19 s6 r0 r3) r0 r1) r2) c26) s8 s9 s10).1 (PH.anch c28 c29 c30 (nT s0 s1 r0 r3 / 1000) (tw (shownV f3 f4 (nT s0 s1 r0 r3 / 1000) s8) (toldV n23 n24 X Y Z (restedV c15 (behindV c16 c18 s5 r0 r3) (behindV c17 c19 s6 r0 r3) r0 r1) r2) c26) s8 s9 s10).2.1 (PH.anch c28 c29 c30 (nT s0 s1 r0 r3 / 1000) (tw (shownV f3 f4 (nT s0 s1 r0 r3 / 1000) s8) (toldV n23 n24 X Y Z (restedV c15 (behindV c16 c18 s5 r0 r3) (behindV c17 c19 s6 r0 r3) r0 r1) r2) c26) s8 s9 s10).2.2 (cycT s11 s12 r0 r3 / 1000) (cycT s11 s12 r0 r3 % 1000) (cycN (cycT s11 s12 r0 r3 / 1000) s8 s13) y p0 p1 p2 p3 p4 p5 (bif decide (4294967295 < wi64 (s21 + 1)) then 4294967295 else wi64 (s21 + 1)) s22 X Y Z = true := fits_mk c0 c1 c2 c3 c4 c5 c6 c7 c8 c9 c10 c11 c12 c13 c14 c15 c16 c17 c18 c19 c20 c21 c22 n23 n24 n25 c26 c27 c28 c29 c30 c31 b32 c33 c34 c35 b36 c37 c38 c39 b40 c41 c42 c43 b44 c45 c46 c47 b48 c49 c50 c51 b52 c53 c54 c55 c56 (nT s0 s1 r0 r3 / 1000) (nT s0 s1 r0 r3 % 1000) (tw (shownV f3 f4 (nT s0 s1 r0 r3 / 1000) s8) (toldV n23 n24 X Y Z (restedV c15 (behindV c16 c18 s5 r0 r3) (behindV c17 c19 s6 r0 r3) r0 r1) r2) c26) (tw (shownV f3 f4 (nT s0 s1 r0 r3 / 1000) s8) (toldV n23 n24 X Y Z (restedV c15 (behindV c16 c18 s5 r0 r3) (behindV c17 c19 s6 r0 r3) r0 r1) r2) c26) (nT s0 s1 r0 r3 / 1000) (behindV c16 c18 s5 r0 r3) (behindV c17 c19 s6 r0 r3) (restV c20 c21 c22 s7 r0 (behindV c16 c18 s5 r0 r3) (behindV c17 c19 s6 r0 r3) r3) (PH.anch c28 c29 c30 (nT s0 s1 r0 r3 / 1000) (tw (shownV f3 f4 (nT s0 s1 r0 r3 / 1000) s8) (toldV n23 n24 X Y Z (restedV c15 (behindV c16 c18 s5 r0 r3) (behindV c17 c19 s6 r0 r3) r0 r1) r2) c26) s8 s9 s10).1 (PH.anch c28 c29 c30 (nT s0 s1 r0 r3 / 1000) (tw (shownV f3 f4 (nT s0 s1 r0 r3 / 1000) s8) (toldV n23 n24 X Y Z (restedV c15 (behindV c16 c18 s5 r0 r3) (behindV c17 c19 s6 r0 r3) r0 r1) r2) c26) s8 s9 s10).2.1 (PH.anch c28 c29 c30 (nT s0 s1 r0 r3 / 1000) (tw (shownV f3 f4 (nT s0 s1 r0 r3 / 1000) s8) (toldV n23 n24 X Y Z (restedV c15 (behindV c16 c18 s5 r0 r3) (behindV c17 c19 s6 r0 r3) r0 r1) r2) c26) s8 s9 s10).2.2 (cycT s11 s12 r0 r3 / 1000) (cycT s11 s12 r0 r3 % 1000) (cycN (cycT s11 s12 r0 r3 / 1000) s8 s13) y p0 p1 p2 p3 p4 p5 (bif decide (4294967295 < wi64 (s21 + 1)) then 4294967295 else wi64 (s21 + 1)) s22 X Y Z hq
            ⟨hF.way, hF.cell, hF.good, hF.hl, hF.gd, hF.slew, hch, cyc_keep hF.cyc ⟨by have := han.1; omega, by have := han.1; omega⟩ ht.1, hso, hso, by rcases han.2.1 with k | k <;> rw [k]; exact hF.anc; exact .inr hso, hcc,
              by rcases han.2.2 with k | k <;> rw [k]; exact hF.ac; exact hcc, hu1, hu2, hre, han.1, hy, hpp, hcn.1, hF.bads⟩
          have go := fun (m : Bool) => ih 0 m (nT s0 s1 r0 r3 / 1000) (nT s0 s1 r0 r3 % 1000) (tw (shownV f3 f4 (nT s0 s1 r0 r3 / 1000) s8) (toldV n23 n24 X Y Z (restedV c15 (behindV c16 c18 s5 r0 r3) (behindV c17 c19 s6 r0 r3) r0 r1) r2) c26) (tw (shownV f3 f4 (nT s0 s1 r0 r3 / 1000) s8) (toldV n23 n24 X Y Z (restedV c15 (behindV c16 c18 s5 r0 r3) (behindV c17 c19 s6 r0 r3) r0 r1) r2) c26) (nT s0 s1 r0 r3 / 1000) (behindV c16 c18 s5 r0 r3) (behindV c17 c19 s6 r0 r3) (restV c20 c21 c22 s7 r0 (behindV c16 c18 s5 r0 r3) (behindV c17 c19 s6 r0 r3) r3) (PH.anch c28 c29 c30 (nT s0 s1 r0 r3 / 1000) (tw (shownV f3 f4 (nT s0 s1 r0 r3 / 1000) s8) (toldV n23 n24 X Y Z (restedV c15 (behindV c16 c18 s5 r0 r3) (behindV c17 c19 s6 r0 r3) r0 r1) r2) c26) s8 s9 s10).1 (PH.anch c28 c29 c30 (nT s0 s1 r0 r3 / 1000) (tw (shownV f3 f4 (nT s0 s1 r0 r3 / 1000) s8) (toldV n23 n24 X Y Z (restedV c15 (behindV c16 c18 s5 r0 r3) (behindV c17 c19 s6 r0 r3) r0 r1) r2) c26) s8 s9 s10).2.1 (PH.anch c28 c29 c30 (nT s0 s1 r0 r3 / 1000) (tw (shownV f3 f4 (nT s0 s1 r0 r3 / 1000) s8) (toldV n23 n24 X Y Z (restedV c15 (behindV c16 c18 s5 r0 r3) (behindV c17 c19 s6 r0 r3) r0 r1) r2) c26) s8 s9 s10).2.2 (cycT s11 s12 r0 r3 / 1000) (cycT s11 s12 r0 r3 % 1000) (cycN (cycT s11 s12 r0 r3 / 1000) s8 s13) y p0 p1 p2 p3 p4 p5 (bif decide (4294967295 < wi64 (s21 + 1)) then 4294967295 else wi64 (s21 + 1)) s22 (nT s0 s1 r0 r3 / 1000) (nT s0 s1 r0 r3 % 1000) (tw (shownV f3 f4 (nT s0 s1 r0 r3 / 1000) s8) (toldV n23 n24 X Y Z (restedV c15 (behindV c16 c18 s5 r0 r3) (behindV c17 c19 s6 r0 r3) r0 r1) r2) c26) (tw (shownV f3 f4 (nT s0 s1 r0 r3 / 1000) s8) (toldV n23 n24 X Y Z (restedV c15 (behindV c16 c18 s5 r0 r3) (behindV c17 c19 s6 r0 r3) r0 r1) r2) c26) (nT s0 s1 r0 r3 / 1000) (behindV c16 c18 s5 r0 r3) (behindV c17 c19 s6 r0 r3) (restV c20 c21 c22 s7 r0 (behindV c16 c18 s5 r0 r3) (behindV c17 c19 s6 r0 r3) r3) (PH.anch c28 c29 c30 (nT s0 s1 r0 r3 / 1000) (tw (shownV f3 f4 (nT s0 s1 r0 r3 / 1000) s8) (toldV n23 n24 X Y Z (restedV c15 (behindV c16 c18 s5 r0 r3) (behindV c17 c19 s6 r0 r3) r0 r1) r2) c26) s8 s9 s10).1 (PH.anch c28 c29 c30 (nT s0 s1 r0 r3 / 1000) (tw (shownV f3 f4 (nT s0 s1 r0 r3 / 1000) s8) (toldV n23 n24 X Y Z (restedV c15 (behindV c16 c18 s5 r0 r3) (behindV c17 c19 s6 r0 r3) r0 r1) r2) c26) s8 s9 s10).2.1 (PH.anch c28 c29 c30 (nT s0 s1 r0 r3 / 1000) (tw (shownV f3 f4 (nT s0 s1 r0 r3 / 1000) s8) (toldV n23 n24 X Y Z (restedV c15 (behindV c16 c18 s5 r0 r3) (behindV c17 c19 s6 r0 r3) r0 r1) r2) c26) s8 s9 s10).2.2 (cycT s11 s12 r0 r3 / 1000) (cycT s11 s12 r0 r3 % 1000) (cycN (cycT s11 s12 r0 r3 / 1000) s8 s13) y p0 p1 p2 p3 p4 p5 (bif decide (4294967295 < wi64 (s21 + 1)) then 4294967295 else wi64 (s21 + 1)) s22 (by omega) (by omega) hN hch rfl rfl hs0 (fun _ => by omega)
          have ite3 : ∀ (a b : Bool) (y : Option (Unit ⊕ (Bool × Unit))), y = some (.inl ()) → (bif a then (bif b then y else y) else y) = some (.inl ()) := fun a b y hy => by
            cases a <;> cases b <;> exact hy
          rw [hst]
          simp only [Option.bind_some, d0, cond_false, hread]
          rw [total_ok hch, total_ok hfc]
          simp only [Option.bind_some, decide_eq_false hge, cond_false, hsum, hTT]
          cases met with
          | true =>
            simp only [cond_true]
            exact ite3 _ _ _ (go true)
          | false =>
            simp only [cond_false]
            cases k1 : ((nT s0 s1 r0 r3 / 1000) == 1125899906842624) with
            | true =>
              simp only [cond_true]
              exact ite3 _ _ _ (go true)
            | false =>
              cases k2 : ((nT s0 s1 r0 r3 / 1000) == -1125899906842624) with
              | true =>
                simp only [cond_false, Bool.not_true]
                exact ite3 _ _ _ (go true)
              | false =>
                have n1 : nT s0 s1 r0 r3 / 1000 ≠ 1125899906842624 := by simpa using k1
                have n2 : nT s0 s1 r0 r3 / 1000 ≠ -1125899906842624 := by simpa using k2
                have e := hmet n1 n2 rfl
                rw [wi64_id (x := f0 * 1000 + f1 + (sum + r0 * r3)) (by omega) (by omega), ← e]
                have dn : (nT s0 s1 r0 r3 != nT s0 s1 r0 r3) = false := by simp
                simp only [cond_false, Bool.not_false, cond_true, dn]
                exact ite3 _ _ _ (go false)
    · rw [decide_eq_false (show ¬ (i : Int) < (n : Int) by omega)]
      rfl

theorem new_ok (c0 c1 c2 c3 c4 c5 c6 c7 c8 c9 c10 c11 c12 c13 c14 c15 c16 c17 c18 c19 c20 c21 c22 : Int) (n23 n24 n25 : Nat) (c26 c27 c28 c29 c30 c31 : Int) (b32 : Bool) (c33 c34 c35 : Int) (b36 : Bool) (c37 c38 c39 : Int) (b40 : Bool) (c41 c42 c43 : Int) (b44 : Bool) (c45 c46 c47 : Int) (b48 : Bool) (c49 c50 c51 : Int) (b52 : Bool) (c53 c54 c55 c56 : Int) (X Y Z : Nat → Int) : state_New_g 20000 c0 c1 c2 c3 c4 c5 c6 c7 c8 c9 c10 c11 c12 c13 c14 c15 c16 c17 c18 c19 c20 c21 c22 n23 n24 n25 c26 c27 c28 c29 c30 c31 b32 c33 c34 c35 b36 c37 c38 c39 b40 c41 c42 c43 b44 c45 c46 c47 b48 c49 c50 c51 b52 c53 c54 c55 c56 X Y Z = some (bif chkB c0 c1 c2 c3 c4 c5 c6 c7 c8 c9 c10 c11 c12 c13 c14 c15 c16 c17 c18 c19 c20 c21 c22 n23 n24 n25 c26 c27 c28 c29 c30 c31 b32 c33 c34 c35 b36 c37 c38 c39 b40 c41 c42 c43 b44 c45 c46 c47 b48 c49 c50 c51 b52 c53 c54 c55 c56 X Y Z then (0, 0, 5000, 5000, 0, 0, 0, 0, c27, (-1), 0, 0, 0, 0, 0, 0, 0, 0, 0, 0, 0, 0, 0, 0, ()) else (0, 0, 0, 0, 0, 0, 0, 0, 0, 0, 0, 0, 0, 0, 0, 0, 0, 0, 0, 0, 0, 0, 0, 210, ())) := by
  unfold state_New_g
  rw [check_exact]
  cases chkB c0 c1 c2 c3 c4 c5 c6 c7 c8 c9 c10 c11 c12 c13 c14 c15 c16 c17 c18 c19 c20 c21 c22 n23 n24 n25 c26 c27 c28 c29 c30 c31 b32 c33 c34 c35 b36 c37 c38 c39 b40 c41 c42 c43 b44 c45 c46 c47 b48 c49 c50 c51 b52 c53 c54 c55 c56 X Y Z <;> rfl

theorem StateExact_ok (c0 c1 c2 c3 c4 c5 c6 c7 c8 c9 c10 c11 c12 c13 c14 c15 c16 c17 c18 c19 c20 c21 c22 : Int) (n23 n24 n25 : Nat) (c26 c27 c28 c29 c30 c31 : Int) (b32 : Bool) (c33 c34 c35 : Int) (b36 : Bool) (c37 c38 c39 : Int) (b40 : Bool) (c41 c42 c43 : Int) (b44 : Bool) (c45 c46 c47 : Int) (b48 : Bool) (c49 c50 c51 : Int) (b52 : Bool) (c53 c54 c55 c56 : Int) (n : Nat) (X Y Z : Nat → Int) (A B D T : Nat → Int) : w_StateExact_g 20000 c0 c1 c2 c3 c4 c5 c6 c7 c8 c9 c10 c11 c12 c13 c14 c15 c16 c17 c18 c19 c20 c21 c22 n23 n24 n25 c26 c27 c28 c29 c30 c31 b32 c33 c34 c35 b36 c37 c38 c39 b40 c41 c42 c43 b44 c45 c46 c47 b48 c49 c50 c51 b52 c53 c54 c55 c56 n X Y Z A B D T = some true := by
  unfold w_StateExact_g
  obtain ⟨l, hl⟩ := light_cases c0 c1 c2 c3 c4 c5 c6 c7 c8 c9 c10 c11 c12 c13 c14 c15 c16 c17 c18 c19 c20 c21 c22 n23 n24 n25 c26 c27 c28 c29 c30 c31 b32 c33 c34 c35 b36 c37 c38 c39 b40 c41 c42 c43 b44 c45 c46 c47 b48 c49 c50 c51 b52 c53 c54 c55 c56 X Y Z
  rw [works_ok, hl]
  cases l with
  | false => rfl
  | true =>
    simp only [Option.bind_some, Bool.not_true, cond_false, new_ok]
    cases hC : chkB c0 c1 c2 c3 c4 c5 c6 c7 c8 c9 c10 c11 c12 c13 c14 c15 c16 c17 c18 c19 c20 c21 c22 n23 n24 n25 c26 c27 c28 c29 c30 c31 b32 c33 c34 c35 b36 c37 c38 c39 b40 c41 c42 c43 b44 c45 c46 c47 b48 c49 c50 c51 b52 c53 c54 c55 c56 X Y Z with
    | false => rfl
    | true =>
      have hB : fitsB c0 c1 c2 c3 c4 c5 c6 c7 c8 c9 c10 c11 c12 c13 c14 c15 c16 c17 c18 c19 c20 c21 c22 n23 n24 n25 c26 c27 c28 c29 c30 c31 b32 c33 c34 c35 b36 c37 c38 c39 b40 c41 c42 c43 b44 c45 c46 c47 b48 c49 c50 c51 b52 c53 c54 c55 c56 0 0 5000 5000 0 0 0 0 c27 (-1) 0 0 0 0 0 0 0 0 0 0 0 0 0 X Y Z = true := by
        have k := hC
        unfold chkB at k
        simp only [Bool.and_eq_true, inR_iff] at k
        have hh : (1 ≤ c30 ∧ c30 ≤ 10000) ∧ (1 ≤ c28 ∧ c28 ≤ c29) ∧ c29 ≤ 1125899906842624 ∧ (c28 ≤ c27 ∧ c27 ≤ c29) := of_decide_eq_true k.2.2.2.1
        have hd : 1 ≤ c55 ∧ c55 ≤ 31 := by
          have k' := k.2.2.2.2.1
          unfold gdB at k'
          simp only [Bool.and_eq_true, decide_eq_true_eq] at k'
          exact k'.2
        have hr : PG.rin c55 0 := ⟨by omega, by omega⟩
        exact fits_mk _ _ _ _ _ _ _ _ _ _ _ _ _ _ _ _ _ _ _ _ _ _ _ _ _ _ _ _ _ _ _ _ _ _ _ _ _ _ _ _ _ _ _ _ _ _ _ _ _ _ _ _ _ _ _ _ _ _ _ _ _ _ _ _ _ _ _ _ _ _ _ _ _ _ _ _ _ _ _ _ _ _ _ k.2.2.2.2.2.2
          ⟨k.1, k.2.1, of_dc k.2.2.1, hh, k.2.2.2.2.1, k.2.2.2.2.2.1, chB_iff.2 (by omega), decide_eq_true (by omega), by omega, by omega, .inl rfl, by omega, by omega, by omega, by omega, by omega, hh.2.2.2, by omega, ⟨hr, hr, hr, hr, hr, hr⟩, by omega, by omega⟩
      have d0 : ((0 : Int) != 0) = false := rfl
      have e0 : ((0 : Nat) : Int) = 0 := rfl
      have hl := exact_loop n A B D T c0 c1 c2 c3 c4 c5 c6 c7 c8 c9 c10 c11 c12 c13 c14 c15 c16 c17 c18 c19 c20 c21 c22 n23 n24 n25 c26 c27 c28 c29 c30 c31 b32 c33 c34 c35 b36 c37 c38 c39 b40 c41 c42 c43 b44 c45 c46 c47 b48 c49 c50 c51 b52 c53 c54 c55 c56 X Y Z 60 0 20000 0 false 0 0 5000 5000 0 0 0 0 c27 (-1) 0 0 0 0 0 0 0 0 0 0 0 0 0 0 0 5000 5000 0 0 0 0 c27 (-1) 0 0 0 0 0 0 0 0 0 0 0 0 0 (by omega) (by omega) hB (chB_iff.2 (by omega)) rfl rfl (by omega) (fun _ => by omega)
      rw [e0] at hl
      simp only [cond_true, d0, cond_false]
      rw [hl]
      rfl
end Go.Proofs.YtjmbhhinmbgneaaGreat
