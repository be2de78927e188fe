/-
  The quotient of two words by one: what the library's function computes.
-/
import Derived.Test.YtjmbhhinmbgneaaGreatsN
namespace Go.Proofs.YtjmbhhinmbgneaaGreat
open Go.Sy
set_option maxHeartbeats 1000000

section digit
variable {un v1 v0 u1 q r : Int}

theorem dig_a (hv : 0 < v1 * 4294967296 + v0) (hu : un = q * v1 + r) (h : q * v0 > 4294967296 * r + u1) : (un * 4294967296 + u1) / (v1 * 4294967296 + v0) ≤ q - 1 := by
  have : (un * 4294967296 + u1) / (v1 * 4294967296 + v0) < q := by
    refine Int.ediv_lt_of_lt_mul hv ?_
    subst hu
    grind
  omega

theorem dig_b (hv : 0 < v1 * 4294967296 + v0) (hun : un < v1 * 4294967296 + v0) (h1 : u1 < 4294967296) : (un * 4294967296 + u1) / (v1 * 4294967296 + v0) < 4294967296 := by
  refine Int.ediv_lt_of_lt_mul hv ?_
  omega

theorem dig_c (hv : 0 < v1 * 4294967296 + v0) (hu : un = q * v1 + r) (h : q * v0 ≤ 4294967296 * r + u1) : q ≤ (un * 4294967296 + u1) / (v1 * 4294967296 + v0) := by
  refine Int.le_ediv_of_mul_le hv ?_
  subst hu
  grind

theorem dig_d (hv1 : 0 < v1) (hun : un < v1 * 4294967296 + v0) (hv0 : 0 ≤ v0) (hv0' : v0 < 4294967296) (hu : un = q * v1 + r) (hr : 4294967296 ≤ r) (h1 : 0 ≤ u1) (hq : 0 ≤ q) : q * v0 ≤ 4294967296 * r + u1 := by
  have h2 : q * v1 < 4294967296 * v1 := by omega
  have h3 : q < 4294967296 := Int.lt_of_mul_lt_mul_right h2 (by omega)
  have h4 : q * v0 ≤ 4294967296 * v0 := Int.mul_le_mul_of_nonneg_right (by omega) hv0
  omega
end digit

theorem adj0 (y s v1 v0 un u1 u0 : Int) (hv1 : 2147483648 ≤ v1) (hv1' : v1 < 4294967296) (hv0 : 0 ≤ v0) (hv0' : v0 < 4294967296) (hun : un < v1 * 4294967296 + v0) (hu1 : 0 ≤ u1) (hu1' : u1 < 4294967296) :
    ∀ (n : Nat) (q r : Int), un = q * v1 + r → 0 ≤ r → r < 4294967296 → 0 ≤ q → q ≤ 4294967298 → (un * 4294967296 + u1) / (v1 * 4294967296 + v0) ≤ q → 4294967296 ≤ r + (n : Int) * 2147483648 →
      mb_Div64_l0 20000 (n + 1) y s v1 v0 un u1 u0 q r = some (y, s, v1, v0, un, u1, u0, (un * 4294967296 + u1) / (v1 * 4294967296 + v0), ())
  | 0, q, r, hu, hr, hr', hq, hq', hQ, hn => by omega
  | n + 1, q, r, hu, hr, hr', hq, hq', hQ, hn => by
    have hv : 0 < v1 * 4294967296 + v0 := by omega
    have e0 : mb_Div64_l0 20000 (n + 1 + 1) y s v1 v0 un u1 u0 q r = mb_Div64_l0r 20000 (mb_Div64_l0 20000 (n + 1)) y s v1 v0 un u1 u0 q r := rfl
    rw [e0]
    have hlt := dig_b (u1 := u1) hv hun hu1'
    have hQ0 : 0 ≤ (un * 4294967296 + u1) / (v1 * 4294967296 + v0) := by
      refine Int.ediv_nonneg ?_ (by omega)
      have : 0 ≤ q * v1 := Int.mul_nonneg hq (by omega)
      omega
    have down : (un * 4294967296 + u1) / (v1 * 4294967296 + v0) ≤ q - 1 → (bif decide (wu64 (r + v1) ≥ 4294967296) then some (y, s, v1, v0, un, u1, u0, wu64 (q - 1), ()) else mb_Div64_l0 20000 (n + 1) y s v1 v0 un u1 u0 (wu64 (q - 1)) (wu64 (r + v1))) = some (y, s, v1, v0, un, u1, u0, (un * 4294967296 + u1) / (v1 * 4294967296 + v0), ()) := by
      intro hd
      have hu' : un = (q - 1) * v1 + (r + v1) := by rw [hu]; grind
      rw [wu64_id (x := r + v1) (by omega) (by omega), wu64_id (x := q - 1) (by omega) (by omega)]
      by_cases hb : r + v1 ≥ 4294967296
      · rw [decide_eq_true hb]
        have := dig_c hv hu' (dig_d (by omega) hun hv0 hv0' hu' hb hu1 (by omega))
        have e : q - 1 = (un * 4294967296 + u1) / (v1 * 4294967296 + v0) := by omega
        rw [← e]; rfl
      · rw [decide_eq_false hb]
        exact adj0 y s v1 v0 un u1 u0 hv1 hv1' hv0 hv0' hun hu1 hu1' n (q - 1) (r + v1) hu' (by omega) (by omega) (by omega) (by omega) hd (by omega)
    unfold mb_Div64_l0r
    by_cases h1 : q ≥ 4294967296
    · rw [decide_eq_true h1]
      exact down (by omega)
    · rw [decide_eq_false h1]
      have hp := mul_range (x := q) (y := v0) (a := 4294967295) (b := 4294967295) hq (by omega) hv0 (by omega)
      rw [wu64_id (x := q * v0) (by omega) (by omega), wu64_id (x := 4294967296 * r) (by omega) (by omega), wu64_id (x := 4294967296 * r + u1) (by omega) (by omega)]
      by_cases h2 : q * v0 > 4294967296 * r + u1
      · rw [decide_eq_true h2]
        exact down (dig_a hv hu h2)
      · rw [decide_eq_false h2]
        have := dig_c hv hu (show q * v0 ≤ 4294967296 * r + u1 by omega)
        have e : q = (un * 4294967296 + u1) / (v1 * 4294967296 + v0) := by omega
        rw [← e]; rfl

theorem adj1 (y s v1 v0 u1 q1 un : Int) (hv1 : 2147483648 ≤ v1) (hv1' : v1 < 4294967296) (hv0 : 0 ≤ v0) (hv0' : v0 < 4294967296) (hun : un < v1 * 4294967296 + v0) (hu1 : 0 ≤ u1) (hu1' : u1 < 4294967296) :
    ∀ (n : Nat) (q r : Int), un = q * v1 + r → 0 ≤ r → r < 4294967296 → 0 ≤ q → q ≤ 4294967298 → (un * 4294967296 + u1) / (v1 * 4294967296 + v0) ≤ q → 4294967296 ≤ r + (n : Int) * 2147483648 →
      mb_Div64_l1 20000 (n + 1) y s v1 v0 u1 q1 r un q = some (y, s, u1, q1, un, (un * 4294967296 + u1) / (v1 * 4294967296 + v0), ())
  | 0, q, r, hu, hr, hr', hq, hq', hQ, hn => by omega
  | n + 1, q, r, hu, hr, hr', hq, hq', hQ, hn => by
    have hv : 0 < v1 * 4294967296 + v0 := by omega
    have e0 : mb_Div64_l1 20000 (n + 1 + 1) y s v1 v0 u1 q1 r un q = mb_Div64_l1r 20000 (mb_Div64_l1 20000 (n + 1)) y s v1 v0 u1 q1 r un q := rfl
    rw [e0]
    have hlt := dig_b (u1 := u1) hv hun hu1'
    have hQ0 : 0 ≤ (un * 4294967296 + u1) / (v1 * 4294967296 + v0) := by
      refine Int.ediv_nonneg ?_ (by omega)
      have : 0 ≤ q * v1 := Int.mul_nonneg hq (by omega)
      omega
    have down : (un * 4294967296 + u1) / (v1 * 4294967296 + v0) ≤ q - 1 → (bif decide (wu64 (r + v1) ≥ 4294967296) then some (y, s, u1, q1, un, wu64 (q - 1), ()) else mb_Div64_l1 20000 (n + 1) y s v1 v0 u1 q1 (wu64 (r + v1)) un (wu64 (q - 1))) = some (y, s, u1, q1, un, (un * 4294967296 + u1) / (v1 * 4294967296 + v0), ()) := by
      intro hd
      have hu' : un = (q - 1) * v1 + (r + v1) := by rw [hu]; grind
      rw [wu64_id (x := r + v1) (by omega) (by omega), wu64_id (x := q - 1) (by omega) (by omega)]
      by_cases hb : r + v1 ≥ 4294967296
      · rw [decide_eq_true hb]
        have := dig_c hv hu' (dig_d (by omega) hun hv0 hv0' hu' hb hu1 (by omega))
        have e : q - 1 = (un * 4294967296 + u1) / (v1 * 4294967296 + v0) := by omega
        rw [← e]; rfl
      · rw [decide_eq_false hb]
        exact adj1 y s v1 v0 u1 q1 un hv1 hv1' hv0 hv0' hun hu1 hu1' n (q - 1) (r + v1) hu' (by omega) (by omega) (by omega) (by omega) hd (by omega)
    unfold mb_Div64_l1r
    by_cases h1 : q ≥ 4294967296
    · rw [decide_eq_true h1]
      exact down (by omega)
    · rw [decide_eq_false h1]
      have hp := mul_range (x := q) (y := v0) (a := 4294967295) (b := 4294967295) hq (by omega) hv0 (by omega)
      rw [wu64_id (x := q * v0) (by omega) (by omega), wu64_id (x := 4294967296 * r) (by omega) (by omega), wu64_id (x := 4294967296 * r + u1) (by omega) (by omega)]
      by_cases h2 : q * v0 > 4294967296 * r + u1
      · rw [decide_eq_true h2]
        exact down (dig_a hv hu h2)
      · rw [decide_eq_false h2]
        have := dig_c hv hu (show q * v0 ≤ 4294967296 * r + u1 by omega)
        have e : q = (un * 4294967296 + u1) / (v1 * 4294967296 + v0) := by omega
        rw [← e]; rfl

/-! ### How many zeros lead -/
theorem tab_len : ∀ i : Nat, i < 256 → (tab0.getD i 0).toNat ≤ 8 ∧ (0 < i → 1 ≤ (tab0.getD i 0).toNat ∧ 2 ^ ((tab0.getD i 0).toNat - 1) ≤ i ∧ i < 2 ^ (tab0.getD i 0).toNat) := by decide +kernel

theorem lz_core {z k L y : Nat} (hL : 1 ≤ L) (hk : k + L ≤ 64) (h1 : 2 ^ (L - 1) ≤ z) (h2 : z < 2 ^ L) (h3 : z * 2 ^ k ≤ y) (h4 : y < (z + 1) * 2 ^ k) : 2 ^ 63 ≤ y * 2 ^ (64 - k - L) ∧ y * 2 ^ (64 - k - L) < 2 ^ 64 := by
  have e1 : 2 ^ 63 = 2 ^ (L - 1) * 2 ^ k * 2 ^ (64 - k - L) := by rw [← Nat.pow_add, ← Nat.pow_add]; congr 1; omega
  have e2 : 2 ^ 64 = 2 ^ L * 2 ^ k * 2 ^ (64 - k - L) := by rw [← Nat.pow_add, ← Nat.pow_add]; congr 1; omega
  have p := Nat.two_pow_pos (64 - k - L)
  constructor
  · rw [e1]
    exact Nat.mul_le_mul_right _ (Nat.le_trans (Nat.mul_le_mul_right _ h1) h3)
  · rw [e2]
    exact Nat.mul_lt_mul_of_pos_right (Nat.lt_of_lt_of_le h4 (Nat.mul_le_mul_right _ h2)) p

theorem shr_lit (x : Int) (k : Int) (d : Int) (h : shR .u64 x k = x.fdiv d) (hd : 0 ≤ d) : shR .u64 x k = x / d := by rw [h, Int.fdiv_eq_ediv_of_nonneg _ hd]
theorem shr16 (x : Int) : shR .u64 x 16 = x / 65536 := shr_lit x 16 65536 rfl (by omega)
theorem shr8 (x : Int) : shR .u64 x 8 = x / 256 := shr_lit x 8 256 rfl (by omega)
theorem shr32' (x : Int) : shR .u64 x 32 = x / 4294967296 := shr_lit x 32 4294967296 rfl (by omega)

theorem wu8_id {x : Int} (h : 0 ≤ x) (h' : x < 256) : wu8 x = x := by
  have : wu8 x = x % 256 := by simp [wu8, IntKind.wrap, IntKind.bits, IntKind.signed]
  omega

theorem len_step {z k y : Nat} (hz : 1 ≤ z) (hz' : z < 256) (hk : k ≤ 56) (h3 : z * 2 ^ k ≤ y) (h4 : y < (z + 1) * 2 ^ k) :
    ∃ s : Nat, s ≤ 63 ∧ ((bif ((decide (0 ≤ wu8 (z : Int))) && (decide (wu8 (z : Int) < 256))) then some (wi64 ((k : Int) + wi64 ((((tab0.getD (Int.toNat (wu8 (z : Int))) 0).toNat : Nat) : Int))), ()) else none) : Option (Int × Unit)) = some ((64 : Int) - s, ()) ∧ 2 ^ 63 ≤ y * 2 ^ s ∧ y * 2 ^ s < 2 ^ 64 := by
  rw [wu8_id (by omega) (by omega)]
  obtain ⟨t1, t2⟩ := tab_len z hz'
  obtain ⟨t3, t4, t5⟩ := t2 (by omega)
  have d1 : decide (0 ≤ (z : Int)) = true := by simp
  have d2 : decide ((z : Int) < 256) = true := by simp; omega
  rw [d1, d2, Int.toNat_natCast]
  generalize (tab0.getD z 0).toNat = L at *
  obtain ⟨k1, k2⟩ := lz_core (z := z) (k := k) (L := L) (y := y) t3 (by omega) t4 t5 h3 h4
  refine ⟨64 - k - L, by omega, ?_, k1, k2⟩
  rw [wi64_id (x := (L : Int)) (by omega) (by omega), wi64_id (by omega) (by omega)]
  simp only [Bool.and_self, cond_true, Option.some.injEq, Prod.mk.injEq, and_true]
  omega

theorem lz_ok (K y : Nat) (h : 1 ≤ y) (h' : y < 18446744073709551616) : ∃ s : Nat, s ≤ 63 ∧ mb_LeadingZeros64_g K (y : Int) = some ((s : Int), ()) ∧ 2 ^ 63 ≤ y * 2 ^ s ∧ y * 2 ^ s < 2 ^ 64 := by
  have key : ∃ s : Nat, s ≤ 63 ∧ mb_Len64_g K (y : Int) = some ((64 : Int) - s, ()) ∧ 2 ^ 63 ≤ y * 2 ^ s ∧ y * 2 ^ s < 2 ^ 64 := by
    unfold mb_Len64_g
    rw [shr32', shr16, shr16, shr8, shr8, shr8, shr8]
    have e32 : (y : Int) / 4294967296 = ((y / 4294967296 : Nat) : Int) := by omega
    have e16 : (y : Int) / 65536 = ((y / 65536 : Nat) : Int) := by omega
    have e8 : (y : Int) / 256 = ((y / 256 : Nat) : Int) := by omega
    have e168 : ((y / 65536 : Nat) : Int) / 256 = ((y / 16777216 : Nat) : Int) := by omega
    have e3216 : ((y / 4294967296 : Nat) : Int) / 65536 = ((y / 281474976710656 : Nat) : Int) := by omega
    have e328 : ((y / 4294967296 : Nat) : Int) / 256 = ((y / 1099511627776 : Nat) : Int) := by omega
    have e32168 : ((y / 281474976710656 : Nat) : Int) / 256 = ((y / 72057594037927936 : Nat) : Int) := by omega
    rw [e32, e16, e8, e168, e3216, e328, e32168]
    have mk : ∀ (k : Nat) (z : Nat), k ≤ 56 → 1 ≤ z → z < 256 → z * 2 ^ k ≤ y → y < (z + 1) * 2 ^ k → ∃ s : Nat, s ≤ 63 ∧ ((bif ((decide (0 ≤ wu8 (z : Int))) && (decide (wu8 (z : Int) < 256))) then some (wi64 ((k : Int) + wi64 ((((tab0.getD (Int.toNat (wu8 (z : Int))) 0).toNat : Nat) : Int))), ()) else none) : Option (Int × Unit)) = some ((64 : Int) - s, ()) ∧ 2 ^ 63 ≤ y * 2 ^ s ∧ y * 2 ^ s < 2 ^ 64 :=
      fun k z hk hz hz' h3 h4 => len_step hz hz' hk h3 h4
    by_cases c1 : 4294967296 ≤ y
    · rw [decide_eq_true (show (y : Int) ≥ 4294967296 by omega), cond_true]
      by_cases c2 : 281474976710656 ≤ y
      · rw [decide_eq_true (show ((y / 4294967296 : Nat) : Int) ≥ 65536 by omega), cond_true]
        by_cases c3 : 72057594037927936 ≤ y
        · rw [decide_eq_true (show ((y / 281474976710656 : Nat) : Int) ≥ 256 by omega), cond_true]
          exact mk 56 (y / 72057594037927936) (by omega) (by omega) (by omega) (by omega) (by omega)
        · rw [decide_eq_false (show ¬ ((y / 281474976710656 : Nat) : Int) ≥ 256 by omega), cond_false]
          exact mk 48 (y / 281474976710656) (by omega) (by omega) (by omega) (by omega) (by omega)
      · rw [decide_eq_false (show ¬ ((y / 4294967296 : Nat) : Int) ≥ 65536 by omega), cond_false]
        by_cases c3 : 1099511627776 ≤ y
        · rw [decide_eq_true (show ((y / 4294967296 : Nat) : Int) ≥ 256 by omega), cond_true]
          exact mk 40 (y / 1099511627776) (by omega) (by omega) (by omega) (by omega) (by omega)
        · rw [decide_eq_false (show ¬ ((y / 4294967296 : Nat) : Int) ≥ 256 by omega), cond_false]
          exact mk 32 (y / 4294967296) (by omega) (by omega) (by omega) (by omega) (by omega)
    · rw [decide_eq_false (show ¬ (y : Int) ≥ 4294967296 by omega), cond_false]
      by_cases c2 : 65536 ≤ y
      · rw [decide_eq_true (show (y : Int) ≥ 65536 by omega), cond_true]
        by_cases c3 : 16777216 ≤ y
        · rw [decide_eq_true (show ((y / 65536 : Nat) : Int) ≥ 256 by omega), cond_true]
          exact mk 24 (y / 16777216) (by omega) (by omega) (by omega) (by omega) (by omega)
        · rw [decide_eq_false (show ¬ ((y / 65536 : Nat) : Int) ≥ 256 by omega), cond_false]
          exact mk 16 (y / 65536) (by omega) (by omega) (by omega) (by omega) (by omega)
      · rw [decide_eq_false (show ¬ (y : Int) ≥ 65536 by omega), cond_false]
        by_cases c3 : 256 ≤ y
        · rw [decide_eq_true (show (y : Int) ≥ 256 by omega), cond_true]
          exact mk 8 (y / 256) (by omega) (by omega) (by omega) (by omega) (by omega)
        · rw [decide_eq_false (show ¬ (y : Int) ≥ 256 by omega), cond_false]
          exact mk 0 y (by omega) (by omega) (by omega) (by omega) (by omega)
  obtain ⟨s, hs, h1, h2⟩ := key
  refine ⟨s, hs, ?_, h2⟩
  unfold mb_LeadingZeros64_g
  rw [h1]
  simp only [Option.bind_some, Option.some.injEq, Prod.mk.injEq, and_true]
  rw [wi64_id (by omega) (by omega)]
  omega

/-! ### The whole -/
theorem shl_nat (x s : Nat) (hs : s ≤ 64) : shL .u64 (x : Int) (s : Int) = ((x * 2 ^ s % 18446744073709551616 : Nat) : Int) := by
  have : shL .u64 (x : Int) (s : Int) = wu64 ((x : Int) * 2 ^ (min (Int.toNat s) 64)) := rfl
  rw [this, Int.toNat_natCast, Nat.min_eq_left hs, wu64_def]
  have : (x : Int) * 2 ^ s = ((x * 2 ^ s : Nat) : Int) := by simp
  rw [this]
  omega

theorem shr_nat (x s : Nat) (hs : s ≤ 64) : shR .u64 (x : Int) (s : Int) = ((x / 2 ^ s : Nat) : Int) := by
  have : shR .u64 (x : Int) (s : Int) = (x : Int).fdiv (2 ^ (min (Int.toNat s) 64)) := rfl
  rw [this, Int.toNat_natCast, Nat.min_eq_left hs, Int.fdiv_eq_ediv_of_nonneg _ (by exact Int.pow_nonneg (by omega))]
  simp

theorem or_nat (a b s : Nat) (hb : b < 2 ^ s) (ha : a * 2 ^ s + b < 18446744073709551616) : bitOr .u64 ((a * 2 ^ s : Nat) : Int) (b : Int) = ((a * 2 ^ s + b : Nat) : Int) := by
  have e1 : ∀ n : Nat, n < 18446744073709551616 → (BitVec.ofInt 64 (n : Int)).toNat = n := by
    intro n hn
    rw [BitVec.toNat_ofInt]
    omega
  have : bitOr .u64 ((a * 2 ^ s : Nat) : Int) (b : Int) = wu64 ((BitVec.ofInt 64 ((a * 2 ^ s : Nat) : Int) ||| BitVec.ofInt 64 (b : Int)).toNat : Int) := rfl
  rw [this, BitVec.toNat_or, e1 _ (by omega), e1 _ (by omega)]
  have e2 : a * 2 ^ s ||| b = a * 2 ^ s + b := by
    have := Nat.shiftLeft_add_eq_or_of_lt hb a
    rw [Nat.shiftLeft_eq] at this
    exact this.symm
  rw [e2, wu64_id (by omega) (by omega)]

theorem and32n (x : Nat) (h : x < 18446744073709551616) : bitAnd .u64 (x : Int) 4294967295 = ((x % 4294967296 : Nat) : Int) := by
  rw [and32 _ (by omega) (by omega)]
  omega

/-- One digit's first guess. -/
theorem guess {un v1 v0 u1 : Int} (hv1 : 2147483648 ≤ v1) (hv1' : v1 < 4294967296) (hv0 : 0 ≤ v0) (hv0' : v0 < 4294967296) (hun0 : 0 ≤ un) (hun : un < v1 * 4294967296 + v0) (hu1' : u1 < 4294967296) :
    wu64 (Int.tdiv un v1) = un / v1 ∧ wu64 (un - wu64 (un / v1 * v1)) = un % v1 ∧ un = un / v1 * v1 + un % v1 ∧ 0 ≤ un % v1 ∧ un % v1 < 4294967296 ∧ 0 ≤ un / v1 ∧ un / v1 ≤ 4294967298 ∧ (un * 4294967296 + u1) / (v1 * 4294967296 + v0) ≤ un / v1 := by
  have hq0 : 0 ≤ un / v1 := Int.ediv_nonneg hun0 (by omega)
  have hr0 : 0 ≤ un % v1 := Int.emod_nonneg _ (by omega)
  have hr1 : un % v1 < v1 := Int.emod_lt_of_pos _ (by omega)
  have hdm : un / v1 * v1 + un % v1 = un := Int.ediv_mul_add_emod un v1
  have hq1 : un / v1 < 4294967298 := by
    refine Int.ediv_lt_of_lt_mul (by omega) ?_
    omega
  have hpv : 0 ≤ un / v1 * v1 := Int.mul_nonneg hq0 (by omega)
  refine ⟨?_, ?_, hdm.symm, hr0, by omega, hq0, by omega, ?_⟩
  · rw [(tdiv_pos hun0).1, wu64_id hq0 (by omega)]
  · rw [wu64_id (x := un / v1 * v1) (by omega) (by omega), wu64_id (by omega) (by omega)]; omega
  · -- the guess is not below
    have h1 : (un * 4294967296 + u1) / (v1 * 4294967296 + v0) < un / v1 + 1 := by
      refine Int.ediv_lt_of_lt_mul (by omega) ?_
      generalize un / v1 = q at *
      generalize un % v1 = r at *
      subst hdm
      have h2 : 0 ≤ (q + 1) * v0 := Int.mul_nonneg (by omega) hv0
      have e : (q + 1) * (v1 * 4294967296 + v0) = (q * v1) * 4294967296 + v1 * 4294967296 + (q + 1) * v0 := by grind
      rw [e]
      generalize q * v1 = a at *
      generalize (q + 1) * v0 = c at *
      omega
    omega

theorem tot_ok {X un lw v Q1 un2 Q0 re : Nat} (hs : X = un * 18446744073709551616 + lw) (h1 : v * Q1 + un2 = un * 4294967296 + lw / 4294967296) (h0 : v * Q0 + re = un2 * 4294967296 + lw % 4294967296) :
    X = v * (Q1 * 4294967296 + Q0) + re := by
  have e : v * (Q1 * 4294967296 + Q0) = (v * Q1) * 4294967296 + v * Q0 := by
    rw [Nat.mul_add, Nat.mul_assoc]
  rw [e]
  generalize v * Q1 = a at *
  generalize v * Q0 = c at *
  have k : lw = lw / 4294967296 * 4294967296 + lw % 4294967296 := (Nat.div_add_mod' lw _).symm
  generalize lw / 4294967296 = l1 at *
  generalize lw % 4294967296 = l0 at *
  grind

theorem fin_ok {N P v y Q re : Nat} (hP : 0 < P) (hy : 0 < y) (hv : v = y * P) (ht : N * P = v * Q + re) (hr : re < v) : N / y = Q ∧ N % y = re / P := by
  have hNy : N * P = (y * Q) * P + re := by rw [ht, hv]; grind
  have hle : y * Q ≤ N := by
    rcases Nat.lt_or_ge N (y * Q) with h | h
    · have := Nat.mul_lt_mul_of_pos_right h hP
      omega
    · exact h
  obtain ⟨ρ, hρ⟩ : ∃ ρ, N = y * Q + ρ := ⟨N - y * Q, by omega⟩
  have hre : re = ρ * P := by
    rw [hρ, Nat.add_mul] at hNy
    omega
  have hρy : ρ < y := by
    rw [hre, hv] at hr
    exact Nat.lt_of_mul_lt_mul_right hr
  rw [hre, Nat.mul_div_cancel _ hP, hρ]
  constructor
  · rw [Nat.mul_add_div hy, Nat.div_eq_of_lt hρy, Nat.add_zero]
  · rw [Nat.mul_add_mod, Nat.mod_eq_of_lt hρy]

theorem left_ok {un l v Q r : Nat} (h : v * Q + r = un * 4294967296 + l) (hr : r < 18446744073709551616) : wu64 (wu64 (wu64 ((un : Int) * 4294967296) + (l : Int)) - wu64 ((Q : Int) * (v : Int))) = (r : Int) := by
  have h1 : (un : Int) * 4294967296 + (l : Int) = (v : Int) * (Q : Int) + (r : Int) := by
    have : ((v * Q + r : Nat) : Int) = ((un * 4294967296 + l : Nat) : Int) := by rw [h]
    simpa using this.symm
  have h2 : (Q : Int) * (v : Int) = (v : Int) * (Q : Int) := Int.mul_comm _ _
  rw [h2]
  generalize (v : Int) * (Q : Int) = a at *
  simp only [wu64_def]
  omega

theorem up_ok {hi lo P R : Nat} (hPR : P * R = 18446744073709551616) : (hi * 18446744073709551616 + lo) * P = (hi * P + lo / R) * 18446744073709551616 + lo * P % 18446744073709551616 := by
  have hlow : lo * P % 18446744073709551616 = lo % R * P := by
    rw [← hPR, Nat.mul_comm P R, Nat.mul_mod_mul_right]
  rw [hlow]
  have h1 : lo = lo / R * R + lo % R := by rw [Nat.mul_comm]; exact (Nat.div_add_mod lo _).symm
  generalize lo / R = a at *
  generalize lo % R = b at *
  subst h1
  rw [← hPR]
  grind

theorem div64_ok (hi lo y : Nat) (hhi : 0 < hi) (hy : hi < y) (hlo : lo < 18446744073709551616) (hy' : y < 18446744073709551616) :
    mb_Div64_g 20000 (hi : Int) (lo : Int) (y : Int) = some ((((hi * 18446744073709551616 + lo) / y : Nat) : Int), (((hi * 18446744073709551616 + lo) % y : Nat) : Int), ()) := by
  obtain ⟨s, hs, hlz, n1, n2⟩ := lz_ok 20000 y (by omega) hy'
  unfold mb_Div64_g
  generalize hL0 : mb_Div64_l0 20000 20000 = L0
  generalize hL1 : mb_Div64_l1 20000 20000 = L1
  have d1 : ((y : Int) == 0) = false := by simp; omega
  have d2 : decide ((y : Int) ≤ (hi : Int)) = false := by simp; omega
  have d3 : ((hi : Int) == 0) = false := by simp; omega
  have w1 : wu64 (s : Int) = (s : Int) := wu64_id (by omega) (by omega)
  have w2 : wu64 (64 - (s : Int)) = ((64 - s : Nat) : Int) := by rw [wu64_id (by omega) (by omega)]; omega
  have d4 : decide ((s : Int) < 0) = false := by simp
  have d5 : decide (((64 - s : Nat) : Int) < 0) = false := by simp
  rw [d1, d2, d3, hlz]
  simp only [cond_false, Option.bind_some, w1, w2, d4, d5]
  have pP := Nat.two_pow_pos s
  have pR := Nat.two_pow_pos (64 - s)
  have hPR : 2 ^ s * 2 ^ (64 - s) = 18446744073709551616 := by rw [← Nat.pow_add, show s + (64 - s) = 64 by omega]
  rw [shl_nat y s (by omega), shl_nat hi s (by omega), shl_nat lo s (by omega), shr_nat lo (64 - s) (by omega)]
  have hhP : hi * 2 ^ s < y * 2 ^ s := Nat.mul_lt_mul_of_pos_right hy pP
  have hhP' : (hi + 1) * 2 ^ s ≤ y * 2 ^ s := Nat.mul_le_mul_right _ hy
  rw [Nat.add_mul, Nat.one_mul] at hhP'
  rw [Nat.mod_eq_of_lt (show y * 2 ^ s < 18446744073709551616 by omega), Nat.mod_eq_of_lt (show hi * 2 ^ s < 18446744073709551616 by omega)]
  have hlR : lo / 2 ^ (64 - s) < 2 ^ s := Nat.div_lt_of_lt_mul (by rw [Nat.mul_comm, hPR]; exact hlo)
  rw [or_nat hi _ s hlR (by omega)]
  have hsum := up_ok (hi := hi) (lo := lo) hPR
  have hlt10 : lo * 2 ^ s % 18446744073709551616 < 18446744073709551616 := Nat.mod_lt _ (by omega)
  have hun : hi * 2 ^ s + lo / 2 ^ (64 - s) < y * 2 ^ s := by omega
  clear hhP hhP' hlR
  obtain ⟨N, hN⟩ : ∃ N, N = hi * 18446744073709551616 + lo := ⟨_, rfl⟩
  rw [← hN] at hsum ⊢
  generalize hi * 2 ^ s + lo / 2 ^ (64 - s) = un at *
  generalize lo * 2 ^ s % 18446744073709551616 = lw at *
  obtain ⟨v, hv⟩ : ∃ v, v = y * 2 ^ s := ⟨_, rfl⟩
  rw [← hv] at n1 n2 hun ⊢
  rw [shr32', shr32', and32n v (by omega), and32n lw hlt10]
  have ev1 : (v : Int) / 4294967296 = ((v / 4294967296 : Nat) : Int) := by omega
  have el1 : (lw : Int) / 4294967296 = ((lw / 4294967296 : Nat) : Int) := by omega
  rw [ev1, el1]
  have d6 : (((v / 4294967296 : Nat) : Int) == 0) = false := by simp; omega
  have evv : ((v / 4294967296 : Nat) : Int) * 4294967296 + ((v % 4294967296 : Nat) : Int) = (v : Int) := by omega
  simp only [d6, cond_false]
  have g1 := guess (un := (un : Int)) (v1 := ((v / 4294967296 : Nat) : Int)) (v0 := ((v % 4294967296 : Nat) : Int)) (u1 := ((lw / 4294967296 : Nat) : Int)) (by omega) (by omega) (by omega) (by omega) (by omega) (by omega) (by omega)
  obtain ⟨g1a, g1b, g1c, g1d, g1e, g1f, g1g, g1h⟩ := g1
  rw [g1a, g1b]
  have a0 : mb_Div64_l0 20000 20000 _ _ _ _ _ _ _ _ _ = _ := adj0 (v : Int) (s : Int) ((v / 4294967296 : Nat) : Int) ((v % 4294967296 : Nat) : Int) (un : Int) ((lw / 4294967296 : Nat) : Int) ((lw % 4294967296 : Nat) : Int) (by omega) (by omega) (by omega) (by omega) (by omega) (by omega) (by omega) (20000 - 1) _ _ g1c g1d g1e g1f g1g g1h (by omega)
  rw [hL0] at a0
  rw [a0]
  simp only [Option.bind_some]
  rw [d6, cond_false]
  rw [evv] at g1h ⊢
  have hQ1 : ((un : Int) * 4294967296 + ((lw / 4294967296 : Nat) : Int)) / (v : Int) = (((un * 4294967296 + lw / 4294967296) / v : Nat) : Int) := by simp
  rw [hQ1]
  have hq1 : (un * 4294967296 + lw / 4294967296) / v < 4294967296 := Nat.div_lt_of_lt_mul (show un * 4294967296 + lw / 4294967296 < v * 4294967296 by omega)
  have hdm1 := Nat.div_add_mod (un * 4294967296 + lw / 4294967296) v
  have hr1 : (un * 4294967296 + lw / 4294967296) % v < v := Nat.mod_lt _ (by omega)
  generalize (un * 4294967296 + lw / 4294967296) / v = Q1 at *
  generalize (un * 4294967296 + lw / 4294967296) % v = un2 at *
  have hleft := left_ok hdm1 (by omega)
  rw [hleft]
  have g2 := guess (un := (un2 : Int)) (v1 := ((v / 4294967296 : Nat) : Int)) (v0 := ((v % 4294967296 : Nat) : Int)) (u1 := ((lw % 4294967296 : Nat) : Int)) (by omega) (by omega) (by omega) (by omega) (by omega) (by omega) (by omega)
  obtain ⟨g2a, g2b, g2c, g2d, g2e, g2f, g2g, g2h⟩ := g2
  rw [g2a, g2b]
  have a1 : mb_Div64_l1 20000 20000 _ _ _ _ _ _ _ _ _ = _ := adj1 (v : Int) (s : Int) ((v / 4294967296 : Nat) : Int) ((v % 4294967296 : Nat) : Int) ((lw % 4294967296 : Nat) : Int) (Q1 : Int) (un2 : Int) (by omega) (by omega) (by omega) (by omega) (by omega) (by omega) (by omega) (20000 - 1) _ _ g2c g2d g2e g2f g2g g2h (by omega)
  rw [hL1] at a1
  rw [a1]
  simp only [Option.bind_some]
  rw [d4, cond_false]
  rw [evv]
  have hQ0 : ((un2 : Int) * 4294967296 + ((lw % 4294967296 : Nat) : Int)) / (v : Int) = (((un2 * 4294967296 + lw % 4294967296) / v : Nat) : Int) := by simp
  rw [hQ0]
  have hq0 : (un2 * 4294967296 + lw % 4294967296) / v < 4294967296 := Nat.div_lt_of_lt_mul (show un2 * 4294967296 + lw % 4294967296 < v * 4294967296 by omega)
  have hdm0 := Nat.div_add_mod (un2 * 4294967296 + lw % 4294967296) v
  have hr0 : (un2 * 4294967296 + lw % 4294967296) % v < v := Nat.mod_lt _ (by omega)
  generalize (un2 * 4294967296 + lw % 4294967296) / v = Q0 at *
  generalize (un2 * 4294967296 + lw % 4294967296) % v = re at *
  have hrem := left_ok hdm0 (by omega)
  rw [hrem, shr_nat re s (by omega)]
  have hq := fin_ok pP (show 0 < y by omega) hv (tot_ok hsum hdm1 hdm0) hr0
  rw [hq.1, hq.2, wu64_id (x := (Q1 : Int) * 4294967296) (by omega) (by omega), wu64_id (by omega) (by omega)]
  simp

/-- A size that is not below 0, in two words, divided. -/
theorem div_size (m c : Int) (hm : 0 ≤ m) (hm' : m < 170141183460469231731687303715884105728) (hc : 0 < c) (hc' : c < 18446744073709551616) (hlt : m / 18446744073709551616 < c) :
    mb_Div_g 20000 (m / 18446744073709551616) (m % 18446744073709551616) c = some (m / c, m % c, ()) := by
  unfold mb_Div_g
  by_cases h0 : m / 18446744073709551616 = 0
  · have e : m % 18446744073709551616 = m := by omega
    rw [h0, e, div64_low 20000 m c hm (by omega) hc]
    rfl
  · obtain ⟨n, rfl⟩ : ∃ n : Nat, m = n := ⟨m.toNat, by omega⟩
    obtain ⟨y, rfl⟩ : ∃ y : Nat, c = y := ⟨c.toNat, by omega⟩
    have e1 : (n : Int) / 18446744073709551616 = ((n / 18446744073709551616 : Nat) : Int) := by omega
    have e2 : (n : Int) % 18446744073709551616 = ((n % 18446744073709551616 : Nat) : Int) := by omega
    rw [e1, e2, div64_ok (n / 18446744073709551616) (n % 18446744073709551616) y (by omega) (by omega) (by omega) (by omega)]
    have e3 : n / 18446744073709551616 * 18446744073709551616 + n % 18446744073709551616 = n := by omega
    rw [e3]
    simp

theorem by_ok (n c : Int) (hn : ab n < 170141183460469231731687303715884105728) (hc : 0 < c) (hc' : c < 18446744073709551616) :
    wide_Number_by_g 20000 (n / 18446744073709551616) (n % 18446744073709551616) c = if ab n / 18446744073709551616 < c then some (ab n / c, ab n % c, true, ()) else some (0, 0, false, ()) := by
  unfold wide_Number_by_g
  unfold ab at hn ⊢
  by_cases h : n < 0
  · rw [if_pos h] at hn ⊢
    have h1 : decide (n / 18446744073709551616 < 0) = true := by simp; omega
    rw [h1, minus_ok 20000 n (by omega) (by omega)]
    simp only [cond_true, Option.bind_some]
    rw [wu64_id (x := (-n) / 18446744073709551616) (by omega) (by omega)]
    by_cases hb : (-n) / 18446744073709551616 < c
    · rw [if_pos hb, decide_eq_false (show ¬ (-n) / 18446744073709551616 ≥ c by omega), cond_false, div_size (-n) c (by omega) (by omega) hc hc' hb]
      rfl
    · rw [if_neg hb, decide_eq_true (show (-n) / 18446744073709551616 ≥ c by omega), cond_true]
  · rw [if_neg h] at hn ⊢
    have h1 : decide (n / 18446744073709551616 < 0) = false := by simp; omega
    rw [h1, wu64_id (x := n / 18446744073709551616) (by omega) (by omega)]
    simp only [cond_false]
    by_cases hb : n / 18446744073709551616 < c
    · rw [if_pos hb, decide_eq_false (show ¬ n / 18446744073709551616 ≥ c by omega), cond_false, div_size n c (by omega) (by omega) hc hc' hb]
      rfl
    · rw [if_neg hb, decide_eq_true (show n / 18446744073709551616 ≥ c by omega), cond_true]

theorem near_ok (n c : Int) (hn : ab n < 170141183460469231731687303715884105728) (hc : 0 < c) (hc' : c < 9223372036854775808) :
    wide_Near_g 20000 (n / 18446744073709551616) (n % 18446744073709551616) c = some (fit (nr n c)) := by
  have hby := by_ok n c hn hc (by omega)
  by_cases hb : ab n / 18446744073709551616 < c
  · rw [if_pos hb] at hby
    exact near_of 20000 n c hc hc' hby
  · rw [if_neg hb] at hby
    unfold wide_Near_g
    have h1 : decide (c < 1) = false := by simp; omega
    rw [h1, wu64_id (x := c) (by omega) (by omega), hby]
    simp only [cond_false, Option.bind_some, Bool.not_false, cond_true]
    have hq : 18446744073709551616 ≤ ab n / c := by
      refine Int.le_ediv_of_mul_le hc ?_
      omega
    have hz : 18446744073709551616 ≤ nrs (ab n) c := by
      rw [half_div hc]
      split <;> omega
    unfold fit
    rw [nr_ab, if_neg (by split <;> omega)]

theorem mulnear_ok (a b c : Int) (ha : -9223372036854775808 ≤ a) (ha' : a < 9223372036854775808) (hb : -9223372036854775808 ≤ b) (hb' : b < 9223372036854775808)
    (hc : 0 < c) (hc' : c < 9223372036854775808) : wide_MulNear_g 20000 a b c = some (fit (nr (a * b) c)) := by
  unfold wide_MulNear_g
  rw [wide_mul_ok 20000 a b ha ha' hb hb']
  simp only [Option.bind_some]
  have h1 := mul_range (ab_nonneg a) (ab_le ha ha') (ab_nonneg b) (ab_le hb hb')
  rw [ab_mul] at h1
  rw [near_ok _ c (by omega) hc hc']
  rfl

theorem mulnear_bad (a b c : Int) (ha : -9223372036854775808 ≤ a) (ha' : a < 9223372036854775808) (hb : -9223372036854775808 ≤ b) (hb' : b < 9223372036854775808)
    (hc : c < 1) : wide_MulNear_g 20000 a b c = some (0, 2, ()) := by
  unfold wide_MulNear_g
  rw [wide_mul_ok 20000 a b ha ha' hb hb']
  simp only [Option.bind_some]
  unfold wide_Near_g
  rw [decide_eq_true hc]
  rfl
end Go.Proofs.YtjmbhhinmbgneaaGreat
