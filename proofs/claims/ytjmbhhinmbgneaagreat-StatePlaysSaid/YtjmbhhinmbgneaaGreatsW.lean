/-
  Products, quotients and nearest numbers: what the printed functions compute, in numbers.
-/
import Derived.Test.YtjmbhhinmbgneaaGreatsG
namespace Go.Proofs.YtjmbhhinmbgneaaGreat
open Go.Sy

/-! ### Words -/
theorem shr32 (x : Int) (_h : 0 ≤ x) : shR .u64 x 32 = x / 4294967296 := by
  have : shR .u64 x 32 = x.fdiv 4294967296 := rfl
  rw [this, Int.fdiv_eq_ediv_of_nonneg _ (by omega)]

theorem and32 (x : Int) (h : 0 ≤ x) (h' : x < 18446744073709551616) : bitAnd .u64 x 4294967295 = x % 4294967296 := by
  obtain ⟨n, rfl⟩ : ∃ n : Nat, x = n := ⟨x.toNat, by omega⟩
  have hn : n < 18446744073709551616 := by omega
  have e1 : (BitVec.ofInt 64 (n : Int)).toNat = n := by
    rw [BitVec.toNat_ofInt]
    omega
  have e2 : (BitVec.ofInt 64 4294967295).toNat = 2 ^ 32 - 1 := by decide
  have e3 : (BitVec.ofInt 64 (n : Int) &&& BitVec.ofInt 64 4294967295).toNat = n % 4294967296 := by
    rw [BitVec.toNat_and, e1, e2, Nat.and_two_pow_sub_one_eq_mod]
  show IntKind.wrap .u64 ((BitVec.ofInt 64 (n : Int) &&& BitVec.ofInt 64 4294967295).toNat : Int) = _
  rw [e3]
  have : wu64 ((n % 4294967296 : Nat) : Int) = ((n % 4294967296 : Nat) : Int) := wu64_id (by omega) (by omega)
  show wu64 ((n % 4294967296 : Nat) : Int) = _
  rw [this]
  simp

theorem mul_range {x y a b : Int} (hx : 0 ≤ x) (hxa : x ≤ a) (hy : 0 ≤ y) (hyb : y ≤ b) : 0 ≤ x * y ∧ x * y ≤ a * b :=
  ⟨Int.mul_nonneg hx hy, Int.mul_le_mul hxa hyb hy (by omega)⟩

theorem mul64_ok (K : Nat) (x y : Int) (hx : 0 ≤ x) (hx' : x < 18446744073709551616) (hy : 0 ≤ y) (hy' : y < 18446744073709551616) :
    mb_Mul64_g K x y = some (x * y / 18446744073709551616, x * y % 18446744073709551616, ()) := by
  unfold mb_Mul64_g
  rw [shr32 x hx, shr32 y hy, and32 x hx hx', and32 y hy hy']
  obtain ⟨x1, hx1⟩ : ∃ z, z = x / 4294967296 := ⟨_, rfl⟩
  obtain ⟨x0, hx0⟩ : ∃ z, z = x % 4294967296 := ⟨_, rfl⟩
  obtain ⟨y1, hy1⟩ : ∃ z, z = y / 4294967296 := ⟨_, rfl⟩
  obtain ⟨y0, hy0⟩ : ∃ z, z = y % 4294967296 := ⟨_, rfl⟩
  rw [← hx1, ← hx0, ← hy1, ← hy0]
  have ex : x = x1 * 4294967296 + x0 := by omega
  have ey : y = y1 * 4294967296 + y0 := by omega
  have b1 := mul_range (x := x0) (y := y0) (a := 4294967295) (b := 4294967295) (by omega) (by omega) (by omega) (by omega)
  have b2 := mul_range (x := x1) (y := y0) (a := 4294967295) (b := 4294967295) (by omega) (by omega) (by omega) (by omega)
  have b3 := mul_range (x := x0) (y := y1) (a := 4294967295) (b := 4294967295) (by omega) (by omega) (by omega) (by omega)
  have b4 := mul_range (x := x1) (y := y1) (a := 4294967295) (b := 4294967295) (by omega) (by omega) (by omega) (by omega)
  have exy : x * y = x1 * y1 * 18446744073709551616 + (x1 * y0 + x0 * y1) * 4294967296 + x0 * y0 := by rw [ex, ey]; grind
  rw [exy]
  generalize x0 * y0 = p00 at *
  generalize x1 * y0 = p10 at *
  generalize x0 * y1 = p01 at *
  generalize x1 * y1 = p11 at *
  clear exy hx0 hx1 hy0 hy1 ex ey
  rw [wu64_id (x := p00) (by omega) (by omega), wu64_id (x := p10) (by omega) (by omega), wu64_id (x := p01) (by omega) (by omega), wu64_id (x := p11) (by omega) (by omega)]
  rw [shr32 p00 (by omega), wu64_id (x := p10 + p00 / 4294967296) (by omega) (by omega), shr32 (p10 + p00 / 4294967296) (by omega), and32 (p10 + p00 / 4294967296) (by omega) (by omega)]
  rw [wu64_id (x := (p10 + p00 / 4294967296) % 4294967296 + p01) (by omega) (by omega), shr32 _ (by omega), wu64_id (x := p11 + (p10 + p00 / 4294967296) / 4294967296) (by omega) (by omega)]
  rw [wu64_def, wu64_def]
  simp only [Option.some.injEq, Prod.mk.injEq, and_true]
  omega

theorem bits_mul_ok (K : Nat) (x y : Int) (hx : 0 ≤ x) (hx' : x < 18446744073709551616) (hy : 0 ≤ y) (hy' : y < 18446744073709551616) :
    mb_Mul_g K x y = some (x * y / 18446744073709551616, x * y % 18446744073709551616, ()) := by
  unfold mb_Mul_g
  rw [mul64_ok K x y hx hx' hy hy']
  rfl

theorem sub0_ok (K : Nat) (y b : Int) (hy : 0 ≤ y) (hy' : y < 18446744073709551616) (hb : b = 0 ∨ b = 1) : mb_Sub_g K 0 y b = some ((-(y + b)) % 18446744073709551616, if 0 < y + b then 1 else 0, ()) := by
  unfold mb_Sub_g
  have h1 : decide (b ≤ 1) = true := by simp; omega
  rw [h1]
  simp only [cond_true, Option.some.injEq, Prod.mk.injEq, and_true, Int.ofNat_eq_natCast]
  constructor
  · omega
  · by_cases h : 0 < y + b
    · have : Nat.blt (Int.toNat 0) (Int.toNat y + Int.toNat b) = true := by simp [Nat.blt_eq]; omega
      rw [this, if_pos h]; rfl
    · have h2 : y = 0 := by omega
      have h3 : b = 0 := by omega
      subst h2 h3
      rfl

/-- A wide number turned over. -/
theorem minus_ok (K : Nat) (n : Int) (h : -170141183460469231731687303715884105728 < n) (h' : n < 170141183460469231731687303715884105728) :
    wide_Number_minus_g K (n / 18446744073709551616) (n % 18446744073709551616) = some ((-n) / 18446744073709551616, (-n) % 18446744073709551616, ()) := by
  unfold wide_Number_minus_g
  rw [sub0_ok K _ _ (by omega) (by omega) (.inl rfl)]
  simp only [Option.bind_some, Int.add_zero]
  by_cases hz : 0 < n % 18446744073709551616
  · rw [if_pos hz, wu64_def, sub0_ok K _ _ (by omega) (by omega) (.inr rfl)]
    simp only [Option.bind_some, wi64_def, Option.some.injEq, Prod.mk.injEq, and_true]
    constructor
    · split <;> omega
    · omega
  · rw [if_neg hz, wu64_def, sub0_ok K _ _ (by omega) (by omega) (.inl rfl)]
    simp only [Option.bind_some, wi64_def, Option.some.injEq, Prod.mk.injEq, and_true]
    constructor
    · split <;> omega
    · omega

def ab (a : Int) : Int := if a < 0 then -a else a

theorem ab_nonneg (a : Int) : 0 ≤ ab a := by unfold ab; split <;> omega

theorem size_ok (K : Nat) (a : Int) (h : -9223372036854775808 ≤ a) (h' : a < 9223372036854775808) : wide_size_g K a = some (ab a, ()) := by
  unfold wide_size_g ab
  by_cases hn : a < 0
  · have : decide (a < 0) = true := by simpa using hn
    rw [this, if_pos hn]
    simp only [cond_true, Option.some.injEq, Prod.mk.injEq, and_true, wu64_def]
    omega
  · have : decide (a < 0) = false := by simpa using hn
    rw [this, if_neg hn]
    simp only [cond_false, Option.some.injEq, Prod.mk.injEq, and_true, wu64_def]
    omega

theorem ab_mul (a b : Int) : ab a * ab b = ab (a * b) := by
  unfold ab
  by_cases ha : a < 0 <;> by_cases hb : b < 0
  · have := Int.mul_pos_of_neg_of_neg ha hb
    rw [if_pos ha, if_pos hb, if_neg (by omega)]; grind
  · have := Int.mul_nonneg (show 0 ≤ -a by omega) (show 0 ≤ b by omega)
    have e : -a * b = -(a * b) := by grind
    rw [if_pos ha, if_neg hb]
    split <;> omega
  · have := Int.mul_nonneg (show 0 ≤ a by omega) (show 0 ≤ -b by omega)
    have e : a * -b = -(a * b) := by grind
    rw [if_neg ha, if_pos hb]
    split <;> omega
  · have := Int.mul_nonneg (show 0 ≤ a by omega) (show 0 ≤ b by omega)
    rw [if_neg ha, if_neg hb, if_neg (by omega)]

theorem mul_sign (a b : Int) : a * b = if (decide (a < 0) == decide (b < 0)) = true then ab a * ab b else -(ab a * ab b) := by
  unfold ab
  by_cases ha : a < 0 <;> by_cases hb : b < 0 <;> simp [ha, hb] <;> grind

theorem ab_le {a : Int} (h : -9223372036854775808 ≤ a) (h' : a < 9223372036854775808) : ab a ≤ 9223372036854775808 := by unfold ab; split <;> omega

/-- A product. -/
theorem wide_mul_ok (K : Nat) (a b : Int) (ha : -9223372036854775808 ≤ a) (ha' : a < 9223372036854775808) (hb : -9223372036854775808 ≤ b) (hb' : b < 9223372036854775808) :
    wide_Mul_g K a b = some (a * b / 18446744073709551616, a * b % 18446744073709551616, ()) := by
  unfold wide_Mul_g
  have a1 := ab_nonneg a
  have a2 := ab_le ha ha'
  have b1 := ab_nonneg b
  have b2 := ab_le hb hb'
  have hp := mul_range a1 a2 b1 b2
  have hs := mul_sign a b
  rw [size_ok K a ha ha', size_ok K b hb hb']
  simp only [Option.bind_some]
  rw [bits_mul_ok K _ _ a1 (by omega) b1 (by omega)]
  simp only [Option.bind_some]
  generalize ab a * ab b = p at hp hs
  rw [wi64_id (x := p / 18446744073709551616) (by omega) (by omega)]
  cases hd : (decide (a < 0) == decide (b < 0)) with
  | true =>
    rw [hd, if_pos rfl] at hs
    rw [hs]
    rfl
  | false =>
    rw [hd] at hs
    rw [if_neg (by simp)] at hs
    simp only [Bool.not_false, cond_true]
    rw [minus_ok K p (by omega) (by omega), hs]
    rfl

/-! ### Quotients -/
theorem tdiv_pos {a b : Int} (ha : 0 ≤ a) : Int.tdiv a b = a / b ∧ Int.tmod a b = a % b := ⟨Int.tdiv_eq_ediv_of_nonneg ha, Int.tmod_eq_emod_of_nonneg ha⟩

/-- With nothing above, and nothing that is divided by 0. -/
theorem div64_low (K : Nat) (lo y : Int) (hl : 0 ≤ lo) (hl' : lo < 18446744073709551616) (hy : 0 < y) : mb_Div64_g K 0 lo y = some (lo / y, lo % y, ()) := by
  unfold mb_Div64_g
  have h1 : (y == 0) = false := by simp; omega
  have h2 : decide (y ≤ 0) = false := by simp; omega
  have hq : lo / y ≤ lo := Int.ediv_le_self _ hl
  have hq0 : 0 ≤ lo / y := Int.ediv_nonneg hl (by omega)
  rw [h1, h2, (tdiv_pos hl).1, (tdiv_pos hl).2, wu64_id hq0 (by omega)]
  rfl

theorem by_low (K : Nat) (n c : Int) (hn : ab n < 18446744073709551616) (hc : 0 < c) :
    wide_Number_by_g K (n / 18446744073709551616) (n % 18446744073709551616) c = some (ab n / c, ab n % c, true, ()) := by
  unfold wide_Number_by_g
  unfold ab at hn ⊢
  by_cases h : n < 0
  · rw [if_pos h] at hn ⊢
    have h1 : decide (n / 18446744073709551616 < 0) = true := by simp; omega
    rw [h1, minus_ok K n (by omega) (by omega)]
    simp only [cond_true, Option.bind_some]
    have h2 : (-n) / 18446744073709551616 = 0 := by omega
    have h3 : (-n) % 18446744073709551616 = -n := by omega
    rw [h2, h3]
    have h4 : decide (wu64 0 ≥ c) = false := by
      have : wu64 0 = 0 := rfl
      rw [this]; simp; omega
    rw [h4]
    simp only [cond_false]
    unfold mb_Div_g
    rw [show wu64 0 = 0 from rfl, div64_low K _ _ (by omega) (by omega) hc]
    rfl
  · rw [if_neg h] at hn ⊢
    have h1 : decide (n / 18446744073709551616 < 0) = false := by simp; omega
    rw [h1]
    simp only [cond_false]
    have h2 : n / 18446744073709551616 = 0 := by omega
    have h3 : n % 18446744073709551616 = n := by omega
    rw [h2, h3]
    have h4 : decide (wu64 0 ≥ c) = false := by
      have : wu64 0 = 0 := rfl
      rw [this]; simp; omega
    rw [h4]
    simp only [cond_false]
    unfold mb_Div_g
    rw [show wu64 0 = 0 from rfl, div64_low K _ _ (by omega) (by omega) hc]
    rfl

/-! ### The nearest number -/
/-- To the nearest, a half away from 0. -/
def nr (a b : Int) : Int := if a < 0 then -((2 * (-a) + b) / (2 * b)) else (2 * a + b) / (2 * b)

def nrs (m b : Int) : Int := (2 * m + b) / (2 * b)

theorem nr_ab (a b : Int) : nr a b = if a < 0 then -(nrs (ab a) b) else nrs (ab a) b := by
  unfold nr nrs ab
  by_cases h : a < 0
  · simp only [if_pos h]
  · simp only [if_neg h]

theorem half_char {m b q r : Int} (hb : 0 < b) (hm : m = b * q + r) (h0 : 0 ≤ r) (h1 : r < b) : nrs m b = if b ≤ 2 * r then q + 1 else q := by
  unfold nrs
  split
  · have := (Int.ediv_emod_unique (a := 2 * m + b) (b := 2 * b) (q := q + 1) (r := 2 * r - b) (by omega)).2 ⟨by subst hm; grind, by omega, by omega⟩
    exact this.1
  · have := (Int.ediv_emod_unique (a := 2 * m + b) (b := 2 * b) (q := q) (r := 2 * r + b) (by omega)).2 ⟨by subst hm; grind, by omega, by omega⟩
    exact this.1

theorem half_div {m b : Int} (hb : 0 < b) : nrs m b = if b ≤ 2 * (m % b) then m / b + 1 else m / b :=
  half_char hb (Int.mul_ediv_add_emod m b).symm (Int.emod_nonneg _ (by omega)) (Int.emod_lt_of_pos _ hb)

/-- Is it a number? -/
def fit (z : Int) : Int × Int × Unit := if -9223372036854775808 ≤ z ∧ z < 9223372036854775808 then (z, 0, ()) else (0, 3, ())

theorem signed_fit (K : Nat) (q : Int) (below : Bool) (h0 : 0 ≤ q) (h1 : q ≤ 9223372036854775809) :
    ((wide_signed_g K q below).bind fun q2 => (bif (!q2.2.1) then (some ((0 : Int), (3 : Int), ())) else (some (q2.1, 0, ())))) = some (fit (if below = true then -q else q)) := by
  unfold wide_signed_g fit
  cases below with
  | true =>
    simp only [cond_true, Option.bind_some, if_true]
    by_cases h : q ≤ 9223372036854775808
    · have hd : decide (q ≤ 9223372036854775808) = true := by simpa using h
      rw [hd, if_pos (by omega)]
      simp only [Bool.not_true, cond_false, Option.some.injEq, Prod.mk.injEq, and_true, wi64_def, wu64_def]
      split <;> omega
    · have hd : decide (q ≤ 9223372036854775808) = false := by simpa using h
      rw [hd, if_neg (by omega)]
      rfl
  | false =>
    simp only [cond_false, Option.bind_some, Bool.false_eq_true, if_false]
    by_cases h : q < 9223372036854775808
    · have hd : decide (q < 9223372036854775808) = true := by simpa using h
      rw [hd, if_pos (by omega)]
      simp only [Bool.not_true, cond_false, Option.some.injEq, Prod.mk.injEq, and_true, wi64_def]
      split <;> omega
    · have hd : decide (q < 9223372036854775808) = false := by simpa using h
      rw [hd, if_neg (by omega)]
      rfl

/-- A wide number divided to the nearest one, its parts known. -/
theorem near_of (K : Nat) (n c : Int) (hc : 0 < c) (hc' : c < 9223372036854775808)
    (hby : wide_Number_by_g K (n / 18446744073709551616) (n % 18446744073709551616) c = some (ab n / c, ab n % c, true, ())) :
    wide_Near_g K (n / 18446744073709551616) (n % 18446744073709551616) c = some (fit (nr n c)) := by
  unfold wide_Near_g
  have h1 : decide (c < 1) = false := by simp; omega
  have hn0 := ab_nonneg n
  rw [h1, wu64_id (x := c) (by omega) (by omega), hby]
  simp only [cond_false, Option.bind_some, Bool.not_true]
  have hq0 : 0 ≤ ab n / c := Int.ediv_nonneg hn0 (by omega)
  have hr0 : 0 ≤ ab n % c := Int.emod_nonneg _ (by omega)
  have hr1 : ab n % c < c := Int.emod_lt_of_pos _ hc
  rw [nr_ab, half_div hc]
  have hneg : decide (n / 18446744073709551616 < 0) = decide (n < 0) := by
    have : (n / 18446744073709551616 < 0) ↔ n < 0 := by omega
    simp only [this]
  rw [hneg]
  generalize ab n / c = q at *
  generalize ab n % c = r at *
  by_cases hbig : q > 9223372036854775808
  · have h2 : decide (q > 9223372036854775808) = true := by simpa using hbig
    rw [h2]
    simp only [cond_true, Option.some.injEq, fit]
    rw [if_neg (by split <;> split <;> omega)]
  · have h2 : decide (q > 9223372036854775808) = false := by simpa using hbig
    rw [h2, wu64_id (x := c - r) (by omega) (by omega)]
    simp only [cond_false]
    by_cases hup : c ≤ 2 * r
    · have h3 : decide (r ≥ c - r) = true := by simp; omega
      rw [h3, if_pos hup, wu64_id (x := q + 1) (by omega) (by omega)]
      simp only [cond_true]
      rw [signed_fit K (q + 1) _ (by omega) (by omega)]
      by_cases hs : n < 0 <;> simp [hs]
    · have h3 : decide (r ≥ c - r) = false := by simp; omega
      rw [h3, if_neg hup]
      simp only [cond_false]
      rw [signed_fit K q _ (by omega) (by omega)]
      by_cases hs : n < 0 <;> simp [hs]

theorem mulnear_low (K : Nat) (a b c : Int) (ha : -9223372036854775808 ≤ a) (ha' : a < 9223372036854775808) (hb : -9223372036854775808 ≤ b) (hb' : b < 9223372036854775808)
    (hc : 0 < c) (hc' : c < 9223372036854775808) (hp : ab (a * b) < 18446744073709551616) : wide_MulNear_g K a b c = some (fit (nr (a * b) c)) := by
  unfold wide_MulNear_g
  rw [wide_mul_ok K a b ha ha' hb hb']
  simp only [Option.bind_some]
  rw [near_of K _ c hc hc' (by_low K _ c hp hc)]
  rfl

/-! ### Numbers -/
theorem tdiv_neg' {a b : Int} (ha : a < 0) : Int.tdiv a b = -((-a) / b) ∧ Int.tmod a b = -((-a) % b) := by
  have h1 : Int.tdiv a b = -(Int.tdiv (-a) b) := by rw [Int.neg_tdiv, Int.neg_neg]
  have h2 : Int.tmod a b = -(Int.tmod (-a) b) := by rw [Int.neg_tmod, Int.neg_neg]
  have hp := tdiv_pos (a := -a) (b := b) (by omega)
  rw [h1, h2, hp.1, hp.2]
  exact ⟨rfl, rfl⟩

theorem fx_near_ok (K : Nat) (a b : Int) (ha : -9223372036854775808 ≤ a) (ha' : a < 9223372036854775808) (hb : 0 < b) (hb' : b < 9223372036854775808) :
    fx_Near_g K a b = some (nr a b, 0, ()) := by
  unfold fx_Near_g
  have h1 : decide (b < 1) = false := by simp; omega
  have h2 : (b == 0) = false := by simp; omega
  rw [h1, h2]
  simp only [cond_false]
  rw [nr_ab, half_div hb]
  by_cases hs : a < 0
  · obtain ⟨e1, e2⟩ := tdiv_neg' (b := b) hs
    have e3 : ab a = -a := by unfold ab; rw [if_pos hs]
    rw [e1, e2, e3, if_pos hs]
    have hq0 : 0 ≤ (-a) / b := Int.ediv_nonneg (by omega) (by omega)
    have hq1 : (-a) / b ≤ -a := Int.ediv_le_self _ (by omega)
    have hr0 : 0 ≤ (-a) % b := Int.emod_nonneg _ (by omega)
    have hr1 : (-a) % b < b := Int.emod_lt_of_pos _ hb
    have hdm := Int.mul_ediv_add_emod (-a) b
    have hpos : decide (a > 0) = false := by simp; omega
    by_cases hr : (-a) % b = 0
    · rw [hr]
      have d1 : decide (-(0 : Int) < 0) = false := rfl
      have d2 : decide (-(0 : Int) > wi64 (b - -0)) = false := by rw [wi64_id (by omega) (by omega)]; simp; omega
      have d3 : (-(0 : Int) == wi64 (b - -0)) = false := by rw [wi64_id (by omega) (by omega)]; simp; omega
      rw [d1, d2, d3, if_neg (by omega), wi64_id (x := -(-a / b)) (by omega) (by omega)]
      rfl
    · have hlt : (-a) / b < -a ∨ b = 1 := by
        rcases Int.lt_or_le ((-a) / b) (-a) with h | h
        · exact .inl h
        · right
          have e : (-a) / b = -a := by omega
          rw [e] at hdm
          have : -a * b ≤ -a * 1 := by grind
          have := Int.le_of_mul_le_mul_left this (by omega)
          omega
      have hq2 : (-a) / b < 9223372036854775808 := by
        rcases hlt with h | h
        · omega
        · subst h; omega
      generalize (-a) / b = q at *
      generalize (-a) % b = r at *
      have d1 : decide (-r < 0) = true := by simp; omega
      rw [d1, wi64_id (x := -r + b) (by omega) (by omega), wi64_id (x := b - (-r + b)) (by omega) (by omega), wi64_id (x := -q) (by omega) (by omega)]
      rw [wi64_id (x := -q - 1) (by omega) (by omega), wi64_id (x := -q - 1 + 1) (by omega) (by omega), hpos]
      simp only [cond_true, cond_false]
      by_cases hup : b ≤ 2 * r
      · rw [if_pos hup]
        have d2 : decide (-r + b > b - (-r + b)) = false := by simp; omega
        rw [d2]
        simp only [cond_false]
        cases hq : (-r + b == b - (-r + b)) <;> simp <;> omega
      · rw [if_neg hup]
        have d2 : decide (-r + b > b - (-r + b)) = true := by simp; omega
        rw [d2]
        simp
  · obtain ⟨e1, e2⟩ := tdiv_pos (a := a) (b := b) (by omega)
    have e3 : ab a = a := by unfold ab; rw [if_neg hs]
    rw [e1, e2, e3, if_neg hs]
    have hq0 : 0 ≤ a / b := Int.ediv_nonneg (by omega) (by omega)
    have hq1 : a / b ≤ a := Int.ediv_le_self _ (by omega)
    have hr0 : 0 ≤ a % b := Int.emod_nonneg _ (by omega)
    have hr1 : a % b < b := Int.emod_lt_of_pos _ hb
    have hdm := Int.mul_ediv_add_emod a b
    have hb1 : b = 1 → a % b = 0 := fun h => by subst h; omega
    have hlt : a % b = 0 ∨ a / b < 9223372036854775807 := by
      rcases Int.lt_or_le (a / b) 9223372036854775807 with h | h
      · exact .inr h
      · left
        have e : a / b = a := by omega
        rw [e] at hdm
        have h3 : 0 < a := by omega
        have : a * b ≤ a * 1 := by grind
        have := Int.le_of_mul_le_mul_left this h3
        exact hb1 (by omega)
    have hap : 0 < a % b → a > 0 := by
      intro h
      rcases Int.lt_or_le 0 a with h' | h'
      · exact h'
      · have : a = 0 := by omega
        subst this
        simp at h
    generalize a / b = q at *
    generalize a % b = r at *
    have d1 : decide (r < 0) = false := by simp; omega
    rw [d1, wi64_id (x := b - r) (by omega) (by omega), wi64_id (x := q) (by omega) (by omega)]
    simp only [cond_false]
    by_cases hr : r = 0
    · have d2 : decide (r > b - r) = false := by simp; omega
      have d3 : (r == b - r) = false := by simp; omega
      rw [d2, d3, if_neg (by omega)]
      rfl
    · rw [wi64_id (x := q + 1) (by omega) (by omega)]
      have d4 : decide (a > 0) = true := by simp; exact hap (by omega)
      rw [d4]
      simp only [cond_true]
      by_cases hup : b ≤ 2 * r
      · rw [if_pos hup]
        cases hg : decide (r > b - r)
        · have hg' : ¬ r > b - r := by simpa using hg
          have d3 : (r == b - r) = true := by simp; omega
          rw [d3]; rfl
        · rfl
      · rw [if_neg hup]
        have d2 : decide (r > b - r) = false := by simp; omega
        have d3 : (r == b - r) = false := by simp; omega
        rw [d2, d3]
        rfl

theorem fx_near_bad (K : Nat) (a b : Int) (hb : b < 1) : fx_Near_g K a b = some (0, 2, ()) := by
  unfold fx_Near_g
  have h1 : decide (b < 1) = true := by simpa using hb
  rw [h1]
  rfl

def btw (lo hi n : Int) : Int := if n < lo then lo else if n > hi then hi else n

theorem fx_between_ok (K : Nat) (lo hi n : Int) : fx_Between_g K lo hi n = some (btw lo hi n, ()) := by
  unfold fx_Between_g btw
  by_cases h1 : n < lo
  · simp [h1]
  · by_cases h2 : n > hi <;> simp [h1, h2]
end Go.Proofs.YtjmbhhinmbgneaaGreat
