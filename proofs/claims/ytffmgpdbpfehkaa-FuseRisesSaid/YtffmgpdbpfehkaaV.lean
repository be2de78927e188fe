/-
  Law 17 (fuse), the first part: corrections, and how many it takes.
-/
import Derived.Test.YtffmgpdbpfehkaaC
namespace Go.Proofs.Ytffmgpdbpfehkaa
open Go.Sy
set_option maxHeartbeats 1000000

theorem works_ok : rheostatlaw17_works_g 20000 = some (true, ()) := by kernel_rfl

/-! ### A correction -/
def allS (m : Nat → Int) (i : Nat) : Nat → Bool
  | 0 => true
  | d + 1 => decide (0 ≤ m i ∧ m i ≤ 10000) && allS m (i + 1) d

theorem fright_loop (n : Nat) (m : Nat → Int) (hn : n < 900) : ∀ (d i fuel : Nat), i + d = n → d < fuel →
    fuse_right_l0 20000 fuel n (n : Int) (i : Int) m = some (bif allS m i d then .inl () else .inr (false, ()))
  | 0, i, fuel, hd, hf => by
    obtain ⟨f, rfl⟩ : ∃ f, fuel = f + 1 := ⟨fuel - 1, by omega⟩
    have e : i = n := by omega
    subst e
    show fuse_right_l0r 20000 (fuse_right_l0 20000 f) i (i : Int) (i : Int) m = _
    unfold fuse_right_l0r
    rw [nat_lt_self]
    rfl
  | d + 1, i, fuel, hd, hf => by
    obtain ⟨f, rfl⟩ : ∃ f, fuel = f + 1 := ⟨fuel - 1, by omega⟩
    have hin : i < n := by omega
    have ih := fright_loop n m hn d (i + 1) f (by omega) (by omega)
    have e0 : fuse_right_l0 20000 (f + 1) n (n : Int) (i : Int) m = fuse_right_l0r 20000 (fuse_right_l0 20000 f) n (n : Int) (i : Int) m := rfl
    rw [e0]
    unfold fuse_right_l0r
    simp only [nat_lt_dec hin, nat_nn_dec, Bool.and_self, cond_true, Int.toNat_natCast, wi_succ (show i < 1000000 by omega), ih, allS]
    by_cases h1 : m i < 0
    · rw [decide_eq_true h1, decide_eq_false (show ¬ (0 ≤ m i ∧ m i ≤ 10000) by omega)]
      rfl
    · rw [decide_eq_false h1]
      by_cases h2 : m i > 10000
      · rw [decide_eq_true h2, decide_eq_false (show ¬ (0 ≤ m i ∧ m i ≤ 10000) by omega)]
        rfl
      · rw [decide_eq_false h2, decide_eq_true (show 0 ≤ m i ∧ m i ≤ 10000 by omega)]
        rfl

theorem fright_ok (a b c : Int) : fuse_right_g 20000 3 (fun j => selI [a, b, c] j) = some (decide ((0 ≤ a ∧ a ≤ 10000) ∧ (0 ≤ b ∧ b ≤ 10000) ∧ (0 ≤ c ∧ c ≤ 10000)), ()) := by
  unfold fuse_right_g
  have h : fuse_right_l0 20000 20000 3 ((3 : Nat) : Int) 0 (fun j => selI [a, b, c] j) = _ := fright_loop 3 _ (by omega) 3 0 20000 (by omega) (by omega)
  rw [h]
  have e : allS (fun j => selI [a, b, c] j) 0 3 = (decide (0 ≤ a ∧ a ≤ 10000) && (decide (0 ≤ b ∧ b ≤ 10000) && (decide (0 ≤ c ∧ c ≤ 10000) && true))) := rfl
  rw [e]
  by_cases h1 : 0 ≤ a ∧ a ≤ 10000
  · by_cases h2 : 0 ≤ b ∧ b ≤ 10000
    · by_cases h3 : 0 ≤ c ∧ c ≤ 10000
      · rw [decide_eq_true h1, decide_eq_true h2, decide_eq_true h3, decide_eq_true ⟨h1, h2, h3⟩]; rfl
      · rw [decide_eq_true h1, decide_eq_true h2, decide_eq_false h3, decide_eq_false (show ¬ ((0 ≤ a ∧ a ≤ 10000) ∧ (0 ≤ b ∧ b ≤ 10000) ∧ (0 ≤ c ∧ c ≤ 10000)) from fun k => h3 k.2.2)]; rfl
    · rw [decide_eq_true h1, decide_eq_false h2, decide_eq_false (show ¬ ((0 ≤ a ∧ a ≤ 10000) ∧ (0 ≤ b ∧ b ≤ 10000) ∧ (0 ≤ c ∧ c ≤ 10000)) from fun k => h2 k.2.1)]; rfl
  · rw [decide_eq_false h1, decide_eq_false (show ¬ ((0 ≤ a ∧ a ≤ 10000) ∧ (0 ≤ b ∧ b ≤ 10000) ∧ (0 ≤ c ∧ c ≤ 10000)) from fun k => h1 k.1)]; rfl

/-- Towards a number. -/
def tw (x t s : Int) : Int := if x ≤ t then (if t - x ≤ s then t else x + s) else (if x - t ≤ s then t else x - s)

def okC (a b c : Int) : Prop := (0 ≤ a ∧ a ≤ 10000) ∧ (0 ≤ b ∧ b ≤ 10000) ∧ (1 ≤ c ∧ c ≤ 10000)
instance (a b c : Int) : Decidable (okC a b c) := by unfold okC; exact inferInstance

def corE (a b c : Int) : Int × Int × Unit := if okC a b c then (tw a b c, 0, ()) else (0, 2, ())

theorem tw_in {a b c : Int} (h : okC a b c) : 0 ≤ tw a b c ∧ tw a b c ≤ 10000 := by
  unfold okC at h
  unfold tw
  split <;> split <;> omega

theorem toward_ok {a b c : Int} (h : okC a b c) : fx_Toward_g 20000 a b c = some (tw a b c, ()) := by
  unfold okC at h
  unfold fx_Toward_g tw
  rw [decide_eq_false (show ¬ c < 1 by omega), wu64_id (x := c) (by omega) (by omega)]
  simp only [cond_false]
  by_cases h1 : a ≤ b
  · rw [decide_eq_true h1, decide_eq_false (show ¬ a > b by omega), wi64_id (x := b - a) (by omega) (by omega), wu64_id (x := b - a) (by omega) (by omega), if_pos h1]
    simp only [cond_true, cond_false]
    by_cases h2 : b - a ≤ c
    · rw [decide_eq_true h2, if_pos h2]; rfl
    · rw [decide_eq_false h2, if_neg h2, decide_eq_true (show a < b by omega), wi64_id (x := a + c) (by omega) (by omega)]; rfl
  · rw [decide_eq_false h1, decide_eq_true (show a > b by omega), wi64_id (x := a - b) (by omega) (by omega), wu64_id (x := a - b) (by omega) (by omega), if_neg h1]
    simp only [cond_true, cond_false]
    by_cases h2 : a - b ≤ c
    · rw [decide_eq_true h2, if_pos h2]; rfl
    · rw [decide_eq_false h2, if_neg h2, decide_eq_false (show ¬ a < b by omega), wi64_id (x := a - c) (by omega) (by omega)]; rfl

theorem correct_ok (a b c : Int) : fuse_Correct_g 20000 a b c = some (corE a b c) := by
  unfold fuse_Correct_g corE
  rw [fright_ok]
  by_cases h : okC a b c
  · have h' := h
    unfold okC at h'
    rw [decide_eq_true (show (0 ≤ a ∧ a ≤ 10000) ∧ (0 ≤ b ∧ b ≤ 10000) ∧ (0 ≤ c ∧ c ≤ 10000) by omega), if_pos h]
    have d : (c == 0) = false := by simp; omega
    simp only [Option.bind_some, Bool.not_true, cond_false, d, toward_ok h]
  · rw [if_neg h]
    unfold okC at h
    by_cases h2 : (0 ≤ a ∧ a ≤ 10000) ∧ (0 ≤ b ∧ b ≤ 10000) ∧ (0 ≤ c ∧ c ≤ 10000)
    · have hc : c = 0 := by omega
      rw [decide_eq_true h2, hc]
      rfl
    · rw [decide_eq_false h2]
      rfl

/-- How far. -/
def ad (a b : Int) : Int := if a ≤ b then b - a else a - b
/-- How many it takes. -/
def farV (a b c : Int) : Int := (ad a b + c - 1) / c
def farE (a b c : Int) : Int × Int × Unit := if okC a b c then (farV a b c, 0, ()) else (0, 2, ())

theorem ad_in {a b c : Int} (h : okC a b c) : 0 ≤ ad a b ∧ ad a b ≤ 10000 := by
  unfold okC at h
  unfold ad
  split <;> omega

theorem up_div {d c : Int} (h : 0 ≤ d) (hc : 0 < c) : (d + c - 1) / c = if 0 < d % c then d / c + 1 else d / c := by
  have h1 := Int.mul_ediv_add_emod d c
  have h2 := Int.emod_nonneg d (show c ≠ 0 by omega)
  have h3 := Int.emod_lt_of_pos d hc
  generalize d / c = q at *
  generalize d % c = r at *
  split
  · have := (Int.ediv_emod_unique (a := d + c - 1) (b := c) (q := q + 1) (r := r - 1) hc).2 ⟨by grind, by omega, by omega⟩
    exact this.1
  · have := (Int.ediv_emod_unique (a := d + c - 1) (b := c) (q := q) (r := c - 1) hc).2 ⟨by have : r = 0 := by omega
                                                                                            grind, by omega, by omega⟩
    exact this.1

theorem fxsize_ok (K : Nat) {x : Int} (h : -9223372036854775807 ≤ x) (h' : x < 9223372036854775808) : fx_Size_g K x = some (ab x, ()) := by
  unfold fx_Size_g ab
  by_cases h1 : x < 0
  · rw [decide_eq_true h1, if_pos h1, wi64_id (x := 0 - x) (by omega) (by omega), decide_eq_false (show ¬ 0 - x < 0 by omega)]
    simp only [cond_true, cond_false]
    rw [show 0 - x = -x by omega]
  · rw [decide_eq_false h1, if_neg h1]
    rfl

theorem ab_ad {a b : Int} : ab (a - b) = ad a b := by unfold ab ad; split <;> split <;> omega

theorem wof_ok (K : Nat) {x : Int} (h : -9223372036854775808 ≤ x) (h' : x < 9223372036854775808) : wide_Of_g K x = some (x / 18446744073709551616, x % 18446744073709551616, ()) := by
  unfold wide_Of_g
  have e1 : shR .i64 x 63 = x / 9223372036854775808 := by
    have e : shR .i64 x 63 = x.fdiv 9223372036854775808 := rfl
    rw [e, Int.fdiv_eq_ediv_of_nonneg _ (by omega)]
  have e2 : x / 9223372036854775808 = x / 18446744073709551616 := by omega
  rw [e1, e2, wu64_def]

theorem down_ok (d c : Int) (hd : 0 ≤ d) (hd' : d ≤ 10000) (hc : 1 ≤ c) (hc' : c ≤ 10000) :
    wide_Down_g 20000 ((0 - d) / 18446744073709551616) ((0 - d) % 18446744073709551616) c = some (-((d + c - 1) / c), 0, ()) := by
  unfold wide_Down_g
  have ea : ab (0 - d) = d := by unfold ab; split <;> omega
  rw [decide_eq_false (show ¬ c < 1 by omega), wu64_id (x := c) (by omega) (by omega), by_low 20000 (0 - d) c (by omega) (by omega), ea, up_div hd (by omega)]
  have h1 := Int.ediv_le_self c hd
  have h0 : 0 ≤ d / c := Int.ediv_nonneg hd (by omega)
  have h2 := Int.emod_nonneg d (show c ≠ 0 by omega)
  have h3 := Int.emod_lt_of_pos d (show 0 < c by omega)
  have hz : d = 0 → d / c = 0 ∧ d % c = 0 := fun e => by subst e; exact ⟨Int.zero_ediv c, Int.zero_emod c⟩
  generalize d / c = q at *
  generalize d % c = r at *
  simp only [cond_false, Option.bind_some, Bool.not_true]
  rw [decide_eq_false (show ¬ q > 9223372036854775808 by omega)]
  by_cases hs : d = 0
  · obtain ⟨rfl, rfl⟩ := hz hs
    subst hs
    rfl
  · have hneg : decide ((0 - d) / 18446744073709551616 < 0) = true := decide_eq_true (by omega)
    rw [hneg]
    simp only [cond_true, cond_false]
    by_cases hr : r > 0
    · rw [decide_eq_true hr, if_pos (show 0 < r by omega), wu64_id (x := q + 1) (by omega) (by omega)]
      simp only [cond_true]
      rw [signed_fit 20000 (q + 1) true (by omega) (by omega), if_pos rfl, fit_ok (by omega) (by omega)]
    · rw [decide_eq_false hr, if_neg (show ¬ 0 < r by omega)]
      simp only [cond_false]
      rw [signed_fit 20000 q true (by omega) (by omega), if_pos rfl, fit_ok (by omega) (by omega)]

theorem farV_in {a b c : Int} (h : okC a b c) : 0 ≤ farV a b c ∧ farV a b c ≤ 10000 := by
  have h1 := ad_in h
  unfold okC at h
  unfold farV
  have hd := Int.mul_ediv_add_emod (ad a b + c - 1) c
  have h2 := Int.emod_nonneg (ad a b + c - 1) (show c ≠ 0 by omega)
  have h3 := Int.emod_lt_of_pos (ad a b + c - 1) (show 0 < c by omega)
  refine ⟨Int.ediv_nonneg (by omega) (by omega), ?_⟩
  refine Int.le_of_lt_add_one (Int.ediv_lt_of_lt_mul (by omega) ?_)
  have : (10000 + 1) * 1 ≤ (10000 + 1) * c := Int.mul_le_mul_of_nonneg_left (by omega) (by omega)
  omega

theorem far_ok (a b c : Int) : fuse_Far_g 20000 a b c = some (farE a b c) := by
  unfold fuse_Far_g farE
  rw [correct_ok]
  unfold corE
  by_cases h : okC a b c
  · rw [if_pos h, if_pos h]
    have hr := ad_in h
    have hf := farV_in h
    have h' := h
    unfold okC at h'
    have d0 : ((0 : Int) != 0) = false := rfl
    simp only [Option.bind_some, d0, cond_false]
    rw [wi64_id (x := a - b) (by omega) (by omega), fxsize_ok 20000 (by omega) (by omega), ab_ad]
    simp only [Option.bind_some]
    rw [wi64_id (x := 0 - ad a b) (by omega) (by omega), wof_ok 20000 (by omega) (by omega)]
    simp only [Option.bind_some]
    rw [down_ok _ _ hr.1 hr.2 (by omega) (by omega)]
    simp only [Option.bind_some]
    have e : (ad a b + c - 1) / c = farV a b c := rfl
    rw [e, wi64_id (by omega) (by omega), show 0 - -farV a b c = farV a b c by omega]
  · rw [if_neg h, if_neg h]
    rfl

/-! ### As many as are told -/
theorem farV_zero {a b c : Int} (hc : 1 ≤ c) (h : a = b) : farV a b c = 0 := by
  subst h
  unfold farV ad
  rw [if_pos (Int.le_refl _)]
  exact Int.ediv_eq_zero_of_lt (by omega) (by omega)

theorem farV_step {a b c : Int} (hc : 1 ≤ c) (h : a ≠ b) : farV a b c = farV (tw a b c) b c + 1 := by
  have key : ∀ d, c ≤ d → (d + c - 1) / c = (d - c + c - 1) / c + 1 := fun d hd => by
    rw [show d + c - 1 = d - c + c - 1 + c * 1 by omega, Int.add_mul_ediv_left _ _ (show c ≠ 0 by omega)]
  have one : ∀ d, 0 < d → d ≤ c → (d + c - 1) / c = 1 := fun d h0 h1 => by
    have := (Int.ediv_emod_unique (a := d + c - 1) (b := c) (q := 1) (r := d - 1) (by omega)).2 ⟨by omega, by omega, by omega⟩
    exact this.1
  by_cases h1 : ad a b ≤ c
  · have e : tw a b c = b := by
      unfold ad at h1
      unfold tw
      split at h1
      · rename_i k; rw [if_pos k, if_pos h1]
      · rename_i k; rw [if_neg k, if_pos h1]
    rw [e, farV_zero hc rfl]
    exact one _ (by unfold ad; split <;> omega) h1
  · have e : ad (tw a b c) b = ad a b - c := by
      unfold ad at h1 ⊢
      unfold tw
      by_cases k : a ≤ b
      · rw [if_pos k] at h1
        rw [if_pos k, if_neg h1, if_pos k, if_pos (by omega)]
        omega
      · rw [if_neg k] at h1
        rw [if_neg k, if_neg h1, if_neg k, if_neg (by omega)]
        omega
    unfold farV
    rw [e]
    exact key _ (by omega)

theorem tw_bounds {x t s : Int} (hs : 1 ≤ s) : x - tw x t s ≤ s ∧ tw x t s - x ≤ s ∧ (x ≤ t → x ≤ tw x t s ∧ tw x t s ≤ t) ∧ (t < x → t ≤ tw x t s ∧ tw x t s ≤ x) := by
  unfold tw
  split <;> split <;> omega

theorem round_tail (x y t s k n : Int) (R : Option (Sum (Int × Int × Unit) (Bool × Unit))) (h1 : -20000 ≤ x - y) (h2 : x - y ≤ 20000) (h3 : x - y ≤ s) (h4 : y - x ≤ s) (h5 : x ≤ t → x ≤ y ∧ y ≤ t) (h6 : t < x → t ≤ y ∧ y ≤ x) (h7 : k ≤ n) :
    (bif decide ((bif decide (wi64 (x - y) > wi64 (y - x)) then wi64 (x - y) else wi64 (y - x)) > s) then some (.inr (false, ())) else
      (bif decide (y < (bif decide (t < x) then t else x)) then some (.inr (false, ())) else
        (bif decide (y > (bif decide (t > x) then t else x)) then some (.inr (false, ())) else (bif decide (k > n) then some (.inr (false, ())) else R)))) = R := by
  rw [wi64_id (x := x - y) (by omega) (by omega), wi64_id (x := y - x) (by omega) (by omega), decide_eq_false (show ¬ k > n by omega)]
  have e1 : decide ((bif decide (x - y > y - x) then x - y else y - x) > s) = false := by
    by_cases c : x - y > y - x
    · rw [decide_eq_true c]; exact decide_eq_false (by show ¬ x - y > s; omega)
    · rw [decide_eq_false c]; exact decide_eq_false (by show ¬ y - x > s; omega)
  have e2 : decide (y < (bif decide (t < x) then t else x)) = false := by
    by_cases c : t < x
    · rw [decide_eq_true c]; exact decide_eq_false (by show ¬ y < t; omega)
    · rw [decide_eq_false c]; exact decide_eq_false (by show ¬ y < x; omega)
  have e3 : decide (y > (bif decide (t > x) then t else x)) = false := by
    by_cases c : t > x
    · rw [decide_eq_true c]; exact decide_eq_false (by show ¬ y > t; omega)
    · rw [decide_eq_false c]; exact decide_eq_false (by show ¬ y > x; omega)
  rw [e1, e2, e3]
  rfl

theorem bounds_loop (t s n : Int) (hn : n ≤ 10000) : ∀ (d : Nat) (x k : Int) (fuel : Nat), okC x t s → farV x t s = d → k + d = n → 0 ≤ k → d < fuel →
    rheostatlaw17_FuseBounds_l0 20000 fuel t s n k x = some (.inl (n, n, ()))
  | d, x, k, fuel, hx, hd, hk, hk0, hf => by
    obtain ⟨f, rfl⟩ : ∃ f, fuel = f + 1 := ⟨fuel - 1, by omega⟩
    have e0 : rheostatlaw17_FuseBounds_l0 20000 (f + 1) t s n k x = rheostatlaw17_FuseBounds_l0r 20000 (rheostatlaw17_FuseBounds_l0 20000 f) t s n k x := rfl
    rw [e0]
    unfold rheostatlaw17_FuseBounds_l0r
    have hx' := hx
    unfold okC at hx'
    by_cases h : x = t
    · have h0 := farV_zero (c := s) (by omega) h
      have hkn : k = n := by omega
      subst h
      subst hkn
      have d1 : (x != x) = false := by simp
      rw [d1]
      rfl
    · have d1 : (x != t) = true := by simp [h]
      have hst := farV_step (c := s) (by omega) h
      have hin := tw_in hx
      have hb := tw_bounds (x := x) (t := t) (s := s) (by omega)
      have hx2 : okC (tw x t s) t s := ⟨hin, hx'.2⟩
      have hfv := farV_in hx2
      obtain ⟨e, rfl⟩ : ∃ e, d = e + 1 := ⟨d - 1, by omega⟩
      have ih := bounds_loop t s n hn e (tw x t s) (k + 1) f hx2 (by omega) (by omega) (by omega) (by omega)
      have d0 : ((0 : Int) != 0) = false := rfl
      rw [d1, correct_ok]
      unfold corE
      rw [if_pos hx]
      simp only [cond_true, Option.bind_some, d0, cond_false]
      rw [wi64_id (x := k + 1) (by omega) (by omega), ih]
      exact round_tail x (tw x t s) t s k n _ (by omega) (by omega) hb.1 hb.2.1 hb.2.2.1 hb.2.2.2 (by omega)

theorem among_ok (K : Nat) (x n : Int) (hn : 1 ≤ n) (hn' : n < 9223372036854775808) : ∃ r, 0 ≤ r ∧ r < n ∧ rheostatbase_Among_g K x n = some (r, ()) := by
  unfold rheostatbase_Among_g
  have d1 : decide (n < 1) = false := by simp; omega
  have e : wu64 n = n := wu64_id (by omega) (by omega)
  have d2 : (n == 0) = false := by simp; omega
  have hx : 0 ≤ wu64 x := by rw [wu64_def]; omega
  rw [d1, e, d2, (tdiv_pos hx).2]
  have h0 : 0 ≤ wu64 x % n := Int.emod_nonneg _ (by omega)
  have h1 : wu64 x % n < n := Int.emod_lt_of_pos _ (by omega)
  refine ⟨wu64 x % n, h0, h1, ?_⟩
  rw [wi64_id (by omega) (by omega)]
  rfl

theorem FuseBounds_ok (a b c : Int) : rheostatlaw17_FuseBounds_g 20000 a b c = some true := by
  unfold rheostatlaw17_FuseBounds_g
  obtain ⟨x, x1, x2, x3⟩ := among_ok 20000 a 10001 (by omega) (by omega)
  obtain ⟨t, t1, t2, t3⟩ := among_ok 20000 b 10001 (by omega) (by omega)
  obtain ⟨s, s1, s2, s3⟩ := among_ok 20000 c 10000 (by omega) (by omega)
  rw [works_ok, x3, t3, s3]
  simp only [Option.bind_some, Bool.not_true, cond_false]
  have hok : okC x t (1 + s) := ⟨⟨x1, by omega⟩, ⟨t1, by omega⟩, by omega, by omega⟩
  have hf := farV_in hok
  have d0 : ((0 : Int) != 0) = false := rfl
  rw [wi64_id (x := 1 + s) (by omega) (by omega), far_ok]
  unfold farE
  rw [if_pos hok]
  obtain ⟨d, hd⟩ : ∃ d : Nat, farV x t (1 + s) = (d : Int) := ⟨(farV x t (1 + s)).toNat, by omega⟩
  have hl := bounds_loop t (1 + s) (farV x t (1 + s)) hf.2 d x 0 20000 hok hd (by omega) (by omega) (by omega)
  simp only [Option.bind_some, d0, cond_false]
  rw [decide_eq_false (show ¬ farV x t (1 + s) > 10000 by omega), hl]
  simp only [cond_false, Option.bind_some, Sum.elim_inl, beq_self_eq_true]

/-! ### What changes -/
theorem bw (x : Int) : 0 ≤ btw 0 10000 x ∧ btw 0 10000 x ≤ 10000 := btw_le (by omega)

theorem shown_self {s n c : Int} (hs : 0 ≤ s ∧ s ≤ 10000) (hc : 1 ≤ c) : shownV s n n c = s := by
  unfold shownV
  have e : nr (10000 * (n - n)) c = 0 := by rw [Int.sub_self, Int.mul_zero]; exact nr_zero (by omega)
  rw [e]
  unfold btw
  rw [if_neg (by omega), if_neg (by omega), if_neg (by omega), if_neg (by omega), Int.add_zero]

theorem go_ok (s0 s1 s2 s3 s4 s5 s6 s7 s8 s9 s10 s11 s12 s13 s14 s15 s16 s17 s18 s19 s20 s21 s22 : Int) :
    fuse_Go_g 20000 s0 s1 s2 s3 s4 s5 s6 s7 s8 s9 s10 s11 s12 s13 s14 s15 s16 s17 s18 s19 s20 s21 s22 =
      some (if (0 ≤ s3 ∧ s3 ≤ 10000) ∧ (1 ≤ s8 ∧ s8 ≤ 1125899906842624) ∧ inB 1125899906842624 s4 = true ∧ inB 1125899906842624 s0 = true then
        (s0, s1, shownV s3 s4 s0 s8, s3, s4, s5, s6, s7, s8, s9, s10, s11, s12, s13, s14, s15, s16, s17, s18, s19, s20, s21, s22, 0, ())
        else (0, 0, 0, 0, 0, 0, 0, 0, 0, 0, 0, 0, 0, 0, 0, 0, 0, 0, 0, 0, 0, 0, 0, 2, ())) := by
  unfold fuse_Go_g fuse_gone_shown_g
  rw [shown_ok]
  unfold shownE
  by_cases h : (0 ≤ s3 ∧ s3 ≤ 10000) ∧ (1 ≤ s8 ∧ s8 ≤ 1125899906842624) ∧ inB 1125899906842624 s4 = true ∧ inB 1125899906842624 s0 = true
  · rw [if_pos h, if_pos h]; rfl
  · rw [if_neg h, if_neg h]; rfl

theorem rest_ok (s0 s1 s2 s3 s4 s5 s6 s7 s8 s9 s10 s11 s12 s13 s14 s15 s16 s17 s18 s19 s20 s21 s22 told slew : Int) :
    fuse_Rest_g 20000 s0 s1 s2 s3 s4 s5 s6 s7 s8 s9 s10 s11 s12 s13 s14 s15 s16 s17 s18 s19 s20 s21 s22 told slew =
      some (if ((0 ≤ s3 ∧ s3 ≤ 10000) ∧ (1 ≤ s8 ∧ s8 ≤ 1125899906842624) ∧ inB 1125899906842624 s4 = true ∧ inB 1125899906842624 s0 = true) ∧ okC (shownV s3 s4 s0 s8) told slew then
        (s0, s1, tw (shownV s3 s4 s0 s8) told slew, tw (shownV s3 s4 s0 s8) told slew, s0, s5, s6, s7, s8, s9, s10, s11, s12, s13, s14, s15, s16, s17, s18, s19, s20, s21, s22, 0, ())
        else (0, 0, 0, 0, 0, 0, 0, 0, 0, 0, 0, 0, 0, 0, 0, 0, 0, 0, 0, 0, 0, 0, 0, 2, ())) := by
  unfold fuse_Rest_g
  rw [go_ok]
  have d2 : ((0 : Int) == 0) = true := rfl
  have d3 : ((0 : Int) != 0) = false := rfl
  by_cases h : (0 ≤ s3 ∧ s3 ≤ 10000) ∧ (1 ≤ s8 ∧ s8 ≤ 1125899906842624) ∧ inB 1125899906842624 s4 = true ∧ inB 1125899906842624 s0 = true
  · rw [if_pos h]
    simp only [Option.bind_some, d2, cond_true]
    rw [correct_ok]
    unfold corE
    by_cases h2 : okC (shownV s3 s4 s0 s8) told slew
    · rw [if_pos h2, if_pos ⟨h, h2⟩]
      rfl
    · rw [if_neg h2, if_neg (fun k => h2 k.2)]
      rfl
  · rw [if_neg h, if_neg (fun k => h k.1)]
    rfl

theorem FuseKeeps_ok (s0 s1 s2 s3 s4 s5 s6 s7 s8 s9 s10 s11 s12 s13 s14 s15 s16 s17 s18 s19 s20 s21 s22 told slew : Int) :
    rheostatlaw17_FuseKeeps_g 20000 s0 s1 s2 s3 s4 s5 s6 s7 s8 s9 s10 s11 s12 s13 s14 s15 s16 s17 s18 s19 s20 s21 s22 told slew = some true := by
  unfold rheostatlaw17_FuseKeeps_g
  rw [works_ok, go_ok, rest_ok]
  have d2 : ((0 : Int) == 0) = true := rfl
  have d3 : ((0 : Int) != 0) = false := rfl
  have d4 : ((2 : Int) != 0) = true := rfl
  by_cases h : (0 ≤ s3 ∧ s3 ≤ 10000) ∧ (1 ≤ s8 ∧ s8 ≤ 1125899906842624) ∧ inB 1125899906842624 s4 = true ∧ inB 1125899906842624 s0 = true
  · rw [if_pos h]
    simp only [Option.bind_some, Bool.not_true, cond_false, d3, go_ok]
    rw [if_pos h]
    simp only [beq_self_eq_true, Bool.and_self, Bool.not_true, cond_false]
    by_cases h2 : okC (shownV s3 s4 s0 s8) told slew
    · rw [if_pos ⟨h, h2⟩]
      have hin := tw_in h2
      have h3 : (0 ≤ tw (shownV s3 s4 s0 s8) told slew ∧ tw (shownV s3 s4 s0 s8) told slew ≤ 10000) ∧ (1 ≤ s8 ∧ s8 ≤ 1125899906842624) ∧ inB 1125899906842624 s0 = true ∧ inB 1125899906842624 s0 = true := ⟨hin, h.2.1, h.2.2.2, h.2.2.2⟩
      simp only [d3, cond_false]
      rw [if_pos h3, shown_self hin h.2.1.1]
      simp only [Option.bind_some, beq_self_eq_true, Bool.and_self, cond_true]
      rw [decide_eq_true (show tw (shownV s3 s4 s0 s8) told slew ≥ 0 from hin.1), decide_eq_true hin.2]
      rfl
    · rw [if_neg (fun k => h2 k.2)]
      rfl
  · rw [if_neg h]
    rfl
end Go.Proofs.Ytffmgpdbpfehkaa
