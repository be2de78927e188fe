/-
  Relaxations, rests, cycles, and numbers within ranges: what the printed functions compute, as plain functions of the numbers.
-/
import Derived.Test.YtjmbhhinmbgneaaGreatsE
namespace Go.Proofs.YtjmbhhinmbgneaaGreat
open Go.Sy
set_option maxHeartbeats 1000000

def inR (lo hi x : Int) : Bool := decide (lo ≤ x ∧ x ≤ hi)
theorem inR_iff {lo hi x : Int} : inR lo hi x = true ↔ lo ≤ x ∧ x ≤ hi := by unfold inR; exact decide_eq_true_iff
def allR (lo hi : Int) (m : Nat → Int) (i : Nat) : Nat → Bool
  | 0 => true
  | d + 1 => inR lo hi (m i) && allR lo hi m (i + 1) d

theorem inR_lo {lo hi x : Int} (h : x < lo) : inR lo hi x = false := decide_eq_false (by omega)
theorem inR_hi {lo hi x : Int} (h : x > hi) : inR lo hi x = false := decide_eq_false (by omega)
theorem inR_in {lo hi x : Int} (h : ¬ x < lo) (h' : ¬ x > hi) : inR lo hi x = true := decide_eq_true (by omega)

theorem state_range_has_loop (lo hi : Int) (n : Nat) (m : Nat → Int) (hn : n < 900) : ∀ (d i N : Nat), i + d = n → d < N → state_range_has_l0 20000 N n (n : Int) (i : Int) lo hi m = some (bif allR lo hi m i d then .inl () else .inr (false, ()))
  | 0, i, N, hd, hf => by
    obtain ⟨f, rfl⟩ : ∃ f, N = f + 1 := ⟨N - 1, by omega⟩
    have e : i = n := by omega
    subst e
    show state_range_has_l0r 20000 (state_range_has_l0 20000 f) i (i : Int) (i : Int) lo hi m = _
    unfold state_range_has_l0r
    rw [nat_lt_self]
    rfl
  | d + 1, i, N, hd, hf => by
    obtain ⟨f, rfl⟩ : ∃ f, N = f + 1 := ⟨N - 1, by omega⟩
    have hin : i < n := by omega
    have ih := state_range_has_loop lo hi n m hn d (i + 1) f (by omega) (by omega)
    have e0 : state_range_has_l0 20000 (f + 1) n (n : Int) (i : Int) lo hi m = state_range_has_l0r 20000 (state_range_has_l0 20000 f) n (n : Int) (i : Int) lo hi m := rfl
    rw [e0]
    unfold state_range_has_l0r
    simp only [nat_lt_dec hin, nat_nn_dec, Bool.and_self, cond_true, Int.toNat_natCast, wi_succ (show i < 1000000 by omega), ih, allR]
    by_cases h1 : m i < lo
    · rw [decide_eq_true h1, inR_lo h1]; rfl
    · by_cases h2 : m i > hi
      · rw [decide_eq_false h1, decide_eq_true h2, inR_hi h2]; rfl
      · rw [decide_eq_false h1, decide_eq_false h2, inR_in h1 h2]; rfl

theorem state_range_has_all (lo hi : Int) (n : Nat) (m : Nat → Int) (hn : n < 900) : state_range_has_g 20000 lo hi n m = some (allR lo hi m 0 n, ()) := by
  unfold state_range_has_g
  have h : state_range_has_l0 20000 20000 n (n : Int) 0 lo hi m = _ := state_range_has_loop lo hi n m hn n 0 20000 (by omega) (by omega)
  rw [h]
  cases allR lo hi m 0 n <;> rfl

theorem model_span_has_loop (lo hi : Int) (n : Nat) (m : Nat → Int) (hn : n < 900) : ∀ (d i N : Nat), i + d = n → d < N → model_span_has_l0 20000 N n (n : Int) (i : Int) lo hi m = some (bif allR lo hi m i d then .inl () else .inr (false, ()))
  | 0, i, N, hd, hf => by
    obtain ⟨f, rfl⟩ : ∃ f, N = f + 1 := ⟨N - 1, by omega⟩
    have e : i = n := by omega
    subst e
    show model_span_has_l0r 20000 (model_span_has_l0 20000 f) i (i : Int) (i : Int) lo hi m = _
    unfold model_span_has_l0r
    rw [nat_lt_self]
    rfl
  | d + 1, i, N, hd, hf => by
    obtain ⟨f, rfl⟩ : ∃ f, N = f + 1 := ⟨N - 1, by omega⟩
    have hin : i < n := by omega
    have ih := model_span_has_loop lo hi n m hn d (i + 1) f (by omega) (by omega)
    have e0 : model_span_has_l0 20000 (f + 1) n (n : Int) (i : Int) lo hi m = model_span_has_l0r 20000 (model_span_has_l0 20000 f) n (n : Int) (i : Int) lo hi m := rfl
    rw [e0]
    unfold model_span_has_l0r
    simp only [nat_lt_dec hin, nat_nn_dec, Bool.and_self, cond_true, Int.toNat_natCast, wi_succ (show i < 1000000 by omega), ih, allR]
    by_cases h1 : m i < lo
    · rw [decide_eq_true h1, inR_lo h1]; rfl
    · by_cases h2 : m i > hi
      · rw [decide_eq_false h1, decide_eq_true h2, inR_hi h2]; rfl
      · rw [decide_eq_false h1, decide_eq_false h2, inR_in h1 h2]; rfl

theorem model_span_has_all (lo hi : Int) (n : Nat) (m : Nat → Int) (hn : n < 900) : model_span_has_g 20000 lo hi n m = some (allR lo hi m 0 n, ()) := by
  unfold model_span_has_g
  have h : model_span_has_l0 20000 20000 n (n : Int) 0 lo hi m = _ := model_span_has_loop lo hi n m hn n 0 20000 (by omega) (by omega)
  rw [h]
  cases allR lo hi m 0 n <;> rfl

theorem rest_unit_loop (n : Nat) (m : Nat → Int) (hn : n < 900) : ∀ (d i N : Nat), i + d = n → d < N → rest_unit_l0 20000 N n (n : Int) (i : Int) m = some (bif allR (-2147483648) 2147483648 m i d then .inl () else .inr (false, ()))
  | 0, i, N, hd, hf => by
    obtain ⟨f, rfl⟩ : ∃ f, N = f + 1 := ⟨N - 1, by omega⟩
    have e : i = n := by omega
    subst e
    show rest_unit_l0r 20000 (rest_unit_l0 20000 f) i (i : Int) (i : Int) m = _
    unfold rest_unit_l0r
    rw [nat_lt_self]
    rfl
  | d + 1, i, N, hd, hf => by
    obtain ⟨f, rfl⟩ : ∃ f, N = f + 1 := ⟨N - 1, by omega⟩
    have hin : i < n := by omega
    have ih := rest_unit_loop n m hn d (i + 1) f (by omega) (by omega)
    have e0 : rest_unit_l0 20000 (f + 1) n (n : Int) (i : Int) m = rest_unit_l0r 20000 (rest_unit_l0 20000 f) n (n : Int) (i : Int) m := rfl
    rw [e0]
    unfold rest_unit_l0r
    simp only [nat_lt_dec hin, nat_nn_dec, Bool.and_self, cond_true, Int.toNat_natCast, wi_succ (show i < 1000000 by omega), ih, allR]
    by_cases h1 : m i < (-2147483648)
    · rw [decide_eq_true h1, inR_lo h1]; rfl
    · by_cases h2 : m i > 2147483648
      · rw [decide_eq_false h1, decide_eq_true h2, inR_hi h2]; rfl
      · rw [decide_eq_false h1, decide_eq_false h2, inR_in h1 h2]; rfl

theorem rest_unit_all (n : Nat) (m : Nat → Int) (hn : n < 900) : rest_unit_g 20000 n m = some (allR (-2147483648) 2147483648 m 0 n, ()) := by
  unfold rest_unit_g
  have h : rest_unit_l0 20000 20000 n (n : Int) 0 m = _ := rest_unit_loop n m hn n 0 20000 (by omega) (by omega)
  rw [h]
  cases allR (-2147483648) 2147483648 m 0 n <;> rfl

theorem cycle_counted_right_1_loop (hi : Int) (n : Nat) (m : Nat → Int) (hn : n < 900) : ∀ (d i N : Nat), i + d = n → d < N → cycle_counted_right_1_l0 20000 N hi n (n : Int) (i : Int) m = some (bif allR 0 hi m i d then .inl () else .inr (false, ()))
  | 0, i, N, hd, hf => by
    obtain ⟨f, rfl⟩ : ∃ f, N = f + 1 := ⟨N - 1, by omega⟩
    have e : i = n := by omega
    subst e
    show cycle_counted_right_1_l0r 20000 (cycle_counted_right_1_l0 20000 f) hi i (i : Int) (i : Int) m = _
    unfold cycle_counted_right_1_l0r
    rw [nat_lt_self]
    rfl
  | d + 1, i, N, hd, hf => by
    obtain ⟨f, rfl⟩ : ∃ f, N = f + 1 := ⟨N - 1, by omega⟩
    have hin : i < n := by omega
    have ih := cycle_counted_right_1_loop hi n m hn d (i + 1) f (by omega) (by omega)
    have e0 : cycle_counted_right_1_l0 20000 (f + 1) hi n (n : Int) (i : Int) m = cycle_counted_right_1_l0r 20000 (cycle_counted_right_1_l0 20000 f) hi n (n : Int) (i : Int) m := rfl
    rw [e0]
    unfold cycle_counted_right_1_l0r
    simp only [nat_lt_dec hin, nat_nn_dec, Bool.and_self, cond_true, Int.toNat_natCast, wi_succ (show i < 1000000 by omega), ih, allR]
    by_cases h1 : m i < 0
    · rw [decide_eq_true h1, inR_lo h1]; rfl
    · by_cases h2 : m i > hi
      · rw [decide_eq_false h1, decide_eq_true h2, inR_hi h2]; rfl
      · rw [decide_eq_false h1, decide_eq_false h2, inR_in h1 h2]; rfl

theorem cycle_counted_right_1_all (hi : Int) (n : Nat) (m : Nat → Int) (hn : n < 900) : cycle_counted_right_1_g 20000 hi n m = some (allR 0 hi m 0 n, ()) := by
  unfold cycle_counted_right_1_g
  have h : cycle_counted_right_1_l0 20000 20000 hi n (n : Int) 0 m = _ := cycle_counted_right_1_loop hi n m hn n 0 20000 (by omega) (by omega)
  rw [h]
  cases allR 0 hi m 0 n <;> rfl

theorem all1 (lo hi a : Int) : allR lo hi (fun j => selI [a] j) 0 1 = inR lo hi a := Bool.and_true _
theorem all2r (lo hi a b : Int) : allR lo hi (fun j => selI [a, b] j) 0 2 = (inR lo hi a && inR lo hi b) := by
  show (inR lo hi a && (inR lo hi b && true)) = _
  rw [Bool.and_true]
theorem all3 (lo hi a b c : Int) : allR lo hi (fun j => selI [a, b, c] j) 0 3 = (inR lo hi a && (inR lo hi b && inR lo hi c)) := by
  show (inR lo hi a && (inR lo hi b && (inR lo hi c && true))) = _
  rw [Bool.and_true]
theorem all4 (lo hi a b c d : Int) : allR lo hi (fun j => selI [a, b, c, d] j) 0 4 = (inR lo hi a && (inR lo hi b && (inR lo hi c && inR lo hi d))) := by
  show (inR lo hi a && (inR lo hi b && (inR lo hi c && (inR lo hi d && true)))) = _
  rw [Bool.and_true]

/-! ### A cell -/
def cellB (r0 r1 r2 t1 t2 ca se ti : Int) : Bool :=
  (inR 0 1000000 r0 && (inR 0 1000000 r1 && inR 0 1000000 r2)) && ((inR 1 1000000000 t1 && (inR 1 1000000000 t2 && inR 1 1000000000 ti)) && (inR 0 2147483648 ca && inR 0 2147483648 se))

theorem cellB_iff {r0 r1 r2 t1 t2 ca se ti : Int} : cellB r0 r1 r2 t1 t2 ca se ti = true ↔ ((0 ≤ r0 ∧ r0 ≤ 1000000) ∧ (0 ≤ r1 ∧ r1 ≤ 1000000) ∧ (0 ≤ r2 ∧ r2 ≤ 1000000)) ∧ ((1 ≤ t1 ∧ t1 ≤ 1000000000) ∧ (1 ≤ t2 ∧ t2 ≤ 1000000000) ∧ (1 ≤ ti ∧ ti ≤ 1000000000)) ∧ (0 ≤ ca ∧ ca ≤ 2147483648) ∧ (0 ≤ se ∧ se ≤ 2147483648) := by
  unfold cellB
  simp only [Bool.and_eq_true, inR_iff]

theorem mcheck_ok (r0 r1 r2 t1 t2 ca se ti : Int) : model_Check_g 20000 r0 r1 r2 t1 t2 ca se ti = some (bif cellB r0 r1 r2 t1 t2 ca se ti then 0 else 2, ()) := by
  unfold model_Check_g model_resistors_g model_taus_g cellB
  simp only [Option.bind_some, model_span_has_all _ _ _ _ (show 3 < 900 by omega), model_span_has_all _ _ _ _ (show 2 < 900 by omega), all3, all2r]
  cases (inR 0 1000000 r0 && (inR 0 1000000 r1 && inR 0 1000000 r2)) <;> cases (inR 1 1000000000 t1 && (inR 1 1000000000 t2 && inR 1 1000000000 ti)) <;> cases (inR 0 2147483648 ca && inR 0 2147483648 se) <;> rfl

def U (x : Int) : Int := btw (-2147483648) 2147483648 x
theorem U_in (x : Int) : -2147483648 ≤ U x ∧ U x ≤ 2147483648 := btw_le (by omega)
def driveV (c r : Int) : Int := U (nr (c * r) 1000)

theorem msum_round (s : Int) (n i f : Nat) (m : Nat → Int) (h : i < n) (hn : n < 900) : model_sum_l0 20000 (f + 1) s n (n : Int) (i : Int) m = model_sum_l0 20000 f (wi64 (s + m i)) n (n : Int) ((i + 1 : Nat) : Int) m := by
  have e0 : model_sum_l0 20000 (f + 1) s n (n : Int) (i : Int) m = model_sum_l0r 20000 (model_sum_l0 20000 f) s n (n : Int) (i : Int) m := rfl
  rw [e0]
  unfold model_sum_l0r
  simp only [nat_lt_dec h, nat_nn_dec, Bool.and_self, cond_true, Int.toNat_natCast, wi_succ (show i < 1000000 by omega)]
theorem msum_end (s : Int) (n f : Nat) (m : Nat → Int) : model_sum_l0 20000 (f + 1) s n (n : Int) (n : Int) m = some (s, ()) := by
  have e0 : model_sum_l0 20000 (f + 1) s n (n : Int) (n : Int) m = model_sum_l0r 20000 (model_sum_l0 20000 f) s n (n : Int) (n : Int) m := rfl
  rw [e0]
  unfold model_sum_l0r
  rw [nat_lt_self]
  rfl

theorem msum1 (x : Int) (h : -9223372036854775808 ≤ x) (h' : x < 9223372036854775808) : model_sum_g 20000 1 (fun j => selI [x] j) = some (U x, ()) := by
  unfold model_sum_g
  have h1 : model_sum_l0 20000 20000 0 1 ((1 : Nat) : Int) 0 (fun j => selI [x] j) = some (wi64 (0 + x), ()) :=
    (msum_round 0 1 0 (20000 - 1) (fun j => selI [x] j) (by omega) (by omega)).trans (msum_end (wi64 (0 + x)) 1 (20000 - 2) (fun j => selI [x] j))
  rw [h1, Int.zero_add, wi64_id h h']
  simp only [Option.bind_some, fx_between_ok]
  rfl

theorem msum4 (a b c d : Int) (ha : -4294967296 ≤ a ∧ a ≤ 4294967296) (hb : -4294967296 ≤ b ∧ b ≤ 4294967296) (hc : -4294967296 ≤ c ∧ c ≤ 4294967296) (hd : -4294967296 ≤ d ∧ d ≤ 4294967296) :
    model_sum_g 20000 4 (fun j => selI [a, b, c, d] j) = some (U (a + b + c + d), ()) := by
  unfold model_sum_g
  have h1 : model_sum_l0 20000 20000 0 4 ((4 : Nat) : Int) 0 (fun j => selI [a, b, c, d] j) = some (wi64 (wi64 (wi64 (wi64 (0 + a) + b) + c) + d), ()) :=
    (msum_round 0 4 0 (20000 - 1) (fun j => selI [a, b, c, d] j) (by omega) (by omega)).trans ((msum_round (wi64 (0 + a)) 4 1 (20000 - 2) (fun j => selI [a, b, c, d] j) (by omega) (by omega)).trans ((msum_round (wi64 (wi64 (0 + a) + b)) 4 2 (20000 - 3) (fun j => selI [a, b, c, d] j) (by omega) (by omega)).trans ((msum_round (wi64 (wi64 (wi64 (0 + a) + b) + c)) 4 3 (20000 - 4) (fun j => selI [a, b, c, d] j) (by omega) (by omega)).trans (msum_end (wi64 (wi64 (wi64 (wi64 (0 + a) + b) + c) + d)) 4 (20000 - 5) (fun j => selI [a, b, c, d] j)))))
  rw [h1, Int.zero_add, wi64_id (x := a) (by omega) (by omega), wi64_id (x := a + b) (by omega) (by omega), wi64_id (x := a + b + c) (by omega) (by omega), wi64_id (x := a + b + c + d) (by omega) (by omega)]
  simp only [Option.bind_some, fx_between_ok]
  rfl

theorem ab_prod {a b A B : Int} (ha : -A ≤ a ∧ a ≤ A) (hb : -B ≤ b ∧ b ≤ B) : ab (a * b) ≤ A * B := by
  exact ab_mul_le (ab_bound ha.1 ha.2) (ab_bound hb.1 hb.2) (by omega)

theorem drive_ok {c r : Int} (hc : -2147483648 ≤ c ∧ c ≤ 2147483648) (hr : 0 ≤ r ∧ r ≤ 1000000) : model_drive_g 20000 c r = some (driveV c r, ()) := by
  unfold model_drive_g driveV
  have hp := ab_prod hc (B := 1000000) (b := r) (by omega)
  have hb := nr_bound (a := c * r) (b := 1000) (M := 2147483648000000) (by omega) (by omega)
  rw [mulnear_low 20000 c r 1000 (by omega) (by omega) (by omega) (by omega) (by omega) (by omega) (by omega), fit_ok (by omega) (by omega)]
  simp only [Option.bind_some]
  rw [msum1 _ (by omega) (by omega)]
  rfl

def behindV (r tau u c t : Int) : Int := u + nr ((driveV c r - u) * t) (tau + t)

theorem behind_ok {r tau u c t : Int} (hr : 0 ≤ r ∧ r ≤ 1000000) (ht : 1 ≤ tau ∧ tau ≤ 1000000000) (hu : -2147483648 ≤ u ∧ u ≤ 2147483648) (hc : -2147483648 ≤ c ∧ c ≤ 2147483648) (hk : 1 ≤ t ∧ t ≤ 60000) :
    model_pair_behind_g 20000 r tau u c t = some (behindV r tau u c t, ()) := by
  unfold model_pair_behind_g behindV
  have hd := U_in (nr (c * r) 1000)
  have hd' : -2147483648 ≤ driveV c r ∧ driveV c r ≤ 2147483648 := hd
  have hp := ab_prod (a := driveV c r - u) (b := t) (A := 4294967296) (B := 60000) (by omega) (by omega)
  have hb := nr_bound (a := (driveV c r - u) * t) (b := tau + t) (M := 257698037760000) (by omega) (by omega)
  rw [drive_ok hc hr]
  simp only [Option.bind_some]
  rw [wi64_id (x := driveV c r - u) (by omega) (by omega), wi64_id (x := tau + t) (by omega) (by omega), mulnear_low 20000 _ t _ (by omega) (by omega) (by omega) (by omega) (by omega) (by omega) (by omega), fit_ok (by omega) (by omega)]
  simp only [Option.bind_some]
  rw [wi64_id (by omega) (by omega)]

def mstepE (r0 r1 r2 t1 t2 ca se ti u1 u2 c t : Int) : Int × Int × Int × Unit :=
  bif cellB r0 r1 r2 t1 t2 ca se ti && ((inR (-2147483648) 2147483648 u1 && (inR (-2147483648) 2147483648 u2 && inR (-2147483648) 2147483648 c)) && inR 1 60000 t) then (behindV r1 t1 u1 c t, behindV r2 t2 u2 c t, 0, ()) else (0, 0, 2, ())

theorem mstep_ok (r0 r1 r2 t1 t2 ca se ti u1 u2 c t : Int) : model_Step_g 20000 r0 r1 r2 t1 t2 ca se ti u1 u2 c t = some (mstepE r0 r1 r2 t1 t2 ca se ti u1 u2 c t) := by
  unfold model_Step_g model_units_g model_ticksOf_g model_of_g mstepE
  rw [mcheck_ok]
  have d0 : ((0 : Int) != 0) = false := rfl
  cases h1 : cellB r0 r1 r2 t1 t2 ca se ti with
  | false => rfl
  | true =>
    simp only [cond_true, Option.bind_some, d0, cond_false, model_span_has_all _ _ _ _ (show 3 < 900 by omega), all3, Bool.true_and]
    cases h2 : (inR (-2147483648) 2147483648 u1 && (inR (-2147483648) 2147483648 u2 && inR (-2147483648) 2147483648 c)) with
    | false => rfl
    | true =>
      simp only [Bool.not_true, cond_false, model_span_has_all _ _ _ _ (show 1 < 900 by omega), all1, Bool.true_and, Option.bind_some]
      cases h3 : inR 1 60000 t with
      | false => rfl
      | true =>
        simp only [Bool.and_eq_true, inR_iff] at h2
        have k := cellB_iff.1 h1
        have k3 := inR_iff.1 h3
        simp only [Bool.not_true, cond_false, cond_true]
        rw [behind_ok k.1.2.1 k.2.1.1 h2.1 h2.2.2 k3]
        simp only [Option.bind_some]
        rw [behind_ok k.1.2.2 k.2.1.2.1 h2.2.1 h2.2.2 k3]
        rfl

def restedE (r0 r1 r2 t1 t2 ca se ti u1 u2 c v : Int) : Int × Int × Unit :=
  bif (inR (-2147483648) 2147483648 u1 && (inR (-2147483648) 2147483648 u2 && (inR (-2147483648) 2147483648 c && inR (-2147483648) 2147483648 v))) && cellB r0 r1 r2 t1 t2 ca se ti then (U (v - driveV c r0 - u1 - u2), 0, ()) else (0, 2, ())

theorem rested_ok (r0 r1 r2 t1 t2 ca se ti u1 u2 c v : Int) : model_Rested_g 20000 r0 r1 r2 t1 t2 ca se ti u1 u2 c v = some (restedE r0 r1 r2 t1 t2 ca se ti u1 u2 c v) := by
  unfold model_Rested_g model_may_g model_units_g restedE
  have d0 : ((0 : Int) != 0) = false := rfl
  simp only [Option.bind_some, model_span_has_all _ _ _ _ (show 4 < 900 by omega), all4, mcheck_ok]
  cases h2 : (inR (-2147483648) 2147483648 u1 && (inR (-2147483648) 2147483648 u2 && (inR (-2147483648) 2147483648 c && inR (-2147483648) 2147483648 v))) with
  | false => rfl
  | true =>
    cases h1 : cellB r0 r1 r2 t1 t2 ca se ti with
    | false => rfl
    | true =>
      simp only [Bool.and_eq_true, inR_iff] at h2
      have k := cellB_iff.1 h1
      have hd := U_in (nr (c * r0) 1000)
      have hd' : -2147483648 ≤ driveV c r0 ∧ driveV c r0 ≤ 2147483648 := hd
      simp only [Bool.not_true, cond_false, cond_true, Option.bind_some, d0, Bool.and_self]
      rw [drive_ok h2.2.2.1 k.1.1]
      simp only [Option.bind_some]
      rw [wi64_id (x := 0 - driveV c r0) (by omega) (by omega), wi64_id (x := 0 - u1) (by omega) (by omega), wi64_id (x := 0 - u2) (by omega) (by omega), msum4 v _ _ _ (by omega) (by omega) (by omega) (by omega)]
      simp only [Option.bind_some]
      rw [show v + (0 - driveV c r0) + (0 - u1) + (0 - u2) = v - driveV c r0 - u1 - u2 by omega]

/-! ### Sums of two within a bound -/
theorem sumB2 (b t x : Int) (hb : 1 ≤ b) (hb' : b ≤ 1125899906842624000) (h : -b ≤ t) (h' : t ≤ b) (k1 : -1125899906842624000 ≤ x) (k2 : x ≤ 1125899906842624000) : fx_Sum_g 20000 b 2 (fun j => selI [t, x] j) = some (btw (-b) b (t + x), 0, ()) := by
  unfold fx_Sum_g fx_bound_g
  have e0 : ∀ (n : Nat) (a b : Int) (c : Nat) (d e : Int) (f : Nat → Int), fx_Sum_l0 20000 (n + 1) a b c d e f = fx_Sum_l0r 20000 (fx_Sum_l0 20000 n) a b c d e f := fun _ _ _ _ _ _ _ => rfl
  rw [decide_eq_false (show ¬ b < 1 by omega), decide_eq_false (show ¬ b > 2305843009213693952 by omega)]
  simp only [Option.bind_some, show ((0 : Int) != 0) = false from rfl, cond_false]
  have k := btw_le (lo := -b) (hi := b) (n := t + x) (by omega)
  rw [show (fx_Sum_l0 20000 20000) = fx_Sum_l0 20000 ((20000 - 3) + 1 + 1 + 1) from rfl, e0]
  have w1 : wi64 (wi64 (0 - b) - 0) = -b := by rw [wi64_id (x := 0 - b) (by omega) (by omega), wi64_id (by omega) (by omega)]; omega
  have w2 : wi64 (b - 0) = b := by rw [wi64_id (by omega) (by omega)]; omega
  have w3 : wi64 (0 + 1) = 1 := rfl
  have w4 : wi64 (0 - b) = -b := by rw [wi64_id (by omega) (by omega)]; omega
  have w5 : wi64 (1 + 1) = 2 := rfl
  have w6 : wi64 1 = 1 := rfl
  have s0 : selI [t, x] (Int.toNat 0) = t := rfl
  have s1 : selI [t, x] (Int.toNat 1) = x := rfl
  simp only [fx_Sum_l0r, fx_between_ok, Option.bind_some, w1, w2, w3, Int.zero_add, s0]
  rw [btw_id h h', wi64_id (x := t) (by omega) (by omega), e0]
  simp only [fx_Sum_l0r, fx_between_ok, Option.bind_some, w4, w6, w5, s1]
  have d1 : decide ((0 : Int) < ((2 : Nat) : Int)) = true := rfl
  have d2 : decide ((1 : Int) < ((2 : Nat) : Int)) = true := rfl
  have d3 : decide ((0 : Int) ≤ 0) = true := rfl
  have d4 : decide ((0 : Int) ≤ 1) = true := rfl
  rw [wi64_id (x := -b - t) (by omega) (by omega), wi64_id (x := b - t) (by omega) (by omega), btw_sum (by omega) h h', d1, d2, d3, d4, wi64_id (x := btw (-b) b (t + x)) (by omega) (by omega), e0]
  rfl

/-! ### A rest -/
def limB (ca se ti : Int) : Bool := (inR 0 2147483648 ca && inR 0 2147483648 se) && decide (ti > 0)

theorem limits_ok (ca se ti : Int) : rest_limits_may_g 20000 ca se ti = some (limB ca se ti, ()) := by
  unfold rest_limits_may_g limB
  have r2 : ∀ f, rest_limits_may_l0 20000 (f + 1) 0 2 2 2 ca se ti ca se = some (.inl (ca, se, ti, ())) := fun f => rfl
  have r1 : ∀ f, rest_limits_may_l0 20000 (f + 1) 0 2 2 1 ca se ti ca se = bif inR 0 2147483648 se then rest_limits_may_l0 20000 f 0 2 2 2 ca se ti ca se else some (.inr (false, ())) := fun f => by
    show (bif decide (se < 0) then some (Sum.inr (false, ())) else (bif decide (se > 2147483648) then some (Sum.inr (false, ())) else rest_limits_may_l0 20000 f 0 2 2 2 ca se ti ca se)) = _
    by_cases h1 : se < 0
    · rw [decide_eq_true h1, inR_lo h1]; rfl
    · by_cases h2 : se > 2147483648
      · rw [decide_eq_false h1, decide_eq_true h2, inR_hi h2]; rfl
      · rw [decide_eq_false h1, decide_eq_false h2, inR_in h1 h2]; rfl
  have r0 : ∀ f, rest_limits_may_l0 20000 (f + 1) 0 2 2 0 ca se ti ca se = bif inR 0 2147483648 ca then rest_limits_may_l0 20000 f 0 2 2 1 ca se ti ca se else some (.inr (false, ())) := fun f => by
    show (bif decide (ca < 0) then some (Sum.inr (false, ())) else (bif decide (ca > 2147483648) then some (Sum.inr (false, ())) else rest_limits_may_l0 20000 f 0 2 2 1 ca se ti ca se)) = _
    by_cases h1 : ca < 0
    · rw [decide_eq_true h1, inR_lo h1]; rfl
    · by_cases h2 : ca > 2147483648
      · rw [decide_eq_false h1, decide_eq_true h2, inR_hi h2]; rfl
      · rw [decide_eq_false h1, decide_eq_false h2, inR_in h1 h2]; rfl
  have h : rest_limits_may_l0 20000 20000 0 2 2 0 ca se ti ca se = _ := r0 (20000 - 1)
  rw [h]
  cases inR 0 2147483648 ca with
  | false => rfl
  | true =>
    have h : rest_limits_may_l0 20000 (20000 - 1) 0 2 2 1 ca se ti ca se = _ := r1 (20000 - 2)
    rw [cond_true, h]
    cases inR 0 2147483648 se with
    | false => rfl
    | true =>
      have h : rest_limits_may_l0 20000 (20000 - 2) 0 2 2 2 ca se ti ca se = _ := r2 (20000 - 3)
      rw [cond_true, h]
      simp only [Option.bind_some, Sum.elim_inl, Bool.and_self, Bool.true_and]

def restB (ca se ti re : Int) : Bool := limB ca se ti && inR 0 1125899906842624 re

theorem restB_iff {ca se ti re : Int} : restB ca se ti re = true ↔ ((0 ≤ ca ∧ ca ≤ 2147483648) ∧ (0 ≤ se ∧ se ≤ 2147483648)) ∧ 0 < ti ∧ (0 ≤ re ∧ re ≤ 1125899906842624) := by
  unfold restB limB
  simp only [Bool.and_eq_true, inR_iff, decide_eq_true_eq]
  constructor
  · intro h; exact ⟨h.1.1, h.1.2, h.2⟩
  · intro h; exact ⟨⟨h.1, h.2.1⟩, h.2.2⟩

theorem rright_ok (ca se ti re : Int) : rest_cell_right_g 20000 ca se ti re = some (restB ca se ti re, ()) := by
  unfold rest_cell_right_g restB
  rw [limits_ok]
  cases limB ca se ti with
  | false => rfl
  | true =>
    by_cases h1 : re ≥ 0
    · rw [decide_eq_true h1]
      by_cases h2 : re ≤ 1125899906842624
      · rw [decide_eq_true h2, inR_in (by omega) (by omega)]; rfl
      · rw [decide_eq_false h2, inR_hi (by omega)]; rfl
    · rw [decide_eq_false h1, inR_lo (by omega)]; rfl

theorem fxs_ok (K : Nat) {x : Int} (h : -9223372036854775807 ≤ x) (h' : x < 9223372036854775808) : fx_Size_g K x = some (ab x, ()) := by
  unfold fx_Size_g ab
  by_cases h1 : x < 0
  · rw [decide_eq_true h1, if_pos h1, wi64_id (x := 0 - x) (by omega) (by omega), decide_eq_false (show ¬ 0 - x < 0 by omega)]
    simp only [cond_true, cond_false]
    rw [show 0 - x = -x by omega]
  · rw [decide_eq_false h1, if_neg h1]
    rfl

def calmB (ca se c u1 u2 : Int) : Bool := decide (ab c ≤ ca) && decide (ab u1 + ab u2 ≤ se)

theorem calm_ok {r0 r1 r2 t1 t2 ca se ti c u1 u2 : Int} (hl : limB ca se ti = true) (hu : (inR (-2147483648) 2147483648 c && (inR (-2147483648) 2147483648 u1 && inR (-2147483648) 2147483648 u2)) = true) :
    rest_Calm_g 20000 r0 r1 r2 t1 t2 ca se ti c u1 u2 = some (calmB ca se c u1 u2, ()) := by
  unfold rest_Calm_g rest_of_g calmB
  have k := hu
  simp only [Bool.and_eq_true, inR_iff] at k
  have a1 := ab_bound (x := u1) (M := 2147483648) k.2.1.1 k.2.1.2
  have a2 := ab_bound (x := u2) (M := 2147483648) k.2.2.1 k.2.2.2
  have b1 := ab_nonneg u1
  have b2 := ab_nonneg u2
  simp only [Option.bind_some, limits_ok, hl, cond_true, rest_unit_all _ _ (show 3 < 900 by omega), all3, hu]
  rw [fxs_ok 20000 (by omega) (by omega)]
  simp only [Option.bind_some]
  cases decide (ab c ≤ ca) with
  | false => rfl
  | true =>
    simp only [cond_true]
    rw [fxs_ok 20000 (by omega) (by omega), fxs_ok 20000 (by omega) (by omega)]
    simp only [Option.bind_some, Bool.true_and]
    rw [wi64_id (by omega) (by omega)]

def rstepE (ca se ti re c u1 u2 t : Int) : Int × Int × Unit :=
  bif restB ca se ti re && ((inR (-2147483648) 2147483648 c && (inR (-2147483648) 2147483648 u1 && inR (-2147483648) 2147483648 u2)) && inR 1 60000 t) then
    (bif calmB ca se c u1 u2 then (btw (-1125899906842624) 1125899906842624 (re + t), 0, ()) else (0, 0, ())) else (0, 2, ())

theorem rstep_ok (r0 r1 r2 t1 t2 ca se ti re c u1 u2 t : Int) : rest_Step_g 20000 r0 r1 r2 t1 t2 ca se ti re c u1 u2 t = some (rstepE ca se ti re c u1 u2 t) := by
  unfold rest_Step_g rest_of_g rstepE
  simp only [Option.bind_some, rright_ok]
  cases h1 : restB ca se ti re with
  | false => rfl
  | true =>
    simp only [Bool.not_true, cond_false, rest_unit_all _ _ (show 3 < 900 by omega), all3, Option.bind_some, Bool.true_and]
    cases h2 : (inR (-2147483648) 2147483648 c && (inR (-2147483648) 2147483648 u1 && inR (-2147483648) 2147483648 u2)) with
    | false => rfl
    | true =>
      simp only [Bool.not_true, cond_false, Bool.true_and]
      have k := restB_iff.1 h1
      have hl : limB ca se ti = true := by
        unfold restB at h1
        simp only [Bool.and_eq_true] at h1
        exact h1.1
      by_cases h3 : t < 1
      · rw [decide_eq_true h3, inR_lo h3]; rfl
      · by_cases h4 : t > 60000
        · rw [decide_eq_false h3, decide_eq_true h4, inR_hi h4]; rfl
        · rw [decide_eq_false h3, decide_eq_false h4, inR_in h3 h4, calm_ok hl h2]
          simp only [cond_false, Option.bind_some, cond_true]
          cases calmB ca se c u1 u2 with
          | false => rfl
          | true =>
            simp only [Bool.not_true, cond_false, cond_true]
            rw [sumB2 1125899906842624 re t (by omega) (by omega) (by omega) (by omega) (by omega) (by omega)]
            rfl

theorem ris_ok (r0 r1 r2 t1 t2 ca se ti re : Int) : rest_Is_g 20000 r0 r1 r2 t1 t2 ca se ti re = some (restB ca se ti re && decide (re ≥ ti), ()) := by
  unfold rest_Is_g rest_of_g
  simp only [Option.bind_some, rright_ok]
  cases restB ca se ti re <;> rfl

/-! ### Cycles -/
def cycB (th su cy cap : Int) : Bool := decide ((0 ≤ th ∧ th ≤ 1125899906842624) ∧ (1 ≤ cap ∧ cap ≤ 1125899906842624) ∧ (0 ≤ su ∧ su ≤ 999) ∧ (0 ≤ cy ∧ cy ≤ 2147483647) ∧ th * 1000 + su ≤ 1125899906842624000)

theorem cright_ok (s0 s1 s2 s3 s4 s5 s6 s7 s8 s9 s10 s11 s12 s13 s14 s15 s16 s17 s18 s19 s20 s21 s22 : Int) :
    cycle_counted_right_g 20000 s0 s1 s2 s3 s4 s5 s6 s7 s8 s9 s10 s11 s12 s13 s14 s15 s16 s17 s18 s19 s20 s21 s22 = some (cycB s11 s12 s13 s8, ()) := by
  unfold cycle_counted_right_g cycle_counted_total_g
  simp only [cycle_counted_right_1_all _ _ _ (show 3 < 900 by omega), cycle_counted_right_1_all _ _ _ (show 1 < 900 by omega), all3, all1, Option.bind_some]
  by_cases h8 : -9223372036854775807 ≤ s8 ∧ s8 < 9223372036854775808
  · rw [wi64_id (x := s8 - 1) (by omega) (by omega)]
    by_cases k1 : (0 ≤ s11 ∧ s11 ≤ 1125899906842624) ∧ (1 ≤ s8 ∧ s8 ≤ 1125899906842624)
    · rw [inR_in (x := s11) (by omega) (by omega), inR_in (x := s8 - 1) (by omega) (by omega), inR_in (x := s8) (by omega) (by omega)]
      by_cases k2 : 0 ≤ s12 ∧ s12 ≤ 999
      · rw [inR_in (x := s12) (by omega) (by omega)]
        by_cases k3 : 0 ≤ s13 ∧ s13 ≤ 2147483647
        · rw [inR_in (x := s13) (by omega) (by omega)]
          simp only [Bool.and_self, cond_true]
          rw [wi64_id (x := s11 * 1000) (by omega) (by omega), wi64_id (x := s11 * 1000 + s12) (by omega) (by omega)]
          by_cases k4 : s11 * 1000 + s12 ≤ 1125899906842624000
          · have e2 : cycB s11 s12 s13 s8 = true := decide_eq_true ⟨k1.1, k1.2, k2, k3, k4⟩
            rw [decide_eq_true k4, e2]
          · have e2 : cycB s11 s12 s13 s8 = false := decide_eq_false (fun h => k4 h.2.2.2.2)
            rw [decide_eq_false k4, e2]
        · have e2 : cycB s11 s12 s13 s8 = false := decide_eq_false (fun h => k3 h.2.2.2.1)
          have e : inR 0 2147483647 s13 = false := decide_eq_false k3
          rw [e, e2]; rfl
      · have e2 : cycB s11 s12 s13 s8 = false := decide_eq_false (fun h => k2 h.2.2.1)
        have e : inR 0 999 s12 = false := decide_eq_false k2
        rw [e, e2]; rfl
    · have e2 : cycB s11 s12 s13 s8 = false := decide_eq_false (fun h => k1 ⟨h.1, h.2.1⟩)
      have e : (inR 0 1125899906842624 s11 && (inR 0 1125899906842624 (s8 - 1) && inR 0 1125899906842624 s8)) = false := by
        cases hh : (inR 0 1125899906842624 s11 && (inR 0 1125899906842624 (s8 - 1) && inR 0 1125899906842624 s8)) with
        | false => rfl
        | true =>
          simp only [Bool.and_eq_true, inR_iff] at hh
          exact absurd ⟨hh.1, by omega, by omega⟩ k1
      rw [e, e2]; rfl
  · have e : inR 0 1125899906842624 s8 = false := decide_eq_false (by omega)
    have e2 : cycB s11 s12 s13 s8 = false := decide_eq_false (fun h => h8 ⟨by omega, by omega⟩)
    rw [e, Bool.and_false, Bool.and_false, e2]
    rfl

theorem cycheck_ok (s0 s1 s2 s3 s4 s5 s6 s7 s8 s9 s10 s11 s12 s13 s14 s15 s16 s17 s18 s19 s20 s21 s22 : Int) :
    cycle_Check_g 20000 s0 s1 s2 s3 s4 s5 s6 s7 s8 s9 s10 s11 s12 s13 s14 s15 s16 s17 s18 s19 s20 s21 s22 = some (bif cycB s11 s12 s13 s8 then 0 else 2, ()) := by
  unfold cycle_Check_g
  rw [cright_ok]
  cases cycB s11 s12 s13 s8 <;> rfl

def cycT (th su c t : Int) : Int := btw (-1125899906842624000) 1125899906842624000 (th * 1000 + su + ab c * t)
def cycN (th cap cy : Int) : Int := bif decide ((bif decide (2147483647 < th / 2 / cap) then 2147483647 else th / 2 / cap) > cy) then (bif decide (2147483647 < th / 2 / cap) then 2147483647 else th / 2 / cap) else cy

theorem cycstep_ok {s0 s1 s2 s3 s4 s5 s6 s7 s8 s9 s10 s11 s12 s13 s14 s15 s16 s17 s18 s19 s20 s21 s22 c t : Int} (hB : cycB s11 s12 s13 s8 = true) (hc : -2147483648 ≤ c ∧ c ≤ 2147483648) (ht : 1 ≤ t ∧ t ≤ 60000) :
    cycle_Step_g 20000 s0 s1 s2 s3 s4 s5 s6 s7 s8 s9 s10 s11 s12 s13 s14 s15 s16 s17 s18 s19 s20 s21 s22 c t =
      some (s0, s1, s2, s3, s4, s5, s6, s7, s8, s9, s10, cycT s11 s12 c t / 1000, cycT s11 s12 c t % 1000, cycN (cycT s11 s12 c t / 1000) s8 s13, s14, s15, s16, s17, s18, s19, s20, s21, s22, 0, ()) := by
  unfold cycle_Step_g cycle_counted_total_g cycle_counted_cycles_g
  have k := of_decide_eq_true hB
  have a1 := ab_bound (x := c) (M := 2147483648) hc.1 hc.2
  have b1 := ab_nonneg c
  have hp : 0 ≤ ab c * t ∧ ab c * t ≤ 128849018880000 := by
    have h1 := Int.mul_nonneg b1 (show 0 ≤ t by omega)
    have h2 : ab c * t ≤ 2147483648 * 60000 := Int.mul_le_mul a1 ht.2 (by omega) (by omega)
    omega
  have hT : 0 ≤ cycT s11 s12 c t ∧ cycT s11 s12 c t ≤ 1125899906842624000 := by
    unfold cycT btw
    split
    · omega
    · split <;> omega
  have hd := tdiv_pos (a := cycT s11 s12 c t) (b := 1000) hT.1
  have d8 : (s8 == 0) = false := by simp; omega
  have hq : 0 ≤ cycT s11 s12 c t / 1000 ∧ cycT s11 s12 c t / 1000 ≤ 1125899906842624 := by omega
  have h2 := (tdiv_pos (a := cycT s11 s12 c t / 1000) (b := 2) hq.1).1
  have h3 := (tdiv_pos (a := cycT s11 s12 c t / 1000 / 2) (b := s8) (by omega)).1
  have h4 : 0 ≤ cycT s11 s12 c t / 1000 / 2 / s8 := Int.ediv_nonneg (by omega) (by omega)
  have h5 : cycT s11 s12 c t / 1000 / 2 / s8 ≤ cycT s11 s12 c t / 1000 / 2 := Int.ediv_le_self _ (by omega)
  rw [fxs_ok 20000 (by omega) (by omega), cright_ok, hB]
  simp only [Option.bind_some, Bool.not_true, cond_false]
  rw [decide_eq_false (show ¬ ab c > 2147483648 by omega), decide_eq_false (show ¬ t < 1 by omega), decide_eq_false (show ¬ t > 60000 by omega)]
  simp only [cond_false]
  rw [wi64_id (x := s11 * 1000) (by omega) (by omega), wi64_id (x := s11 * 1000 + s12) (by omega) (by omega), wi64_id (x := ab c * t) (by omega) (by omega), sumB2 1125899906842624000 _ _ (by omega) (by omega) (by omega) (by omega) (by omega) (by omega)]
  have e : btw (-1125899906842624000) 1125899906842624000 (s11 * 1000 + s12 + ab c * t) = cycT s11 s12 c t := rfl
  simp only [Option.bind_some, e, hd.1, hd.2, d8, cond_false]
  rw [wi64_id (x := cycT s11 s12 c t / 1000) (by omega) (by omega), h2, wi64_id (x := cycT s11 s12 c t / 1000 / 2) (by omega) (by omega), h3, wi64_id (x := cycT s11 s12 c t / 1000 / 2 / s8) (by omega) (by omega)]
  rfl
end Go.Proofs.YtjmbhhinmbgneaaGreat
