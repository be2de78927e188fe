/-
  Lines of a converter: what the printed functions compute.
-/
import Derived.Test.YtjmbhhinmbgneaaGreatsD
namespace Go.Proofs.YtjmbhhinmbgneaaGreat.PA
open Go.Sy
set_option maxHeartbeats 1000000

def rawB (x : Int) : Bool := decide (-1048576 ≤ x ∧ x ≤ 1048576)

theorem raw1_ok (K : Nat) (x : Int) : adc_raw_1_g K x = some (!rawB x, ()) := by
  unfold adc_raw_1_g rawB
  by_cases h1 : x < -1048576
  · have : ¬ (-1048576 ≤ x ∧ x ≤ 1048576) := by omega
    simp [h1, this]
  · by_cases h2 : x > 1048576
    · have : ¬ (-1048576 ≤ x ∧ x ≤ 1048576) := by omega
      simp [h1, h2, this]
    · have : -1048576 ≤ x ∧ x ≤ 1048576 := by omega
      simp [h1, h2, this]

/-- Are all from i on counts? -/
def rawFrom (m : Nat → Int) (i : Nat) : Nat → Bool
  | 0 => true
  | d + 1 => rawB (m i) && rawFrom m (i + 1) d

theorem rawFrom_get {m : Nat → Int} : ∀ {d i : Nat}, rawFrom m i d = true → ∀ j, i ≤ j → j < i + d → rawB (m j) = true
  | 0, i, _, j, h1, h2 => by omega
  | d + 1, i, h, j, h1, h2 => by
    simp only [rawFrom, Bool.and_eq_true] at h
    by_cases e : j = i
    · subst e; exact h.1
    · exact rawFrom_get h.2 j (by omega) (by omega)

theorem nat_lt_dec {i n : Nat} (h : i < n) : decide ((i : Int) < (n : Int)) = true := by simp; omega
theorem nat_nn_dec (i : Nat) : decide (0 ≤ (i : Int)) = true := by simp
theorem wi_succ {i : Nat} (h : i < 1000000) : wi64 ((i : Int) + 1) = ((i + 1 : Nat) : Int) := by rw [wi64_id (by omega) (by omega)]; simp
theorem nat_lt_self (n : Nat) : decide ((n : Int) < (n : Int)) = false := by simp

theorem raw_loop (n : Nat) (m : Nat → Int) (hn : n < 20000) : ∀ (d i fuel : Nat), i + d = n → d < fuel →
    ∃ k : Nat, adc_raw_l0 20000 fuel n (n : Int) (i : Int) m = some (bif rawFrom m i d then .inl () else .inr ((k : Int), ()))
  | 0, i, fuel, hd, hf => by
    obtain ⟨f, rfl⟩ : ∃ f, fuel = f + 1 := ⟨fuel - 1, by omega⟩
    refine ⟨0, ?_⟩
    show adc_raw_l0r 20000 (adc_raw_l0 20000 f) n (n : Int) (i : Int) m = _
    have e : i = n := by omega
    subst e
    simp only [adc_raw_l0r, nat_lt_self, cond_false, rawFrom, cond_true]
  | d + 1, i, fuel, hd, hf => by
    obtain ⟨f, rfl⟩ : ∃ f, fuel = f + 1 := ⟨fuel - 1, by omega⟩
    have hin : i < n := by omega
    obtain ⟨k, ih⟩ := raw_loop n m hn d (i + 1) f (by omega) (by omega)
    have e0 : adc_raw_l0 20000 (f + 1) n (n : Int) (i : Int) m = adc_raw_l0r 20000 (adc_raw_l0 20000 f) n (n : Int) (i : Int) m := rfl
    rw [e0]
    simp only [adc_raw_l0r, nat_lt_dec hin, nat_nn_dec, Bool.and_self, cond_true, Int.toNat_natCast, raw1_ok, Option.bind_some, wi_succ (show i < 1000000 by omega), rawFrom, ih]
    cases rawB (m i)
    · exact ⟨i, rfl⟩
    · exact ⟨k, rfl⟩

theorem raw_ok (n : Nat) (m : Nat → Int) (hn : n < 20000) : adc_raw_g 20000 n m = some (rawFrom m 0 n, ()) := by
  obtain ⟨k, h⟩ := raw_loop n m hn n 0 20000 (by omega) (by omega)
  unfold adc_raw_g
  have h' : adc_raw_l0 20000 20000 n (n : Int) 0 m = _ := h
  rw [h']
  cases rawFrom m 0 n
  · simp
  · rfl

theorem rawB_iff {x : Int} : rawB x = true ↔ -1048576 ≤ x ∧ x ≤ 1048576 := by simp [rawB]

def lineB (z g p : Int) : Bool := rawB z && rawB g && decide (1 ≤ p ∧ p ≤ 1048576)
def lineE (z g p : Int) : Int := bif lineB z g p then 0 else 120

theorem check_ok (z g p : Int) : adc_Check_g 20000 z g p = some (lineE z g p, ()) := by
  unfold adc_Check_g
  rw [raw_ok 3 _ (by omega)]
  have e : rawFrom (fun j => selI [z, g, p] j) 0 3 = (rawB z && (rawB g && rawB p)) := by simp [rawFrom, selI]
  rw [e]
  simp only [Option.bind_some, lineE, lineB]
  cases rawB z
  · rfl
  · cases rawB g
    · rfl
    · unfold rawB
      by_cases h1 : p < 1
      · have : ¬ (1 ≤ p ∧ p ≤ 1048576) := by omega
        by_cases h2 : -1048576 ≤ p ∧ p ≤ 1048576 <;> simp [h1, h2] <;> (try omega)
        all_goals (have h3 : ¬ (1 ≤ p) := by omega); simp [h3]
      · by_cases h2 : p ≤ 1048576
        · have h3 : -1048576 ≤ p ∧ p ≤ 1048576 := by omega
          have h4 : 1 ≤ p ∧ p ≤ 1048576 := by omega
          simp [h1, h3, h4]
        · have h3 : ¬ (-1048576 ≤ p ∧ p ≤ 1048576) := by omega
          have h4 : ¬ (1 ≤ p ∧ p ≤ 1048576) := by omega
          simp [h1, h3, h4]

/-- A count's unit, as the document has it. -/
def unitV (z g p c : Int) : Int := btw (-2147483648) 2147483648 (nr ((c - z) * g) p)

theorem lineB_iff {z g p : Int} : lineB z g p = true ↔ (-1048576 ≤ z ∧ z ≤ 1048576) ∧ (-1048576 ≤ g ∧ g ≤ 1048576) ∧ (1 ≤ p ∧ p ≤ 1048576) := by
  unfold lineB
  rw [Bool.and_eq_true, Bool.and_eq_true, rawB_iff, rawB_iff, decide_eq_true_eq]
  exact and_assoc

theorem prod_small {z g p c : Int} (h : lineB z g p = true) (hc : rawB c = true) : ab ((c - z) * g) ≤ 2199023255552 := by
  have h1 := lineB_iff.1 h
  have h2 := rawB_iff.1 hc
  have := ab_mul_le (x := c - z) (y := g) (M := 2097152) (N := 1048576) (ab_bound (by omega) (by omega)) (ab_bound (by omega) (by omega)) (by omega)
  omega

theorem told_ok {z g p c : Int} (h : lineB z g p = true) (hc : rawB c = true) : adc_told_unit_g 20000 z g p c = some (unitV z g p c, ()) := by
  have h1 := lineB_iff.1 h
  have h2 := rawB_iff.1 hc
  have h3 := prod_small h hc
  have h4 := nr_bound (a := (c - z) * g) (b := p) (by omega) h3
  unfold adc_told_unit_g
  rw [wi64_id (x := c - z) (by omega) (by omega), mulnear_low 20000 (c - z) g p (by omega) (by omega) (by omega) (by omega) (by omega) (by omega) (by omega), fit_ok (by omega) (by omega)]
  simp only [Option.bind_some]
  unfold fx_Clamp_g
  have hb : fx_bound_g 20000 2147483648 = some (0, ()) := rfl
  rw [hb]
  simp only [Option.bind_some]
  rw [fx_between_ok]
  rfl

theorem unit_ok {z g p c : Int} (h : lineB z g p = true) (hc : rawB c = true) : adc_Unit_g 20000 z g p c = some (unitV z g p c, 0, ()) := by
  unfold adc_Unit_g
  rw [check_ok, raw_ok 1 _ (by omega), told_ok h hc]
  have e : rawFrom (fun j => selI [c] j) 0 1 = rawB c := by simp [rawFrom, selI]
  rw [e, hc]
  simp only [Option.bind_some, lineE, h]
  rfl

theorem lineE_zero {z g p : Int} (h : lineB z g p = true) : (lineE z g p != 0) = false := by unfold lineE; rw [h]; rfl
theorem lineE_bad {z g p : Int} (h : lineB z g p = false) : (lineE z g p != 0) = true := by unfold lineE; rw [h]; rfl

def unitE (z g p c : Int) : Int × Int × Unit := bif lineB z g p then (bif rawB c then (unitV z g p c, 0, ()) else (0, 2, ())) else (0, 120, ())

theorem unit_all (z g p c : Int) : adc_Unit_g 20000 z g p c = some (unitE z g p c) := by
  unfold unitE
  cases h : lineB z g p
  · unfold adc_Unit_g
    rw [check_ok]
    simp only [Option.bind_some, lineE_bad h, cond_true]
    unfold lineE
    rw [h]
    rfl
  · cases hc : rawB c
    · unfold adc_Unit_g
      have e : rawFrom (fun j => selI [c] j) 0 1 = rawB c := by simp [rawFrom, selI]
      rw [check_ok, raw_ok 1 _ (by omega), e, hc]
      simp only [Option.bind_some, lineE_zero h, cond_false]
      rfl
    · exact unit_ok h hc

end Go.Proofs.YtjmbhhinmbgneaaGreat.PA
