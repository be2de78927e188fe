/-
  Numbers of twenty digits: what the printed functions compute, in numbers.
-/
import Derived.Test.YtjmbhhinmbgneaaGreatsH
import Derived.Test.YtjmbhhinmbgneaaGreatsN
namespace Go.Proofs.YtjmbhhinmbgneaaGreat
open Go.Sy
set_option maxHeartbeats 1000000

def P : Nat → Int
  | 0 => 1
  | n + 1 => P n * 256

theorem P_pos : ∀ n, 0 < P n
  | 0 => by decide
  | n + 1 => by have := P_pos n; simp only [P]; omega

theorem P_add (a : Nat) : ∀ b, P (a + b) = P a * P b
  | 0 => by simp [P]
  | b + 1 => by rw [show a + (b + 1) = (a + b) + 1 by omega]; simp only [P]; rw [P_add a b]; grind

theorem P_mono {a b : Nat} (h : a ≤ b) : P a ≤ P b := by
  obtain ⟨d, rfl⟩ : ∃ d, b = a + d := ⟨b - a, by omega⟩
  rw [P_add]
  have h1 := P_pos a
  have h2 := P_pos d
  have : P a * 1 ≤ P a * P d := Int.mul_le_mul_of_nonneg_left (by omega) (by omega)
  omega

def val (D : Nat → Int) : Nat → Int
  | 0 => 0
  | n + 1 => val D n + D n * P n

def put (D : Nat → Int) (i : Nat) (v : Int) : Nat → Int := fun j => bif Nat.beq i j then v else D j

theorem put_eq (D : Nat → Int) (i : Nat) (v : Int) : put D i v i = v := by simp [put]
theorem put_ne (D : Nat → Int) {i j : Nat} (v : Int) (h : i ≠ j) : put D i v j = D j := by unfold put; rw [beq_ne h]; rfl

def dig (D : Nat → Int) : Prop := ∀ j, j < 20 → 0 ≤ D j ∧ D j ≤ 255

theorem dig_put {D : Nat → Int} (h : dig D) {i : Nat} {v : Int} (h0 : 0 ≤ v) (h1 : v ≤ 255) : dig (put D i v) := by
  intro j hj
  by_cases e : i = j
  · subst e; rw [put_eq]; exact ⟨h0, h1⟩
  · rw [put_ne D v e]; exact h j hj

theorem val_congr {D E : Nat → Int} : ∀ n, (∀ j, j < n → D j = E j) → val D n = val E n
  | 0, _ => rfl
  | n + 1, h => by simp only [val]; rw [val_congr n (fun j hj => h j (by omega)), h n (by omega)]

theorem val_put (D : Nat → Int) (i : Nat) (v : Int) : ∀ n, i < n → val (put D i v) n = val D n + (v - D i) * P i
  | 0, h => by omega
  | n + 1, h => by
    simp only [val]
    by_cases e : i = n
    · subst e
      rw [put_eq, val_congr (E := D) i (fun j hj => put_ne D v (by omega))]
      grind
    · rw [put_ne D v e, val_put D i v n (by omega)]
      omega

theorem val_bound {D : Nat → Int} (h : dig D) : ∀ n, n ≤ 20 → 0 ≤ val D n ∧ val D n < P n
  | 0, _ => by simp [val, P]
  | n + 1, hn => by
    obtain ⟨h1, h2⟩ := val_bound h n (by omega)
    obtain ⟨h3, h4⟩ := h n (by omega)
    have hp := P_pos n
    have h5 : 0 ≤ D n * P n := Int.mul_nonneg h3 (by omega)
    have h6 : D n * P n ≤ 255 * P n := Int.mul_le_mul_of_nonneg_right h4 (by omega)
    simp only [val, P]
    omega

theorem val_zero {D : Nat → Int} : ∀ n, (∀ j, j < n → D j = 0) → val D n = 0
  | 0, _ => rfl
  | n + 1, h => by simp only [val]; rw [val_zero n (fun j hj => h j (by omega)), h n (by omega)]; simp

/-- Digits of no weight above. -/
theorem val_high {D : Nat → Int} (m : Nat) : ∀ d, (∀ j, m ≤ j → j < m + d → D j = 0) → val D (m + d) = val D m
  | 0, _ => rfl
  | d + 1, h => by
    rw [show m + (d + 1) = (m + d) + 1 by omega]
    simp only [val]
    rw [val_high m d (fun j h1 h2 => h j h1 (by omega)), h (m + d) (by omega) (by omega)]
    simp

theorem val_mono {D : Nat → Int} (h : dig D) {m n : Nat} (hmn : m ≤ n) (hn : n ≤ 20) : val D m ≤ val D n := by
  obtain ⟨d, rfl⟩ : ∃ d, n = m + d := ⟨n - m, by omega⟩
  induction d with
  | zero => exact Int.le_refl _
  | succ d ih =>
    have := ih (by omega) (by omega)
    rw [show m + (d + 1) = (m + d) + 1 by omega]
    simp only [val]
    have := Int.mul_nonneg (h (m + d) (by omega)).1 (Int.le_of_lt (P_pos (m + d)))
    omega

theorem val_s (D : Nat → Int) (n : Nat) : val D (n + 1) = val D n + D n * P n := rfl
theorem P_s (n : Nat) : P (n + 1) = P n * 256 := rfl

theorem dig_ge {D : Nat → Int} (h : dig D) {j n : Nat} (hj : j < n) (hn : n ≤ 20) : D j * P j ≤ val D n := by
  have h1 := val_mono h (m := j + 1) (n := n) (by omega) hn
  have h2 := (val_bound h j (by omega)).1
  simp only [val] at h1
  omega
theorem sel20 (D : Nat → Int) : ∀ i, i < 20 → selI [D 0, D 1, D 2, D 3, D 4, D 5, D 6, D 7, D 8, D 9, D 10, D 11, D 12, D 13, D 14, D 15, D 16, D 17, D 18, D 19] i = D i
  | 0, _ => rfl
  | 1, _ => rfl
  | 2, _ => rfl
  | 3, _ => rfl
  | 4, _ => rfl
  | 5, _ => rfl
  | 6, _ => rfl
  | 7, _ => rfl
  | 8, _ => rfl
  | 9, _ => rfl
  | 10, _ => rfl
  | 11, _ => rfl
  | 12, _ => rfl
  | 13, _ => rfl
  | 14, _ => rfl
  | 15, _ => rfl
  | 16, _ => rfl
  | 17, _ => rfl
  | 18, _ => rfl
  | 19, _ => rfl
  | n + 20, h => by omega

theorem lt20 {i : Nat} (h : i < 20) : decide ((i : Int) < 20) = true := by simp; omega
theorem ge0 (i : Nat) : decide (0 ≤ (i : Int)) = true := by simp
theorem ge0' (i : Nat) : decide ((i : Int) ≥ 0) = true := by simp
theorem up1 {i : Nat} (h : i < 20000) : wi64 ((i : Int) + 1) = ((i + 1 : Nat) : Int) := by rw [wi64_id (by omega) (by omega)]; simp
theorem down1 {i : Nat} (h : i < 20000) : wi64 (((i + 1 : Nat) : Int) - 1) = (i : Int) := by rw [wi64_id (by omega) (by omega)]; simp
theorem t_pos {a : Int} (h : 0 ≤ a) : Int.tdiv a 256 = a / 256 ∧ Int.tmod a 256 = a % 256 := tdiv_pos h

/-! ### Sums and differences -/
noncomputable def plusL (n : Nat) (c i : Int) (A B Z : Nat → Int) := r04_plus_l0 20000 n c i (A 0) (A 1) (A 2) (A 3) (A 4) (A 5) (A 6) (A 7) (A 8) (A 9) (A 10) (A 11) (A 12) (A 13) (A 14) (A 15) (A 16) (A 17) (A 18) (A 19) (B 0) (B 1) (B 2) (B 3) (B 4) (B 5) (B 6) (B 7) (B 8) (B 9) (B 10) (B 11) (B 12) (B 13) (B 14) (B 15) (B 16) (B 17) (B 18) (B 19) (Z 0) (Z 1) (Z 2) (Z 3) (Z 4) (Z 5) (Z 6) (Z 7) (Z 8) (Z 9) (Z 10) (Z 11) (Z 12) (Z 13) (Z 14) (Z 15) (Z 16) (Z 17) (Z 18) (Z 19)

theorem plus_round (n : Nat) (c : Int) (i : Nat) (A B Z : Nat → Int) (hi : i < 20) (hA : dig A) (hB : dig B) (hc : 0 ≤ c ∧ c ≤ 1) :
    plusL (n + 1) c i A B Z = plusL n ((A i + B i + c) / 256) ((i + 1 : Nat) : Int) (put A i ((A i + B i + c) % 256)) B Z := by
  have e : plusL (n + 1) c i A B Z = r04_plus_l0r 20000 (r04_plus_l0 20000 n) c i (A 0) (A 1) (A 2) (A 3) (A 4) (A 5) (A 6) (A 7) (A 8) (A 9) (A 10) (A 11) (A 12) (A 13) (A 14) (A 15) (A 16) (A 17) (A 18) (A 19) (B 0) (B 1) (B 2) (B 3) (B 4) (B 5) (B 6) (B 7) (B 8) (B 9) (B 10) (B 11) (B 12) (B 13) (B 14) (B 15) (B 16) (B 17) (B 18) (B 19) (Z 0) (Z 1) (Z 2) (Z 3) (Z 4) (Z 5) (Z 6) (Z 7) (Z 8) (Z 9) (Z 10) (Z 11) (Z 12) (Z 13) (Z 14) (Z 15) (Z 16) (Z 17) (Z 18) (Z 19) := rfl
  have a1 := hA i hi
  have b1 := hB i hi
  have e1 : wi64 (wi64 (A i + B i) + c) = A i + B i + c := by rw [wi64_id (x := A i + B i) (by omega) (by omega), wi64_id (by omega) (by omega)]
  have e2 : wi64 ((A i + B i + c) / 256) = (A i + B i + c) / 256 := wi64_id (by omega) (by omega)
  rw [e]
  simp only [r04_plus_l0r, lt20 hi, ge0, Bool.and_self, cond_true, Int.toNat_natCast, sel20 A i hi, sel20 B i hi, e1, (t_pos (a := A i + B i + c) (by omega)).1, (t_pos (a := A i + B i + c) (by omega)).2, e2, up1 (show i < 20000 by omega)]
  rfl

theorem plus_loop (B Z : Nat → Int) (hB : dig B) (X : Int) : ∀ (d i n : Nat) (c : Int) (A : Nat → Int), i + d = 20 → d < n → dig A → (0 ≤ c ∧ c ≤ 1) → val A 20 + c * P i - val B i = X →
    ∃ R c', dig R ∧ (0 ≤ c' ∧ c' ≤ 1) ∧ val R 20 + c' * P 20 - val B 20 = X ∧ plusL n c i A B Z = some (R 0, R 1, R 2, R 3, R 4, R 5, R 6, R 7, R 8, R 9, R 10, R 11, R 12, R 13, R 14, R 15, R 16, R 17, R 18, R 19, Z 0, Z 1, Z 2, Z 3, Z 4, Z 5, Z 6, Z 7, Z 8, Z 9, Z 10, Z 11, Z 12, Z 13, Z 14, Z 15, Z 16, Z 17, Z 18, Z 19, ())
  | 0, i, n, c, A, hd, hn, hA, hc, hX => by
    obtain ⟨n, rfl⟩ : ∃ n', n = n' + 1 := ⟨n - 1, by omega⟩
    have e : i = 20 := by omega
    subst e
    exact ⟨A, c, hA, hc, hX, rfl⟩
  | d + 1, i, n, c, A, hd, hn, hA, hc, hX => by
    obtain ⟨n, rfl⟩ : ∃ n', n = n' + 1 := ⟨n - 1, by omega⟩
    have hi : i < 20 := by omega
    have a1 := hA i hi
    have b1 := hB i hi
    rw [plus_round n c i A B Z hi hA hB hc]
    refine plus_loop B Z hB X d (i + 1) n _ _ (by omega) (by omega) (dig_put hA (by omega) (by omega)) (by omega) ?_
    rw [val_put A i _ 20 hi, val_s B i, P_s i]
    have hs : A i + B i + c = 256 * ((A i + B i + c) / 256) + (A i + B i + c) % 256 := by omega
    generalize (A i + B i + c) / 256 = q at *
    generalize (A i + B i + c) % 256 = r at *
    have hr : r = A i + B i + c - 256 * q := by omega
    subst hr
    rw [← hX]
    generalize val A 20 = a
    generalize val B i = b
    generalize P i = pi
    grind

theorem plus_ok (A B : Nat → Int) (hA : dig A) (hB : dig B) (h : val A 20 + val B 20 < P 20) : ∃ R, dig R ∧ val R 20 = val A 20 + val B 20 ∧ r04_plus_g 20000 (A 0) (A 1) (A 2) (A 3) (A 4) (A 5) (A 6) (A 7) (A 8) (A 9) (A 10) (A 11) (A 12) (A 13) (A 14) (A 15) (A 16) (A 17) (A 18) (A 19) (B 0) (B 1) (B 2) (B 3) (B 4) (B 5) (B 6) (B 7) (B 8) (B 9) (B 10) (B 11) (B 12) (B 13) (B 14) (B 15) (B 16) (B 17) (B 18) (B 19) = some (R 0, R 1, R 2, R 3, R 4, R 5, R 6, R 7, R 8, R 9, R 10, R 11, R 12, R 13, R 14, R 15, R 16, R 17, R 18, R 19, ()) := by
  obtain ⟨R, c, h1, h2, h3, h4⟩ := plus_loop B (fun _ => 0) hB (val A 20) 20 0 20000 0 A (by omega) (by omega) hA (by omega) (by simp [val])
  have hR := val_bound h1 20 (by omega)
  have hp := P_pos 20
  have hc : c = 0 := by
    rcases (show c = 0 ∨ c = 1 by omega) with h | h
    · exact h
    · subst h; omega
  subst hc
  refine ⟨R, h1, by omega, ?_⟩
  unfold r04_plus_g
  have h4' : r04_plus_l0 20000 20000 0 0 (A 0) (A 1) (A 2) (A 3) (A 4) (A 5) (A 6) (A 7) (A 8) (A 9) (A 10) (A 11) (A 12) (A 13) (A 14) (A 15) (A 16) (A 17) (A 18) (A 19) (B 0) (B 1) (B 2) (B 3) (B 4) (B 5) (B 6) (B 7) (B 8) (B 9) (B 10) (B 11) (B 12) (B 13) (B 14) (B 15) (B 16) (B 17) (B 18) (B 19) 0 0 0 0 0 0 0 0 0 0 0 0 0 0 0 0 0 0 0 0 = _ := h4
  rw [h4']
  rfl

noncomputable def lessL (n : Nat) (c i : Int) (A B Z : Nat → Int) := r04_less_l0 20000 n c i (A 0) (A 1) (A 2) (A 3) (A 4) (A 5) (A 6) (A 7) (A 8) (A 9) (A 10) (A 11) (A 12) (A 13) (A 14) (A 15) (A 16) (A 17) (A 18) (A 19) (B 0) (B 1) (B 2) (B 3) (B 4) (B 5) (B 6) (B 7) (B 8) (B 9) (B 10) (B 11) (B 12) (B 13) (B 14) (B 15) (B 16) (B 17) (B 18) (B 19) (Z 0) (Z 1) (Z 2) (Z 3) (Z 4) (Z 5) (Z 6) (Z 7) (Z 8) (Z 9) (Z 10) (Z 11) (Z 12) (Z 13) (Z 14) (Z 15) (Z 16) (Z 17) (Z 18) (Z 19)

theorem less_round (n : Nat) (c : Int) (i : Nat) (A B Z : Nat → Int) (hi : i < 20) (hA : dig A) (hB : dig B) (hc : 0 ≤ c ∧ c ≤ 1) :
    lessL (n + 1) c i A B Z = if A i - B i - c < 0 then lessL n 1 ((i + 1 : Nat) : Int) (put A i (A i - B i - c + 256)) B Z else lessL n 0 ((i + 1 : Nat) : Int) (put A i (A i - B i - c)) B Z := by
  have e : lessL (n + 1) c i A B Z = r04_less_l0r 20000 (r04_less_l0 20000 n) c i (A 0) (A 1) (A 2) (A 3) (A 4) (A 5) (A 6) (A 7) (A 8) (A 9) (A 10) (A 11) (A 12) (A 13) (A 14) (A 15) (A 16) (A 17) (A 18) (A 19) (B 0) (B 1) (B 2) (B 3) (B 4) (B 5) (B 6) (B 7) (B 8) (B 9) (B 10) (B 11) (B 12) (B 13) (B 14) (B 15) (B 16) (B 17) (B 18) (B 19) (Z 0) (Z 1) (Z 2) (Z 3) (Z 4) (Z 5) (Z 6) (Z 7) (Z 8) (Z 9) (Z 10) (Z 11) (Z 12) (Z 13) (Z 14) (Z 15) (Z 16) (Z 17) (Z 18) (Z 19) := rfl
  have a1 := hA i hi
  have b1 := hB i hi
  have e1 : wi64 (wi64 (A i - B i) - c) = A i - B i - c := by rw [wi64_id (x := A i - B i) (by omega) (by omega), wi64_id (by omega) (by omega)]
  have e2 : wi64 (A i - B i - c + 256) = A i - B i - c + 256 := wi64_id (by omega) (by omega)
  rw [e]
  by_cases h : A i - B i - c < 0
  · rw [if_pos h]
    simp only [r04_less_l0r, lt20 hi, ge0, Bool.and_self, cond_true, Int.toNat_natCast, sel20 A i hi, sel20 B i hi, e1, decide_eq_true h, e2, up1 (show i < 20000 by omega)]
    rfl
  · rw [if_neg h]
    simp only [r04_less_l0r, lt20 hi, ge0, Bool.and_self, cond_true, cond_false, Int.toNat_natCast, sel20 A i hi, sel20 B i hi, e1, decide_eq_false h, up1 (show i < 20000 by omega)]
    rfl

theorem less_loop (B Z : Nat → Int) (hB : dig B) (X : Int) : ∀ (d i n : Nat) (c : Int) (A : Nat → Int), i + d = 20 → d < n → dig A → (0 ≤ c ∧ c ≤ 1) → val A 20 - c * P i + val B i = X →
    ∃ R c', dig R ∧ (0 ≤ c' ∧ c' ≤ 1) ∧ val R 20 - c' * P 20 + val B 20 = X ∧ lessL n c i A B Z = some (R 0, R 1, R 2, R 3, R 4, R 5, R 6, R 7, R 8, R 9, R 10, R 11, R 12, R 13, R 14, R 15, R 16, R 17, R 18, R 19, Z 0, Z 1, Z 2, Z 3, Z 4, Z 5, Z 6, Z 7, Z 8, Z 9, Z 10, Z 11, Z 12, Z 13, Z 14, Z 15, Z 16, Z 17, Z 18, Z 19, ())
  | 0, i, n, c, A, hd, hn, hA, hc, hX => by
    obtain ⟨n, rfl⟩ : ∃ n', n = n' + 1 := ⟨n - 1, by omega⟩
    have e : i = 20 := by omega
    subst e
    exact ⟨A, c, hA, hc, hX, rfl⟩
  | d + 1, i, n, c, A, hd, hn, hA, hc, hX => by
    obtain ⟨n, rfl⟩ : ∃ n', n = n' + 1 := ⟨n - 1, by omega⟩
    have hi : i < 20 := by omega
    have a1 := hA i hi
    have b1 := hB i hi
    rw [less_round n c i A B Z hi hA hB hc]
    split
    · refine less_loop B Z hB X d (i + 1) n _ _ (by omega) (by omega) (dig_put hA (by omega) (by omega)) (by omega) ?_
      rw [val_put A i _ 20 hi, val_s B i, P_s i, ← hX]
      generalize val A 20 = a
      generalize val B i = b
      generalize P i = pi
      grind
    · refine less_loop B Z hB X d (i + 1) n _ _ (by omega) (by omega) (dig_put hA (by omega) (by omega)) (by omega) ?_
      rw [val_put A i _ 20 hi, val_s B i, P_s i, ← hX]
      generalize val A 20 = a
      generalize val B i = b
      generalize P i = pi
      grind

theorem less_ok (A B : Nat → Int) (hA : dig A) (hB : dig B) (h : val B 20 ≤ val A 20) : ∃ R, dig R ∧ val R 20 = val A 20 - val B 20 ∧ r04_less_g 20000 (A 0) (A 1) (A 2) (A 3) (A 4) (A 5) (A 6) (A 7) (A 8) (A 9) (A 10) (A 11) (A 12) (A 13) (A 14) (A 15) (A 16) (A 17) (A 18) (A 19) (B 0) (B 1) (B 2) (B 3) (B 4) (B 5) (B 6) (B 7) (B 8) (B 9) (B 10) (B 11) (B 12) (B 13) (B 14) (B 15) (B 16) (B 17) (B 18) (B 19) = some (R 0, R 1, R 2, R 3, R 4, R 5, R 6, R 7, R 8, R 9, R 10, R 11, R 12, R 13, R 14, R 15, R 16, R 17, R 18, R 19, ()) := by
  obtain ⟨R, c, h1, h2, h3, h4⟩ := less_loop B (fun _ => 0) hB (val A 20) 20 0 20000 0 A (by omega) (by omega) hA (by omega) (by simp [val])
  have hR := val_bound h1 20 (by omega)
  have hp := P_pos 20
  have hc : c = 0 := by
    rcases (show c = 0 ∨ c = 1 by omega) with h | h
    · exact h
    · subst h; omega
  subst hc
  refine ⟨R, h1, by omega, ?_⟩
  unfold r04_less_g
  have h4' : r04_less_l0 20000 20000 0 0 (A 0) (A 1) (A 2) (A 3) (A 4) (A 5) (A 6) (A 7) (A 8) (A 9) (A 10) (A 11) (A 12) (A 13) (A 14) (A 15) (A 16) (A 17) (A 18) (A 19) (B 0) (B 1) (B 2) (B 3) (B 4) (B 5) (B 6) (B 7) (B 8) (B 9) (B 10) (B 11) (B 12) (B 13) (B 14) (B 15) (B 16) (B 17) (B 18) (B 19) 0 0 0 0 0 0 0 0 0 0 0 0 0 0 0 0 0 0 0 0 = _ := h4
  rw [h4']
  rfl

/-! ### Held against each other -/
noncomputable def agL (n : Nat) (i : Int) (A B : Nat → Int) := r04_against_l0 20000 n i (A 0) (A 1) (A 2) (A 3) (A 4) (A 5) (A 6) (A 7) (A 8) (A 9) (A 10) (A 11) (A 12) (A 13) (A 14) (A 15) (A 16) (A 17) (A 18) (A 19) (B 0) (B 1) (B 2) (B 3) (B 4) (B 5) (B 6) (B 7) (B 8) (B 9) (B 10) (B 11) (B 12) (B 13) (B 14) (B 15) (B 16) (B 17) (B 18) (B 19)

theorem ag_loop (A B : Nat → Int) (hA : dig A) (hB : dig B) : ∀ (d n : Nat), d ≤ 20 → d < n →
    agL n ((d : Int) - 1) A B = some (if val A d < val B d then .inr (-1, ()) else if val B d < val A d then .inr (1, ()) else .inl ())
  | 0, n, hd, hn => by
    obtain ⟨n, rfl⟩ : ∃ n', n = n' + 1 := ⟨n - 1, by omega⟩
    rfl
  | d + 1, n, hd, hn => by
    obtain ⟨n, rfl⟩ : ∃ n', n = n' + 1 := ⟨n - 1, by omega⟩
    have hi : d < 20 := by omega
    have ih := ag_loop A B hA hB d n (by omega) (by omega)
    have a1 := hA d hi
    have b1 := hB d hi
    have va := val_bound hA d (by omega)
    have vb := val_bound hB d (by omega)
    have hp := P_pos d
    have e0 : (((d + 1 : Nat) : Int) - 1) = (d : Int) := by simp
    rw [e0]
    have e : agL (n + 1) (d : Int) A B = r04_against_l0r 20000 (r04_against_l0 20000 n) (d : Int) (A 0) (A 1) (A 2) (A 3) (A 4) (A 5) (A 6) (A 7) (A 8) (A 9) (A 10) (A 11) (A 12) (A 13) (A 14) (A 15) (A 16) (A 17) (A 18) (A 19) (B 0) (B 1) (B 2) (B 3) (B 4) (B 5) (B 6) (B 7) (B 8) (B 9) (B 10) (B 11) (B 12) (B 13) (B 14) (B 15) (B 16) (B 17) (B 18) (B 19) := rfl
    have e2 : wi64 ((d : Int) - 1) = (d : Int) - 1 := wi64_id (by omega) (by omega)
    rw [e, val_s A d, val_s B d]
    by_cases h1 : A d < B d
    · have : A d * P d + 1 * P d ≤ B d * P d := by rw [← Int.add_mul]; exact Int.mul_le_mul_of_nonneg_right (by omega) (by omega)
      rw [if_pos (by omega)]
      simp only [r04_against_l0r, lt20 hi, ge0, ge0', Bool.and_self, cond_true, Int.toNat_natCast, sel20 A d hi, sel20 B d hi, decide_eq_true h1]
    · by_cases h2 : A d > B d
      · have : B d * P d + 1 * P d ≤ A d * P d := by rw [← Int.add_mul]; exact Int.mul_le_mul_of_nonneg_right (by omega) (by omega)
        rw [if_neg (by omega), if_pos (by omega)]
        simp only [r04_against_l0r, lt20 hi, ge0, ge0', Bool.and_self, cond_true, cond_false, Int.toNat_natCast, sel20 A d hi, sel20 B d hi, decide_eq_false h1, decide_eq_true h2]
      · have h3 : A d = B d := by omega
        simp only [r04_against_l0r, lt20 hi, ge0, ge0', Bool.and_self, cond_true, cond_false, Int.toNat_natCast, sel20 A d hi, sel20 B d hi, decide_eq_false h1, decide_eq_false h2, e2]
        have ih' : r04_against_l0 20000 n ((d : Int) - 1) (A 0) (A 1) (A 2) (A 3) (A 4) (A 5) (A 6) (A 7) (A 8) (A 9) (A 10) (A 11) (A 12) (A 13) (A 14) (A 15) (A 16) (A 17) (A 18) (A 19) (B 0) (B 1) (B 2) (B 3) (B 4) (B 5) (B 6) (B 7) (B 8) (B 9) (B 10) (B 11) (B 12) (B 13) (B 14) (B 15) (B 16) (B 17) (B 18) (B 19) = _ := ih
        rw [ih', h3]
        by_cases k1 : val A d < val B d
        · rw [if_pos k1, if_pos (by omega)]
        · by_cases k2 : val B d < val A d
          · rw [if_neg k1, if_pos k2, if_neg (by omega), if_pos (by omega)]
          · rw [if_neg k1, if_neg k2, if_neg (by omega), if_neg (by omega)]

theorem ag_ok (A B : Nat → Int) (hA : dig A) (hB : dig B) : ∃ r, r04_against_g 20000 (A 0) (A 1) (A 2) (A 3) (A 4) (A 5) (A 6) (A 7) (A 8) (A 9) (A 10) (A 11) (A 12) (A 13) (A 14) (A 15) (A 16) (A 17) (A 18) (A 19) (B 0) (B 1) (B 2) (B 3) (B 4) (B 5) (B 6) (B 7) (B 8) (B 9) (B 10) (B 11) (B 12) (B 13) (B 14) (B 15) (B 16) (B 17) (B 18) (B 19) = some (r, ()) ∧ (decide (r ≥ 0) = decide (val B 20 ≤ val A 20)) := by
  unfold r04_against_g
  have h : r04_against_l0 20000 20000 19 (A 0) (A 1) (A 2) (A 3) (A 4) (A 5) (A 6) (A 7) (A 8) (A 9) (A 10) (A 11) (A 12) (A 13) (A 14) (A 15) (A 16) (A 17) (A 18) (A 19) (B 0) (B 1) (B 2) (B 3) (B 4) (B 5) (B 6) (B 7) (B 8) (B 9) (B 10) (B 11) (B 12) (B 13) (B 14) (B 15) (B 16) (B 17) (B 18) (B 19) = _ := ag_loop A B hA hB 20 20000 (by omega) (by omega)
  rw [h]
  by_cases h1 : val A 20 < val B 20
  · rw [if_pos h1]
    exact ⟨-1, rfl, by rw [decide_eq_false (show ¬ val B 20 ≤ val A 20 by omega)]; rfl⟩
  · rw [if_neg h1, decide_eq_true (show val B 20 ≤ val A 20 by omega)]
    by_cases h2 : val B 20 < val A 20
    · rw [if_pos h2]
      exact ⟨1, rfl, rfl⟩
    · rw [if_neg h2]
      exact ⟨0, rfl, rfl⟩

/-! ### Of a number -/
noncomputable def ofL (n : Nat) (x i : Int) (fz : Bool) (Z : Nat → Int) (fd : Bool) (D : Nat → Int) := r04_Of_l0 20000 n x i fz (Z 0) (Z 1) (Z 2) (Z 3) (Z 4) (Z 5) (Z 6) (Z 7) (Z 8) (Z 9) (Z 10) (Z 11) (Z 12) (Z 13) (Z 14) (Z 15) (Z 16) (Z 17) (Z 18) (Z 19) fd (D 0) (D 1) (D 2) (D 3) (D 4) (D 5) (D 6) (D 7) (D 8) (D 9) (D 10) (D 11) (D 12) (D 13) (D 14) (D 15) (D 16) (D 17) (D 18) (D 19)

theorem of_round (n : Nat) (x : Int) (i : Nat) (fz : Bool) (Z : Nat → Int) (fd : Bool) (D : Nat → Int) (hi : i < 8) (hx : 0 ≤ x) (hx' : x < 18446744073709551616) :
    ofL (n + 1) x i fz Z fd D = ofL n (x / 256) ((i + 1 : Nat) : Int) fz Z fd (put D i (x % 256)) := by
  have e : ofL (n + 1) x i fz Z fd D = r04_Of_l0r 20000 (r04_Of_l0 20000 n) x i fz (Z 0) (Z 1) (Z 2) (Z 3) (Z 4) (Z 5) (Z 6) (Z 7) (Z 8) (Z 9) (Z 10) (Z 11) (Z 12) (Z 13) (Z 14) (Z 15) (Z 16) (Z 17) (Z 18) (Z 19) fd (D 0) (D 1) (D 2) (D 3) (D 4) (D 5) (D 6) (D 7) (D 8) (D 9) (D 10) (D 11) (D 12) (D 13) (D 14) (D 15) (D 16) (D 17) (D 18) (D 19) := rfl
  have d8 : decide ((i : Int) < 8) = true := by simp; omega
  have e1 : wi64 (x % 256) = x % 256 := wi64_id (by omega) (by omega)
  have e2 : wu64 (x / 256) = x / 256 := wu64_id (by omega) (by omega)
  rw [e]
  simp only [r04_Of_l0r, d8, lt20 (show i < 20 by omega), ge0, Bool.and_self, cond_true, Int.toNat_natCast, (t_pos hx).1, (t_pos hx).2, e1, e2, up1 (show i < 20000 by omega)]
  rfl

theorem of_loop (fz : Bool) (Z : Nat → Int) (fd : Bool) (X : Int) : ∀ (d i n : Nat) (x : Int) (D : Nat → Int), i + d = 8 → d < n → dig D → (∀ j, i ≤ j → D j = 0) → 0 ≤ x → x < 18446744073709551616 → val D i + x * P i = X →
    ∃ R y, dig R ∧ (∀ j, 8 ≤ j → R j = 0) ∧ 0 ≤ y ∧ val R 8 + y * P 8 = X ∧ ofL n x i fz Z fd D = some (fz, Z 0, Z 1, Z 2, Z 3, Z 4, Z 5, Z 6, Z 7, Z 8, Z 9, Z 10, Z 11, Z 12, Z 13, Z 14, Z 15, Z 16, Z 17, Z 18, Z 19, fd, R 0, R 1, R 2, R 3, R 4, R 5, R 6, R 7, R 8, R 9, R 10, R 11, R 12, R 13, R 14, R 15, R 16, R 17, R 18, R 19, ())
  | 0, i, n, x, D, hd, hn, hD, hz, hx, hx', hX => by
    obtain ⟨n, rfl⟩ : ∃ n', n = n' + 1 := ⟨n - 1, by omega⟩
    have e : i = 8 := by omega
    subst e
    exact ⟨D, x, hD, hz, hx, hX, rfl⟩
  | d + 1, i, n, x, D, hd, hn, hD, hz, hx, hx', hX => by
    obtain ⟨n, rfl⟩ : ∃ n', n = n' + 1 := ⟨n - 1, by omega⟩
    rw [of_round n x i fz Z fd D (by omega) hx hx']
    refine of_loop fz Z fd X d (i + 1) n _ _ (by omega) (by omega) (dig_put hD (by omega) (by omega)) (fun j hj => by rw [put_ne D _ (by omega)]; exact hz j (by omega)) (by omega) (by omega) ?_
    rw [val_s _ i, P_s i, put_eq, val_congr (E := D) i (fun j hj => put_ne D _ (by omega)), ← hX]
    have hr : x % 256 = x - 256 * (x / 256) := by omega
    rw [hr]
    generalize val D i = a
    generalize P i = b
    generalize x / 256 = q
    grind

theorem dig_zero : dig (fun _ => 0) := fun _ _ => by show (0 : Int) ≤ 0 ∧ (0 : Int) ≤ 255; decide

theorem of_size (fd : Bool) (x : Int) (hx : 0 ≤ x) (hx' : x < 18446744073709551616) : ∃ R, dig R ∧ (∀ j, 8 ≤ j → R j = 0) ∧ val R 8 = x ∧ r04_Of_l0 20000 20000 x 0 false 0 0 0 0 0 0 0 0 0 0 0 0 0 0 0 0 0 0 0 0 fd 0 0 0 0 0 0 0 0 0 0 0 0 0 0 0 0 0 0 0 0 = some (false, 0, 0, 0, 0, 0, 0, 0, 0, 0, 0, 0, 0, 0, 0, 0, 0, 0, 0, 0, 0, fd, R 0, R 1, R 2, R 3, R 4, R 5, R 6, R 7, R 8, R 9, R 10, R 11, R 12, R 13, R 14, R 15, R 16, R 17, R 18, R 19, ()) := by
  obtain ⟨R, y, h1, h2, h3, h4, h5⟩ := of_loop false (fun _ => 0) fd x 8 0 20000 x (fun _ => 0) (by omega) (by omega) dig_zero (fun _ _ => rfl) hx hx' (by simp [val, P])
  have hv := val_bound h1 8 (by omega)
  have hp : P 8 = 18446744073709551616 := by decide
  have hy : y = 0 := by rw [hp] at h4; omega
  subst hy
  exact ⟨R, h1, h2, by omega, h5⟩

theorem of_ok (a : Int) (h : -9223372036854775808 ≤ a) (h' : a < 9223372036854775808) : ∃ R, dig R ∧ (∀ j, 8 ≤ j → R j = 0) ∧ val R 8 = ab a ∧ r04_Of_g 20000 a = some (decide (a < 0), R 0, R 1, R 2, R 3, R 4, R 5, R 6, R 7, R 8, R 9, R 10, R 11, R 12, R 13, R 14, R 15, R 16, R 17, R 18, R 19, ()) := by
  have h0 := ab_nonneg a
  have h1 := ab_le h h'
  obtain ⟨R, k1, k2, k3, k4⟩ := of_size (decide (a < 0)) (ab a) h0 (by omega)
  refine ⟨R, k1, k2, k3, ?_⟩
  unfold r04_Of_g
  unfold ab at k4
  by_cases hn : a < 0
  · rw [if_pos hn] at k4
    have e : wu64 (0 - wu64 a) = -a := by simp only [wu64_def]; omega
    rw [decide_eq_true hn] at k4 ⊢
    rw [cond_true, e, k4]
    rfl
  · rw [if_neg hn] at k4
    have e : wu64 a = a := wu64_id (by omega) (by omega)
    rw [decide_eq_false hn] at k4 ⊢
    rw [cond_false, e, k4]
    rfl

/-! ### Products -/
noncomputable def mulI (n : Nat) (i c k : Int) (fa fx fy fn : Bool) (Z X Y N : Nat → Int) := r04_Mul_l1 20000 n i c k fa (Z 0) (Z 1) (Z 2) (Z 3) (Z 4) (Z 5) (Z 6) (Z 7) (Z 8) (Z 9) (Z 10) (Z 11) (Z 12) (Z 13) (Z 14) (Z 15) (Z 16) (Z 17) (Z 18) (Z 19) fx (X 0) (X 1) (X 2) (X 3) (X 4) (X 5) (X 6) (X 7) (X 8) (X 9) (X 10) (X 11) (X 12) (X 13) (X 14) (X 15) (X 16) (X 17) (X 18) (X 19) fy (Y 0) (Y 1) (Y 2) (Y 3) (Y 4) (Y 5) (Y 6) (Y 7) (Y 8) (Y 9) (Y 10) (Y 11) (Y 12) (Y 13) (Y 14) (Y 15) (Y 16) (Y 17) (Y 18) (Y 19) fn (N 0) (N 1) (N 2) (N 3) (N 4) (N 5) (N 6) (N 7) (N 8) (N 9) (N 10) (N 11) (N 12) (N 13) (N 14) (N 15) (N 16) (N 17) (N 18) (N 19)

theorem mul_round (n : Nat) (i k : Nat) (c : Int) (fa fx fy fn : Bool) (Z X Y N : Nat → Int) (hi : i < 8) (hk : k < 8) (hX : dig X) (hY : dig Y) (hN : dig N) (hc : 0 ≤ c ∧ c ≤ 255) :
    mulI (n + 1) i c k fa fx fy fn Z X Y N = mulI n i ((N (i + k) + c + X i * Y k) / 256) ((k + 1 : Nat) : Int) fa fx fy fn Z X Y (put N (i + k) ((N (i + k) + c + X i * Y k) % 256)) := by
  have e : mulI (n + 1) i c k fa fx fy fn Z X Y N = r04_Mul_l1r 20000 (r04_Mul_l1 20000 n) i c k fa (Z 0) (Z 1) (Z 2) (Z 3) (Z 4) (Z 5) (Z 6) (Z 7) (Z 8) (Z 9) (Z 10) (Z 11) (Z 12) (Z 13) (Z 14) (Z 15) (Z 16) (Z 17) (Z 18) (Z 19) fx (X 0) (X 1) (X 2) (X 3) (X 4) (X 5) (X 6) (X 7) (X 8) (X 9) (X 10) (X 11) (X 12) (X 13) (X 14) (X 15) (X 16) (X 17) (X 18) (X 19) fy (Y 0) (Y 1) (Y 2) (Y 3) (Y 4) (Y 5) (Y 6) (Y 7) (Y 8) (Y 9) (Y 10) (Y 11) (Y 12) (Y 13) (Y 14) (Y 15) (Y 16) (Y 17) (Y 18) (Y 19) fn (N 0) (N 1) (N 2) (N 3) (N 4) (N 5) (N 6) (N 7) (N 8) (N 9) (N 10) (N 11) (N 12) (N 13) (N 14) (N 15) (N 16) (N 17) (N 18) (N 19) := rfl
  have d9 : decide ((k : Int) < 9) = true := by simp; omega
  have d8 : decide ((k : Int) < 8) = true := by simp; omega
  have x1 := hX i (by omega)
  have y1 := hY k (by omega)
  have n1 := hN (i + k) (by omega)
  have hp := mul_range (x := X i) (y := Y k) (a := 255) (b := 255) x1.1 x1.2 y1.1 y1.2
  have eik : wi64 ((i : Int) + (k : Int)) = ((i + k : Nat) : Int) := by rw [wi64_id (by omega) (by omega)]; simp
  have es : wi64 (wi64 (N (i + k) + c) + wi64 (X i * Y k)) = N (i + k) + c + X i * Y k := by rw [wi64_id (x := X i * Y k) (by omega) (by omega), wi64_id (x := N (i + k) + c) (by omega) (by omega), wi64_id (by omega) (by omega)]
  have h0 : 0 ≤ N (i + k) + c + X i * Y k := by omega
  have e2 : wi64 ((N (i + k) + c + X i * Y k) / 256) = (N (i + k) + c + X i * Y k) / 256 := wi64_id (by omega) (by omega)
  rw [e]
  simp only [r04_Mul_l1r, d9, d8, eik, lt20 (show i + k < 20 by omega), lt20 (show i < 20 by omega), lt20 (show k < 20 by omega), ge0, Bool.and_self, cond_true, Int.toNat_natCast, sel20 N (i + k) (by omega), sel20 X i (by omega), sel20 Y k (by omega), es, (t_pos h0).1, (t_pos h0).2, e2, up1 (show k < 20000 by omega)]
  rfl

theorem mul_stop (n : Nat) (i : Nat) (c : Int) (fa fx fy fn : Bool) (Z X Y N : Nat → Int) : mulI (n + 1) i c 9 fa fx fy fn Z X Y N = some ((i : Int), fa, Z 0, Z 1, Z 2, Z 3, Z 4, Z 5, Z 6, Z 7, Z 8, Z 9, Z 10, Z 11, Z 12, Z 13, Z 14, Z 15, Z 16, Z 17, Z 18, Z 19, fx, X 0, X 1, X 2, X 3, X 4, X 5, X 6, X 7, X 8, X 9, X 10, X 11, X 12, X 13, X 14, X 15, X 16, X 17, X 18, X 19, fy, Y 0, Y 1, Y 2, Y 3, Y 4, Y 5, Y 6, Y 7, Y 8, Y 9, Y 10, Y 11, Y 12, Y 13, Y 14, Y 15, Y 16, Y 17, Y 18, Y 19, fn, N 0, N 1, N 2, N 3, N 4, N 5, N 6, N 7, N 8, N 9, N 10, N 11, N 12, N 13, N 14, N 15, N 16, N 17, N 18, N 19, ()) := rfl

theorem mul_last' (n : Nat) (i : Nat) (c : Int) (fa fx fy fn : Bool) (Z X Y N : Nat → Int) (hi : i < 8) (hN : dig N) (hc : 0 ≤ c ∧ c ≤ 255) :
    mulI (n + 1) i c 8 fa fx fy fn Z X Y N = mulI n i ((N (i + 8) + c) / 256) 9 fa fx fy fn Z X Y (put N (i + 8) ((N (i + 8) + c) % 256)) := by
  have e : mulI (n + 1) i c 8 fa fx fy fn Z X Y N = r04_Mul_l1r 20000 (r04_Mul_l1 20000 n) i c 8 fa (Z 0) (Z 1) (Z 2) (Z 3) (Z 4) (Z 5) (Z 6) (Z 7) (Z 8) (Z 9) (Z 10) (Z 11) (Z 12) (Z 13) (Z 14) (Z 15) (Z 16) (Z 17) (Z 18) (Z 19) fx (X 0) (X 1) (X 2) (X 3) (X 4) (X 5) (X 6) (X 7) (X 8) (X 9) (X 10) (X 11) (X 12) (X 13) (X 14) (X 15) (X 16) (X 17) (X 18) (X 19) fy (Y 0) (Y 1) (Y 2) (Y 3) (Y 4) (Y 5) (Y 6) (Y 7) (Y 8) (Y 9) (Y 10) (Y 11) (Y 12) (Y 13) (Y 14) (Y 15) (Y 16) (Y 17) (Y 18) (Y 19) fn (N 0) (N 1) (N 2) (N 3) (N 4) (N 5) (N 6) (N 7) (N 8) (N 9) (N 10) (N 11) (N 12) (N 13) (N 14) (N 15) (N 16) (N 17) (N 18) (N 19) := rfl
  have n1 := hN (i + 8) (by omega)
  have eik : wi64 ((i : Int) + 8) = ((i + 8 : Nat) : Int) := by rw [wi64_id (by omega) (by omega)]; simp
  have es : wi64 (N (i + 8) + c) = N (i + 8) + c := wi64_id (by omega) (by omega)
  have h0 : 0 ≤ N (i + 8) + c := by omega
  have e2 : wi64 ((N (i + 8) + c) / 256) = (N (i + 8) + c) / 256 := wi64_id (by omega) (by omega)
  have d9 : decide ((8 : Int) < 9) = true := rfl
  have d8 : decide ((8 : Int) < 8) = false := rfl
  have e9 : wi64 (8 + 1) = 9 := rfl
  obtain ⟨m, hm⟩ : ∃ m, m = i + 8 := ⟨_, rfl⟩
  rw [← hm] at eik es h0 e2 ⊢
  have hm20 : m < 20 := by omega
  rw [e]
  simp only [r04_Mul_l1r, d9, d8, eik, lt20 hm20, ge0, Bool.and_self, cond_true, cond_false, Int.toNat_natCast, sel20 N m hm20, es, (t_pos h0).1, (t_pos h0).2, e2, e9]
  rfl

theorem mul_last (n : Nat) (i : Nat) (c : Int) (fa fx fy fn : Bool) (Z X Y N : Nat → Int) (hi : i < 8) (hN : dig N) (hc : 0 ≤ c ∧ c ≤ 255) :
    mulI (n + 2) i c 8 fa fx fy fn Z X Y N = some ((i : Int), fa, Z 0, Z 1, Z 2, Z 3, Z 4, Z 5, Z 6, Z 7, Z 8, Z 9, Z 10, Z 11, Z 12, Z 13, Z 14, Z 15, Z 16, Z 17, Z 18, Z 19, fx, X 0, X 1, X 2, X 3, X 4, X 5, X 6, X 7, X 8, X 9, X 10, X 11, X 12, X 13, X 14, X 15, X 16, X 17, X 18, X 19, fy, Y 0, Y 1, Y 2, Y 3, Y 4, Y 5, Y 6, Y 7, Y 8, Y 9, Y 10, Y 11, Y 12, Y 13, Y 14, Y 15, Y 16, Y 17, Y 18, Y 19, fn, (put N (i + 8) ((N (i + 8) + c) % 256)) 0, (put N (i + 8) ((N (i + 8) + c) % 256)) 1, (put N (i + 8) ((N (i + 8) + c) % 256)) 2, (put N (i + 8) ((N (i + 8) + c) % 256)) 3, (put N (i + 8) ((N (i + 8) + c) % 256)) 4, (put N (i + 8) ((N (i + 8) + c) % 256)) 5, (put N (i + 8) ((N (i + 8) + c) % 256)) 6, (put N (i + 8) ((N (i + 8) + c) % 256)) 7, (put N (i + 8) ((N (i + 8) + c) % 256)) 8, (put N (i + 8) ((N (i + 8) + c) % 256)) 9, (put N (i + 8) ((N (i + 8) + c) % 256)) 10, (put N (i + 8) ((N (i + 8) + c) % 256)) 11, (put N (i + 8) ((N (i + 8) + c) % 256)) 12, (put N (i + 8) ((N (i + 8) + c) % 256)) 13, (put N (i + 8) ((N (i + 8) + c) % 256)) 14, (put N (i + 8) ((N (i + 8) + c) % 256)) 15, (put N (i + 8) ((N (i + 8) + c) % 256)) 16, (put N (i + 8) ((N (i + 8) + c) % 256)) 17, (put N (i + 8) ((N (i + 8) + c) % 256)) 18, (put N (i + 8) ((N (i + 8) + c) % 256)) 19, ()) := by
  rw [mul_last' (n + 1) i c fa fx fy fn Z X Y N hi hN hc, mul_stop]

theorem mul_inner (i : Nat) (fa fx fy fn : Bool) (Z X Y : Nat → Int) (hi : i < 8) (hX : dig X) (hY : dig Y) (V : Int) : ∀ (d k n : Nat) (c : Int) (N : Nat → Int), k + d = 8 → d + 1 < n → dig N → (0 ≤ c ∧ c ≤ 255) → val N 20 + c * P (i + k) - X i * P i * val Y k = V →
    ∃ R c', dig R ∧ 0 ≤ c' ∧ val R 20 + c' * P (i + 9) - X i * P i * val Y 8 = V ∧ mulI n i c k fa fx fy fn Z X Y N = some ((i : Int), fa, Z 0, Z 1, Z 2, Z 3, Z 4, Z 5, Z 6, Z 7, Z 8, Z 9, Z 10, Z 11, Z 12, Z 13, Z 14, Z 15, Z 16, Z 17, Z 18, Z 19, fx, X 0, X 1, X 2, X 3, X 4, X 5, X 6, X 7, X 8, X 9, X 10, X 11, X 12, X 13, X 14, X 15, X 16, X 17, X 18, X 19, fy, Y 0, Y 1, Y 2, Y 3, Y 4, Y 5, Y 6, Y 7, Y 8, Y 9, Y 10, Y 11, Y 12, Y 13, Y 14, Y 15, Y 16, Y 17, Y 18, Y 19, fn, R 0, R 1, R 2, R 3, R 4, R 5, R 6, R 7, R 8, R 9, R 10, R 11, R 12, R 13, R 14, R 15, R 16, R 17, R 18, R 19, ())
  | 0, k, n, c, N, hd, hn, hN, hc, hV => by
    obtain ⟨n, rfl⟩ : ∃ n', n = n' + 2 := ⟨n - 2, by omega⟩
    have e : k = 8 := by omega
    subst e
    have n1 := hN (i + 8) (by omega)
    refine ⟨_, (N (i + 8) + c) / 256, dig_put hN (i := i + 8) (v := (N (i + 8) + c) % 256) (by omega) (by omega), by omega, ?_, mul_last n i c fa fx fy fn Z X Y N hi hN hc⟩
    rw [val_put N (i + 8) _ 20 (by omega), show i + 9 = (i + 8) + 1 by omega, P_s (i + 8), ← hV]
    have hr : (N (i + 8) + c) % 256 = N (i + 8) + c - 256 * ((N (i + 8) + c) / 256) := by omega
    rw [hr]
    generalize (N (i + 8) + c) / 256 = q
    generalize P (i + 8) = b
    generalize val N 20 = a
    generalize X i * P i * val Y 8 = e
    grind
  | d + 1, k, n, c, N, hd, hn, hN, hc, hV => by
    obtain ⟨n, rfl⟩ : ∃ n', n = n' + 1 := ⟨n - 1, by omega⟩
    have x1 := hX i (by omega)
    have y1 := hY k (by omega)
    have n1 := hN (i + k) (by omega)
    have hp := mul_range (x := X i) (y := Y k) (a := 255) (b := 255) x1.1 x1.2 y1.1 y1.2
    rw [mul_round n i k c fa fx fy fn Z X Y N hi (by omega) hX hY hN hc]
    refine mul_inner i fa fx fy fn Z X Y hi hX hY V d (k + 1) n _ _ (by omega) (by omega) (dig_put hN (by omega) (by omega)) (by omega) ?_
    rw [val_put N (i + k) _ 20 (by omega), show i + (k + 1) = (i + k) + 1 by omega, P_s (i + k), val_s Y k, ← hV]
    have hpk := P_add i k
    have hr : (N (i + k) + c + X i * Y k) % 256 = N (i + k) + c + X i * Y k - 256 * ((N (i + k) + c + X i * Y k) / 256) := by omega
    rw [hr, hpk]
    generalize (N (i + k) + c + X i * Y k) / 256 = q
    generalize val N 20 = a
    generalize N (i + k) = nn
    generalize X i = xi
    generalize Y k = yk
    generalize val Y k = vy
    generalize P i = pi
    generalize P k = pk
    grind

noncomputable def mulO (n : Nat) (i : Int) (fa fx fy fn : Bool) (Z X Y N : Nat → Int) := r04_Mul_l0 20000 n i fa (Z 0) (Z 1) (Z 2) (Z 3) (Z 4) (Z 5) (Z 6) (Z 7) (Z 8) (Z 9) (Z 10) (Z 11) (Z 12) (Z 13) (Z 14) (Z 15) (Z 16) (Z 17) (Z 18) (Z 19) fx (X 0) (X 1) (X 2) (X 3) (X 4) (X 5) (X 6) (X 7) (X 8) (X 9) (X 10) (X 11) (X 12) (X 13) (X 14) (X 15) (X 16) (X 17) (X 18) (X 19) fy (Y 0) (Y 1) (Y 2) (Y 3) (Y 4) (Y 5) (Y 6) (Y 7) (Y 8) (Y 9) (Y 10) (Y 11) (Y 12) (Y 13) (Y 14) (Y 15) (Y 16) (Y 17) (Y 18) (Y 19) fn (N 0) (N 1) (N 2) (N 3) (N 4) (N 5) (N 6) (N 7) (N 8) (N 9) (N 10) (N 11) (N 12) (N 13) (N 14) (N 15) (N 16) (N 17) (N 18) (N 19)

theorem mul_outer (fa fx fy fn : Bool) (Z X Y : Nat → Int) (hX : dig X) (hY : dig Y) : ∀ (d i n : Nat) (N : Nat → Int), i + d = 8 → d < n → dig N → val N 20 = val X i * val Y 8 →
    ∃ R, dig R ∧ val R 20 = val X 8 * val Y 8 ∧ mulO n i fa fx fy fn Z X Y N = some (fa, Z 0, Z 1, Z 2, Z 3, Z 4, Z 5, Z 6, Z 7, Z 8, Z 9, Z 10, Z 11, Z 12, Z 13, Z 14, Z 15, Z 16, Z 17, Z 18, Z 19, fn, R 0, R 1, R 2, R 3, R 4, R 5, R 6, R 7, R 8, R 9, R 10, R 11, R 12, R 13, R 14, R 15, R 16, R 17, R 18, R 19, ())
  | 0, i, n, N, hd, hn, hN, hV => by
    obtain ⟨n, rfl⟩ : ∃ n', n = n' + 1 := ⟨n - 1, by omega⟩
    have e : i = 8 := by omega
    subst e
    exact ⟨N, hN, hV, rfl⟩
  | d + 1, i, n, N, hd, hn, hN, hV => by
    obtain ⟨n, rfl⟩ : ∃ n', n = n' + 1 := ⟨n - 1, by omega⟩
    obtain ⟨R, c, r1, r2, r3, r4⟩ := mul_inner i fa fx fy fn Z X Y (by omega) hX hY (val N 20) 8 0 20000 0 N (by omega) (by omega) hN (by omega) (by simp [val])
    have vr := val_bound r1 20 (by omega)
    have vx := val_bound hX (i + 1) (by omega)
    have vy := val_bound hY 8 (by omega)
    have hprod : val R 20 + c * P (i + 9) = val X (i + 1) * val Y 8 := by
      rw [val_s X i]
      rw [hV] at r3
      generalize val R 20 = a at *
      generalize c * P (i + 9) = b at *
      generalize val X i = x at *
      generalize val Y 8 = y at *
      generalize X i * P i = z at *
      grind
    have hc : c = 0 := by
      rcases (show c = 0 ∨ 1 ≤ c by omega) with h | h
      · exact h
      · exfalso
        have h1 : 1 * P (i + 9) ≤ c * P (i + 9) := Int.mul_le_mul_of_nonneg_right h (Int.le_of_lt (P_pos _))
        have h2 : val X (i + 1) * val Y 8 ≤ (P (i + 1) - 1) * P 8 := Int.mul_le_mul (by omega) (by omega) (by omega) (by omega)
        have h3 : P (i + 9) = P (i + 1) * P 8 := by rw [← P_add]
        have h4 := P_pos 8
        rw [Int.sub_mul] at h2
        omega
    subst hc
    have e : mulO (n + 1) i fa fx fy fn Z X Y N = r04_Mul_l0r 20000 (r04_Mul_l0 20000 n) i fa (Z 0) (Z 1) (Z 2) (Z 3) (Z 4) (Z 5) (Z 6) (Z 7) (Z 8) (Z 9) (Z 10) (Z 11) (Z 12) (Z 13) (Z 14) (Z 15) (Z 16) (Z 17) (Z 18) (Z 19) fx (X 0) (X 1) (X 2) (X 3) (X 4) (X 5) (X 6) (X 7) (X 8) (X 9) (X 10) (X 11) (X 12) (X 13) (X 14) (X 15) (X 16) (X 17) (X 18) (X 19) fy (Y 0) (Y 1) (Y 2) (Y 3) (Y 4) (Y 5) (Y 6) (Y 7) (Y 8) (Y 9) (Y 10) (Y 11) (Y 12) (Y 13) (Y 14) (Y 15) (Y 16) (Y 17) (Y 18) (Y 19) fn (N 0) (N 1) (N 2) (N 3) (N 4) (N 5) (N 6) (N 7) (N 8) (N 9) (N 10) (N 11) (N 12) (N 13) (N 14) (N 15) (N 16) (N 17) (N 18) (N 19) := rfl
    have r4' : r04_Mul_l1 20000 20000 (i : Int) 0 0 fa (Z 0) (Z 1) (Z 2) (Z 3) (Z 4) (Z 5) (Z 6) (Z 7) (Z 8) (Z 9) (Z 10) (Z 11) (Z 12) (Z 13) (Z 14) (Z 15) (Z 16) (Z 17) (Z 18) (Z 19) fx (X 0) (X 1) (X 2) (X 3) (X 4) (X 5) (X 6) (X 7) (X 8) (X 9) (X 10) (X 11) (X 12) (X 13) (X 14) (X 15) (X 16) (X 17) (X 18) (X 19) fy (Y 0) (Y 1) (Y 2) (Y 3) (Y 4) (Y 5) (Y 6) (Y 7) (Y 8) (Y 9) (Y 10) (Y 11) (Y 12) (Y 13) (Y 14) (Y 15) (Y 16) (Y 17) (Y 18) (Y 19) fn (N 0) (N 1) (N 2) (N 3) (N 4) (N 5) (N 6) (N 7) (N 8) (N 9) (N 10) (N 11) (N 12) (N 13) (N 14) (N 15) (N 16) (N 17) (N 18) (N 19) = _ := r4
    have d8 : decide ((i : Int) < 8) = true := by simp; omega
    rw [e]
    unfold r04_Mul_l0r
    rw [d8, cond_true, r4', Option.bind_some]
    have ih := mul_outer fa fx fy fn Z X Y hX hY d (i + 1) n R (by omega) (by omega) r1 (by omega)
    rw [← up1 (show i < 20000 by omega)] at ih
    exact ih

theorem mul_ok (a b : Int) (ha : -9223372036854775808 ≤ a) (ha' : a < 9223372036854775808) (hb : -9223372036854775808 ≤ b) (hb' : b < 9223372036854775808) :
    ∃ R, dig R ∧ val R 20 = ab (a * b) ∧ r04_Mul_g 20000 a b = some (!(decide (a < 0) == decide (b < 0)), R 0, R 1, R 2, R 3, R 4, R 5, R 6, R 7, R 8, R 9, R 10, R 11, R 12, R 13, R 14, R 15, R 16, R 17, R 18, R 19, ()) := by
  obtain ⟨X, x1, x2, x3, x4⟩ := of_ok a ha ha'
  obtain ⟨Y, y1, y2, y3, y4⟩ := of_ok b hb hb'
  obtain ⟨R, r1, r2, r3⟩ := mul_outer false (decide (a < 0)) (decide (b < 0)) (!(decide (a < 0) == decide (b < 0))) (fun _ => 0) X Y x1 y1 8 0 20000 (fun _ => 0) (by omega) (by omega) dig_zero (by rw [val_zero 20 (fun _ _ => rfl)]; simp [val])
  refine ⟨R, r1, by rw [r2, x3, y3, ab_mul], ?_⟩
  unfold r04_Mul_g
  rw [x4, y4]
  generalize hL : r04_Mul_l0 20000 20000 = L at *
  have r3' : r04_Mul_l0 20000 20000 0 false 0 0 0 0 0 0 0 0 0 0 0 0 0 0 0 0 0 0 0 0 (decide (a < 0)) (X 0) (X 1) (X 2) (X 3) (X 4) (X 5) (X 6) (X 7) (X 8) (X 9) (X 10) (X 11) (X 12) (X 13) (X 14) (X 15) (X 16) (X 17) (X 18) (X 19) (decide (b < 0)) (Y 0) (Y 1) (Y 2) (Y 3) (Y 4) (Y 5) (Y 6) (Y 7) (Y 8) (Y 9) (Y 10) (Y 11) (Y 12) (Y 13) (Y 14) (Y 15) (Y 16) (Y 17) (Y 18) (Y 19) (!(decide (a < 0) == decide (b < 0))) 0 0 0 0 0 0 0 0 0 0 0 0 0 0 0 0 0 0 0 0 = _ := r3
  rw [hL] at r3'
  simp only [Option.bind_some]
  rw [r3']
  rfl

/-! ### Divided, digit by digit -/
noncomputable def byD (n : Nat) (x i : Int) (D A B Q R E : Nat → Int) := r04_by_l0 20000 n x i (D 0) (D 1) (D 2) (D 3) (D 4) (D 5) (D 6) (D 7) (D 8) (D 9) (D 10) (D 11) (D 12) (D 13) (D 14) (D 15) (D 16) (D 17) (D 18) (D 19) (A 0) (A 1) (A 2) (A 3) (A 4) (A 5) (A 6) (A 7) (A 8) (A 9) (A 10) (A 11) (A 12) (A 13) (A 14) (A 15) (A 16) (A 17) (A 18) (A 19) (B 0) (B 1) (B 2) (B 3) (B 4) (B 5) (B 6) (B 7) (B 8) (B 9) (B 10) (B 11) (B 12) (B 13) (B 14) (B 15) (B 16) (B 17) (B 18) (B 19) (Q 0) (Q 1) (Q 2) (Q 3) (Q 4) (Q 5) (Q 6) (Q 7) (Q 8) (Q 9) (Q 10) (Q 11) (Q 12) (Q 13) (Q 14) (Q 15) (Q 16) (Q 17) (Q 18) (Q 19) (R 0) (R 1) (R 2) (R 3) (R 4) (R 5) (R 6) (R 7) (R 8) (R 9) (R 10) (R 11) (R 12) (R 13) (R 14) (R 15) (R 16) (R 17) (R 18) (R 19) (E 0) (E 1) (E 2) (E 3) (E 4) (E 5) (E 6) (E 7) (E 8) (E 9) (E 10) (E 11) (E 12) (E 13) (E 14) (E 15) (E 16) (E 17) (E 18) (E 19)

theorem byD_round (n : Nat) (x : Int) (i : Nat) (D A B Q R E : Nat → Int) (hi : i < 8) (hx : 0 ≤ x) (hx' : x < 18446744073709551616) :
    byD (n + 1) x i D A B Q R E = byD n (x / 256) ((i + 1 : Nat) : Int) D A B Q R (put E i (x % 256)) := by
  have e : byD (n + 1) x i D A B Q R E = r04_by_l0r 20000 (r04_by_l0 20000 n) x i (D 0) (D 1) (D 2) (D 3) (D 4) (D 5) (D 6) (D 7) (D 8) (D 9) (D 10) (D 11) (D 12) (D 13) (D 14) (D 15) (D 16) (D 17) (D 18) (D 19) (A 0) (A 1) (A 2) (A 3) (A 4) (A 5) (A 6) (A 7) (A 8) (A 9) (A 10) (A 11) (A 12) (A 13) (A 14) (A 15) (A 16) (A 17) (A 18) (A 19) (B 0) (B 1) (B 2) (B 3) (B 4) (B 5) (B 6) (B 7) (B 8) (B 9) (B 10) (B 11) (B 12) (B 13) (B 14) (B 15) (B 16) (B 17) (B 18) (B 19) (Q 0) (Q 1) (Q 2) (Q 3) (Q 4) (Q 5) (Q 6) (Q 7) (Q 8) (Q 9) (Q 10) (Q 11) (Q 12) (Q 13) (Q 14) (Q 15) (Q 16) (Q 17) (Q 18) (Q 19) (R 0) (R 1) (R 2) (R 3) (R 4) (R 5) (R 6) (R 7) (R 8) (R 9) (R 10) (R 11) (R 12) (R 13) (R 14) (R 15) (R 16) (R 17) (R 18) (R 19) (E 0) (E 1) (E 2) (E 3) (E 4) (E 5) (E 6) (E 7) (E 8) (E 9) (E 10) (E 11) (E 12) (E 13) (E 14) (E 15) (E 16) (E 17) (E 18) (E 19) := rfl
  have d8 : decide ((i : Int) < 8) = true := by simp; omega
  have e1 : wi64 (x % 256) = x % 256 := wi64_id (by omega) (by omega)
  have e2 : wu64 (x / 256) = x / 256 := wu64_id (by omega) (by omega)
  rw [e]
  simp only [r04_by_l0r, d8, lt20 (show i < 20 by omega), ge0, Bool.and_self, cond_true, Int.toNat_natCast, (t_pos hx).1, (t_pos hx).2, e1, e2, up1 (show i < 20000 by omega)]
  rfl

theorem byD_loop (D A B Q R : Nat → Int) (X : Int) : ∀ (d i n : Nat) (x : Int) (E : Nat → Int), i + d = 8 → d < n → dig E → (∀ j, i ≤ j → E j = 0) → 0 ≤ x → x < 18446744073709551616 → val E i + x * P i = X →
    ∃ F y, dig F ∧ (∀ j, 8 ≤ j → F j = 0) ∧ 0 ≤ y ∧ val F 8 + y * P 8 = X ∧ byD n x i D A B Q R E = some (D 0, D 1, D 2, D 3, D 4, D 5, D 6, D 7, D 8, D 9, D 10, D 11, D 12, D 13, D 14, D 15, D 16, D 17, D 18, D 19, A 0, A 1, A 2, A 3, A 4, A 5, A 6, A 7, A 8, A 9, A 10, A 11, A 12, A 13, A 14, A 15, A 16, A 17, A 18, A 19, B 0, B 1, B 2, B 3, B 4, B 5, B 6, B 7, B 8, B 9, B 10, B 11, B 12, B 13, B 14, B 15, B 16, B 17, B 18, B 19, Q 0, Q 1, Q 2, Q 3, Q 4, Q 5, Q 6, Q 7, Q 8, Q 9, Q 10, Q 11, Q 12, Q 13, Q 14, Q 15, Q 16, Q 17, Q 18, Q 19, R 0, R 1, R 2, R 3, R 4, R 5, R 6, R 7, R 8, R 9, R 10, R 11, R 12, R 13, R 14, R 15, R 16, R 17, R 18, R 19, F 0, F 1, F 2, F 3, F 4, F 5, F 6, F 7, F 8, F 9, F 10, F 11, F 12, F 13, F 14, F 15, F 16, F 17, F 18, F 19, ())
  | 0, i, n, x, E, hd, hn, hE, hz, hx, hx', hX => by
    obtain ⟨n, rfl⟩ : ∃ n', n = n' + 1 := ⟨n - 1, by omega⟩
    have e : i = 8 := by omega
    subst e
    exact ⟨E, x, hE, hz, hx, hX, rfl⟩
  | d + 1, i, n, x, E, hd, hn, hE, hz, hx, hx', hX => by
    obtain ⟨n, rfl⟩ : ∃ n', n = n' + 1 := ⟨n - 1, by omega⟩
    rw [byD_round n x i D A B Q R E (by omega) hx hx']
    refine byD_loop D A B Q R X d (i + 1) n _ _ (by omega) (by omega) (dig_put hE (by omega) (by omega)) (fun j hj => by rw [put_ne E _ (by omega)]; exact hz j (by omega)) (by omega) (by omega) ?_
    rw [val_s _ i, P_s i, put_eq, val_congr (E := E) i (fun j hj => put_ne E _ (by omega)), ← hX]
    have hr : x % 256 = x - 256 * (x / 256) := by omega
    rw [hr]
    generalize val E i = a
    generalize P i = b
    generalize x / 256 = q
    grind

/-! The digits of what is left go up. -/
noncomputable def byS (n : Nat) (i k : Int) (D A B Q R E : Nat → Int) := r04_by_l2 20000 n i k (D 0) (D 1) (D 2) (D 3) (D 4) (D 5) (D 6) (D 7) (D 8) (D 9) (D 10) (D 11) (D 12) (D 13) (D 14) (D 15) (D 16) (D 17) (D 18) (D 19) (A 0) (A 1) (A 2) (A 3) (A 4) (A 5) (A 6) (A 7) (A 8) (A 9) (A 10) (A 11) (A 12) (A 13) (A 14) (A 15) (A 16) (A 17) (A 18) (A 19) (B 0) (B 1) (B 2) (B 3) (B 4) (B 5) (B 6) (B 7) (B 8) (B 9) (B 10) (B 11) (B 12) (B 13) (B 14) (B 15) (B 16) (B 17) (B 18) (B 19) (Q 0) (Q 1) (Q 2) (Q 3) (Q 4) (Q 5) (Q 6) (Q 7) (Q 8) (Q 9) (Q 10) (Q 11) (Q 12) (Q 13) (Q 14) (Q 15) (Q 16) (Q 17) (Q 18) (Q 19) (R 0) (R 1) (R 2) (R 3) (R 4) (R 5) (R 6) (R 7) (R 8) (R 9) (R 10) (R 11) (R 12) (R 13) (R 14) (R 15) (R 16) (R 17) (R 18) (R 19) (E 0) (E 1) (E 2) (E 3) (E 4) (E 5) (E 6) (E 7) (E 8) (E 9) (E 10) (E 11) (E 12) (E 13) (E 14) (E 15) (E 16) (E 17) (E 18) (E 19)

theorem byS_loop (i : Int) (D A B Q E : Nat → Int) : ∀ (k n : Nat) (R : Nat → Int), k < n → k < 20 → ∃ T : Nat → Int, (∀ j, 1 ≤ j → j ≤ k → T j = R (j - 1)) ∧ (∀ j, (j = 0 ∨ k < j) → T j = R j) ∧ byS n i k D A B Q R E = some (i, D 0, D 1, D 2, D 3, D 4, D 5, D 6, D 7, D 8, D 9, D 10, D 11, D 12, D 13, D 14, D 15, D 16, D 17, D 18, D 19, A 0, A 1, A 2, A 3, A 4, A 5, A 6, A 7, A 8, A 9, A 10, A 11, A 12, A 13, A 14, A 15, A 16, A 17, A 18, A 19, B 0, B 1, B 2, B 3, B 4, B 5, B 6, B 7, B 8, B 9, B 10, B 11, B 12, B 13, B 14, B 15, B 16, B 17, B 18, B 19, Q 0, Q 1, Q 2, Q 3, Q 4, Q 5, Q 6, Q 7, Q 8, Q 9, Q 10, Q 11, Q 12, Q 13, Q 14, Q 15, Q 16, Q 17, Q 18, Q 19, T 0, T 1, T 2, T 3, T 4, T 5, T 6, T 7, T 8, T 9, T 10, T 11, T 12, T 13, T 14, T 15, T 16, T 17, T 18, T 19, E 0, E 1, E 2, E 3, E 4, E 5, E 6, E 7, E 8, E 9, E 10, E 11, E 12, E 13, E 14, E 15, E 16, E 17, E 18, E 19, ())
  | 0, n, R, hn, hk => by
    obtain ⟨n, rfl⟩ : ∃ n', n = n' + 1 := ⟨n - 1, by omega⟩
    exact ⟨R, fun j h1 h2 => by omega, fun _ _ => rfl, rfl⟩
  | k + 1, n, R, hn, hk => by
    obtain ⟨n, rfl⟩ : ∃ n', n = n' + 1 := ⟨n - 1, by omega⟩
    obtain ⟨T, h1, h2, h3⟩ := byS_loop i D A B Q E k n (put R (k + 1) (R k)) (by omega) (by omega)
    refine ⟨T, fun j hj hj' => ?_, fun j hj => ?_, ?_⟩
    · by_cases e : j = k + 1
      · subst e
        rw [h2 (k + 1) (.inr (by omega)), put_eq]
        rfl
      · rw [h1 j hj (by omega), put_ne R _ (by omega)]
    · rw [h2 j (by omega), put_ne R _ (by omega)]
    · rw [← h3]
      have e : byS (n + 1) i ((k + 1 : Nat) : Int) D A B Q R E = r04_by_l2r 20000 (r04_by_l2 20000 n) i ((k + 1 : Nat) : Int) (D 0) (D 1) (D 2) (D 3) (D 4) (D 5) (D 6) (D 7) (D 8) (D 9) (D 10) (D 11) (D 12) (D 13) (D 14) (D 15) (D 16) (D 17) (D 18) (D 19) (A 0) (A 1) (A 2) (A 3) (A 4) (A 5) (A 6) (A 7) (A 8) (A 9) (A 10) (A 11) (A 12) (A 13) (A 14) (A 15) (A 16) (A 17) (A 18) (A 19) (B 0) (B 1) (B 2) (B 3) (B 4) (B 5) (B 6) (B 7) (B 8) (B 9) (B 10) (B 11) (B 12) (B 13) (B 14) (B 15) (B 16) (B 17) (B 18) (B 19) (Q 0) (Q 1) (Q 2) (Q 3) (Q 4) (Q 5) (Q 6) (Q 7) (Q 8) (Q 9) (Q 10) (Q 11) (Q 12) (Q 13) (Q 14) (Q 15) (Q 16) (Q 17) (Q 18) (Q 19) (R 0) (R 1) (R 2) (R 3) (R 4) (R 5) (R 6) (R 7) (R 8) (R 9) (R 10) (R 11) (R 12) (R 13) (R 14) (R 15) (R 16) (R 17) (R 18) (R 19) (E 0) (E 1) (E 2) (E 3) (E 4) (E 5) (E 6) (E 7) (E 8) (E 9) (E 10) (E 11) (E 12) (E 13) (E 14) (E 15) (E 16) (E 17) (E 18) (E 19) := rfl
      have d0 : decide (((k + 1 : Nat) : Int) > 0) = true := decide_eq_true (by omega)
      rw [e]
      obtain ⟨m, hm⟩ : ∃ m, m = k + 1 := ⟨_, rfl⟩
      rw [← hm] at d0 ⊢
      have hdn : wi64 ((m : Int) - 1) = (k : Int) := by rw [hm]; exact down1 (by omega)
      simp only [r04_by_l2r, d0, hdn, lt20 (show k < 20 by omega), lt20 (show m < 20 by omega), ge0, Bool.and_self, cond_true, Int.toNat_natCast, sel20 R k (by omega)]
      rfl

theorem val_shift {T R : Nat → Int} (h : ∀ j, T (j + 1) = R j) : ∀ n, val T (n + 1) = T 0 + 256 * val R n
  | 0 => by simp [val, P]
  | n + 1 => by
    rw [val_s T (n + 1), val_shift h n, h n, P_s n, val_s R n]
    generalize val R n = a
    generalize P n = b
    grind

/-! As often as it goes. -/
noncomputable def byW (n : Nat) (i : Int) (D A B Q R E : Nat → Int) := r04_by_l3 20000 n i (D 0) (D 1) (D 2) (D 3) (D 4) (D 5) (D 6) (D 7) (D 8) (D 9) (D 10) (D 11) (D 12) (D 13) (D 14) (D 15) (D 16) (D 17) (D 18) (D 19) (A 0) (A 1) (A 2) (A 3) (A 4) (A 5) (A 6) (A 7) (A 8) (A 9) (A 10) (A 11) (A 12) (A 13) (A 14) (A 15) (A 16) (A 17) (A 18) (A 19) (B 0) (B 1) (B 2) (B 3) (B 4) (B 5) (B 6) (B 7) (B 8) (B 9) (B 10) (B 11) (B 12) (B 13) (B 14) (B 15) (B 16) (B 17) (B 18) (B 19) (Q 0) (Q 1) (Q 2) (Q 3) (Q 4) (Q 5) (Q 6) (Q 7) (Q 8) (Q 9) (Q 10) (Q 11) (Q 12) (Q 13) (Q 14) (Q 15) (Q 16) (Q 17) (Q 18) (Q 19) (R 0) (R 1) (R 2) (R 3) (R 4) (R 5) (R 6) (R 7) (R 8) (R 9) (R 10) (R 11) (R 12) (R 13) (R 14) (R 15) (R 16) (R 17) (R 18) (R 19) (E 0) (E 1) (E 2) (E 3) (E 4) (E 5) (E 6) (E 7) (E 8) (E 9) (E 10) (E 11) (E 12) (E 13) (E 14) (E 15) (E 16) (E 17) (E 18) (E 19)

theorem byW_loop (i : Nat) (hi : i < 20) (D A B E : Nat → Int) (hE : dig E) (he : 0 < val E 20) : ∀ (t n : Nat) (Q R : Nat → Int), t < n → dig R → 0 ≤ Q i → Q i + (t : Int) ≤ 255 → val R 20 / val E 20 = (t : Int) →
    ∃ (Q' R' : Nat → Int), dig R' ∧ val R' 20 = val R 20 % val E 20 ∧ Q' i = Q i + (t : Int) ∧ (∀ j, j ≠ i → Q' j = Q j) ∧ byW n i D A B Q R E = some ((i : Int), D 0, D 1, D 2, D 3, D 4, D 5, D 6, D 7, D 8, D 9, D 10, D 11, D 12, D 13, D 14, D 15, D 16, D 17, D 18, D 19, A 0, A 1, A 2, A 3, A 4, A 5, A 6, A 7, A 8, A 9, A 10, A 11, A 12, A 13, A 14, A 15, A 16, A 17, A 18, A 19, B 0, B 1, B 2, B 3, B 4, B 5, B 6, B 7, B 8, B 9, B 10, B 11, B 12, B 13, B 14, B 15, B 16, B 17, B 18, B 19, Q' 0, Q' 1, Q' 2, Q' 3, Q' 4, Q' 5, Q' 6, Q' 7, Q' 8, Q' 9, Q' 10, Q' 11, Q' 12, Q' 13, Q' 14, Q' 15, Q' 16, Q' 17, Q' 18, Q' 19, R' 0, R' 1, R' 2, R' 3, R' 4, R' 5, R' 6, R' 7, R' 8, R' 9, R' 10, R' 11, R' 12, R' 13, R' 14, R' 15, R' 16, R' 17, R' 18, R' 19, E 0, E 1, E 2, E 3, E 4, E 5, E 6, E 7, E 8, E 9, E 10, E 11, E 12, E 13, E 14, E 15, E 16, E 17, E 18, E 19, ())
  | 0, n, Q, R, hn, hR, hq, hq', ht => by
    obtain ⟨n, rfl⟩ : ∃ n', n = n' + 1 := ⟨n - 1, by omega⟩
    have hv := val_bound hR 20 (by omega)
    have hlt : val R 20 < val E 20 := by
      have h1 := Int.ediv_mul_add_emod (val R 20) (val E 20)
      have h2 := Int.emod_lt_of_pos (val R 20) he
      rw [ht] at h1
      simp at h1
      omega
    refine ⟨Q, R, hR, (Int.emod_eq_of_lt hv.1 hlt).symm, by simp, fun _ _ => rfl, ?_⟩
    have e : byW (n + 1) i D A B Q R E = r04_by_l3r 20000 (r04_by_l3 20000 n) i (D 0) (D 1) (D 2) (D 3) (D 4) (D 5) (D 6) (D 7) (D 8) (D 9) (D 10) (D 11) (D 12) (D 13) (D 14) (D 15) (D 16) (D 17) (D 18) (D 19) (A 0) (A 1) (A 2) (A 3) (A 4) (A 5) (A 6) (A 7) (A 8) (A 9) (A 10) (A 11) (A 12) (A 13) (A 14) (A 15) (A 16) (A 17) (A 18) (A 19) (B 0) (B 1) (B 2) (B 3) (B 4) (B 5) (B 6) (B 7) (B 8) (B 9) (B 10) (B 11) (B 12) (B 13) (B 14) (B 15) (B 16) (B 17) (B 18) (B 19) (Q 0) (Q 1) (Q 2) (Q 3) (Q 4) (Q 5) (Q 6) (Q 7) (Q 8) (Q 9) (Q 10) (Q 11) (Q 12) (Q 13) (Q 14) (Q 15) (Q 16) (Q 17) (Q 18) (Q 19) (R 0) (R 1) (R 2) (R 3) (R 4) (R 5) (R 6) (R 7) (R 8) (R 9) (R 10) (R 11) (R 12) (R 13) (R 14) (R 15) (R 16) (R 17) (R 18) (R 19) (E 0) (E 1) (E 2) (E 3) (E 4) (E 5) (E 6) (E 7) (E 8) (E 9) (E 10) (E 11) (E 12) (E 13) (E 14) (E 15) (E 16) (E 17) (E 18) (E 19) := rfl
    obtain ⟨r, hr, hrd⟩ := ag_ok R E hR hE
    rw [e]
    unfold r04_by_l3r
    rw [hr, Option.bind_some, hrd, decide_eq_false (show ¬ val E 20 ≤ val R 20 by omega), cond_false]
  | t + 1, n, Q, R, hn, hR, hq, hq', ht => by
    obtain ⟨n, rfl⟩ : ∃ n', n = n' + 1 := ⟨n - 1, by omega⟩
    have hge : val E 20 ≤ val R 20 := by
      rcases Int.lt_or_le (val R 20) (val E 20) with h | h
      · rw [Int.ediv_eq_zero_of_lt (val_bound hR 20 (by omega)).1 h] at ht
        omega
      · exact h
    obtain ⟨S, s1, s2, s3⟩ := less_ok R E hR hE hge
    have hdiv : val S 20 / val E 20 = (t : Int) := by
      rw [s2]
      have := Int.sub_ediv_of_dvd (val R 20) (Int.dvd_refl (val E 20))
      rw [this, Int.ediv_self (by omega), ht]
      simp
    have hmod : val S 20 % val E 20 = val R 20 % val E 20 := by rw [s2, Int.sub_emod_right]
    obtain ⟨Q', R', r1, r2, r3, r4, r5⟩ := byW_loop i hi D A B E hE he t n (put Q i (Q i + 1)) S (by omega) s1 (by rw [put_eq]; omega) (by rw [put_eq]; omega) hdiv
    refine ⟨Q', R', r1, by rw [r2, hmod], by rw [r3, put_eq]; omega, fun j hj => by rw [r4 j hj, put_ne Q _ (fun e => hj e.symm)], ?_⟩
    rw [← r5]
    have e : byW (n + 1) i D A B Q R E = r04_by_l3r 20000 (r04_by_l3 20000 n) i (D 0) (D 1) (D 2) (D 3) (D 4) (D 5) (D 6) (D 7) (D 8) (D 9) (D 10) (D 11) (D 12) (D 13) (D 14) (D 15) (D 16) (D 17) (D 18) (D 19) (A 0) (A 1) (A 2) (A 3) (A 4) (A 5) (A 6) (A 7) (A 8) (A 9) (A 10) (A 11) (A 12) (A 13) (A 14) (A 15) (A 16) (A 17) (A 18) (A 19) (B 0) (B 1) (B 2) (B 3) (B 4) (B 5) (B 6) (B 7) (B 8) (B 9) (B 10) (B 11) (B 12) (B 13) (B 14) (B 15) (B 16) (B 17) (B 18) (B 19) (Q 0) (Q 1) (Q 2) (Q 3) (Q 4) (Q 5) (Q 6) (Q 7) (Q 8) (Q 9) (Q 10) (Q 11) (Q 12) (Q 13) (Q 14) (Q 15) (Q 16) (Q 17) (Q 18) (Q 19) (R 0) (R 1) (R 2) (R 3) (R 4) (R 5) (R 6) (R 7) (R 8) (R 9) (R 10) (R 11) (R 12) (R 13) (R 14) (R 15) (R 16) (R 17) (R 18) (R 19) (E 0) (E 1) (E 2) (E 3) (E 4) (E 5) (E 6) (E 7) (E 8) (E 9) (E 10) (E 11) (E 12) (E 13) (E 14) (E 15) (E 16) (E 17) (E 18) (E 19) := rfl
    obtain ⟨r, hr, hrd⟩ := ag_ok R E hR hE
    have e2 : wi64 (Q i + 1) = Q i + 1 := wi64_id (by omega) (by omega)
    rw [e]
    unfold r04_by_l3r
    rw [hr, Option.bind_some, hrd, decide_eq_true hge, cond_true, s3]
    simp only [Option.bind_some, lt20 hi, ge0, Bool.and_self, cond_true, Int.toNat_natCast, sel20 Q i hi, e2]
    rfl

noncomputable def byO (n : Nat) (i : Int) (D A B Q R E : Nat → Int) := r04_by_l1 20000 n i (D 0) (D 1) (D 2) (D 3) (D 4) (D 5) (D 6) (D 7) (D 8) (D 9) (D 10) (D 11) (D 12) (D 13) (D 14) (D 15) (D 16) (D 17) (D 18) (D 19) (A 0) (A 1) (A 2) (A 3) (A 4) (A 5) (A 6) (A 7) (A 8) (A 9) (A 10) (A 11) (A 12) (A 13) (A 14) (A 15) (A 16) (A 17) (A 18) (A 19) (B 0) (B 1) (B 2) (B 3) (B 4) (B 5) (B 6) (B 7) (B 8) (B 9) (B 10) (B 11) (B 12) (B 13) (B 14) (B 15) (B 16) (B 17) (B 18) (B 19) (Q 0) (Q 1) (Q 2) (Q 3) (Q 4) (Q 5) (Q 6) (Q 7) (Q 8) (Q 9) (Q 10) (Q 11) (Q 12) (Q 13) (Q 14) (Q 15) (Q 16) (Q 17) (Q 18) (Q 19) (R 0) (R 1) (R 2) (R 3) (R 4) (R 5) (R 6) (R 7) (R 8) (R 9) (R 10) (R 11) (R 12) (R 13) (R 14) (R 15) (R 16) (R 17) (R 18) (R 19) (E 0) (E 1) (E 2) (E 3) (E 4) (E 5) (E 6) (E 7) (E 8) (E 9) (E 10) (E 11) (E 12) (E 13) (E 14) (E 15) (E 16) (E 17) (E 18) (E 19)

theorem dig_ext {D E : Nat → Int} (h : dig D) (he : ∀ j, j < 20 → E j = D j) : dig E := fun j hj => by rw [he j hj]; exact h j hj

theorem byO_loop (D A B E : Nat → Int) (hD : dig D) (hE : dig E) (he : 0 < val E 20) (he' : val E 20 < 18446744073709551616) : ∀ (d n : Nat) (Q R : Nat → Int), d ≤ 20 → d < n → dig Q → dig R → (∀ j, j < d → Q j = 0) → val R 20 < val E 20 →
    val D d + val Q 20 * val E 20 + val R 20 * P d = val D 20 →
    ∃ Q' R', dig Q' ∧ dig R' ∧ val R' 20 < val E 20 ∧ val Q' 20 * val E 20 + val R' 20 = val D 20 ∧ byO n ((d : Int) - 1) D A B Q R E = some (A 0, A 1, A 2, A 3, A 4, A 5, A 6, A 7, A 8, A 9, A 10, A 11, A 12, A 13, A 14, A 15, A 16, A 17, A 18, A 19, B 0, B 1, B 2, B 3, B 4, B 5, B 6, B 7, B 8, B 9, B 10, B 11, B 12, B 13, B 14, B 15, B 16, B 17, B 18, B 19, Q' 0, Q' 1, Q' 2, Q' 3, Q' 4, Q' 5, Q' 6, Q' 7, Q' 8, Q' 9, Q' 10, Q' 11, Q' 12, Q' 13, Q' 14, Q' 15, Q' 16, Q' 17, Q' 18, Q' 19, R' 0, R' 1, R' 2, R' 3, R' 4, R' 5, R' 6, R' 7, R' 8, R' 9, R' 10, R' 11, R' 12, R' 13, R' 14, R' 15, R' 16, R' 17, R' 18, R' 19, ())
  | 0, n, Q, R, hd, hn, hQ, hR, hz, hlt, hV => by
    obtain ⟨n, rfl⟩ : ∃ n', n = n' + 1 := ⟨n - 1, by omega⟩
    refine ⟨Q, R, hQ, hR, hlt, ?_, rfl⟩
    rw [← hV]
    simp [val, P]
  | i + 1, n, Q, R, hd, hn, hQ, hR, hz, hlt, hV => by
    obtain ⟨n, rfl⟩ : ∃ n', n = n' + 1 := ⟨n - 1, by omega⟩
    have hi : i < 20 := by omega
    have hdi := hD i hi
    have hRv := val_bound hR 20 (by omega)
    have h19 : R 19 = 0 := by
      have h1 := dig_ge hR (j := 19) (n := 20) (by omega) (by omega)
      have h2 := P_mono (show 8 ≤ 19 by omega)
      have h3 : P 8 = 18446744073709551616 := by decide
      have h4 := (hR 19 (by omega)).1
      rcases (show R 19 = 0 ∨ 1 ≤ R 19 by omega) with h | h
      · exact h
      · have := Int.mul_le_mul_of_nonneg_right h (Int.le_of_lt (P_pos 19))
        omega
    have hR19 : val R 20 = val R 19 := by
      have := val_s R 19
      rw [h19] at this
      simpa using this
    obtain ⟨T, t1, t2, t3⟩ := byS_loop (i : Int) D A B Q E 19 20000 R (by omega) (by omega)
    -- what is left, with one digit more
    let U : Nat → Int := fun j => match j with | 0 => D i | j + 1 => R j
    have hU : dig U := fun j hj => match j, hj with
      | 0, _ => hdi
      | j + 1, hj => hR j (by omega)
    have hUv : val U 20 = D i + 256 * val R 20 := by
      rw [hR19]
      exact val_shift (T := U) (R := R) (fun _ => rfl) 19
    have hUT : ∀ j, 1 ≤ j → j < 20 → U j = T j := by
      intro j h1 h2
      rw [t1 j h1 (by omega)]
      cases j with
      | zero => omega
      | succ j => rfl
    have hu0 : 0 ≤ val U 20 := (val_bound hU 20 (by omega)).1
    have hdm := Int.ediv_mul_add_emod (val U 20) (val E 20)
    have hm0 := Int.emod_nonneg (val U 20) (show val E 20 ≠ 0 by omega)
    have hm1 := Int.emod_lt_of_pos (val U 20) he
    have hq0 : 0 ≤ val U 20 / val E 20 := Int.ediv_nonneg hu0 (by omega)
    have hq1 : val U 20 / val E 20 < 256 := by
      refine Int.ediv_lt_of_lt_mul he ?_
      omega
    obtain ⟨t, ht⟩ : ∃ t : Nat, val U 20 / val E 20 = (t : Int) := ⟨(val U 20 / val E 20).toNat, by omega⟩
    have hQi := hz i (by omega)
    obtain ⟨Q', R', r1, r2, r3, r4, r5⟩ := byW_loop i hi D A B E hE he t 20000 Q U (by omega) hU (by omega) (by omega) ht
    have hQ' : dig Q' := by
      intro j hj
      by_cases e : j = i
      · subst e; rw [r3]; omega
      · rw [r4 j e]; exact hQ j hj
    have hQv : val Q' 20 = val Q 20 + (t : Int) * P i := by
      have h1 : val Q' 20 = val (put Q i (t : Int)) 20 := by
        refine val_congr 20 (fun j hj => ?_)
        by_cases e : j = i
        · subst e; rw [r3, put_eq, hQi]; omega
        · rw [r4 j e, put_ne Q _ (fun h => e h.symm)]
      rw [h1, val_put Q i _ 20 hi, hQi]
      simp
    have hinv : val D i + val Q' 20 * val E 20 + val R' 20 * P i = val D 20 := by
      rw [hQv, r2, ← hV, val_s D i, P_s i]
      rw [ht] at hdm
      rw [hUv] at hdm ⊢
      generalize (D i + 256 * val R 20) % val E 20 = m at *
      have hmm : m = D i + 256 * val R 20 - (t : Int) * val E 20 := by omega
      rw [hmm]
      generalize val R 20 = a
      generalize val E 20 = b
      generalize val Q 20 = c
      generalize P i = f
      grind
    obtain ⟨Q2, R2, z1, z2, z3, z4, z5⟩ := byO_loop D A B E hD hE he he' i n Q' R' (by omega) (by omega) hQ' r1 (fun j hj => by rw [r4 j (by omega)]; exact hz j (by omega)) (by rw [r2]; exact hm1) hinv
    refine ⟨Q2, R2, z1, z2, z3, z4, ?_⟩
    rw [← z5]
    have e0 : (((i + 1 : Nat) : Int) - 1) = (i : Int) := by simp
    rw [e0]
    have e : byO (n + 1) (i : Int) D A B Q R E = r04_by_l1r 20000 (r04_by_l1 20000 n) i (D 0) (D 1) (D 2) (D 3) (D 4) (D 5) (D 6) (D 7) (D 8) (D 9) (D 10) (D 11) (D 12) (D 13) (D 14) (D 15) (D 16) (D 17) (D 18) (D 19) (A 0) (A 1) (A 2) (A 3) (A 4) (A 5) (A 6) (A 7) (A 8) (A 9) (A 10) (A 11) (A 12) (A 13) (A 14) (A 15) (A 16) (A 17) (A 18) (A 19) (B 0) (B 1) (B 2) (B 3) (B 4) (B 5) (B 6) (B 7) (B 8) (B 9) (B 10) (B 11) (B 12) (B 13) (B 14) (B 15) (B 16) (B 17) (B 18) (B 19) (Q 0) (Q 1) (Q 2) (Q 3) (Q 4) (Q 5) (Q 6) (Q 7) (Q 8) (Q 9) (Q 10) (Q 11) (Q 12) (Q 13) (Q 14) (Q 15) (Q 16) (Q 17) (Q 18) (Q 19) (R 0) (R 1) (R 2) (R 3) (R 4) (R 5) (R 6) (R 7) (R 8) (R 9) (R 10) (R 11) (R 12) (R 13) (R 14) (R 15) (R 16) (R 17) (R 18) (R 19) (E 0) (E 1) (E 2) (E 3) (E 4) (E 5) (E 6) (E 7) (E 8) (E 9) (E 10) (E 11) (E 12) (E 13) (E 14) (E 15) (E 16) (E 17) (E 18) (E 19) := rfl
    have t3' : r04_by_l2 20000 20000 (i : Int) 19 (D 0) (D 1) (D 2) (D 3) (D 4) (D 5) (D 6) (D 7) (D 8) (D 9) (D 10) (D 11) (D 12) (D 13) (D 14) (D 15) (D 16) (D 17) (D 18) (D 19) (A 0) (A 1) (A 2) (A 3) (A 4) (A 5) (A 6) (A 7) (A 8) (A 9) (A 10) (A 11) (A 12) (A 13) (A 14) (A 15) (A 16) (A 17) (A 18) (A 19) (B 0) (B 1) (B 2) (B 3) (B 4) (B 5) (B 6) (B 7) (B 8) (B 9) (B 10) (B 11) (B 12) (B 13) (B 14) (B 15) (B 16) (B 17) (B 18) (B 19) (Q 0) (Q 1) (Q 2) (Q 3) (Q 4) (Q 5) (Q 6) (Q 7) (Q 8) (Q 9) (Q 10) (Q 11) (Q 12) (Q 13) (Q 14) (Q 15) (Q 16) (Q 17) (Q 18) (Q 19) (R 0) (R 1) (R 2) (R 3) (R 4) (R 5) (R 6) (R 7) (R 8) (R 9) (R 10) (R 11) (R 12) (R 13) (R 14) (R 15) (R 16) (R 17) (R 18) (R 19) (E 0) (E 1) (E 2) (E 3) (E 4) (E 5) (E 6) (E 7) (E 8) (E 9) (E 10) (E 11) (E 12) (E 13) (E 14) (E 15) (E 16) (E 17) (E 18) (E 19) = _ := t3
    have r5' : r04_by_l3 20000 20000 (i : Int) (D 0) (D 1) (D 2) (D 3) (D 4) (D 5) (D 6) (D 7) (D 8) (D 9) (D 10) (D 11) (D 12) (D 13) (D 14) (D 15) (D 16) (D 17) (D 18) (D 19) (A 0) (A 1) (A 2) (A 3) (A 4) (A 5) (A 6) (A 7) (A 8) (A 9) (A 10) (A 11) (A 12) (A 13) (A 14) (A 15) (A 16) (A 17) (A 18) (A 19) (B 0) (B 1) (B 2) (B 3) (B 4) (B 5) (B 6) (B 7) (B 8) (B 9) (B 10) (B 11) (B 12) (B 13) (B 14) (B 15) (B 16) (B 17) (B 18) (B 19) (Q 0) (Q 1) (Q 2) (Q 3) (Q 4) (Q 5) (Q 6) (Q 7) (Q 8) (Q 9) (Q 10) (Q 11) (Q 12) (Q 13) (Q 14) (Q 15) (Q 16) (Q 17) (Q 18) (Q 19) (D i) (T 1) (T 2) (T 3) (T 4) (T 5) (T 6) (T 7) (T 8) (T 9) (T 10) (T 11) (T 12) (T 13) (T 14) (T 15) (T 16) (T 17) (T 18) (T 19) (E 0) (E 1) (E 2) (E 3) (E 4) (E 5) (E 6) (E 7) (E 8) (E 9) (E 10) (E 11) (E 12) (E 13) (E 14) (E 15) (E 16) (E 17) (E 18) (E 19) = some ((i : Int), D 0, D 1, D 2, D 3, D 4, D 5, D 6, D 7, D 8, D 9, D 10, D 11, D 12, D 13, D 14, D 15, D 16, D 17, D 18, D 19, A 0, A 1, A 2, A 3, A 4, A 5, A 6, A 7, A 8, A 9, A 10, A 11, A 12, A 13, A 14, A 15, A 16, A 17, A 18, A 19, B 0, B 1, B 2, B 3, B 4, B 5, B 6, B 7, B 8, B 9, B 10, B 11, B 12, B 13, B 14, B 15, B 16, B 17, B 18, B 19, Q' 0, Q' 1, Q' 2, Q' 3, Q' 4, Q' 5, Q' 6, Q' 7, Q' 8, Q' 9, Q' 10, Q' 11, Q' 12, Q' 13, Q' 14, Q' 15, Q' 16, Q' 17, Q' 18, Q' 19, R' 0, R' 1, R' 2, R' 3, R' 4, R' 5, R' 6, R' 7, R' 8, R' 9, R' 10, R' 11, R' 12, R' 13, R' 14, R' 15, R' 16, R' 17, R' 18, R' 19, E 0, E 1, E 2, E 3, E 4, E 5, E 6, E 7, E 8, E 9, E 10, E 11, E 12, E 13, E 14, E 15, E 16, E 17, E 18, E 19, ()) := by
      have := r5
      unfold byW at this
      rw [hUT 1 (by omega) (by omega), hUT 2 (by omega) (by omega), hUT 3 (by omega) (by omega), hUT 4 (by omega) (by omega), hUT 5 (by omega) (by omega), hUT 6 (by omega) (by omega), hUT 7 (by omega) (by omega), hUT 8 (by omega) (by omega), hUT 9 (by omega) (by omega), hUT 10 (by omega) (by omega), hUT 11 (by omega) (by omega), hUT 12 (by omega) (by omega), hUT 13 (by omega) (by omega), hUT 14 (by omega) (by omega), hUT 15 (by omega) (by omega), hUT 16 (by omega) (by omega), hUT 17 (by omega) (by omega), hUT 18 (by omega) (by omega), hUT 19 (by omega) (by omega)] at this
      exact this
    have e2 : wi64 ((i : Int) - 1) = (i : Int) - 1 := wi64_id (by omega) (by omega)
    rw [e]
    unfold r04_by_l1r
    rw [ge0', cond_true, t3']
    simp only [Option.bind_some]
    rw [ge0, lt20 hi, Int.toNat_natCast, sel20 D i hi, Bool.and_self, cond_true, r5']
    simp only [Option.bind_some]
    rw [e2]
    rfl

theorem rby_ok (D : Nat → Int) (c : Int) (hD : dig D) (hc : 0 < c) (hc' : c < 18446744073709551616) : ∃ Q R, dig Q ∧ dig R ∧ val Q 20 = val D 20 / c ∧ val R 20 = val D 20 % c ∧ r04_by_g 20000 (D 0) (D 1) (D 2) (D 3) (D 4) (D 5) (D 6) (D 7) (D 8) (D 9) (D 10) (D 11) (D 12) (D 13) (D 14) (D 15) (D 16) (D 17) (D 18) (D 19) c = some (Q 0, Q 1, Q 2, Q 3, Q 4, Q 5, Q 6, Q 7, Q 8, Q 9, Q 10, Q 11, Q 12, Q 13, Q 14, Q 15, Q 16, Q 17, Q 18, Q 19, R 0, R 1, R 2, R 3, R 4, R 5, R 6, R 7, R 8, R 9, R 10, R 11, R 12, R 13, R 14, R 15, R 16, R 17, R 18, R 19, ()) := by
  obtain ⟨E, y, e1, e2, e3, e4, e5⟩ := byD_loop D (fun _ => 0) (fun _ => 0) (fun _ => 0) (fun _ => 0) c 8 0 20000 c (fun _ => 0) (by omega) (by omega) dig_zero (fun _ _ => rfl) (by omega) hc' (by simp [val, P])
  have hv := val_bound e1 8 (by omega)
  have hp : P 8 = 18446744073709551616 := by decide
  have hy : y = 0 := by rw [hp] at e4; omega
  subst hy
  have hE : val E 20 = c := by
    have h : val E 20 = val E 8 := val_high (D := E) 8 12 (fun j h1 h2 => e2 j h1)
    omega
  have hv20 := val_bound hD 20 (by omega)
  obtain ⟨Q, R, q1, q2, q3, q4, q5⟩ := byO_loop D (fun _ => 0) (fun _ => 0) E hD e1 (by omega) (by omega) 20 20000 (fun _ => 0) (fun _ => 0) (by omega) (by omega) dig_zero dig_zero (fun _ _ => rfl) (by rw [val_zero 20 (fun _ _ => rfl)]; omega) (by rw [val_zero 20 (fun _ _ => rfl)]; simp)
  have hR := val_bound q2 20 (by omega)
  rw [hE] at q3 q4
  have hu := (Int.ediv_emod_unique (a := val D 20) (b := c) (q := val Q 20) (r := val R 20) hc).2 ⟨by rw [← q4, Int.mul_comm c]; omega, hR.1, q3⟩
  refine ⟨Q, R, q1, q2, hu.1.symm, hu.2.symm, ?_⟩
  unfold r04_by_g
  generalize hL0 : r04_by_l0 20000 20000 = L0 at *
  generalize hL1 : r04_by_l1 20000 20000 = L1 at *
  have e5' : r04_by_l0 20000 20000 c 0 (D 0) (D 1) (D 2) (D 3) (D 4) (D 5) (D 6) (D 7) (D 8) (D 9) (D 10) (D 11) (D 12) (D 13) (D 14) (D 15) (D 16) (D 17) (D 18) (D 19) 0 0 0 0 0 0 0 0 0 0 0 0 0 0 0 0 0 0 0 0 0 0 0 0 0 0 0 0 0 0 0 0 0 0 0 0 0 0 0 0 0 0 0 0 0 0 0 0 0 0 0 0 0 0 0 0 0 0 0 0 0 0 0 0 0 0 0 0 0 0 0 0 0 0 0 0 0 0 0 0 0 0 0 0 0 0 0 0 0 0 0 0 0 0 0 0 0 0 0 0 = _ := e5
  have q5' : r04_by_l1 20000 20000 19 (D 0) (D 1) (D 2) (D 3) (D 4) (D 5) (D 6) (D 7) (D 8) (D 9) (D 10) (D 11) (D 12) (D 13) (D 14) (D 15) (D 16) (D 17) (D 18) (D 19) 0 0 0 0 0 0 0 0 0 0 0 0 0 0 0 0 0 0 0 0 0 0 0 0 0 0 0 0 0 0 0 0 0 0 0 0 0 0 0 0 0 0 0 0 0 0 0 0 0 0 0 0 0 0 0 0 0 0 0 0 0 0 0 0 0 0 0 0 0 0 0 0 0 0 0 0 0 0 0 0 (E 0) (E 1) (E 2) (E 3) (E 4) (E 5) (E 6) (E 7) (E 8) (E 9) (E 10) (E 11) (E 12) (E 13) (E 14) (E 15) (E 16) (E 17) (E 18) (E 19) = _ := q5
  rw [hL0] at e5'
  rw [hL1] at q5'
  rw [e5']
  simp only [Option.bind_some]
  rw [q5']
  rfl

/-! ### As a number -/
noncomputable def whL (n : Nat) (x i : Int) (f : Bool) (D : Nat → Int) := r04_whole_l0 20000 n x i f (D 0) (D 1) (D 2) (D 3) (D 4) (D 5) (D 6) (D 7) (D 8) (D 9) (D 10) (D 11) (D 12) (D 13) (D 14) (D 15) (D 16) (D 17) (D 18) (D 19)

theorem wh_low (f : Bool) (D : Nat → Int) (hD : dig D) : ∀ (d n : Nat) (x : Int), d ≤ 8 → d < n → 0 ≤ x → x * P d + val D d < 18446744073709551616 → whL n x ((d : Int) - 1) f D = some (.inl (x * P d + val D d, f, D 0, D 1, D 2, D 3, D 4, D 5, D 6, D 7, D 8, D 9, D 10, D 11, D 12, D 13, D 14, D 15, D 16, D 17, D 18, D 19, ()))
  | 0, n, x, hd, hn, hx, hb => by
    obtain ⟨n, rfl⟩ : ∃ n', n = n' + 1 := ⟨n - 1, by omega⟩
    have e : x * P 0 + val D 0 = x := by simp [P, val]
    rw [e]
    rfl
  | d + 1, n, x, hd, hn, hx, hb => by
    obtain ⟨n, rfl⟩ : ∃ n', n = n' + 1 := ⟨n - 1, by omega⟩
    have hdd := hD d (by omega)
    have hv := val_bound hD d (by omega)
    rw [val_s D d, P_s d] at hb
    have heq : (x * 256 + D d) * P d + val D d = x * (P d * 256) + (val D d + D d * P d) := by grind
    have hb2 : (x * 256 + D d) * P d < 18446744073709551616 := by omega
    have hp := P_pos d
    have hxx : x * 256 + D d < 18446744073709551616 := by
      have : (x * 256 + D d) * 1 ≤ (x * 256 + D d) * P d := Int.mul_le_mul_of_nonneg_left (by omega) (by omega)
      omega
    have ih := wh_low f D hD d n (x * 256 + D d) (by omega) (by omega) (by omega) (by omega)
    rw [val_s D d, P_s d, ← heq, ← ih]
    have e0 : (((d + 1 : Nat) : Int) - 1) = (d : Int) := by simp
    rw [e0]
    have e : whL (n + 1) x (d : Int) f D = r04_whole_l0r 20000 (r04_whole_l0 20000 n) x d f (D 0) (D 1) (D 2) (D 3) (D 4) (D 5) (D 6) (D 7) (D 8) (D 9) (D 10) (D 11) (D 12) (D 13) (D 14) (D 15) (D 16) (D 17) (D 18) (D 19) := rfl
    have d8 : decide ((d : Int) ≥ 8) = false := by simp; omega
    have d8' : decide ((d : Int) < 8) = true := by simp; omega
    have e2 : wi64 ((d : Int) - 1) = (d : Int) - 1 := wi64_id (by omega) (by omega)
    have e3 : wu64 (wu64 (x * 256) + wu64 (D d)) = x * 256 + D d := by rw [wu64_id (x := x * 256) (by omega) (by omega), wu64_id (x := D d) (by omega) (by omega), wu64_id (by omega) (by omega)]
    rw [e]
    simp only [r04_whole_l0r, ge0', d8, d8', lt20 (show d < 20 by omega), ge0, Bool.and_self, cond_true, cond_false, Int.toNat_natCast, sel20 D d (by omega), e2, e3]
    rfl

theorem wh_high (f : Bool) (D : Nat → Int) (hD : dig D) : ∀ (d n : Nat), d ≤ 12 → d + 8 < n → whL n 0 (((8 + d : Nat) : Int) - 1) f D = some (if val D (8 + d) < 18446744073709551616 then .inl (val D (8 + d), f, D 0, D 1, D 2, D 3, D 4, D 5, D 6, D 7, D 8, D 9, D 10, D 11, D 12, D 13, D 14, D 15, D 16, D 17, D 18, D 19, ()) else .inr (0, false, ()))
  | 0, n, hd, hn => by
    have hv := val_bound hD 8 (by omega)
    have hp : P 8 = 18446744073709551616 := by decide
    have := wh_low f D hD 8 n 0 (by omega) (by omega) (by omega) (by omega)
    rw [if_pos (by show val D 8 < _; omega)]
    simpa using this
  | d + 1, n, hd, hn => by
    obtain ⟨n, rfl⟩ : ∃ n', n = n' + 1 := ⟨n - 1, by omega⟩
    have hdd := hD (8 + d) (by omega)
    have hv := val_bound hD (8 + d) (by omega)
    have hp := P_mono (show 8 ≤ 8 + d by omega)
    have hp8 : P 8 = 18446744073709551616 := by decide
    have ih := wh_high f D hD d n (by omega) (by omega)
    have es : val D (8 + (d + 1)) = val D (8 + d) + D (8 + d) * P (8 + d) := val_s D (8 + d)
    obtain ⟨m, hm⟩ : ∃ m, m = 8 + d := ⟨_, rfl⟩
    have e0 : (((8 + (d + 1) : Nat) : Int) - 1) = (m : Int) := by omega
    rw [e0]
    have e : whL (n + 1) 0 (m : Int) f D = r04_whole_l0r 20000 (r04_whole_l0 20000 n) 0 m f (D 0) (D 1) (D 2) (D 3) (D 4) (D 5) (D 6) (D 7) (D 8) (D 9) (D 10) (D 11) (D 12) (D 13) (D 14) (D 15) (D 16) (D 17) (D 18) (D 19) := rfl
    have d8 : decide ((m : Int) ≥ 8) = true := by simp; omega
    have d8' : decide ((m : Int) < 8) = false := by simp; omega
    have e2 : wi64 ((m : Int) - 1) = (m : Int) - 1 := wi64_id (by omega) (by omega)
    rw [e]
    rw [← hm] at es hdd ih hp
    by_cases h : D m = 0
    · have hb : (D m != 0) = false := by simp [h]
      simp only [r04_whole_l0r, ge0', d8, d8', lt20 (show m < 20 by omega), ge0, Bool.and_self, cond_true, cond_false, Int.toNat_natCast, sel20 D m (by omega), e2, hb]
      rw [h] at es
      simp at es
      rw [es]
      exact ih
    · have hb : (D m != 0) = true := by simp [h]
      simp only [r04_whole_l0r, ge0', d8, lt20 (show m < 20 by omega), ge0, Bool.and_self, cond_true, Int.toNat_natCast, sel20 D m (by omega), hb]
      have h1 : 1 * P m ≤ D m * P m := Int.mul_le_mul_of_nonneg_right (by omega) (Int.le_of_lt (P_pos m))
      rw [hm] at h1 es
      have hv0 := hv.1
      rw [if_neg (by rw [es]; rw [hm] at hp; omega)]

theorem whole_ok (f : Bool) (D : Nat → Int) (hD : dig D) : r04_whole_g 20000 f (D 0) (D 1) (D 2) (D 3) (D 4) (D 5) (D 6) (D 7) (D 8) (D 9) (D 10) (D 11) (D 12) (D 13) (D 14) (D 15) (D 16) (D 17) (D 18) (D 19) = some (if f = true then (if val D 20 ≤ 9223372036854775808 then (-(val D 20), true, ()) else (0, false, ())) else (if val D 20 < 9223372036854775808 then (val D 20, true, ()) else (0, false, ()))) := by
  unfold r04_whole_g
  have h : r04_whole_l0 20000 20000 0 19 f (D 0) (D 1) (D 2) (D 3) (D 4) (D 5) (D 6) (D 7) (D 8) (D 9) (D 10) (D 11) (D 12) (D 13) (D 14) (D 15) (D 16) (D 17) (D 18) (D 19) = _ := wh_high f D hD 12 20000 (by omega) (by omega)
  rw [h]
  have hv := (val_bound hD 20 (by omega)).1
  rw [show 8 + 12 = 20 by rfl]
  generalize val D 20 = m at *
  by_cases h1 : m < 18446744073709551616
  · rw [if_pos h1]
    simp only [Option.bind_some, Sum.elim_inl]
    cases f with
    | true =>
      rw [if_pos rfl, cond_true]
      by_cases h2 : m ≤ 9223372036854775808
      · rw [if_pos h2, decide_eq_false (show ¬ m > 9223372036854775808 by omega), cond_false]
        have : wi64 (wu64 (0 - m)) = -m := by simp only [wi64_def, wu64_def]; split <;> omega
        rw [this]
      · rw [if_neg h2, decide_eq_true (show m > 9223372036854775808 by omega), cond_true]
    | false =>
      rw [if_neg (by simp), cond_false]
      by_cases h2 : m < 9223372036854775808
      · rw [if_pos h2, decide_eq_false (show ¬ m > 9223372036854775807 by omega), cond_false, wi64_id (by omega) (by omega)]
      · rw [if_neg h2, decide_eq_true (show m > 9223372036854775807 by omega), cond_true]
  · rw [if_neg h1]
    cases f
    · rw [if_neg (by simp), if_neg (by omega)]; rfl
    · rw [if_pos rfl, if_neg (by omega)]; rfl

def oneD : Nat → Int
  | 0 => 1
  | _ + 1 => 0

theorem dig_one : dig oneD := by
  intro j _
  cases j
  · show (0 : Int) ≤ 1 ∧ (1 : Int) ≤ 255; decide
  · show (0 : Int) ≤ 0 ∧ (0 : Int) ≤ 255; decide

/-- To the nearest, of digits. -/
theorem rnear_ok (f : Bool) (D : Nat → Int) (c : Int) (hD : dig D) (hv : val D 20 < P 19) (hc : 0 < c) (hc' : c < 9223372036854775808) :
    r04_Near_g 20000 f (D 0) (D 1) (D 2) (D 3) (D 4) (D 5) (D 6) (D 7) (D 8) (D 9) (D 10) (D 11) (D 12) (D 13) (D 14) (D 15) (D 16) (D 17) (D 18) (D 19) c = some (fit (if f = true then -(nrs (val D 20) c) else nrs (val D 20) c)) := by
  unfold r04_Near_g
  obtain ⟨Q, R, q1, q2, q3, q4, q5⟩ := rby_ok D c hD hc (by omega)
  obtain ⟨E, e1, e2, e3, e4⟩ := of_ok c (by omega) hc'
  have hc20 : val E 20 = c := by
    have h1 := val_high (D := E) 8 12 (fun j h1 h2 => e2 j h1)
    have h2 : ab c = c := by unfold ab; rw [if_neg (by omega)]
    rw [h2] at e3
    exact h1.trans e3
  have hr0 := Int.emod_nonneg (val D 20) (show c ≠ 0 by omega)
  have hr1 := Int.emod_lt_of_pos (val D 20) hc
  have h0 := (val_bound hD 20 (by omega)).1
  have hp20 : P 20 = P 19 * 256 := rfl
  have hp19 := P_mono (show 8 ≤ 19 by omega)
  have hp8 : P 8 = 18446744073709551616 := by decide
  obtain ⟨S, s1, s2, s3⟩ := plus_ok R R q2 q2 (by omega)
  obtain ⟨r, a1, a2⟩ := ag_ok S E s1 e1
  rw [decide_eq_false (show ¬ c < 1 by omega), wu64_id (x := c) (by omega) (by omega), q5]
  simp only [cond_false, Option.bind_some]
  rw [s3]
  simp only [Option.bind_some]
  rw [e4]
  simp only [Option.bind_some]
  rw [a1]
  simp only [Option.bind_some]
  rw [a2, s2, hc20, q4, half_div hc]
  have hq0 : 0 ≤ val D 20 / c := Int.ediv_nonneg h0 (by omega)
  have hq1 : val D 20 / c ≤ val D 20 := Int.ediv_le_self _ h0
  have fin : ∀ z : Int, 0 ≤ z → ((some (if f = true then (if z ≤ 9223372036854775808 then (-z, true, ()) else ((0 : Int), false, ())) else (if z < 9223372036854775808 then (z, true, ()) else (0, false, ())))).bind fun q7 => (bif (!q7.2.1) then (some ((0 : Int), (3 : Int), ())) else (some (q7.1, 0, ())))) = some (fit (if f = true then -z else z)) := by
    intro z hz
    unfold fit
    cases f with
    | true =>
      simp only [if_true, eq_self]
      by_cases h : z ≤ 9223372036854775808
      · rw [if_pos h, if_pos (by omega)]; rfl
      · rw [if_neg h, if_neg (by omega)]; rfl
    | false =>
      simp only [Bool.false_eq_true, if_false]
      by_cases h : z < 9223372036854775808
      · rw [if_pos h, if_pos (by omega)]; rfl
      · rw [if_neg h, if_neg (by omega)]; rfl
  by_cases hup : c ≤ 2 * (val D 20 % c)
  · rw [if_pos hup, decide_eq_true (show c ≤ val D 20 % c + val D 20 % c by omega), cond_true]
    have ho : r04_one_g 20000 = some (1, 0, 0, 0, 0, 0, 0, 0, 0, 0, 0, 0, 0, 0, 0, 0, 0, 0, 0, 0, ()) := rfl
    rw [ho]
    simp only [Option.bind_some]
    have hO1 : val oneD 20 = 1 := by decide
    obtain ⟨T, t1, t2, t3⟩ := plus_ok Q oneD q1 dig_one (by rw [q3, hO1]; omega)
    have t3' : r04_plus_g 20000 (Q 0) (Q 1) (Q 2) (Q 3) (Q 4) (Q 5) (Q 6) (Q 7) (Q 8) (Q 9) (Q 10) (Q 11) (Q 12) (Q 13) (Q 14) (Q 15) (Q 16) (Q 17) (Q 18) (Q 19) 1 0 0 0 0 0 0 0 0 0 0 0 0 0 0 0 0 0 0 0 = _ := t3
    rw [t3']
    simp only [Option.bind_some]
    rw [whole_ok f T t1, t2, hO1, q3]
    exact fin _ (by omega)
  · rw [if_neg hup, decide_eq_false (show ¬ c ≤ val D 20 % c + val D 20 % c by omega), cond_false, whole_ok f Q q1, q3]
    exact fin _ hq0

/-- A product, divided to the nearest number: as the document has it. -/
theorem rmulnear_ok (a b c : Int) (ha : -9223372036854775808 ≤ a) (ha' : a < 9223372036854775808) (hb : -9223372036854775808 ≤ b) (hb' : b < 9223372036854775808) (hc : 0 < c) (hc' : c < 9223372036854775808) :
    ∃ (f : Bool) (D : Nat → Int), r04_Mul_g 20000 a b = some (f, D 0, D 1, D 2, D 3, D 4, D 5, D 6, D 7, D 8, D 9, D 10, D 11, D 12, D 13, D 14, D 15, D 16, D 17, D 18, D 19, ()) ∧ r04_Near_g 20000 f (D 0) (D 1) (D 2) (D 3) (D 4) (D 5) (D 6) (D 7) (D 8) (D 9) (D 10) (D 11) (D 12) (D 13) (D 14) (D 15) (D 16) (D 17) (D 18) (D 19) c = some (fit (nr (a * b) c)) := by
  obtain ⟨D, d1, d2, d3⟩ := mul_ok a b ha ha' hb hb'
  refine ⟨_, D, d3, ?_⟩
  have hab := mul_range (ab_nonneg a) (ab_le ha ha') (ab_nonneg b) (ab_le hb hb')
  rw [ab_mul] at hab
  have hp : (9223372036854775808 : Int) * 9223372036854775808 < P 19 := by decide
  rw [rnear_ok _ D c d1 (by omega) hc hc', d2, nr_ab]
  congr 2
  have hs := mul_sign a b
  cases hq : (decide (a < 0) == decide (b < 0)) with
  | true =>
    rw [hq, if_pos rfl] at hs
    have h0 : 0 ≤ ab a * ab b := by rw [ab_mul]; exact ab_nonneg _
    rw [if_neg (by simp), if_neg (by omega)]
  | false =>
    rw [hq, if_neg (by simp)] at hs
    rw [if_pos (by rfl)]
    by_cases h : a * b < 0
    · rw [if_pos h]
    · have h0 : 0 ≤ ab a * ab b := by rw [ab_mul]; exact ab_nonneg _
      have hz : a * b = 0 := by omega
      rw [if_neg h, hz]
      have : nrs (ab 0) c = 0 := nrs_zero hc
      rw [this]
      rfl

theorem rmul_sv (a b : Int) (ha : -9223372036854775808 ≤ a) (ha' : a < 9223372036854775808) (hb : -9223372036854775808 ≤ b) (hb' : b < 9223372036854775808) :
    ∃ (f : Bool) (D : Nat → Int), dig D ∧ r04_Mul_g 20000 a b = some (f, D 0, D 1, D 2, D 3, D 4, D 5, D 6, D 7, D 8, D 9, D 10, D 11, D 12, D 13, D 14, D 15, D 16, D 17, D 18, D 19, ()) ∧ (if f = true then -(val D 20) else val D 20) = a * b ∧ val D 20 = ab (a * b) := by
  obtain ⟨D, d1, d2, d3⟩ := mul_ok a b ha ha' hb hb'
  refine ⟨_, D, d1, d3, ?_, d2⟩
  rw [d2]
  have hs := mul_sign a b
  rw [ab_mul] at hs
  cases hq : (decide (a < 0) == decide (b < 0)) with
  | true =>
    rw [hq, if_pos rfl] at hs
    rw [if_neg (by simp)]
    exact hs.symm
  | false =>
    rw [hq, if_neg (by simp)] at hs
    rw [if_pos (by rfl)]
    exact hs.symm

end Go.Proofs.YtjmbhhinmbgneaaGreat
