/-
  Law 13 (sample), the third part: samples joined, and the worst of them.
-/
import Derived.Test.YtdcjkkgfimbodaaM
import Derived.Test.YtdcjkkgfimbodaaQ
namespace Go.Proofs.Ytdcjkkgfimbodaa
open Go.Sy
set_option maxHeartbeats 1000000

/-! ### Samples of some ticks -/
def okT (T : Nat → Int) (n : Nat) : Prop := ∀ j, j < n → 1 ≤ T j ∧ T j ≤ 60000

theorem sumT {T : Nat → Int} {n : Nat} (h : okT T n) : (n : Int) ≤ sumF T n ∧ sumF T n ≤ (n : Int) * 60000 := by
  have := sum_bound (m := T) (lo := 1) (hi := 60000) n h
  omega

theorem sumF_congr {m m' : Nat → Int} : ∀ {n : Nat}, (∀ j, j < n → m j = m' j) → sumF m n = sumF m' n
  | 0, _ => rfl
  | n + 1, h => by
    unfold sumF
    rw [sumF_congr (n := n) (fun j hj => h j (by omega)), h n (by omega)]

theorem rawFrom_congr {m m' : Nat → Int} : ∀ {d i : Nat}, (∀ j, i ≤ j → j < i + d → m j = m' j) → rawFrom m i d = rawFrom m' i d
  | 0, _, _ => rfl
  | d + 1, i, h => by
    unfold rawFrom
    rw [h i (by omega) (by omega), rawFrom_congr (d := d) (i := i + 1) (fun j h1 h2 => h j (by omega) (by omega))]

theorem meanV_congr {m m' : Nat → Int} {n : Nat} (h : ∀ j, j < n → m j = m' j) : meanV n m = meanV n m' := by
  unfold meanV
  rw [sumF_congr h, rawFrom_congr (fun j _ hj => h j (by omega))]

theorem kblt_t {i j : Nat} (h : i < j) : Nat.blt i j = true := by rw [Nat.blt_eq]; omega
theorem kblt_f {i j : Nat} (h : j ≤ i) : Nat.blt i j = false := by
  cases h' : Nat.blt i j with
  | false => rfl
  | true => rw [Nat.blt_eq] at h'; omega

def appI (C : Nat → Int) (i : Nat) (x : Int) : Nat → Int := fun j => bif Nat.blt j i then C j else selI [x] (j - i)

theorem app_step {C A : Nat → Int} {i : Nat} {x : Int} (h : ∀ j, j < i → C j = A j) (hx : x = A i) : ∀ j, j < i + 1 → appI C i x j = A j := by
  intro j hj
  unfold appI
  by_cases e : j = i
  · subst e
    rw [kblt_f (Nat.le_refl _), Nat.sub_self]
    exact hx
  · rw [kblt_t (show j < i by omega)]
    exact h j (by omega)

theorem take_ok (a b c d : Int) : sample_take_g 1000 a b c d = some (d, a, b, c, ()) := rfl

theorem join1_ok (n : Nat) (u v a b c p0 p1 p2 p3 o0 o1 o2 o3 : Int) (i : Nat) (hi : i < 256) (A B C T X Y Z : Nat → Int) :
    sample_Join_l1 1000 1000 n u v a b c 0 p0 p1 p2 p3 o0 o1 o2 o3 i i i A B C T X Y Z =
      some (n, u, v, p0, p1, p2, p3, o0, o1, o2, o3, i + 1, i + 1, i + 1, A, B, C, T, appI X i a, appI Y i b, appI Z i c, ()) := by
  have hb : Nat.ble ((i + 1) * 8) 140737488355328 = true := by rw [Nat.ble_eq]; omega
  have r3 : ∀ (f : Nat) (X Y Z : Nat → Int), sample_Join_l1 1000 (f + 1) n u v a b c 3 p0 p1 p2 p3 o0 o1 o2 o3 (i + 1) (i + 1) (i + 1) A B C T X Y Z = some (n, u, v, p0, p1, p2, p3, o0, o1, o2, o3, i + 1, i + 1, i + 1, A, B, C, T, X, Y, Z, ()) := fun f X Y Z => rfl
  have r2 : ∀ (f : Nat) (X Y : Nat → Int), sample_Join_l1 1000 (f + 1) n u v a b c 2 p0 p1 p2 p3 o0 o1 o2 o3 (i + 1) (i + 1) i A B C T X Y Z = sample_Join_l1 1000 f n u v a b c 3 p0 p1 p2 p3 o0 o1 o2 o3 (i + 1) (i + 1) (i + 1) A B C T X Y (appI Z i c) := fun f X Y => by
    show sample_Join_l1r 1000 (sample_Join_l1 1000 f) n u v a b c 2 p0 p1 p2 p3 o0 o1 o2 o3 (i + 1) (i + 1) i A B C T X Y Z = _
    unfold sample_Join_l1r
    rw [hb]
    rfl
  have r1 : ∀ (f : Nat) (X : Nat → Int), sample_Join_l1 1000 (f + 1) n u v a b c 1 p0 p1 p2 p3 o0 o1 o2 o3 (i + 1) i i A B C T X Y Z = sample_Join_l1 1000 f n u v a b c 2 p0 p1 p2 p3 o0 o1 o2 o3 (i + 1) (i + 1) i A B C T X (appI Y i b) Z := fun f X => by
    show sample_Join_l1r 1000 (sample_Join_l1 1000 f) n u v a b c 1 p0 p1 p2 p3 o0 o1 o2 o3 (i + 1) i i A B C T X Y Z = _
    unfold sample_Join_l1r
    rw [hb]
    rfl
  have r0 : ∀ (f : Nat), sample_Join_l1 1000 (f + 1) n u v a b c 0 p0 p1 p2 p3 o0 o1 o2 o3 i i i A B C T X Y Z = sample_Join_l1 1000 f n u v a b c 1 p0 p1 p2 p3 o0 o1 o2 o3 (i + 1) i i A B C T (appI X i a) Y Z := fun f => by
    show sample_Join_l1r 1000 (sample_Join_l1 1000 f) n u v a b c 0 p0 p1 p2 p3 o0 o1 o2 o3 i i i A B C T X Y Z = _
    unfold sample_Join_l1r
    rw [hb]
    rfl
  have h0 := r0 999
  have h1 := r1 998 (appI X i a)
  have h2 := r2 997 (appI X i a) (appI Y i b)
  have h3 := r3 996 (appI X i a) (appI Y i b) (appI Z i c)
  exact h0.trans (h1.trans (h2.trans h3))

theorem join0_ok (n : Nat) (A B C T : Nat → Int) (hn : n ≤ 256) : ∀ (d i N : Nat) (X Y Z : Nat → Int), i + d = n → d < N → okT T i → (∀ j, j < i → X j = A j) → (∀ j, j < i → Y j = B j) → (∀ j, j < i → Z j = C j) →
    (okT T n → ∃ X' Y' Z' : Nat → Int, (∀ j, j < n → X' j = A j) ∧ (∀ j, j < n → Y' j = B j) ∧ (∀ j, j < n → Z' j = C j) ∧
      sample_Join_l0 1000 N n (n : Int) (i : Int) 0 0 0 0 0 0 0 (sumF T i) i i i A B C T X Y Z = some (.inl (0, 0, 0, 0, 0, 0, 0, sumF T n, n, n, n, X', Y', Z', ()))) ∧
    (¬ okT T n → sample_Join_l0 1000 N n (n : Int) (i : Int) 0 0 0 0 0 0 0 (sumF T i) i i i A B C T X Y Z = some (.inr (2, 0, 0, 0, 0, ())))
  | 0, i, N, X, Y, Z, hd, hf, hT, hX, hY, hZ => by
    obtain ⟨f, rfl⟩ : ∃ f, N = f + 1 := ⟨N - 1, by omega⟩
    have e : i = n := by omega
    subst e
    refine ⟨fun _ => ⟨X, Y, Z, hX, hY, hZ, ?_⟩, fun h => absurd hT h⟩
    show sample_Join_l0r 1000 (sample_Join_l0 1000 f) i (i : Int) (i : Int) 0 0 0 0 0 0 0 (sumF T i) i i i A B C T X Y Z = _
    unfold sample_Join_l0r
    rw [nat_lt_self]
    rfl
  | d + 1, i, N, X, Y, Z, hd, hf, hT, hX, hY, hZ => by
    obtain ⟨f, rfl⟩ : ∃ f, N = f + 1 := ⟨N - 1, by omega⟩
    have hin : i < n := by omega
    have e0 : sample_Join_l0 1000 (f + 1) n (n : Int) (i : Int) 0 0 0 0 0 0 0 (sumF T i) i i i A B C T X Y Z = sample_Join_l0r 1000 (sample_Join_l0 1000 f) n (n : Int) (i : Int) 0 0 0 0 0 0 0 (sumF T i) i i i A B C T X Y Z := rfl
    rw [e0]
    unfold sample_Join_l0r
    simp only [nat_lt_dec hin, nat_nn_dec, Bool.and_self, cond_true, Int.toNat_natCast, take_ok, may_ok, Option.bind_some]
    by_cases ht : 1 ≤ T i ∧ T i ≤ 60000
    · rw [decide_eq_true ht]
      have hT' : okT T (i + 1) := fun j hj => by
        by_cases e : j = i
        · exact e ▸ ht
        · exact hT j (by omega)
      have hs := sumT hT'
      have e1 : wi64 (sumF T i + T i) = sumF T (i + 1) := by
        have e : sumF T (i + 1) = sumF T i + T i := rfl
        rw [← e, wi64_id (by omega) (by omega)]
      simp only [Bool.not_true, cond_false]
      rw [join1_ok n (n : Int) (i : Int) (A i) (B i) (C i) 0 0 0 0 0 0 0 _ i (by omega) A B C T X Y Z]
      simp only [Option.bind_some, wi_succ (show i < 1000000 by omega), e1]
      exact join0_ok n A B C T hn d (i + 1) f _ _ _ (by omega) (by omega) hT' (app_step hX rfl) (app_step hY rfl) (app_step hZ rfl)
    · rw [decide_eq_false ht]
      exact ⟨fun h => absurd (h i hin) ht, fun _ => rfl⟩

/-! ### Joined -/
def joinP (n : Nat) (A B C T : Nat → Int) : Prop := (1 ≤ n ∧ n ≤ 256) ∧ okT T n ∧ sumF T n ≤ 60000 ∧ rawFrom A 0 n = true ∧ rawFrom B 0 n = true ∧ rawFrom C 0 n = true
noncomputable def joinE (n : Nat) (A B C T : Nat → Int) : Int × Int × Int × Int × Int × Unit := by
  classical exact if joinP n A B C T then (nr (sumF A n) n, nr (sumF B n) n, nr (sumF C n) n, sumF T n, 0, ()) else (0, 0, 0, 0, 2, ())
theorem joinE_t {n : Nat} {A B C T : Nat → Int} (h : joinP n A B C T) : joinE n A B C T = (nr (sumF A n) n, nr (sumF B n) n, nr (sumF C n) n, sumF T n, 0, ()) := by unfold joinE; exact if_pos h
theorem joinE_f {n : Nat} {A B C T : Nat → Int} (h : ¬ joinP n A B C T) : joinE n A B C T = (0, 0, 0, 0, 2, ()) := by unfold joinE; exact if_neg h

theorem meanV_t {n : Nat} {m : Nat → Int} (h : 1 ≤ n ∧ n ≤ 256) (hr : rawFrom m 0 n = true) : meanV n m = (nr (sumF m n) n, 0, ()) := if_pos ⟨h.1, h.2, hr⟩
theorem meanV_f {n : Nat} {m : Nat → Int} (hr : rawFrom m 0 n = false) : meanV n m = (0, 2, ()) := if_neg fun h => by rw [hr] at h; simp at h

theorem join2_ok (n : Nat) (t : Int) (A B C X Y Z : Nat → Int) (hn : 1 ≤ n ∧ n ≤ 256) (hX : ∀ j, j < n → X j = A j) (hY : ∀ j, j < n → Y j = B j) (hZ : ∀ j, j < n → Z j = C j) :
    sample_Join_l2 1000 1000 n n n 0 0 0 0 0 0 0 0 t X Y Z = some (bif rawFrom A 0 n && (rawFrom B 0 n && rawFrom C 0 n) then .inl (0, 0, 0, 0, nr (sumF A n) n, nr (sumF B n) n, nr (sumF C n) n, t, ()) else .inr (2, 0, 0, 0, 0, ())) := by
  have d0 : ((0 : Int) != 0) = false := rfl
  have d2 : ((2 : Int) != 0) = true := rfl
  have mX : adc_Mean_g 1000 n X = some (meanV n A) := by rw [mean_ok n X (by omega), meanV_congr hX]
  have mY : adc_Mean_g 1000 n Y = some (meanV n B) := by rw [mean_ok n Y (by omega), meanV_congr hY]
  have mZ : adc_Mean_g 1000 n Z = some (meanV n C) := by rw [mean_ok n Z (by omega), meanV_congr hZ]
  have r3 : ∀ (f : Nat) (a b c : Int), sample_Join_l2 1000 (f + 1) n n n 3 0 0 0 0 a b c t X Y Z = some (.inl (0, 0, 0, 0, a, b, c, t, ())) := fun f a b c => rfl
  have r2 : ∀ (f : Nat) (a b : Int), sample_Join_l2 1000 (f + 1) n n n 2 0 0 0 0 a b 0 t X Y Z = bif rawFrom C 0 n then sample_Join_l2 1000 f n n n 3 0 0 0 0 a b (nr (sumF C n) n) t X Y Z else some (.inr (2, 0, 0, 0, 0, ())) := fun f a b => by
    show sample_Join_l2r 1000 (sample_Join_l2 1000 f) n n n 2 0 0 0 0 a b 0 t X Y Z = _
    unfold sample_Join_l2r
    rw [mZ]
    cases h : rawFrom C 0 n with
    | true => rw [meanV_t hn h]; rfl
    | false => rw [meanV_f h]; rfl
  have r1 : ∀ (f : Nat) (a : Int), sample_Join_l2 1000 (f + 1) n n n 1 0 0 0 0 a 0 0 t X Y Z = bif rawFrom B 0 n then sample_Join_l2 1000 f n n n 2 0 0 0 0 a (nr (sumF B n) n) 0 t X Y Z else some (.inr (2, 0, 0, 0, 0, ())) := fun f a => by
    show sample_Join_l2r 1000 (sample_Join_l2 1000 f) n n n 1 0 0 0 0 a 0 0 t X Y Z = _
    unfold sample_Join_l2r
    rw [mY]
    cases h : rawFrom B 0 n with
    | true => rw [meanV_t hn h]; rfl
    | false => rw [meanV_f h]; rfl
  have r0 : ∀ (f : Nat), sample_Join_l2 1000 (f + 1) n n n 0 0 0 0 0 0 0 0 t X Y Z = bif rawFrom A 0 n then sample_Join_l2 1000 f n n n 1 0 0 0 0 (nr (sumF A n) n) 0 0 t X Y Z else some (.inr (2, 0, 0, 0, 0, ())) := fun f => by
    show sample_Join_l2r 1000 (sample_Join_l2 1000 f) n n n 0 0 0 0 0 0 0 0 t X Y Z = _
    unfold sample_Join_l2r
    rw [mX]
    cases h : rawFrom A 0 n with
    | true => rw [meanV_t hn h]; rfl
    | false => rw [meanV_f h]; rfl
  have h0 := r0 999
  have h1 := r1 998 (nr (sumF A n) n)
  have h2 := r2 997 (nr (sumF A n) n) (nr (sumF B n) n)
  have h3 := r3 996 (nr (sumF A n) n) (nr (sumF B n) n) (nr (sumF C n) n)
  refine h0.trans ?_
  cases rawFrom A 0 n with
  | false => rfl
  | true =>
    refine h1.trans ?_
    cases rawFrom B 0 n with
    | false => rfl
    | true =>
      refine h2.trans ?_
      cases rawFrom C 0 n with
      | false => rfl
      | true => exact h3

theorem join_ok (n : Nat) (A B C T : Nat → Int) (hn : n ≤ 257) : sample_Join_g 1000 n A B C T = some (joinE n A B C T) := by
  unfold sample_Join_g
  by_cases h1 : n ≤ 256
  · rw [decide_eq_false (show ¬ ((n : Nat) : Int) > 256 by omega)]
    have hl := join0_ok n A B C T h1 n 0 1000 (fun _ => 0) (fun _ => 0) (fun _ => 0) (by omega) (by omega) (fun j hj => absurd hj (by omega)) (fun j hj => absurd hj (by omega)) (fun j hj => absurd hj (by omega)) (fun j hj => absurd hj (by omega))
    have e0 : ((0 : Nat) : Int) = 0 := rfl
    have e1 : sumF T 0 = 0 := rfl
    rw [e0, e1] at hl
    simp only [cond_false]
    by_cases hT : okT T n
    · obtain ⟨X, Y, Z, hX, hY, hZ, h⟩ := hl.1 hT
      have hs := sumT hT
      rw [h]
      simp only [Option.bind_some, Sum.elim_inl, may_ok]
      by_cases hs1 : 1 ≤ sumF T n ∧ sumF T n ≤ 60000
      · have hn1 : 1 ≤ n ∧ n ≤ 256 := ⟨by
          rcases Nat.eq_zero_or_pos n with e | e
          · subst e
            have := hs1.1
            rw [e1] at this
            omega
          · exact e, h1⟩
        rw [decide_eq_true hs1]
        simp only [Bool.not_true, cond_false]
        rw [join2_ok n (sumF T n) A B C X Y Z hn1 hX hY hZ]
        cases hA : rawFrom A 0 n with
        | false => rw [joinE_f (fun k => by have := k.2.2.2.1; rw [hA] at this; cases this)]; rfl
        | true =>
          cases hB : rawFrom B 0 n with
          | false => rw [joinE_f (fun k => by have := k.2.2.2.2.1; rw [hB] at this; cases this)]; rfl
          | true =>
            cases hC : rawFrom C 0 n with
            | false => rw [joinE_f (fun k => by have := k.2.2.2.2.2; rw [hC] at this; cases this)]; rfl
            | true => rw [joinE_t ⟨hn1, hT, hs1.2, hA, hB, hC⟩]; rfl
      · rw [decide_eq_false hs1, joinE_f (fun k => hs1 ⟨by have := k.1.1; omega, k.2.2.1⟩)]
        rfl
    · rw [hl.2 hT, joinE_f (fun k => hT k.2.1)]
      rfl
  · rw [decide_eq_true (show ((n : Nat) : Int) > 256 by omega), joinE_f (fun k => h1 k.1.2)]
    rfl

/-! ### The document's -/
theorem rjoin0_ok (n : Nat) (A B C T : Nat → Int) (hn : n ≤ 256) : ∀ (d i N : Nat), i + d = n → d < N → okT T i →
    (okT T n → rheostatref13_Join_l0 1000 N n (i : Int) A B C T 0 0 0 0 0 0 0 (sumF T i) = some (.inl (n, A, B, C, T, 0, 0, 0, 0, 0, 0, 0, sumF T n, ()))) ∧
    (¬ okT T n → rheostatref13_Join_l0 1000 N n (i : Int) A B C T 0 0 0 0 0 0 0 (sumF T i) = some (.inr (2, 0, 0, 0, 0, ())))
  | 0, i, N, hd, hf, hT => by
    obtain ⟨f, rfl⟩ : ∃ f, N = f + 1 := ⟨N - 1, by omega⟩
    have e : i = n := by omega
    subst e
    refine ⟨fun _ => ?_, fun h => absurd hT h⟩
    show rheostatref13_Join_l0r 1000 (rheostatref13_Join_l0 1000 f) i (i : Int) A B C T 0 0 0 0 0 0 0 (sumF T i) = _
    unfold rheostatref13_Join_l0r
    rw [nat_lt_self]
    rfl
  | d + 1, i, N, hd, hf, hT => by
    obtain ⟨f, rfl⟩ : ∃ f, N = f + 1 := ⟨N - 1, by omega⟩
    have hin : i < n := by omega
    have e0 : rheostatref13_Join_l0 1000 (f + 1) n (i : Int) A B C T 0 0 0 0 0 0 0 (sumF T i) = rheostatref13_Join_l0r 1000 (rheostatref13_Join_l0 1000 f) n (i : Int) A B C T 0 0 0 0 0 0 0 (sumF T i) := rfl
    rw [e0]
    unfold rheostatref13_Join_l0r
    simp only [nat_lt_dec hin, nat_nn_dec, Bool.and_self, cond_true, Int.toNat_natCast]
    by_cases h1 : T i < 1
    · rw [decide_eq_true h1]
      exact ⟨fun h => absurd (h i hin).1 (by omega), fun _ => rfl⟩
    · rw [decide_eq_false h1]
      by_cases h2 : T i > 60000
      · rw [decide_eq_true h2]
        exact ⟨fun h => absurd (h i hin).2 (by omega), fun _ => rfl⟩
      · rw [decide_eq_false h2]
        have hT' : okT T (i + 1) := fun j hj => by
          by_cases e : j = i
          · exact e ▸ ⟨by omega, by omega⟩
          · exact hT j (by omega)
        have hs := sumT hT'
        have e1 : wi64 (sumF T i + T i) = sumF T (i + 1) := by
          have e : sumF T (i + 1) = sumF T i + T i := rfl
          rw [← e, wi64_id (by omega) (by omega)]
        rw [e1, wi_succ (show i < 1000000 by omega)]
        exact rjoin0_ok n A B C T hn d (i + 1) f (by omega) (by omega) hT'

theorem rjoin2_ok (n : Nat) (k : Nat) (hk : k < 3) (o0 o1 o2 o3 p0 p1 p2 p3 : Int) (A B C T : Nat → Int) (hn : n ≤ 256) : ∀ (d i N : Nat) (X : Nat → Int), i + d = n → d < N → (∀ j, j < i → X j = selI [A j, B j, C j] k) →
    ∃ X' : Nat → Int, (∀ j, j < n → X' j = selI [A j, B j, C j] k) ∧ rheostatref13_Join_l2 1000 N n (k : Int) i (i : Int) A B C T o0 o1 o2 o3 p0 p1 p2 p3 X = some (n, (k : Int), n, A, B, C, T, o0, o1, o2, o3, p0, p1, p2, p3, X', ())
  | 0, i, N, X, hd, hf, hX => by
    obtain ⟨f, rfl⟩ : ∃ f, N = f + 1 := ⟨N - 1, by omega⟩
    have e : i = n := by omega
    subst e
    refine ⟨X, hX, ?_⟩
    show rheostatref13_Join_l2r 1000 (rheostatref13_Join_l2 1000 f) i (k : Int) i (i : Int) A B C T o0 o1 o2 o3 p0 p1 p2 p3 X = _
    unfold rheostatref13_Join_l2r
    rw [nat_lt_self]
    rfl
  | d + 1, i, N, X, hd, hf, hX => by
    obtain ⟨f, rfl⟩ : ∃ f, N = f + 1 := ⟨N - 1, by omega⟩
    have hin : i < n := by omega
    have e0 : rheostatref13_Join_l2 1000 (f + 1) n (k : Int) i (i : Int) A B C T o0 o1 o2 o3 p0 p1 p2 p3 X = rheostatref13_Join_l2r 1000 (rheostatref13_Join_l2 1000 f) n (k : Int) i (i : Int) A B C T o0 o1 o2 o3 p0 p1 p2 p3 X := rfl
    rw [e0]
    unfold rheostatref13_Join_l2r
    have hb : Nat.ble ((i + 1) * 8) 140737488355328 = true := by rw [Nat.ble_eq]; omega
    simp only [nat_lt_dec hin, nat_nn_dec, decide_eq_true (show (k : Int) < 3 by omega), Bool.and_self, cond_true, Int.toNat_natCast, hb, wi_succ (show i < 1000000 by omega)]
    exact rjoin2_ok n k hk o0 o1 o2 o3 p0 p1 p2 p3 A B C T hn d (i + 1) f _ (by omega) (by omega) (app_step (A := fun j => selI [A j, B j, C j] k) hX rfl)

theorem rjoin1_ok (n : Nat) (t : Int) (A B C T : Nat → Int) (hn : 1 ≤ n ∧ n ≤ 256) :
    rheostatref13_Join_l1 1000 1000 n 0 A B C T 0 0 0 0 0 0 0 t = some (bif rawFrom A 0 n && (rawFrom B 0 n && rawFrom C 0 n) then .inl (0, 0, 0, 0, nr (sumF A n) n, nr (sumF B n) n, nr (sumF C n) n, t, ()) else .inr (2, 0, 0, 0, 0, ())) := by
  have r3 : ∀ (f : Nat) (a b c : Int), rheostatref13_Join_l1 1000 (f + 1) n 3 A B C T 0 0 0 0 a b c t = some (.inl (0, 0, 0, 0, a, b, c, t, ())) := fun f a b c => rfl
  have r2 : ∀ (f : Nat) (a b : Int), rheostatref13_Join_l1 1000 (f + 1) n 2 A B C T 0 0 0 0 a b 0 t = bif rawFrom C 0 n then rheostatref13_Join_l1 1000 f n 3 A B C T 0 0 0 0 a b (nr (sumF C n) n) t else some (.inr (2, 0, 0, 0, 0, ())) := fun f a b => by
    show rheostatref13_Join_l1r 1000 (rheostatref13_Join_l1 1000 f) n 2 A B C T 0 0 0 0 a b 0 t = _
    unfold rheostatref13_Join_l1r
    obtain ⟨X, hX, h⟩ := rjoin2_ok n 2 (by omega) 0 0 0 0 a b 0 t A B C T hn.2 n 0 1000 (fun _ => 0) (by omega) (by omega) (fun j hj => absurd hj (by omega))
    have h' : rheostatref13_Join_l2 1000 1000 n 2 0 0 A B C T 0 0 0 0 a b 0 t (fun _ => 0) = some (n, 2, n, A, B, C, T, 0, 0, 0, 0, a, b, 0, t, X, ()) := h
    have m : rheostatref12_Mean_g 1000 n X = some (meanV n C) := by rw [rmean_ok n X (by omega), meanV_congr hX]; rfl
    rw [h']
    simp only [Option.bind_some, m]
    cases h : rawFrom C 0 n with
    | true => rw [meanV_t hn h]; rfl
    | false => rw [meanV_f h]; rfl
  have r1 : ∀ (f : Nat) (a : Int), rheostatref13_Join_l1 1000 (f + 1) n 1 A B C T 0 0 0 0 a 0 0 t = bif rawFrom B 0 n then rheostatref13_Join_l1 1000 f n 2 A B C T 0 0 0 0 a (nr (sumF B n) n) 0 t else some (.inr (2, 0, 0, 0, 0, ())) := fun f a => by
    show rheostatref13_Join_l1r 1000 (rheostatref13_Join_l1 1000 f) n 1 A B C T 0 0 0 0 a 0 0 t = _
    unfold rheostatref13_Join_l1r
    obtain ⟨X, hX, h⟩ := rjoin2_ok n 1 (by omega) 0 0 0 0 a 0 0 t A B C T hn.2 n 0 1000 (fun _ => 0) (by omega) (by omega) (fun j hj => absurd hj (by omega))
    have h' : rheostatref13_Join_l2 1000 1000 n 1 0 0 A B C T 0 0 0 0 a 0 0 t (fun _ => 0) = some (n, 1, n, A, B, C, T, 0, 0, 0, 0, a, 0, 0, t, X, ()) := h
    have m : rheostatref12_Mean_g 1000 n X = some (meanV n B) := by rw [rmean_ok n X (by omega), meanV_congr hX]; rfl
    rw [h']
    simp only [Option.bind_some, m]
    cases h : rawFrom B 0 n with
    | true => rw [meanV_t hn h]; rfl
    | false => rw [meanV_f h]; rfl
  have r0 : ∀ (f : Nat), rheostatref13_Join_l1 1000 (f + 1) n 0 A B C T 0 0 0 0 0 0 0 t = bif rawFrom A 0 n then rheostatref13_Join_l1 1000 f n 1 A B C T 0 0 0 0 (nr (sumF A n) n) 0 0 t else some (.inr (2, 0, 0, 0, 0, ())) := fun f => by
    show rheostatref13_Join_l1r 1000 (rheostatref13_Join_l1 1000 f) n 0 A B C T 0 0 0 0 0 0 0 t = _
    unfold rheostatref13_Join_l1r
    obtain ⟨X, hX, h⟩ := rjoin2_ok n 0 (by omega) 0 0 0 0 0 0 0 t A B C T hn.2 n 0 1000 (fun _ => 0) (by omega) (by omega) (fun j hj => absurd hj (by omega))
    have h' : rheostatref13_Join_l2 1000 1000 n 0 0 0 A B C T 0 0 0 0 0 0 0 t (fun _ => 0) = some (n, 0, n, A, B, C, T, 0, 0, 0, 0, 0, 0, 0, t, X, ()) := h
    have m : rheostatref12_Mean_g 1000 n X = some (meanV n A) := by rw [rmean_ok n X (by omega), meanV_congr hX]; rfl
    rw [h']
    simp only [Option.bind_some, m]
    cases h : rawFrom A 0 n with
    | true => rw [meanV_t hn h]; rfl
    | false => rw [meanV_f h]; rfl
  have h0 := r0 999
  have h1 := r1 998 (nr (sumF A n) n)
  have h2 := r2 997 (nr (sumF A n) n) (nr (sumF B n) n)
  have h3 := r3 996 (nr (sumF A n) n) (nr (sumF B n) n) (nr (sumF C n) n)
  refine h0.trans ?_
  cases rawFrom A 0 n with
  | false => rfl
  | true =>
    refine h1.trans ?_
    cases rawFrom B 0 n with
    | false => rfl
    | true =>
      refine h2.trans ?_
      cases rawFrom C 0 n with
      | false => rfl
      | true => exact h3

theorem rjoin_ok (n : Nat) (A B C T : Nat → Int) (hn : n ≤ 257) : rheostatref13_Join_g 1000 n A B C T = some (joinE n A B C T) := by
  unfold rheostatref13_Join_g
  by_cases h0 : 1 ≤ n
  · rw [decide_eq_false (show ¬ ((n : Nat) : Int) < 1 by omega)]
    by_cases h1 : n ≤ 256
    · rw [decide_eq_false (show ¬ ((n : Nat) : Int) > 256 by omega)]
      have hl := rjoin0_ok n A B C T h1 n 0 1000 (by omega) (by omega) (fun j hj => absurd hj (by omega))
      have e0 : ((0 : Nat) : Int) = 0 := rfl
      have e1 : sumF T 0 = 0 := rfl
      rw [e0, e1] at hl
      simp only [cond_false]
      by_cases hT : okT T n
      · rw [hl.1 hT]
        simp only [Option.bind_some, Sum.elim_inl]
        by_cases hs : sumF T n > 60000
        · rw [decide_eq_true hs, joinE_f (fun k => by have := k.2.2.1; omega)]
          rfl
        · rw [decide_eq_false hs]
          simp only [cond_false]
          rw [rjoin1_ok n (sumF T n) A B C T ⟨h0, h1⟩]
          cases hA : rawFrom A 0 n with
          | false => rw [joinE_f (fun k => by have := k.2.2.2.1; rw [hA] at this; cases this)]; rfl
          | true =>
            cases hB : rawFrom B 0 n with
            | false => rw [joinE_f (fun k => by have := k.2.2.2.2.1; rw [hB] at this; cases this)]; rfl
            | true =>
              cases hC : rawFrom C 0 n with
              | false => rw [joinE_f (fun k => by have := k.2.2.2.2.2; rw [hC] at this; cases this)]; rfl
              | true => rw [joinE_t ⟨⟨h0, h1⟩, hT, by omega, hA, hB, hC⟩]; rfl
      · rw [hl.2 hT, joinE_f (fun k => hT k.2.1)]
        rfl
    · rw [decide_eq_true (show ((n : Nat) : Int) > 256 by omega), joinE_f (fun k => h1 k.1.2)]
      rfl
  · rw [decide_eq_true (show ((n : Nat) : Int) < 1 by omega), joinE_f (fun k => h0 k.1.1)]
    rfl

/-! ### The worst -/
theorem rclamp_ok (x : Int) : (bif decide ((bif decide (2147483648 < x) then (2147483648 : Int) else x) > (-2147483648)) then (bif decide (2147483648 < x) then (2147483648 : Int) else x) else (-2147483648)) = btw (-2147483648) 2147483648 x := by
  unfold btw
  by_cases h1 : 2147483648 < x
  · rw [decide_eq_true h1, if_neg (show ¬ x < -2147483648 by omega), if_pos h1]
    rfl
  · rw [decide_eq_false h1]
    by_cases h2 : x > -2147483648
    · rw [cond_false, decide_eq_true h2, if_neg (show ¬ x < -2147483648 by omega), if_neg h1]
      rfl
    · rw [cond_false, decide_eq_false h2]
      by_cases h3 : x < -2147483648
      · rw [if_pos h3]; rfl
      · rw [if_neg h3, if_neg h1, cond_false]; omega

theorem worst_eq (a b c d e f : Int) : ∃ w, sample_Worst_g 1000 a b c d e f = some (w, ()) ∧ rheostatref13_Worst_g 1000 a b c d e f = some (w, ()) := by
  unfold sample_Worst_g rheostatref13_Worst_g
  by_cases h : a > b
  · rw [decide_eq_true h]
    exact ⟨0, rfl, rfl⟩
  · rw [decide_eq_false h]
    have h1 := btw_le (lo := -2147483648) (hi := 2147483648) (n := a) (by omega)
    have h2 := btw_le (lo := -2147483648) (hi := 2147483648) (n := b) (by omega)
    simp only [cond_false, clamp_ok, Option.bind_some, rclamp_ok]
    rw [size_fx 1000 _ (by omega) (by omega), size_fx 1000 _ (by omega) (by omega), mx_ok _ (by omega) (by omega), mx_ok _ (by omega) (by omega)]
    exact ⟨_, rfl, rfl⟩

theorem few_ok (n : Nat) : ∃ k : Nat, k ≤ 257 ∧ (bif decide (257 < (n : Int)) then (257 : Int) else (n : Int)) = (k : Int) ∧ ((decide (0 ≤ (k : Int))) && (decide ((k : Int) ≤ (n : Int)))) = true := by
  by_cases h : 257 < (n : Int)
  · refine ⟨257, by omega, by rw [decide_eq_true h]; rfl, ?_⟩
    rw [decide_eq_true (show (0 : Int) ≤ ((257 : Nat) : Int) by omega), decide_eq_true (show ((257 : Nat) : Int) ≤ (n : Int) by omega)]
    rfl
  · refine ⟨n, by omega, by rw [decide_eq_false h]; rfl, ?_⟩
    rw [decide_eq_true (show (0 : Int) ≤ (n : Int) by omega), decide_eq_true (Int.le_refl (n : Int))]
    rfl

theorem SampleJoins_ok (n : Nat) (a0 a1 a2 a3 a4 a5 a6 a7 a8 l0 h0 l1 h1 l2 h2 : Int) (A B C T : Nat → Int) : rheostatlaw13_SampleJoins_g 1000 n a0 a1 a2 a3 a4 a5 a6 a7 a8 l0 h0 l1 h1 l2 h2 A B C T = some true := by
  unfold rheostatlaw13_SampleJoins_g
  obtain ⟨k, hk, ek, hb⟩ := few_ok n
  obtain ⟨w, w1, w2⟩ := worst_eq l0 h0 l1 h1 l2 h2
  rw [ek, hb]
  simp only [cond_true, Int.toNat_natCast]
  by_cases h : 0 < k
  · have hble : Nat.ble ((0 + k) * 32) 140737488355328 = true := by rw [Nat.ble_eq]; omega
    rw [kblt_t h, hble]
    simp only [cond_true, Nat.zero_add]
    rw [join_ok k _ _ _ _ hk, rjoin_ok k _ _ _ _ hk]
    simp only [Option.bind_some, beq_self_eq_true, Bool.and_self, cond_true, w1, w2, works_ok]
  · obtain rfl : k = 0 := by omega
    rw [kblt_f (Nat.le_refl 0)]
    simp only [cond_false]
    rw [join_ok 0 _ _ _ _ (by omega), rjoin_ok 0 _ _ _ _ (by omega), joinE_f (fun k => absurd k.1.1 (by omega)), joinE_f (fun k => absurd k.1.1 (by omega))]
    simp only [Option.bind_some, beq_self_eq_true, Bool.and_self, cond_true, w1, w2, works_ok]

/-! ### Of one -/
theorem one_loop (m : Nat) (e s0 s1 s2 s3 p0 p1 p2 p3 : Int) (hm : m ≤ 100) : ∀ (d i N : Nat) (X Y Z U : Nat → Int), i + d = m → d < N → (∀ j, j < i → X j = s0) → (∀ j, j < i → Y j = s1) → (∀ j, j < i → Z j = s2) → (∀ j, j < i → U j = s3) →
    ∃ X' Y' Z' U' : Nat → Int, (∀ j, j < m → X' j = s0) ∧ (∀ j, j < m → Y' j = s1) ∧ (∀ j, j < m → Z' j = s2) ∧ (∀ j, j < m → U' j = s3) ∧
      rheostatlaw13_SampleOne_l0 1000 N (m : Int) e i (i : Int) s0 s1 s2 s3 p0 p1 p2 p3 X Y Z U = some ((m : Int), e, m, s0, s1, s2, s3, p0, p1, p2, p3, X', Y', Z', U', ())
  | 0, i, N, X, Y, Z, U, hd, hf, hX, hY, hZ, hU => by
    obtain ⟨f, rfl⟩ : ∃ f, N = f + 1 := ⟨N - 1, by omega⟩
    have e1 : i = m := by omega
    subst e1
    refine ⟨X, Y, Z, U, hX, hY, hZ, hU, ?_⟩
    show rheostatlaw13_SampleOne_l0r 1000 (rheostatlaw13_SampleOne_l0 1000 f) (i : Int) e i (i : Int) s0 s1 s2 s3 p0 p1 p2 p3 X Y Z U = _
    unfold rheostatlaw13_SampleOne_l0r
    rw [nat_lt_self]
    rfl
  | d + 1, i, N, X, Y, Z, U, hd, hf, hX, hY, hZ, hU => by
    obtain ⟨f, rfl⟩ : ∃ f, N = f + 1 := ⟨N - 1, by omega⟩
    have hin : i < m := by omega
    have e0 : rheostatlaw13_SampleOne_l0 1000 (f + 1) (m : Int) e i (i : Int) s0 s1 s2 s3 p0 p1 p2 p3 X Y Z U = rheostatlaw13_SampleOne_l0r 1000 (rheostatlaw13_SampleOne_l0 1000 f) (m : Int) e i (i : Int) s0 s1 s2 s3 p0 p1 p2 p3 X Y Z U := rfl
    rw [e0]
    unfold rheostatlaw13_SampleOne_l0r
    have hb : Nat.ble ((i + 1) * 32) 140737488355328 = true := by rw [Nat.ble_eq]; omega
    simp only [nat_lt_dec hin, cond_true, hb, wi_succ (show i < 1000000 by omega)]
    exact one_loop m e s0 s1 s2 s3 p0 p1 p2 p3 hm d (i + 1) f _ _ _ _ (by omega) (by omega) (app_step (A := fun _ => s0) hX rfl) (app_step (A := fun _ => s1) hY rfl) (app_step (A := fun _ => s2) hZ rfl) (app_step (A := fun _ => s3) hU rfl)

theorem sumF_const {m : Nat → Int} {s : Int} : ∀ {n : Nat}, (∀ j, j < n → m j = s) → sumF m n = (n : Int) * s
  | 0, _ => by simp [sumF]
  | n + 1, h => by
    unfold sumF
    rw [sumF_const (n := n) (fun j hj => h j (by omega)), h n (by omega), Int.natCast_succ, Int.add_mul, Int.one_mul]

theorem rawFrom_const {m : Nat → Int} {s : Int} {n : Nat} (hn : 1 ≤ n) (h : ∀ j, j < n → m j = s) : rawFrom m 0 n = rawB s := by
  rw [rawFrom_congr (m' := fun _ => s) (fun j _ hj => h j (by omega))]
  obtain ⟨d, rfl⟩ : ∃ d, n = d + 1 := ⟨n - 1, by omega⟩
  have key : ∀ d i, rawFrom (fun _ => s) i (d + 1) = rawB s := by
    intro d
    induction d with
    | zero => intro i; unfold rawFrom rawFrom; exact Bool.and_true _
    | succ d ih => intro i; rw [rawFrom, ih]; exact Bool.and_self _
  exact key d 0

theorem nr_self {n : Nat} {s : Int} (hn : 1 ≤ n) : nr ((n : Int) * s) n = s := by
  unfold nr
  have hp : (0 : Int) < (n : Int) := by omega
  by_cases hs : s < 0
  · have h1 : (n : Int) * s < 0 := by
      have := Int.mul_lt_mul_of_pos_left hs hp
      rwa [Int.mul_zero] at this
    rw [if_pos h1]
    have := (Int.ediv_emod_unique (a := 2 * -((n : Int) * s) + n) (b := 2 * n) (q := -s) (r := n) (by omega)).2 ⟨by grind, by omega, by omega⟩
    rw [this.1, Int.neg_neg]
  · have h1 : ¬ (n : Int) * s < 0 := by
      have := Int.mul_nonneg (Int.le_of_lt hp) (show 0 ≤ s by omega)
      omega
    rw [if_neg h1]
    have := (Int.ediv_emod_unique (a := 2 * ((n : Int) * s) + n) (b := 2 * n) (q := s) (r := n) (by omega)).2 ⟨by grind, by omega, by omega⟩
    exact this.1

theorem joinC {n : Nat} {A B C T : Nat → Int} {s0 s1 s2 t : Int} (hn : 1 ≤ n ∧ n ≤ 256) (hA : ∀ j, j < n → A j = s0) (hB : ∀ j, j < n → B j = s1) (hC : ∀ j, j < n → C j = s2) (hT : ∀ j, j < n → T j = t) :
    joinE n A B C T = if (1 ≤ t ∧ t ≤ 60000) ∧ (n : Int) * t ≤ 60000 ∧ rawB s0 = true ∧ rawB s1 = true ∧ rawB s2 = true then (s0, s1, s2, (n : Int) * t, 0, ()) else (0, 0, 0, 0, 2, ()) := by
  have e : joinP n A B C T ↔ (1 ≤ t ∧ t ≤ 60000) ∧ (n : Int) * t ≤ 60000 ∧ rawB s0 = true ∧ rawB s1 = true ∧ rawB s2 = true := by
    unfold joinP
    rw [sumF_const hT, rawFrom_const hn.1 hA, rawFrom_const hn.1 hB, rawFrom_const hn.1 hC]
    constructor
    · intro h
      have := h.2.1 0 (by omega)
      rw [hT 0 (by omega)] at this
      exact ⟨this, h.2.2⟩
    · intro h
      exact ⟨hn, fun j hj => by rw [hT j hj]; exact h.1, h.2⟩
  by_cases h : joinP n A B C T
  · rw [joinE_t h, if_pos (e.1 h), sumF_const hA, sumF_const hB, sumF_const hC, sumF_const hT, nr_self hn.1, nr_self hn.1, nr_self hn.1]
  · rw [joinE_f h, if_neg (fun k => h (e.2 k))]

theorem SampleOne_ok (s0 s1 s2 t x : Int) : rheostatlaw13_SampleOne_g 1000 s0 s1 s2 t x = some true := by
  unfold rheostatlaw13_SampleOne_g
  obtain ⟨q, q1, q2, q3⟩ := among_ok 1000 x 20 (by omega) (by omega)
  obtain ⟨m, hm1, hm2, em⟩ : ∃ m : Nat, 1 ≤ m ∧ m ≤ 20 ∧ wi64 (1 + q) = (m : Int) := ⟨(1 + q).toNat, by omega, by omega, by rw [wi64_id (by omega) (by omega)]; omega⟩
  have j1 := joinC (n := 1) (A := fun j => selI [s0] j) (B := fun j => selI [s1] j) (C := fun j => selI [s2] j) (T := fun j => selI [t] j) (s0 := s0) (s1 := s1) (s2 := s2) (t := t) ⟨by omega, by omega⟩
    (fun j hj => by obtain rfl : j = 0 := by omega
                    rfl) (fun j hj => by obtain rfl : j = 0 := by omega
                                         rfl) (fun j hj => by obtain rfl : j = 0 := by omega
                                                              rfl) (fun j hj => by obtain rfl : j = 0 := by omega
                                                                                   rfl)
  rw [works_ok, join_ok 1 _ _ _ _ (by omega), j1, q3]
  simp only [Option.bind_some, Bool.not_true, cond_false, em]
  have e1 : ((1 : Nat) : Int) * t = t := by omega
  rw [e1]
  have d0 : ((0 : Int) != 0) = false := rfl
  have d2 : ((2 : Int) != 0) = true := rfl
  by_cases h : (1 ≤ t ∧ t ≤ 60000) ∧ t ≤ 60000 ∧ rawB s0 = true ∧ rawB s1 = true ∧ rawB s2 = true
  · rw [if_pos h]
    obtain ⟨X, Y, Z, U, hX, hY, hZ, hU, hl⟩ := one_loop m 0 s0 s1 s2 t s0 s1 s2 t (by omega) m 0 1000 (fun _ => 0) (fun _ => 0) (fun _ => 0) (fun _ => 0) (by omega) (by omega) (fun j hj => absurd hj (by omega)) (fun j hj => absurd hj (by omega)) (fun j hj => absurd hj (by omega)) (fun j hj => absurd hj (by omega))
    have e0 : ((0 : Nat) : Int) = 0 := rfl
    rw [e0] at hl
    simp only []
    rw [hl]
    simp only [Option.bind_some, d0, cond_false]
    rw [join_ok m X Y Z U (by omega), joinC ⟨hm1, by omega⟩ hX hY hZ hU]
    have dm : ((m : Int) == 0) = false := by simp; omega
    have hq := (tdiv_pos (a := 60000) (b := (m : Int)) (by omega)).1
    have hdm := Int.mul_ediv_add_emod 60000 (m : Int)
    have hr0 := Int.emod_nonneg 60000 (show (m : Int) ≠ 0 by omega)
    have hr1 := Int.emod_lt_of_pos 60000 (show (0 : Int) < (m : Int) by omega)
    have hqb : 0 ≤ 60000 / (m : Int) ∧ 60000 / (m : Int) ≤ 60000 := ⟨Int.ediv_nonneg (by omega) (by omega), Int.ediv_le_self _ (by omega)⟩
    simp only [Option.bind_some, dm, cond_false, hq]
    rw [wi64_id (x := 60000 / (m : Int)) (by omega) (by omega)]
    by_cases hb : t > 60000 / (m : Int)
    · rw [decide_eq_true hb]
      have hbig : ¬ (m : Int) * t ≤ 60000 := by
        have : (m : Int) * (60000 / (m : Int) + 1) ≤ (m : Int) * t := Int.mul_le_mul_of_nonneg_left (by omega) (by omega)
        rw [Int.mul_add, Int.mul_one] at this
        omega
      rw [if_neg (fun k => hbig k.2.1)]
      simp only [cond_true, beq_self_eq_true, Bool.and_self]
    · rw [decide_eq_false hb]
      have hsm : (m : Int) * t ≤ 60000 := by
        have : (m : Int) * t ≤ (m : Int) * (60000 / (m : Int)) := Int.mul_le_mul_of_nonneg_left (by omega) (by omega)
        omega
      have hpos := Int.mul_nonneg (show 0 ≤ (m : Int) by omega) (show 0 ≤ t by omega)
      rw [if_pos ⟨h.1, hsm, h.2.2⟩]
      simp only [cond_false]
      rw [wi64_id (x := (m : Int) * t) (by omega) (by omega)]
      simp only [beq_self_eq_true, Bool.and_self, cond_true]
  · rw [if_neg h]
    obtain ⟨X, Y, Z, U, hX, hY, hZ, hU, hl⟩ := one_loop m 2 s0 s1 s2 t 0 0 0 0 (by omega) m 0 1000 (fun _ => 0) (fun _ => 0) (fun _ => 0) (fun _ => 0) (by omega) (by omega) (fun j hj => absurd hj (by omega)) (fun j hj => absurd hj (by omega)) (fun j hj => absurd hj (by omega)) (fun j hj => absurd hj (by omega))
    have e0 : ((0 : Nat) : Int) = 0 := rfl
    rw [e0] at hl
    simp only []
    rw [hl]
    simp only [Option.bind_some, d2, cond_true]
    rw [join_ok m X Y Z U (by omega), joinC ⟨hm1, by omega⟩ hX hY hZ hU]
    have hno : ¬ ((1 ≤ t ∧ t ≤ 60000) ∧ (m : Int) * t ≤ 60000 ∧ rawB s0 = true ∧ rawB s1 = true ∧ rawB s2 = true) := fun k => h ⟨k.1, k.1.2, k.2.2⟩
    rw [if_neg hno]
    rfl
end Go.Proofs.Ytdcjkkgfimbodaa
