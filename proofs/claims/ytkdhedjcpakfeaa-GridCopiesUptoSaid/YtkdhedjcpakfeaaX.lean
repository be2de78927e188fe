/-
  Law 11 (grid), the second part: the document's grid, copies, and grids of one Y.
-/
import Derived.Test.YtkdhedjcpakfeaaU
import Derived.Test.YtkdhedjcpakfeaaV
namespace Go.Proofs.Ytkdhedjcpakfeaa
open Go.Sy
set_option maxHeartbeats 1000000

/-! ### The same -/
theorem same_loop (n k : Nat) (f g : Nat → Int) (hn : n ≤ 6000) (hk : n ≤ k) (h : ∀ j, j < n → f j = g j) : ∀ (d i N : Nat), i + d = n → d < N → rheostatbase_SameInts_l0 20000 N n k (i : Int) f g = some (.inl ())
  | 0, i, N, hd, hf => by
    obtain ⟨e, rfl⟩ : ∃ e, N = e + 1 := ⟨N - 1, by omega⟩
    have e : i = n := by omega
    subst e
    show rheostatbase_SameInts_l0r 20000 (rheostatbase_SameInts_l0 20000 _) i k (i : Int) f g = _
    unfold rheostatbase_SameInts_l0r
    rw [tself]
    rfl
  | d + 1, i, N, hd, hf => by
    obtain ⟨e, rfl⟩ : ∃ e, N = e + 1 := ⟨N - 1, by omega⟩
    have hin : i < n := by omega
    have e0 : rheostatbase_SameInts_l0 20000 (e + 1) n k (i : Int) f g = rheostatbase_SameInts_l0r 20000 (rheostatbase_SameInts_l0 20000 e) n k (i : Int) f g := rfl
    rw [e0]
    unfold rheostatbase_SameInts_l0r
    have d1 : (f i != g i) = false := by rw [h i hin]; simp
    simp only [tlt hin, tlt (show i < k by omega), tnn, Bool.and_self, cond_true, Int.toNat_natCast, tup (show i < 1000000 by omega), d1]
    exact same_loop n k f g hn hk h d (i + 1) e (by omega) (by omega)

theorem same_ok (n : Nat) (f g : Nat → Int) (hn : n ≤ 6000) (h : ∀ j, j < n → f j = g j) : rheostatbase_SameInts_g 20000 n n f g = some (true, ()) := by
  unfold rheostatbase_SameInts_g
  have d : (((n : Nat) : Int) != ((n : Nat) : Int)) = false := by simp
  have hl := same_loop n n f g hn (Nat.le_refl _) h n 0 20000 (by omega) (by omega)
  have e0 : ((0 : Nat) : Int) = 0 := rfl
  rw [e0] at hl
  rw [d, hl]
  rfl

theorem points_loop (n : Nat) (A B A' B' : Nat → Int) (hn : n ≤ 6000) (h : ∀ j, j < n → A j = A' j ∧ B j = B' j) : ∀ (d i N : Nat), i + d = n → d < N → rheostatlaw11_points_l0 20000 N n n (i : Int) A B A' B' = some (.inl ())
  | 0, i, N, hd, hf => by
    obtain ⟨e, rfl⟩ : ∃ e, N = e + 1 := ⟨N - 1, by omega⟩
    have e : i = n := by omega
    subst e
    show rheostatlaw11_points_l0r 20000 (rheostatlaw11_points_l0 20000 _) i i (i : Int) A B A' B' = _
    unfold rheostatlaw11_points_l0r
    rw [tself]
    rfl
  | d + 1, i, N, hd, hf => by
    obtain ⟨e, rfl⟩ : ∃ e, N = e + 1 := ⟨N - 1, by omega⟩
    have hin : i < n := by omega
    have e0 : rheostatlaw11_points_l0 20000 (e + 1) n n (i : Int) A B A' B' = rheostatlaw11_points_l0r 20000 (rheostatlaw11_points_l0 20000 e) n n (i : Int) A B A' B' := rfl
    rw [e0]
    unfold rheostatlaw11_points_l0r
    have d1 : (!((A i == A' i) && (B i == B' i))) = false := by rw [(h i hin).1, (h i hin).2]; simp
    simp only [tlt hin, tnn, Bool.and_self, cond_true, Int.toNat_natCast, tup (show i < 1000000 by omega), d1]
    exact points_loop n A B A' B' hn h d (i + 1) e (by omega) (by omega)

theorem points_ok (n : Nat) (A B A' B' : Nat → Int) (hn : n ≤ 6000) (h : ∀ j, j < n → A j = A' j ∧ B j = B' j) : rheostatlaw11_points_g 20000 n n A B A' B' = some (true, ()) := by
  unfold rheostatlaw11_points_g
  have d : (((n : Nat) : Int) != ((n : Nat) : Int)) = false := by simp
  have hl := points_loop n A B A' B' hn h n 0 20000 (by omega) (by omega)
  have e0 : ((0 : Nat) : Int) = 0 := rfl
  rw [e0] at hl
  rw [d, hl]
  rfl

/-! ### A copy -/
theorem clone_ok (n : Nat) (f : Nat → Int) (hn : n ≤ 1048576) : ∃ g : Nat → Int, (∀ j, j < n → g j = f j) ∧ slices_Clone_int_int_g 20000 n f = some (n, g, ()) := by
  unfold slices_Clone_int_int_g
  by_cases h : n = 0
  · subst h
    refine ⟨fun _ => 0, fun j hj => absurd hj (by omega), ?_⟩
    have d : Nat.blt 0 0 = false := rfl
    rw [d]
    simp only [cond_false, agree_self]
  · refine ⟨f, fun _ _ => rfl, ?_⟩
    have d : Nat.blt 0 n = true := kblt_t (by omega)
    have hb : Nat.ble ((0 + n) * 8) 140737488355328 = true := by rw [Nat.ble_eq]; omega
    rw [d, hb]
    simp only [cond_true]
    rw [Nat.zero_add]

theorem copy_ok (n m p : Nat) (X Y Z : Nat → Int) (hn : n ≤ 1048576) (hm : m ≤ 1048576) (hp : p ≤ 1048576) :
    ∃ X' Y' Z' : Nat → Int, (∀ j, j < n → X' j = X j) ∧ (∀ j, j < m → Y' j = Y j) ∧ (∀ j, j < p → Z' j = Z j) ∧ grid_Copy_g 20000 n m p X Y Z = some (n, m, p, X', Y', Z', ()) := by
  obtain ⟨X', hX, e1⟩ := clone_ok n X hn
  obtain ⟨Y', hY, e2⟩ := clone_ok m Y hm
  obtain ⟨Z', hZ, e3⟩ := clone_ok p Z hp
  refine ⟨X', Y', Z', hX, hY, hZ, ?_⟩
  unfold grid_Copy_g
  rw [e1, e2, e3]
  rfl

theorem ggood_congr {n m p : Nat} {X Y Z X' Y' Z' : Nat → Int} (hX : ∀ j, j < n → X' j = X j) (hY : ∀ j, j < m → Y' j = Y j) (hZ : ∀ j, j < p → Z' j = Z j) (h : GGood n m p X Y Z) : GGood n m p X' Y' Z' :=
  ⟨h.n2, h.nM, h.m1, h.mM, h.nm, h.pp, fun j hj => by rw [hX j (by omega), hX (j + 1) hj]; exact h.xi j hj, fun j hj => by rw [hX j hj]; exact h.xw j hj,
    fun j hj => by rw [hY j (by omega), hY (j + 1) hj]; exact h.yi j hj, fun j hj => by rw [hY j hj]; exact h.yw j hj, fun j hj => by rw [hZ j hj]; exact h.zw j hj⟩

theorem gchk_congr {n m p : Nat} {X Y Z X' Y' Z' : Nat → Int} (hX : ∀ j, j < n → X' j = X j) (hY : ∀ j, j < m → Y' j = Y j) (hZ : ∀ j, j < p → Z' j = Z j) : gchk n m p X' Y' Z' = gchk n m p X Y Z := by
  by_cases h : GGood n m p X Y Z
  · rw [gchk_good h, gchk_good (ggood_congr hX hY hZ h)]
  · rw [gchk_bad h, gchk_bad fun k => h (ggood_congr (fun j hj => (hX j hj).symm) (fun j hj => (hY j hj).symm) (fun j hj => (hZ j hj).symm) k)]

theorem col_congr {n m p : Nat} {X Y Z Y' Z' : Nat → Int} (hY : ∀ j, j < m → Y' j = Y j) (hZ : ∀ j, j < p → Z' j = Z j) (h : GGood n m p X Y Z) (y : Int) {i : Nat} (hi : i < n) : col Y' Z' m y i = col Y Z m y i := by
  unfold col
  have hm := h.m1
  refine V_congr fun j hj => ⟨hY j (by omega), ?_⟩
  unfold rowZ
  have h1 : (i + 1) * m ≤ n * m := Nat.mul_le_mul_right m hi
  have h2 : (i + 1) * m = i * m + m := Nat.succ_mul i m
  exact hZ _ (by rw [h.pp]; omega)

theorem gV_congr {n m p : Nat} {X Y Z X' Y' Z' : Nat → Int} (hX : ∀ j, j < n → X' j = X j) (hY : ∀ j, j < m → Y' j = Y j) (hZ : ∀ j, j < p → Z' j = Z j) (h : GGood n m p X Y Z) (x y : Int) : gV n m X' Y' Z' x y = gV n m X Y Z x y := by
  unfold gV
  have hn := h.n2
  exact V_congr fun j hj => ⟨hX j (by omega), col_congr hY hZ h y (by omega)⟩

theorem gup_congr {m p : Nat} {Z Z' : Nat → Int} (hZ : ∀ j, j < p → Z' j = Z j) (h : GUp m p Z) : GUp m p Z' := fun k hk => by rw [hZ k (by omega), hZ (k + m) hk]; exact h k hk

/-! ### Back -/
theorem gback_same {n m p : Nat} {X Y Z X' Y' Z' : Nat → Int} (hX : ∀ j, j < n → X' j = X j) (hY : ∀ j, j < m → Y' j = Y j) (hZ : ∀ j, j < p → Z' j = Z j) (z y : Int) :
    ∃ a b, grid_Back_g 20000 n m p z y X' Y' Z' = some (a, b, ()) ∧ rheostatref11_Back_g 20000 n m p z y X Y Z = some (a, b, ()) := by
  have d0 : ((0 : Int) != 0) = false := rfl
  unfold grid_Back_g rheostatref11_Back_g
  by_cases hg : GGood n m p X Y Z
  · have hn := hg.n2
    have hnM := hg.nM
    have hg' := ggood_congr hX hY hZ hg
    obtain ⟨A, B, h1, h2⟩ := (column_ok n m p y X' Y' Z').1 hg'
    obtain ⟨A', B', h1', h2'⟩ := (rcolumn_ok n m p y X Y Z).1 hg
    have hc : ∀ j, j < n → A j = A' j ∧ B j = B' j := fun j hj =>
      ⟨by rw [(h1 j hj).1, (h1' j hj).1, hX j hj], by rw [(h1 j hj).2, (h1' j hj).2]; exact col_congr (X := X) hY hZ hg y hj⟩
    rw [h2, h2']
    simp only [Option.bind_some, d0, cond_false]
    cases hr : rs n A' B' with
    | true =>
      obtain ⟨k1, k2⟩ := rs_true hr
      have hr' : rs n A B = true := rs_of (good_congr hc k1) fun i hi => by rw [(hc i (by omega)).2, (hc (i + 1) hi).2]; exact k2 i hi
      obtain ⟨r, e1, e2⟩ := (back_ok n A B z).1 hr'
      obtain ⟨r', e1', e2'⟩ := (rback_ok n A' B' z (by omega)).1 hr
      have hV : ∀ x, V A B x (n - 1) = V A' B' x (n - 1) := fun x => V_congr fun j hj => hc j (by omega)
      have e3 : First n A' B' z r := by
        unfold First at e1 ⊢
        rw [(hc 0 (by omega)).1, (hc (n - 1) (by omega)).1] at e1
        simpa only [hV] using e1
      have e := First.one e3 e1'
      subst e
      rw [e2, e2']
      exact ⟨r, 0, rfl, rfl⟩
    | false =>
      have hr' : rs n A B = false := rs_not fun k => rs_false hr ⟨good_congr (fun j hj => ⟨(hc j hj).1.symm, (hc j hj).2.symm⟩) k.1, fun i hi => by
        rw [← (hc i (by omega)).2, ← (hc (i + 1) hi).2]
        exact k.2 i hi⟩
      rw [(back_ok n A B z).2 hr', (rback_ok n A' B' z (by omega)).2 hr]
      exact ⟨0, 100, rfl, rfl⟩
  · have hg' : ¬ GGood n m p X' Y' Z' := fun k => hg (ggood_congr (fun j hj => (hX j hj).symm) (fun j hj => (hY j hj).symm) (fun j hj => (hZ j hj).symm) k)
    rw [(column_ok n m p y X' Y' Z').2 hg', (rcolumn_ok n m p y X Y Z).2 hg]
    exact ⟨0, 110, rfl, rfl⟩

theorem light_eq {n m p : Nat} (hn : n ≤ 1048576) (hm : m ≤ 1048576) (X Y Z : Nat → Int) : rheostatlaw11_light_g 20000 n m p X Y Z = some (decide (n + m ≤ 600 ∧ p ≤ 5000), ()) := by
  unfold rheostatlaw11_light_g
  rw [wi64_id (x := (n : Int) + (m : Int)) (by omega) (by omega)]
  by_cases h1 : n + m ≤ 600
  · rw [decide_eq_true (show (n : Int) + (m : Int) ≤ 600 by omega)]
    by_cases h2 : p ≤ 5000
    · rw [decide_eq_true (show (p : Int) ≤ 5000 by omega), decide_eq_true (show n + m ≤ 600 ∧ p ≤ 5000 from ⟨h1, h2⟩)]; rfl
    · rw [decide_eq_false (show ¬ (p : Int) ≤ 5000 by omega), decide_eq_false (show ¬ (n + m ≤ 600 ∧ p ≤ 5000) from fun k => h2 k.2)]; rfl
  · rw [decide_eq_false (show ¬ (n : Int) + (m : Int) ≤ 600 by omega), decide_eq_false (show ¬ (n + m ≤ 600 ∧ p ≤ 5000) from fun k => h1 k.1)]; rfl

theorem gsame_ok {n m p : Nat} {X Y Z X' Y' Z' : Nat → Int} (hn : n ≤ 6000) (hm : m ≤ 6000) (hp : p ≤ 6000) (hX : ∀ j, j < n → X' j = X j) (hY : ∀ j, j < m → Y' j = Y j) (hZ : ∀ j, j < p → Z' j = Z j) :
    rheostatlaw11_same_g 20000 n m p n m p X' Y' Z' X Y Z = some (true, ()) := by
  unfold rheostatlaw11_same_g
  rw [same_ok n X' X hn hX, same_ok m Y' Y hm hY, same_ok p Z' Z hp hZ]
  rfl

theorem dc_congr {p q : Prop} (h : p ↔ q) : dc p = dc q := by
  by_cases k : q
  · rw [dc_t k, dc_t (h.2 k)]
  · rw [dc_f k, dc_f (fun x => k (h.1 x))]

theorem GridTells_ok (n m p : Nat) (x y z : Int) (X Y Z : Nat → Int) (hn : n ≤ 1048576) (hm : m ≤ 1048576) (hp : p ≤ 1048576) : rheostatlaw11_GridTells_g 20000 n m p x y z X Y Z = some true := by
  unfold rheostatlaw11_GridTells_g
  rw [light_eq hn hm]
  by_cases hl : n + m ≤ 600 ∧ p ≤ 5000
  · rw [decide_eq_true hl]
    obtain ⟨X', Y', Z', hX, hY, hZ, hc⟩ := copy_ok n m p X Y Z hn hm hp
    obtain ⟨ba, bb, b1, b2⟩ := gback_same hX hY hZ z y
    have hgs : grs n m p X' Y' Z' = dc (GGood n m p X Y Z ∧ GUp m p Z) := by
      unfold grs
      refine dc_congr ⟨fun k => ⟨?_, ?_⟩, fun k => ⟨ggood_congr hX hY hZ k.1, gup_congr hZ k.2⟩⟩
      · exact ggood_congr (fun j hj => (hX j hj).symm) (fun j hj => (hY j hj).symm) (fun j hj => (hZ j hj).symm) k.1
      · exact gup_congr (fun j hj => (hZ j hj).symm) k.2
    have hck := gchk_congr hX hY hZ
    have hat : (if gchk n m p X Y Z = 0 then gV n m X' Y' Z' x y else 0) = (if gchk n m p X Y Z = 0 then gV n m X Y Z x y else 0) := by
      by_cases hg : GGood n m p X Y Z
      · rw [gV_congr hX hY hZ hg]
      · rw [gchk_bad hg]; rfl
    have hpts : ∃ a b, ∃ A B A' B' : Nat → Int, grid_Column_g 20000 n m p y X' Y' Z' = some (a, b, A, B, ()) ∧ rheostatref11_Column_g 20000 n m p y X Y Z = some (a, b, A', B', ()) ∧ rheostatlaw11_points_g 20000 a a A B A' B' = some (true, ()) := by
      by_cases hg : GGood n m p X Y Z
      · have hnM := hg.nM
        obtain ⟨A, B, h1, h2⟩ := (column_ok n m p y X' Y' Z').1 (ggood_congr hX hY hZ hg)
        obtain ⟨A', B', h1', h2'⟩ := (rcolumn_ok n m p y X Y Z).1 hg
        exact ⟨n, 0, A, B, A', B', h2, h2', points_ok n A B A' B' (by omega) fun j hj =>
          ⟨by rw [(h1 j hj).1, (h1' j hj).1, hX j hj], by rw [(h1 j hj).2, (h1' j hj).2]; exact col_congr (X := X) hY hZ hg y hj⟩⟩
      · have hg' : ¬ GGood n m p X' Y' Z' := fun k => hg (ggood_congr (fun j hj => (hX j hj).symm) (fun j hj => (hY j hj).symm) (fun j hj => (hZ j hj).symm) k)
        exact ⟨0, 110, _, _, _, _, (column_ok n m p y X' Y' Z').2 hg', (rcolumn_ok n m p y X Y Z).2 hg, points_ok 0 _ _ _ _ (by omega) fun j hj => absurd hj (by omega)⟩
    obtain ⟨ca, cb, A, B, A', B', c1, c2, c3⟩ := hpts
    simp only [Option.bind_some, Bool.not_true, cond_false, hc, c1, c2, c3, gAt_ok, rgAt_ok, hat, hck, b1, b2, gcheck_ok, rgcheck_ok, grises_ok, rgrises_ok, hgs, gsame_ok (show n ≤ 6000 by omega) (show m ≤ 6000 by omega) (show p ≤ 6000 by omega) hX hY hZ, works_ok, cond_true, beq_self_eq_true]
  · rw [decide_eq_false hl, gcheck_ok, gchk_bad fun h => hl ⟨by have := h.nM; have := h.mM; omega, by have := h.pp; have := h.nm; omega⟩]
    rfl

/-! ### In memory of its own -/
theorem copies_l0 (n m p : Nat) (X Y Z A B D E F : Nat → Int) (hp : p ≤ 5000) : ∀ (d i N : Nat) (C : Nat → Int), i + d = p → d < N →
    ∃ C', rheostatlaw11_GridCopies_l0 20000 N (i : Int) n m p n m p n m p X Y Z A B C D E F = some (n, m, p, n, m, p, n, m, p, X, Y, Z, A, B, C', D, E, F, ())
  | 0, i, N, C, hd, hf => by
    obtain ⟨e, rfl⟩ : ∃ e, N = e + 1 := ⟨N - 1, by omega⟩
    have e : i = p := by omega
    subst e
    refine ⟨C, ?_⟩
    show rheostatlaw11_GridCopies_l0r 20000 (rheostatlaw11_GridCopies_l0 20000 _) (i : Int) n m i n m i n m i X Y Z A B C D E F = _
    unfold rheostatlaw11_GridCopies_l0r
    rw [tself]
    rfl
  | d + 1, i, N, C, hd, hf => by
    obtain ⟨e, rfl⟩ : ∃ e, N = e + 1 := ⟨N - 1, by omega⟩
    have e0 : rheostatlaw11_GridCopies_l0 20000 (e + 1) (i : Int) n m p n m p n m p X Y Z A B C D E F = rheostatlaw11_GridCopies_l0r 20000 (rheostatlaw11_GridCopies_l0 20000 e) (i : Int) n m p n m p n m p X Y Z A B C D E F := rfl
    rw [e0]
    unfold rheostatlaw11_GridCopies_l0r
    simp only [tlt (show i < p by omega), tnn, Bool.and_self, cond_true, Int.toNat_natCast, tup (show i < 1000000 by omega)]
    exact copies_l0 n m p X Y Z A B D E F hp d (i + 1) e _ (by omega) (by omega)

theorem copies_l1 (n m p : Nat) (X Y Z B C D E F : Nat → Int) (hn : n ≤ 5000) : ∀ (d i N : Nat) (A : Nat → Int), i + d = n → d < N →
    ∃ A', rheostatlaw11_GridCopies_l1 20000 N (i : Int) n m p n m p n m p X Y Z A B C D E F = some (n, m, p, n, m, p, n, m, p, X, Y, Z, A', B, C, D, E, F, ())
  | 0, i, N, A, hd, hf => by
    obtain ⟨e, rfl⟩ : ∃ e, N = e + 1 := ⟨N - 1, by omega⟩
    have e : i = n := by omega
    subst e
    refine ⟨A, ?_⟩
    show rheostatlaw11_GridCopies_l1r 20000 (rheostatlaw11_GridCopies_l1 20000 _) (i : Int) i m p i m p i m p X Y Z A B C D E F = _
    unfold rheostatlaw11_GridCopies_l1r
    rw [tself]
    rfl
  | d + 1, i, N, A, hd, hf => by
    obtain ⟨e, rfl⟩ : ∃ e, N = e + 1 := ⟨N - 1, by omega⟩
    have e0 : rheostatlaw11_GridCopies_l1 20000 (e + 1) (i : Int) n m p n m p n m p X Y Z A B C D E F = rheostatlaw11_GridCopies_l1r 20000 (rheostatlaw11_GridCopies_l1 20000 e) (i : Int) n m p n m p n m p X Y Z A B C D E F := rfl
    rw [e0]
    unfold rheostatlaw11_GridCopies_l1r
    simp only [tlt (show i < n by omega), tnn, Bool.and_self, cond_true, Int.toNat_natCast, tup (show i < 1000000 by omega)]
    exact copies_l1 n m p X Y Z B C D E F hn d (i + 1) e _ (by omega) (by omega)

theorem copies_l2 (n m p : Nat) (X Y Z A C D E F : Nat → Int) (hm : m ≤ 5000) : ∀ (d i N : Nat) (B : Nat → Int), i + d = m → d < N →
    rheostatlaw11_GridCopies_l2 20000 N (i : Int) n m p n m p n m p X Y Z A B C D E F = some (n, m, p, n, m, p, X, Y, Z, D, E, F, ())
  | 0, i, N, B, hd, hf => by
    obtain ⟨e, rfl⟩ : ∃ e, N = e + 1 := ⟨N - 1, by omega⟩
    have e : i = m := by omega
    subst e
    show rheostatlaw11_GridCopies_l2r 20000 (rheostatlaw11_GridCopies_l2 20000 _) (i : Int) n i p n i p n i p X Y Z A B C D E F = _
    unfold rheostatlaw11_GridCopies_l2r
    rw [tself]
    rfl
  | d + 1, i, N, B, hd, hf => by
    obtain ⟨e, rfl⟩ : ∃ e, N = e + 1 := ⟨N - 1, by omega⟩
    have e0 : rheostatlaw11_GridCopies_l2 20000 (e + 1) (i : Int) n m p n m p n m p X Y Z A B C D E F = rheostatlaw11_GridCopies_l2r 20000 (rheostatlaw11_GridCopies_l2 20000 e) (i : Int) n m p n m p n m p X Y Z A B C D E F := rfl
    rw [e0]
    unfold rheostatlaw11_GridCopies_l2r
    simp only [tlt (show i < m by omega), tnn, Bool.and_self, cond_true, Int.toNat_natCast, tup (show i < 1000000 by omega)]
    exact copies_l2 n m p X Y Z A C D E F hm d (i + 1) e _ (by omega) (by omega)

theorem GridCopies_ok (n m p : Nat) (X Y Z : Nat → Int) (hn : n ≤ 1048576) (hm : m ≤ 1048576) (hp : p ≤ 1048576) : rheostatlaw11_GridCopies_g 20000 n m p X Y Z = some true := by
  unfold rheostatlaw11_GridCopies_g
  rw [works_ok, light_eq hn hm]
  by_cases hl : n + m ≤ 600 ∧ p ≤ 5000
  · rw [decide_eq_true hl]
    obtain ⟨A, B, C, hA, hB, hC, hc⟩ := copy_ok n m p X Y Z hn hm hp
    have e0 : ((0 : Nat) : Int) = 0 := rfl
    obtain ⟨C', h0⟩ := copies_l0 n m p X Y Z A B A B C (by omega) p 0 20000 C (by omega) (by omega)
    obtain ⟨A', h1⟩ := copies_l1 n m p X Y Z B C' A B C (by omega) n 0 20000 A (by omega) (by omega)
    have h2 := copies_l2 n m p X Y Z A' C' A B C (by omega) m 0 20000 B (by omega) (by omega)
    rw [e0] at h0 h1 h2
    simp only [Option.bind_some, Bool.not_true, cond_false, hc]
    rw [h0]
    simp only [Option.bind_some]
    rw [h1]
    simp only [Option.bind_some]
    rw [h2]
    simp only [Option.bind_some]
    rw [gsame_ok (show n ≤ 6000 by omega) (show m ≤ 6000 by omega) (show p ≤ 6000 by omega) hA hB hC]
    rfl
  · rw [decide_eq_false hl]
    rfl

/-! ### Of one Y -/
theorem one_loop (k : Nat) (x y : Int) (P Q : Nat → Int) (c : Int) (hk : k ≤ 257) : ∀ (d i N : Nat) (A C : Nat → Int), i + d = k → d < N → (∀ j, j < i → A j = P j ∧ C j = Q j) →
    ∃ A' C', (∀ j, j < k → A' j = P j ∧ C' j = Q j) ∧ rheostatlaw11_GridOne_l0 20000 N k x y (i : Int) P Q i 0 1 i A c C = some (k, x, y, P, Q, k, 0, 1, k, A', c, C', ())
  | 0, i, N, A, C, hd, hf, hp => by
    obtain ⟨e, rfl⟩ : ∃ e, N = e + 1 := ⟨N - 1, by omega⟩
    have e : i = k := by omega
    subst e
    refine ⟨A, C, hp, ?_⟩
    show rheostatlaw11_GridOne_l0r 20000 (rheostatlaw11_GridOne_l0 20000 _) i x y (i : Int) P Q i 0 1 i A c C = _
    unfold rheostatlaw11_GridOne_l0r
    rw [tself]
    rfl
  | d + 1, i, N, A, C, hd, hf, hp => by
    obtain ⟨e, rfl⟩ : ∃ e, N = e + 1 := ⟨N - 1, by omega⟩
    have hin : i < k := by omega
    have e0 : rheostatlaw11_GridOne_l0 20000 (e + 1) k x y (i : Int) P Q i 0 1 i A c C = rheostatlaw11_GridOne_l0r 20000 (rheostatlaw11_GridOne_l0 20000 e) k x y (i : Int) P Q i 0 1 i A c C := rfl
    rw [e0]
    unfold rheostatlaw11_GridOne_l0r
    have hb : Nat.ble ((i + 1) * 8) 140737488355328 = true := by rw [Nat.ble_eq]; omega
    simp only [tlt hin, tnn, Bool.and_self, cond_true, Int.toNat_natCast, hb, tup (show i < 1000000 by omega)]
    refine one_loop k x y P Q c hk d (i + 1) e _ _ (by omega) (by omega) fun j hj => ?_
    by_cases e : j = i
    · subst e
      rw [kblt_f (Nat.le_refl _), Nat.sub_self]
      exact ⟨rfl, rfl⟩
    · rw [kblt_t (show j < i by omega)]
      exact hp j (by omega)

def Y1 : Nat → Int := fun j => selI [0] (j + 0)

theorem one_good {k : Nat} {A C P Q : Nat → Int} (h : ∀ j, j < k → A j = P j ∧ C j = Q j) : GGood k 1 k A Y1 C ↔ Good k P Q := by
  constructor
  · intro hg
    refine good_congr (fun j hj => ⟨(h j hj).1.symm, (h j hj).2.symm⟩) ⟨hg.n2, hg.nM, fun j hj => ⟨hg.xw j hj, hg.zw j hj, fun h0 => ?_⟩⟩
    have := hg.xi (j - 1) (by omega)
    rwa [show j - 1 + 1 = j by omega] at this
  · intro hg
    have hg' := good_congr h hg
    refine ⟨hg'.1, hg'.2.1, by omega, by omega, by have := hg'.2.1; omega, by omega, fun j hj => hg'.gd.step hj, fun j hj => (hg'.2.2 j hj).1, fun j hj => absurd hj (by omega), fun j hj => ?_, fun j hj => (hg'.2.2 j hj).2.1⟩
    obtain rfl : j = 0 := by omega
    decide

theorem one_col (C : Nat → Int) (y : Int) (i : Nat) : col Y1 C 1 y i = C i := by
  unfold col
  show rowZ C 1 i 0 = C i
  unfold rowZ
  rw [Nat.mul_one, Nat.zero_add]

theorem one_tail (k : Nat) (x y : Int) (P Q A C : Nat → Int) (hk : k ≤ 257) (h : ∀ j, j < k → A j = P j ∧ C j = Q j) :
    ((grid_At_g 20000 k 1 k x y A Y1 C).bind fun q3 => ((rheostatref10_At_g 20000 k x P Q).bind fun q4 => ((grid_Column_g 20000 k 1 k y A Y1 C).bind fun q5 => (bif (q3.1 == q4.1) then (bif ((q3.2.1 == 0) == (q4.2.1 == 0)) then (bif (q5.2.1 != 0) then (some true) else ((rheostatlaw11_points_g 20000 q5.1 k q5.2.2.1 q5.2.2.2.1 P Q).bind fun q6 => (some q6.1))) else (some false)) else (some false))))) = some true := by
  rw [gAt_ok, rAt_ok]
  by_cases hg : Good k P Q
  · have hgg := (one_good h).2 hg
    have hk2 := hg.1
    obtain ⟨A', B', h1, h2⟩ := (column_ok k 1 k y A Y1 C).1 hgg
    have hv : gV k 1 A Y1 C x y = V P Q x (k - 1) := by
      unfold gV
      exact V_congr fun j hj => ⟨(h j (by omega)).1, by rw [one_col]; exact (h j (by omega)).2⟩
    have d0 : ((0 : Int) != 0) = false := rfl
    rw [gchk_good hgg, chk_good hg, if_pos rfl, if_pos rfl, hv, h2]
    simp only [Option.bind_some, beq_self_eq_true, cond_true, d0, cond_false]
    rw [points_ok k A' B' P Q (by omega) fun j hj => ⟨by rw [(h1 j hj).1]; exact (h j hj).1, by rw [(h1 j hj).2, one_col]; exact (h j hj).2⟩]
    rfl
  · have hgg : ¬ GGood k 1 k A Y1 C := fun k => hg ((one_good h).1 k)
    rw [gchk_bad hgg, chk_bad hg, (column_ok k 1 k y A Y1 C).2 hgg]
    rfl

theorem GridOne_ok (l : Nat) (x y : Int) (P Q : Nat → Int) : rheostatlaw11_GridOne_g 20000 l x y P Q = some true := by
  unfold rheostatlaw11_GridOne_g
  rw [works_ok]
  obtain ⟨k, hk, hkl, ek⟩ : ∃ k : Nat, k ≤ 257 ∧ k ≤ l ∧ (bif decide (257 < ((l : Nat) : Int)) then (257 : Int) else ((l : Nat) : Int)) = (k : Int) := by
    by_cases h : 257 < ((l : Nat) : Int)
    · refine ⟨257, by omega, by omega, ?_⟩
      rw [decide_eq_true h]; rfl
    · refine ⟨l, by omega, by omega, ?_⟩
      rw [decide_eq_false h]; rfl
  rw [ek]
  have d1 : decide (((k : Nat) : Int) ≤ ((l : Nat) : Int)) = true := decide_eq_true (by omega)
  obtain ⟨A, C, h1, h2⟩ := one_loop k x y P Q 0 hk k 0 20000 (fun _ => 0) (fun _ => 0) (by omega) (by omega) (fun j hj => absurd hj (by omega))
  have e0 : ((0 : Nat) : Int) = 0 := rfl
  rw [e0] at h2
  simp only [Option.bind_some, Bool.not_true, cond_false, tnn, d1, Bool.and_self, cond_true, Int.toNat_natCast]
  rw [h2]
  exact one_tail k x y P Q A C hk h1
end Go.Proofs.Ytkdhedjcpakfeaa
