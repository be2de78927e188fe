/-
  Law 10 (table), the plain part of TableMoved and TableOf.
-/
import Derived.Test.YtcdfgndefidlgaaQ
namespace Go.Proofs.Ytcdfgndefidlgaa
open Go.Sy
set_option maxHeartbeats 1000000

theorem good_congr {n : Nat} {X Y X' Y' : Nat → Int} (h : ∀ j, j < n → X' j = X j ∧ Y' j = Y j) (hg : Good n X Y) : Good n X' Y' := by
  refine ⟨hg.1, hg.2.1, fun j hj => ?_⟩
  have h1 := hg.2.2 j hj
  have h2 := h j hj
  refine ⟨by rw [h2.1]; exact h1.1, by rw [h2.2]; exact h1.2.1, fun h0 => ?_⟩
  rw [h2.1, (h (j - 1) (by omega)).1]
  exact h1.2.2 h0

theorem chk_congr {n : Nat} {X Y X' Y' : Nat → Int} (h : ∀ j, j < n → X' j = X j ∧ Y' j = Y j) : chk n X' Y' = chk n X Y := by
  by_cases hg : Good n X Y
  · rw [chk_good hg, chk_good (good_congr h hg)]
  · rw [chk_bad hg, chk_bad (fun h' => hg (good_congr (fun j hj => ⟨(h j hj).1.symm, (h j hj).2.symm⟩) h'))]

/-! ### TableMoved -/
theorem V_moved {X Y X' Y' : Nat → Int} {dx dy x : Int} : ∀ {m : Nat}, (∀ j, j ≤ m → X' j = X j + dx ∧ Y' j = Y j + dy) → V X' Y' (x + dx) m = V X Y x m + dy
  | 0, h => (h 0 (Nat.le_refl _)).2
  | m + 1, h => by
    have h1 := h (m + 1) (Nat.le_refl _)
    have h0 := h m (by omega)
    have ih := V_moved (x := x) (m := m) fun j hj => h j (by omega)
    unfold V
    by_cases c1 : X (m + 1) ≤ x
    · rw [if_pos c1, if_pos (by omega)]
      exact h1.2
    · rw [if_neg c1, if_neg (by omega)]
      by_cases c2 : X m ≤ x
      · rw [if_pos c2, if_pos (by omega)]
        unfold piece
        rw [h1.1, h1.2, h0.1, h0.2]
        rw [show x + dx - (X m + dx) = x - X m by omega, show Y (m + 1) + dy - (Y m + dy) = Y (m + 1) - Y m by omega, show X (m + 1) + dx - (X m + dx) = X (m + 1) - X m by omega]
        omega
      · rw [if_neg c2, if_neg (by omega)]
        exact ih

abbrev near (a : Int) : Prop := -2147482648 ≤ a ∧ a ≤ 2147482648

theorem moved_loop (n : Nat) (dx dy x : Int) (X Y : Nat → Int) (hn : n ≤ 257) (hdx : -1000 ≤ dx ∧ dx ≤ 1000) (hdy : -1000 ≤ dy ∧ dy ≤ 1000) : ∀ (d i N : Nat) (A B : Nat → Int), i + d = n → d < N →
    (∀ j, j < i → near (X j) ∧ near (Y j) ∧ A j = X j + dx ∧ B j = Y j + dy) →
    rheostatlaw10_TableMoved_l0 1000 N n dx dy x i (i : Int) X Y A B = some (.inr (true, ())) ∨
    ∃ A' B', (∀ j, j < n → near (X j) ∧ near (Y j) ∧ A' j = X j + dx ∧ B' j = Y j + dy) ∧ rheostatlaw10_TableMoved_l0 1000 N n dx dy x i (i : Int) X Y A B = some (.inl (n, dx, dy, x, n, X, Y, A', B', ()))
  | 0, i, N, A, B, hd, hf, hp => by
    obtain ⟨f, rfl⟩ : ∃ f, N = f + 1 := ⟨N - 1, by omega⟩
    have e : i = n := by omega
    subst e
    refine .inr ⟨A, B, hp, ?_⟩
    show rheostatlaw10_TableMoved_l0r 1000 (rheostatlaw10_TableMoved_l0 1000 f) i dx dy x i (i : Int) X Y A B = _
    unfold rheostatlaw10_TableMoved_l0r
    rw [tself]
    rfl
  | d + 1, i, N, A, B, hd, hf, hp => by
    obtain ⟨f, rfl⟩ : ∃ f, N = f + 1 := ⟨N - 1, by omega⟩
    have hin : i < n := by omega
    have e0 : rheostatlaw10_TableMoved_l0 1000 (f + 1) n dx dy x i (i : Int) X Y A B = rheostatlaw10_TableMoved_l0r 1000 (rheostatlaw10_TableMoved_l0 1000 f) n dx dy x i (i : Int) X Y A B := rfl
    rw [e0]
    unfold rheostatlaw10_TableMoved_l0r
    simp only [tlt hin, tnn, Bool.and_self, cond_true, Int.toNat_natCast, tup (show i < 1000000 by omega)]
    by_cases c1 : X i > 2147482648
    · rw [decide_eq_true c1]; exact .inl rfl
    · rw [decide_eq_false c1]
      simp only [cond_false]
      by_cases c2 : X i < -2147482648
      · rw [decide_eq_true c2]; exact .inl rfl
      · rw [decide_eq_false c2]
        simp only [cond_false]
        by_cases c3 : Y i > 2147482648
        · rw [decide_eq_true c3]; exact .inl rfl
        · rw [decide_eq_false c3]
          simp only [cond_false]
          by_cases c4 : Y i < -2147482648
          · rw [decide_eq_true c4]; exact .inl rfl
          · rw [decide_eq_false c4]
            simp only [cond_false]
            have hb : Nat.ble ((i + 1) * 16) 140737488355328 = true := by rw [Nat.ble_eq]; omega
            rw [hb, wi64_id (x := X i + dx) (by omega) (by omega), wi64_id (x := Y i + dy) (by omega) (by omega)]
            simp only [cond_true]
            refine moved_loop n dx dy x X Y hn hdx hdy d (i + 1) f _ _ (by omega) (by omega) fun j hj => ?_
            by_cases e : j = i
            · subst e
              have hl : Nat.blt j j = false := by
                cases h : Nat.blt j j with
                | false => rfl
                | true => rw [Nat.blt_eq] at h; omega
              rw [hl, Nat.sub_self]
              exact ⟨⟨by omega, by omega⟩, ⟨by omega, by omega⟩, rfl, rfl⟩
            · have hl : Nat.blt j i = true := by rw [Nat.blt_eq]; omega
              rw [hl]
              exact hp j (by omega)

theorem moved_good {n : Nat} {X Y A B : Nat → Int} {dx dy : Int} (hdx : -1000 ≤ dx ∧ dx ≤ 1000) (hdy : -1000 ≤ dy ∧ dy ≤ 1000) (h : ∀ j, j < n → near (X j) ∧ near (Y j) ∧ A j = X j + dx ∧ B j = Y j + dy) : Good n X Y ↔ Good n A B := by
  constructor
  · intro hg
    refine ⟨hg.1, hg.2.1, fun j hj => ?_⟩
    obtain ⟨h1, h2, h3, h4⟩ := h j hj
    unfold near at h1 h2
    refine ⟨by unfold wi; omega, by unfold wi; omega, fun h0 => ?_⟩
    have h5 := (h (j - 1) (by omega)).2.2.1
    have h6 := (hg.2.2 j hj).2.2 h0
    omega
  · intro hg
    refine ⟨hg.1, hg.2.1, fun j hj => ?_⟩
    obtain ⟨h1, h2, h3, h4⟩ := h j hj
    unfold near at h1 h2
    refine ⟨by unfold wi; omega, by unfold wi; omega, fun h0 => ?_⟩
    have h5 := (h (j - 1) (by omega)).2.2.1
    have h6 := (hg.2.2 j hj).2.2 h0
    omega

theorem TableMoved_ok (n : Nat) (dx0 dy0 x0 : Int) (X Y : Nat → Int) : rheostatlaw10_TableMoved_g 1000 n dx0 dy0 x0 X Y = some true := by
  unfold rheostatlaw10_TableMoved_g
  obtain ⟨k, hk, hkn, h1, h2⟩ := few_ok n
  obtain ⟨dx, dx1, dx2, dx3⟩ := among_ok dx0 (n := 2000) (by omega) (by omega)
  obtain ⟨dy, dy1, dy2, dy3⟩ := among_ok dy0 (n := 2000) (by omega) (by omega)
  obtain ⟨x, x1, x2, x3⟩ := among_ok x0 (n := 4294967296) (by omega) (by omega)
  rw [h2, h1, works_ok, dx3, dy3, x3]
  simp only [cond_true, Int.toNat_natCast, Option.bind_some, Bool.not_true, cond_false]
  rw [wi64_id (x := dx - 1000) (by omega) (by omega), wi64_id (x := dy - 1000) (by omega) (by omega), wi64_id (x := x - 2147483648) (by omega) (by omega)]
  have hl := moved_loop k (dx - 1000) (dy - 1000) (x - 2147483648) X Y hk (by omega) (by omega) k 0 1000 (fun _ => 0) (fun _ => 0) (by omega) (by omega) (fun j hj => absurd hj (by omega))
  have e0 : ((0 : Nat) : Int) = 0 := rfl
  rw [e0] at hl
  rcases hl with hl | ⟨A, B, hAB, hl⟩
  · rw [hl]; rfl
  · rw [hl]
    simp only [Option.bind_some, Sum.elim_inl, At_ok]
    have hgg := moved_good (by omega) (by omega) hAB
    by_cases hg : Good k X Y
    · have h3 := hg.1
      rw [chk_good hg, chk_good (hgg.1 hg)]
      have d0 : ((0 : Int) != 0) = false := rfl
      simp only [beq_self_eq_true, cond_true, d0, cond_false, if_pos]
      have hm := V_moved (X := X) (Y := Y) (X' := A) (Y' := B) (dx := dx - 1000) (dy := dy - 1000) (x := x - 2147483648) (m := k - 1) fun j hj => ⟨(hAB j (by omega)).2.2.1, (hAB j (by omega)).2.2.2⟩
      have hw := V_wi hg (x - 2147483648) (show k - 1 < k by omega)
      unfold wi at hw
      rw [wi64_id (x := x - 2147483648 + (dx - 1000)) (by omega) (by omega), hm, wi64_id (by omega) (by omega)]
      simp
    · rw [chk_bad hg, chk_bad (fun h => hg (hgg.2 h))]
      rfl

/-! ### TableOf -/
theorem few300 (n : Nat) : ∃ k : Nat, k ≤ 300 ∧ (bif (decide (300 < ((n : Nat) : Int))) then 300 else ((n : Nat) : Int)) = (k : Int) ∧
    ((decide (0 ≤ (bif (decide (300 < ((n : Nat) : Int))) then 300 else ((n : Nat) : Int)))) && (decide ((bif (decide (300 < ((n : Nat) : Int))) then 300 else ((n : Nat) : Int)) ≤ ((n : Nat) : Int)))) = true := by
  by_cases h : 300 < (n : Int)
  · refine ⟨300, by omega, ?_, ?_⟩
    · rw [decide_eq_true h]; rfl
    · rw [decide_eq_true h]
      simp only [cond_true]
      rw [decide_eq_true (show (0 : Int) ≤ 300 by omega), decide_eq_true (show (300 : Int) ≤ (n : Int) by omega)]
      rfl
  · refine ⟨n, by omega, ?_, ?_⟩
    · rw [decide_eq_false h]; rfl
    · rw [decide_eq_false h]
      simp only [cond_false]
      rw [tnn, decide_eq_true (show (n : Int) ≤ (n : Int) by omega)]
      rfl

theorem ints_ok (k : Nat) (m : Nat → Int) (hk : k ≤ 300) : ∃ f : Nat → Int, (∀ j, j < k → f j = m j) ∧ rheostatbase_Ints_g 1000 k m = some (k, f, ()) := by
  unfold rheostatbase_Ints_g
  by_cases h : k = 0
  · subst h
    exact ⟨fun _ => 0, fun j hj => absurd hj (by omega), rfl⟩
  · have hb : Nat.blt 0 k = true := by rw [Nat.blt_eq]; omega
    have hc : Nat.ble ((0 + k) * 8) 140737488355328 = true := by rw [Nat.ble_eq]; omega
    rw [hb, hc, Nat.zero_add]
    exact ⟨m, fun _ _ => rfl, rfl⟩

theorem blt_tt {i j : Nat} (h : i < j) : Nat.blt i j = true := by rw [Nat.blt_eq]; omega
theorem blt_ff {i j : Nat} (h : j ≤ i) : Nat.blt i j = false := by
  cases h' : Nat.blt i j with
  | false => rfl
  | true => rw [Nat.blt_eq] at h'; omega

theorem of_loop' (n : Nat) (xs ys : Nat → Int) (hn : n ≤ 300) : ∀ (d i N : Nat) (A B : Nat → Int), i + d = n → d < N → (∀ j, j < i → A j = xs j ∧ B j = ys j) →
    ∃ A' B', (∀ j, j < n → A' j = xs j ∧ B' j = ys j) ∧ table_Of_l0 1000 N n i n (n : Int) (i : Int) ys A B xs = some (n, A', B', ())
  | 0, i, N, A, B, hd, hf, hp => by
    obtain ⟨f, rfl⟩ : ∃ f, N = f + 1 := ⟨N - 1, by omega⟩
    have e : i = n := by omega
    subst e
    refine ⟨A, B, hp, ?_⟩
    show table_Of_l0r 1000 (table_Of_l0 1000 f) i i i (i : Int) (i : Int) ys A B xs = _
    unfold table_Of_l0r
    rw [tself]
    rfl
  | d + 1, i, N, A, B, hd, hf, hp => by
    obtain ⟨f, rfl⟩ : ∃ f, N = f + 1 := ⟨N - 1, by omega⟩
    have hin : i < n := by omega
    have e0 : table_Of_l0 1000 (f + 1) n i n (n : Int) (i : Int) ys A B xs = table_Of_l0r 1000 (table_Of_l0 1000 f) n i n (n : Int) (i : Int) ys A B xs := rfl
    rw [e0]
    unfold table_Of_l0r
    have hb : Nat.ble ((i + 1) * 16) 140737488355328 = true := by rw [Nat.ble_eq]; omega
    simp only [tlt hin, tnn, Bool.and_self, cond_true, Int.toNat_natCast, tup (show i < 1000000 by omega), hb]
    refine of_loop' n xs ys hn d (i + 1) f _ _ (by omega) (by omega) fun j hj => ?_
    by_cases e : j = i
    · subst e
      rw [blt_ff (Nat.le_refl _), Nat.sub_self]
      exact ⟨rfl, rfl⟩
    · rw [blt_tt (show j < i by omega)]
      exact hp j (by omega)

theorem tableOf_ok (n m : Nat) (xs ys : Nat → Int) (hn : n ≤ 300) :
    (n ≠ m → table_Of_g 1000 n m xs ys = some (0, 100, (fun _ => 0), (fun _ => 0), ())) ∧
    (n = m → ∃ A B, (∀ j, j < n → A j = xs j ∧ B j = ys j) ∧ table_Of_g 1000 n m xs ys = some (if chk n xs ys = 0 then (n, 0, A, B, ()) else (0, 100, (fun _ => 0), (fun _ => 0), ()))) := by
  refine ⟨fun h => ?_, fun h => ?_⟩
  · unfold table_Of_g
    have d : (((n : Nat) : Int) != ((m : Nat) : Int)) = true := by simp; omega
    rw [d]
    rfl
  · subst h
    obtain ⟨A, B, h1, h2⟩ := of_loop' n xs ys hn n 0 1000 (fun _ => 0) (fun _ => 0) (by omega) (by omega) (fun j hj => absurd hj (by omega))
    have e0 : ((0 : Nat) : Int) = 0 := rfl
    rw [e0] at h2
    refine ⟨A, B, h1, ?_⟩
    unfold table_Of_g
    have d : (((n : Nat) : Int) != ((n : Nat) : Int)) = false := by simp
    rw [d, h2]
    simp only [cond_false, Option.bind_some, check_ok, chk_congr h1]
    by_cases hg : Good n xs ys
    · rw [chk_good hg]; rfl
    · rw [chk_bad hg]; rfl

theorem law_loop (n m ln : Nat) (e : Int) (xs ys lx ly : Nat → Int) (hn : n ≤ 300) (hm : m ≤ 300) : ∀ (d i N : Nat) (A B : Nat → Int), i + d = min n m → d < N → (∀ j, j < i → A j = xs j ∧ B j = ys j) →
    ∃ A' B', (∀ j, j < min n m → A' j = xs j ∧ B' j = ys j) ∧ rheostatlaw10_TableOf_l0 1000 N n m ln e i (i : Int) xs ys lx ly A B = some (n, m, ln, e, min n m, xs, ys, lx, ly, A', B', ())
  | 0, i, N, A, B, hd, hf, hp => by
    obtain ⟨f, rfl⟩ : ∃ f, N = f + 1 := ⟨N - 1, by omega⟩
    have e' : i = min n m := by omega
    refine ⟨A, B, fun j hj => hp j (by omega), ?_⟩
    show rheostatlaw10_TableOf_l0r 1000 (rheostatlaw10_TableOf_l0 1000 f) n m ln e i (i : Int) xs ys lx ly A B = _
    unfold rheostatlaw10_TableOf_l0r
    by_cases h : i < n
    · have e2 : i = m := by omega
      rw [tlt h, show decide ((i : Int) < (m : Int)) = false by rw [e2]; exact tself m, ← e']
      rfl
    · have e2 : i = n := by omega
      rw [show decide ((i : Int) < (n : Int)) = false by rw [e2]; exact tself n, ← e']
      rfl
  | d + 1, i, N, A, B, hd, hf, hp => by
    obtain ⟨f, rfl⟩ : ∃ f, N = f + 1 := ⟨N - 1, by omega⟩
    have e0 : rheostatlaw10_TableOf_l0 1000 (f + 1) n m ln e i (i : Int) xs ys lx ly A B = rheostatlaw10_TableOf_l0r 1000 (rheostatlaw10_TableOf_l0 1000 f) n m ln e i (i : Int) xs ys lx ly A B := rfl
    rw [e0]
    unfold rheostatlaw10_TableOf_l0r
    have hb : Nat.ble ((i + 1) * 16) 140737488355328 = true := by rw [Nat.ble_eq]; omega
    simp only [tlt (show i < n by omega), tlt (show i < m by omega), tnn, Bool.and_self, cond_true, Int.toNat_natCast, tup (show i < 1000000 by omega), hb]
    refine law_loop n m ln e xs ys lx ly hn hm d (i + 1) f _ _ (by omega) (by omega) fun j hj => ?_
    by_cases e : j = i
    · subst e
      rw [blt_ff (Nat.le_refl _), Nat.sub_self]
      exact ⟨rfl, rfl⟩
    · rw [blt_tt (show j < i by omega)]
      exact hp j (by omega)

theorem same_loop (n : Nat) (e : Int) (A B C D : Nat → Int) (hn : n ≤ 300) (h : ∀ j, j < n → A j = C j ∧ B j = D j) : ∀ (d i N : Nat), i + d = n → d < N →
    rheostatlaw10_TableOf_l1 1000 N n e n (i : Int) A B C D = some (.inl (n, e, n, A, B, C, D, ()))
  | 0, i, N, hd, hf => by
    obtain ⟨f, rfl⟩ : ∃ f, N = f + 1 := ⟨N - 1, by omega⟩
    have e' : i = n := by omega
    subst e'
    show rheostatlaw10_TableOf_l1r 1000 (rheostatlaw10_TableOf_l1 1000 f) i e i (i : Int) A B C D = _
    unfold rheostatlaw10_TableOf_l1r
    rw [tself]
    rfl
  | d + 1, i, N, hd, hf => by
    obtain ⟨f, rfl⟩ : ∃ f, N = f + 1 := ⟨N - 1, by omega⟩
    have e0 : rheostatlaw10_TableOf_l1 1000 (f + 1) n e n (i : Int) A B C D = rheostatlaw10_TableOf_l1r 1000 (rheostatlaw10_TableOf_l1 1000 f) n e n (i : Int) A B C D := rfl
    rw [e0]
    unfold rheostatlaw10_TableOf_l1r
    have hi := h i (by omega)
    have d1 : decide ((i : Int) ≥ (n : Int)) = false := decide_eq_false (by omega)
    simp only [tlt (show i < n by omega), tnn, Bool.and_self, cond_true, cond_false, Int.toNat_natCast, tup (show i < 1000000 by omega), d1, hi.1, hi.2, beq_self_eq_true, Bool.not_true]
    exact same_loop n e A B C D hn h d (i + 1) f (by omega) (by omega)

theorem TableOf_ok (n m : Nat) (xs ys : Nat → Int) : rheostatlaw10_TableOf_g 1000 n m xs ys = some true := by
  unfold rheostatlaw10_TableOf_g
  obtain ⟨k, hk, h1, h2⟩ := few300 n
  obtain ⟨l, hl, h3, h4⟩ := few300 m
  rw [h2, h4, h1, h3]
  simp only [cond_true, Int.toNat_natCast]
  obtain ⟨fx, f1, f2⟩ := ints_ok k xs hk
  obtain ⟨fy, g1, g2⟩ := ints_ok l ys hl
  rw [f2, g2]
  simp only [Option.bind_some]
  have hof := tableOf_ok k l fx fy hk
  by_cases hkl : k = l
  · subst hkl
    obtain ⟨A, B, a1, a2⟩ := hof.2 rfl
    have hc : chk k fx fy = chk k xs ys := chk_congr fun j hj => ⟨f1 j hj, g1 j hj⟩
    rw [a2, hc]
    by_cases hg : Good k xs ys
    · rw [chk_good hg]
      simp only [if_pos, Option.bind_some]
      obtain ⟨C, D, c1, c2⟩ := law_loop k k k 0 xs ys A B hk hk k 0 1000 (fun _ => 0) (fun _ => 0) (by omega) (by omega) (fun j hj => absurd hj (by omega))
      have e0 : ((0 : Nat) : Int) = 0 := rfl
      rw [e0] at c2
      rw [c2]
      have d : (((k : Nat) : Int) != ((k : Nat) : Int)) = false := by simp
      have d0 : ((0 : Int) != 0) = false := rfl
      rw [Nat.min_self] at c1 ⊢
      simp only [Option.bind_some, d, cond_false, rcheck_ok, chk_congr c1, chk_good hg, d0]
      have hs := same_loop k 0 A B C D hk (fun j hj => ⟨by rw [(a1 j hj).1, f1 j hj, (c1 j hj).1], by rw [(a1 j hj).2, g1 j hj, (c1 j hj).2]⟩) k 0 1000 (by omega) (by omega)
      rw [e0] at hs
      rw [hs]
      simp only [Option.bind_some, Sum.elim_inl, beq_self_eq_true, cond_true, works_ok]
    · rw [chk_bad hg, if_neg (by omega)]
      simp only [Option.bind_some]
      obtain ⟨C, D, c1, c2⟩ := law_loop k k 0 100 xs ys (fun _ => 0) (fun _ => 0) hk hk k 0 1000 (fun _ => 0) (fun _ => 0) (by omega) (by omega) (fun j hj => absurd hj (by omega))
      have e0 : ((0 : Nat) : Int) = 0 := rfl
      rw [e0] at c2
      rw [c2]
      have d : (((k : Nat) : Int) != ((k : Nat) : Int)) = false := by simp
      rw [Nat.min_self] at c1 ⊢
      simp only [Option.bind_some, d, cond_false, rcheck_ok, chk_congr c1, chk_bad hg, works_ok]
      rfl
  · rw [hof.1 hkl]
    simp only [Option.bind_some]
    obtain ⟨C, D, c1, c2⟩ := law_loop k l 0 100 xs ys (fun _ => 0) (fun _ => 0) hk hl (min k l) 0 1000 (fun _ => 0) (fun _ => 0) (by omega) (by omega) (fun j hj => absurd hj (by omega))
    have e0 : ((0 : Nat) : Int) = 0 := rfl
    rw [e0] at c2
    rw [c2]
    have d : (((k : Nat) : Int) != ((l : Nat) : Int)) = true := by simp; omega
    simp only [Option.bind_some, d, cond_true, works_ok]
    rfl
end Go.Proofs.Ytcdfgndefidlgaa
