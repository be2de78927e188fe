/-
  Law 14 (coulomb), the plain part of CoulombOrder.
-/
import Derived.Test.YthimgpokphilkaaP
import Derived.Test.YthimgpokphilkaaJ
namespace Go.Proofs.Ythimgpokphilkaa
open Go.Sy
set_option maxHeartbeats 1000000

theorem sumP_split (c t : Nat → Int) (a : Nat) : ∀ b, sumP c t (a + b) = sumP c t a + sumP (fun j => c (j + a)) (fun j => t (j + a)) b
  | 0 => by simp [sumP]
  | b + 1 => by
    have e : a + (b + 1) = (a + b) + 1 := by omega
    rw [e]
    simp only [sumP]
    rw [sumP_split c t a b, show b + a = a + b by omega]
    omega

theorem add_step {T : Int} {a b : Int} (hT : -1125899906842624000 ≤ T ∧ T ≤ 1125899906842624000) (h1 : -2147483648 ≤ a ∧ a ≤ 2147483648) (h2 : 1 ≤ b) (h3 : b ≤ 60000) (hS : -1125899906842624000 ≤ T + a * b ∧ T + a * b ≤ 1125899906842624000) :
    addE (T / 1000) (T % 1000) a b = ((T + a * b) / 1000, (T + a * b) % 1000, 0, ()) := by
  unfold addE
  rw [if_pos ⟨ch_of hT.1 hT.2, h1, h2, h3⟩, show T / 1000 * 1000 + T % 1000 = T by omega, btw_id hS.1 hS.2]

theorem order_loop (T : Int) (hT : -562949953421312000 < T ∧ T < 562949953421312000) (n : Nat) (hn : n ≤ 200) (c t u v : Nat → Int) (hp : partsOk c t n) (hq : partsOk u v n) : ∀ (d i fuel : Nat), i + d = n → d < fuel →
    rheostatlaw14_CoulombOrder_l0 1000 fuel n n ((T + sumP c t i) / 1000) ((T + sumP c t i) % 1000) ((T + sumP u v i) / 1000) ((T + sumP u v i) % 1000) (i : Int) c t u v =
      some ((T + sumP c t n) / 1000, (T + sumP c t n) % 1000, (T + sumP u v n) / 1000, (T + sumP u v n) % 1000, ())
  | 0, i, fuel, hd, hf => by
    obtain ⟨f, rfl⟩ : ∃ f, fuel = f + 1 := ⟨fuel - 1, by omega⟩
    have e : i = n := by omega
    subst e
    show rheostatlaw14_CoulombOrder_l0r 1000 (rheostatlaw14_CoulombOrder_l0 1000 f) i i _ _ _ _ (i : Int) c t u v = _
    unfold rheostatlaw14_CoulombOrder_l0r
    rw [nat_lt_self]
    rfl
  | d + 1, i, fuel, hd, hf => by
    obtain ⟨f, rfl⟩ : ∃ f, fuel = f + 1 := ⟨fuel - 1, by omega⟩
    have h1 : i < n := by omega
    obtain ⟨p1, p2, p3⟩ := hp i h1
    obtain ⟨q1, q2, q3⟩ := hq i h1
    have b1 := part_bound p1 p2 p3
    have b2 := part_bound q1 q2 q3
    have s1 := sumP_bound i (fun j hj => hp j (by omega))
    have s2 := sumP_bound i (fun j hj => hq j (by omega))
    have ih := order_loop T hT n hn c t u v hp hq d (i + 1) f (by omega) (by omega)
    simp only [sumP] at ih
    rw [← ih]
    show rheostatlaw14_CoulombOrder_l0r 1000 (rheostatlaw14_CoulombOrder_l0 1000 f) n n _ _ _ _ (i : Int) c t u v = _
    unfold rheostatlaw14_CoulombOrder_l0r
    rw [nat_lt_dec h1, nat_nn_dec, Int.toNat_natCast, Add_ok, Add_ok, add_step (by omega) p1 p2 p3 (by omega), add_step (by omega) q1 q2 q3 (by omega), wi_succ (show i < 1000000 by omega)]
    simp only [Bool.and_self, cond_true, Option.bind_some]
    rw [show T + sumP c t i + c i * t i = T + (sumP c t i + c i * t i) by omega, show T + sumP u v i + u i * v i = T + (sumP u v i + u i * v i) by omega]

theorem order_end (T : Int) (hT : -562949953421312000 < T ∧ T < 562949953421312000) (n : Nat) (hn : n ≤ 200) (c t u v : Nat → Int) (hp : partsOk c t n) (hq : partsOk u v n) (hs : sumP u v n = sumP c t n) :
    ((coulomb_Of_g 1000 T).bind fun q5 => ((rheostatlaw14_CoulombOrder_l0 1000 1000 n n q5.1 q5.2.1 q5.1 q5.2.1 0 c t u v).bind fun q6 => (bif (q6.1 == q6.2.2.1) then (some (q6.2.1 == q6.2.2.2.1)) else (some false)))) = some true := by
  have hof : ofE T = (T / 1000, T % 1000, 0, ()) := if_pos (by omega)
  have h := order_loop T hT n hn c t u v hp hq n 0 1000 (by omega) (by omega)
  have e0 : ((0 : Nat) : Int) = 0 := rfl
  simp only [sumP, e0, Int.add_zero] at h
  rw [Of_ok, hof]
  simp only [Option.bind_some, h, hs, beq_self_eq_true, cond_true]

/-- What is turned has the same parts, and the same sum. -/
theorem turned (c t : Nat → Int) (n q : Nat) (hq : q ≤ n) (u v : Nat → Int) (h : ∀ j, (j < n - q → u j = c (j + q) ∧ v j = t (j + q)) ∧ (n - q ≤ j → u j = c (j - (n - q)) ∧ v j = t (j - (n - q)))) (hp : partsOk c t n) :
    partsOk u v n ∧ sumP u v n = sumP c t n := by
  refine ⟨fun j hj => ?_, ?_⟩
  · by_cases h1 : j < n - q
    · obtain ⟨e1, e2⟩ := (h j).1 h1
      rw [e1, e2]
      exact hp (j + q) (by omega)
    · obtain ⟨e1, e2⟩ := (h j).2 (by omega)
      rw [e1, e2]
      exact hp (j - (n - q)) (by omega)
  · have a1 := sumP_split u v (n - q) q
    have a2 := sumP_split c t q (n - q)
    rw [show n - q + q = n by omega] at a1
    rw [show q + (n - q) = n by omega] at a2
    have a3 : sumP u v (n - q) = sumP (fun j => c (j + q)) (fun j => t (j + q)) (n - q) := sumP_congr (n - q) fun j hj => (h j).1 hj
    have a4 : sumP (fun j => u (j + (n - q))) (fun j => v (j + (n - q))) q = sumP c t q := sumP_congr q fun j hj => by
      have := (h (j + (n - q))).2 (by omega)
      rw [show j + (n - q) - (n - q) = j by omega] at this
      exact this
    omega

theorem CoulombOrder_ok (total : Int) (n : Nat) (turn : Int) (a b : Nat → Int) : rheostatlaw14_CoulombOrder_g 1000 total n turn a b = some true := by
  unfold rheostatlaw14_CoulombOrder_g rheostatref14_Most_g
  have w : wi64 (Int.tdiv 1125899906842624000 2) = 562949953421312000 := rfl
  have d0 : ((562949953421312000 : Int) == 0) = false := rfl
  rw [works_ok]
  simp only [Option.bind_some, Bool.not_true, cond_false, w, d0]
  have hm : -562949953421312000 < Int.tmod total 562949953421312000 ∧ Int.tmod total 562949953421312000 < 562949953421312000 := by
    by_cases h : total < 0
    · rw [(tdiv_neg' h).2]; omega
    · rw [(tdiv_pos (show 0 ≤ total by omega)).2]; omega
  generalize Int.tmod total 562949953421312000 = T at *
  obtain ⟨k, c, t, hk, hp, hr⟩ := right_ok T n a b
  rw [hr]
  simp only [Option.bind_some]
  by_cases h0 : k = 0
  · subst h0; rfl
  · have d1 : (((k : Nat) : Int) == 0) = false := by simp; omega
    rw [d1]
    simp only [cond_false]
    obtain ⟨q, q1, q2, q3⟩ := among_ok 1000 turn (k : Int) (by omega) (by omega)
    rw [q3]
    obtain ⟨m, rfl⟩ : ∃ m : Nat, q = (m : Int) := ⟨q.toNat, by omega⟩
    have c1 : (decide ((0 : Int) ≤ (m : Int)) && decide ((m : Int) ≤ (k : Int))) = true := by
      rw [decide_eq_true (show (0 : Int) ≤ (m : Int) by omega), decide_eq_true (show (m : Int) ≤ (k : Int) by omega)]; rfl
    have c2 : Nat.blt 0 (k - m) = true := by rw [Nat.blt_eq]; omega
    have c3 : Nat.ble ((k - m) * 16) 140737488355328 = true := by rw [Nat.ble_eq]; omega
    simp only [Option.bind_some, Int.toNat_natCast, Nat.zero_add, c1, c2, c3, cond_true]
    by_cases hm0 : m = 0
    · subst hm0
      have c4 : Nat.blt 0 0 = false := rfl
      simp only [c4, cond_false, agree_self, agN_eq, Nat.sub_zero, Nat.add_zero]
      exact order_end T hm k hk c t c t hp hp rfl
    · have c4 : Nat.blt 0 m = true := by rw [Nat.blt_eq]; omega
      have c5 : Nat.ble ((k - m + m) * 16) 140737488355328 = true := by rw [Nat.ble_eq]; omega
      simp only [c4, c5, cond_true, agree_self, agN_eq]
      rw [show k - m + m = k by omega]
      obtain ⟨g1, g2⟩ := turned c t k m (by omega) (fun j => bif Nat.blt j (k - m) then c (j + m) else c (j - (k - m))) (fun j => bif Nat.blt j (k - m) then t (j + m) else t (j - (k - m))) (fun j => ⟨fun hj => by
        have : Nat.blt j (k - m) = true := by rw [Nat.blt_eq]; omega
        simp only [this, cond_true, and_self], fun hj => by
        have : Nat.blt j (k - m) = false := by
          cases hq : Nat.blt j (k - m) with
          | false => rfl
          | true => rw [Nat.blt_eq] at hq; omega
        simp only [this, cond_false, and_self]⟩) hp
      exact order_end T hm k hk c t _ _ hp g1 g2
end Go.Proofs.Ythimgpokphilkaa
