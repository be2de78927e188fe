/-
  Alarms: what the printed functions compute, as plain functions of the numbers.
-/
import Derived.Test.YtjmbhhinmbgneaaGreatsW
namespace Go.Proofs.YtjmbhhinmbgneaaGreat.PG
open Go.Sy
set_option maxHeartbeats 2000000

theorem within1 (K : Nat) (lo hi x : Int) : guard_within_g (K + 2) lo hi 1 (fun j => selI [x] j) = some (decide (lo ≤ x ∧ x ≤ hi), ()) := by
  have e : ∀ n a b c d e f, guard_within_l0 (K + 2) (n + 1) a b c d e f = guard_within_l0r (K + 2) (guard_within_l0 (K + 2) n) a b c d e f := fun _ _ _ _ _ _ _ => rfl
  simp only [guard_within_g, e, guard_within_l0r]
  by_cases h1 : x < lo
  · simp [selI, h1]
    omega
  · by_cases h2 : x > hi
    · simp [selI, h1, h2]
    · simp [selI, h1, h2, wi64_def]
      omega

def mayB (so at' ba : Int) : Bool := decide (0 ≤ so ∧ so ≤ 3) && (decide (-2147483648 ≤ at' ∧ at' ≤ 2147483648) && decide (0 ≤ ba ∧ ba ≤ 2147483648))

theorem may_ok (K : Nat) (so : Int) (hi : Bool) (at' ba : Int) (ra : Bool) (run : Int) : guard_alarm_may_g (K + 2) so hi at' ba ra run = some (mayB so at' ba, ()) := by
  simp only [guard_alarm_may_g, within1, Option.bind_some, mayB]
  cases decide (0 ≤ so ∧ so ≤ 3) <;> cases decide (-2147483648 ≤ at' ∧ at' ≤ 2147483648) <;> rfl

def holdsB (hi : Bool) (at' ba : Int) (ra : Bool) (v : Int) : Bool :=
  bif ra then (bif hi then decide (v ≤ wi64 (at' - ba)) else decide (v ≥ wi64 (at' + ba))) else (bif hi then decide (v > at') else decide (v < at'))

theorem holds_ok (K : Nat) (so : Int) (hi : Bool) (at' ba : Int) (ra : Bool) (run v : Int) : guard_alarm_holds_g K so hi at' ba ra run v = some (holdsB hi at' ba ra v, ()) := by
  simp only [guard_alarm_holds_g, guard_Back_g, guard_Beyond_g, holdsB]
  cases ra <;> cases hi <;> rfl

theorem may_k (so : Int) (hi : Bool) (at' ba : Int) (ra : Bool) (run : Int) : guard_alarm_may_g 20000 so hi at' ba ra run = some (mayB so at' ba, ()) := may_ok 19998 ..
theorem within_k (lo hi x : Int) : guard_within_g 20000 lo hi 1 (fun j => selI [x] j) = some (decide (lo ≤ x ∧ x ≤ hi), ()) := within1 19998 ..

section
variable (s0 : Int) (h0 : Bool) (a0 b0 : Int) (s1 : Int) (h1 : Bool) (a1 b1 : Int) (s2 : Int) (h2 : Bool) (a2 b2 : Int) (s3 : Int) (h3 : Bool) (a3 b3 : Int) (s4 : Int) (h4 : Bool) (a4 b4 : Int) (s5 : Int) (h5 : Bool) (a5 b5 : Int)

/-- What the loop of limits says. -/
def mayAll : Bool := mayB s0 a0 b0 && (mayB s1 a1 b1 && (mayB s2 a2 b2 && (mayB s3 a3 b3 && (mayB s4 a4 b4 && mayB s5 a5 b5))))

theorem check_loop (deb : Int) : guard_Check_l0 20000 20000 deb s0 h0 a0 b0 s1 h1 a1 b1 s2 h2 a2 b2 s3 h3 a3 b3 s4 h4 a4 b4 s5 h5 a5 b5 0 =
    some (bif mayAll s0 a0 b0 s1 a1 b1 s2 a2 b2 s3 a3 b3 s4 a4 b4 s5 a5 b5 then .inl (deb, ()) else .inr (2, ())) := by
  have e : ∀ (n : Nat) (i : Int), guard_Check_l0 20000 (n + 1) deb s0 h0 a0 b0 s1 h1 a1 b1 s2 h2 a2 b2 s3 h3 a3 b3 s4 h4 a4 b4 s5 h5 a5 b5 i = guard_Check_l0r 20000 (guard_Check_l0 20000 n) deb s0 h0 a0 b0 s1 h1 a1 b1 s2 h2 a2 b2 s3 h3 a3 b3 s4 h4 a4 b4 s5 h5 a5 b5 i := fun _ _ => rfl
  have w0 : wi64 (0 + 1) = 1 := rfl
  have w1 : wi64 (1 + 1) = 2 := rfl
  have w2 : wi64 (2 + 1) = 3 := rfl
  have w3 : wi64 (3 + 1) = 4 := rfl
  have w4 : wi64 (4 + 1) = 5 := rfl
  have w5 : wi64 (5 + 1) = 6 := rfl
  unfold mayAll
  rw [e 19999]; simp only [guard_Check_l0r, may_k, Option.bind_some, w0]
  rw [e 19998]; simp only [guard_Check_l0r, may_k, Option.bind_some, w1]
  rw [e 19997]; simp only [guard_Check_l0r, may_k, Option.bind_some, w2]
  rw [e 19996]; simp only [guard_Check_l0r, may_k, Option.bind_some, w3]
  rw [e 19995]; simp only [guard_Check_l0r, may_k, Option.bind_some, w4]
  rw [e 19994]; simp only [guard_Check_l0r, may_k, Option.bind_some, w5]
  rw [e 19993]; simp only [guard_Check_l0r]
  simp only [selI, List.getD]
  cases hm0 : mayB s0 a0 b0 <;> cases hm1 : mayB s1 a1 b1 <;> cases hm2 : mayB s2 a2 b2 <;> cases hm3 : mayB s3 a3 b3 <;> cases hm4 : mayB s4 a4 b4 <;> cases hm5 : mayB s5 a5 b5 <;> simp [hm0, hm1, hm2, hm3, hm4, hm5]

def checkB (deb : Int) : Int := bif mayAll s0 a0 b0 s1 a1 b1 s2 a2 b2 s3 a3 b3 s4 a4 b4 s5 a5 b5 && decide (1 ≤ deb ∧ deb ≤ 31) then 0 else 2

theorem check_k (deb : Int) : guard_Check_g 20000 s0 h0 a0 b0 s1 h1 a1 b1 s2 h2 a2 b2 s3 h3 a3 b3 s4 h4 a4 b4 s5 h5 a5 b5 deb =
    some (checkB s0 a0 b0 s1 a1 b1 s2 a2 b2 s3 a3 b3 s4 a4 b4 s5 a5 b5 deb, ()) := by
  simp only [guard_Check_g, check_loop, Option.bind_some, checkB]
  cases mayAll s0 a0 b0 s1 a1 b1 s2 a2 b2 s3 a3 b3 s4 a4 b4 s5 a5 b5
  · rfl
  · simp only [cond_true, Sum.elim_inl, within_k, Option.bind_some, Bool.true_and]
    cases decide (1 ≤ deb ∧ deb ≤ 31) <;> rfl

end

theorem ex_bif {α : Type} {c : Bool} {x y : Option α} (h : ∃ q, x = some q) (h' : ∃ q, y = some q) : ∃ q, (bif c then x else y) = some q := by
  cases c
  · exact h'
  · exact h
theorem ex_bind {α β : Type} {x : Option α} {f : α → Option β} (h : ∃ q, x = some q) (h' : ∀ a, ∃ q, f a = some q) : ∃ q, x.bind f = some q := by
  obtain ⟨a, rfl⟩ := h
  exact h' a
theorem ex_sum {α β γ : Type} {f : α → Option γ} {g : β → Option γ} (h : ∀ a, ∃ q, f a = some q) (h' : ∀ a, ∃ q, g a = some q) (x : α ⊕ β) : ∃ q, Sum.elim f g x = some q := by
  cases x
  · exact h _
  · exact h' _

theorem gstep_loop (s0 : Int) (h0 : Bool) (a0 b0 : Int) (s1 : Int) (h1 : Bool) (a1 b1 : Int) (s2 : Int) (h2 : Bool) (a2 b2 : Int) (s3 : Int) (h3 : Bool) (a3 b3 : Int) (s4 : Int) (h4 : Bool) (a4 b4 : Int) (s5 : Int) (h5 : Bool) (a5 b5 : Int) (deb v0 v1 v2 v3 z0 z1 z2 z3 z4 z5 : Int) (hs : ∀ i : Nat, i < 6 → 0 ≤ selI [s0, s1, s2, s3, s4, s5] i ∧ selI [s0, s1, s2, s3, s4, s5] i < 4) :
    ∀ (d i N : Nat) (x r0 r1 r2 r3 r4 r5 : Int), i + d = 6 → d < N → ∃ q, guard_Step_l0 20000 N deb x s0 h0 a0 b0 s1 h1 a1 b1 s2 h2 a2 b2 s3 h3 a3 b3 s4 h4 a4 b4 s5 h5 a5 b5 (i : Int) r0 r1 r2 r3 r4 r5 v0 v1 v2 v3 z0 z1 z2 z3 z4 z5 = some q
  | 0, i, N, x, r0, r1, r2, r3, r4, r5, hd, hf => by
    obtain ⟨f, rfl⟩ : ∃ f, N = f + 1 := ⟨N - 1, by omega⟩
    obtain rfl : i = 6 := by omega
    exact ⟨_, rfl⟩
  | d + 1, i, N, x, r0, r1, r2, r3, r4, r5, hd, hf => by
    obtain ⟨f, rfl⟩ : ∃ f, N = f + 1 := ⟨N - 1, by omega⟩
    have e0 : guard_Step_l0 20000 (f + 1) deb x s0 h0 a0 b0 s1 h1 a1 b1 s2 h2 a2 b2 s3 h3 a3 b3 s4 h4 a4 b4 s5 h5 a5 b5 (i : Int) r0 r1 r2 r3 r4 r5 v0 v1 v2 v3 z0 z1 z2 z3 z4 z5 = guard_Step_l0r 20000 (guard_Step_l0 20000 f) deb x s0 h0 a0 b0 s1 h1 a1 b1 s2 h2 a2 b2 s3 h3 a3 b3 s4 h4 a4 b4 s5 h5 a5 b5 (i : Int) r0 r1 r2 r3 r4 r5 v0 v1 v2 v3 z0 z1 z2 z3 z4 z5 := rfl
    have ih := gstep_loop s0 h0 a0 b0 s1 h1 a1 b1 s2 h2 a2 b2 s3 h3 a3 b3 s4 h4 a4 b4 s5 h5 a5 b5 deb v0 v1 v2 v3 z0 z1 z2 z3 z4 z5 hs d (i + 1) f
    have hi := hs i (by omega)
    have w : wi64 ((i : Int) + 1) = ((i + 1 : Nat) : Int) := by rw [wi64_id (by omega) (by omega)]; simp
    rw [e0]
    unfold guard_Step_l0r
    rw [w]
    simp only [decide_eq_true (show (i : Int) < 6 by omega), decide_eq_true (show 0 ≤ (i : Int) by omega), decide_eq_false (show ¬ (i : Int) < 0 by omega), Bool.and_self, cond_true, cond_false, Int.toNat_natCast, decide_eq_true hi.1, decide_eq_true hi.2, holds_ok, Option.bind_some]
    have k := fun x r0 r1 r2 r3 r4 r5 => ih x r0 r1 r2 r3 r4 r5 (by omega) (by omega)
    refine ex_bif (ex_bif (k ..) (k ..)) (ex_bif (ex_bif (k ..) (k ..)) (ex_bif (k ..) (k ..)))

theorem may_src {so at' ba : Int} (h : mayB so at' ba = true) : 0 ≤ so ∧ so < 4 := by
  unfold mayB at h
  simp only [Bool.and_eq_true, decide_eq_true_eq] at h
  omega

theorem within_all (lo hi : Int) (n : Nat) (m : Nat → Int) (hn : n < 900) : ∃ q, guard_within_g 20000 lo hi n m = some q := by
  have key : ∀ (d i N : Nat), i + d = n → d < N → ∃ q, guard_within_l0 20000 N lo hi n (n : Int) (i : Int) m = some q := by
    intro d
    induction d with
    | zero =>
      intro i N hd hf
      obtain ⟨f, rfl⟩ : ∃ f, N = f + 1 := ⟨N - 1, by omega⟩
      obtain rfl : i = n := by omega
      show ∃ q, guard_within_l0r 20000 (guard_within_l0 20000 f) lo hi i (i : Int) (i : Int) m = some q
      unfold guard_within_l0r
      rw [decide_eq_false (show ¬ (i : Int) < (i : Int) by omega)]
      exact ⟨_, rfl⟩
    | succ d ih =>
      intro i N hd hf
      obtain ⟨f, rfl⟩ : ∃ f, N = f + 1 := ⟨N - 1, by omega⟩
      show ∃ q, guard_within_l0r 20000 (guard_within_l0 20000 f) lo hi n (n : Int) (i : Int) m = some q
      unfold guard_within_l0r
      have w : wi64 ((i : Int) + 1) = ((i + 1 : Nat) : Int) := by rw [wi64_id (by omega) (by omega)]; simp
      rw [decide_eq_true (show (i : Int) < (n : Int) by omega), decide_eq_true (show 0 ≤ (i : Int) by omega), w]
      simp only [Bool.and_self, cond_true]
      exact ex_bif ⟨_, rfl⟩ (ex_bif ⟨_, rfl⟩ (ih (i + 1) f (by omega) (by omega)))
  unfold guard_within_g
  exact ex_bind (key n 0 20000 (by omega) (by omega)) fun a => ex_sum (fun _ => ⟨_, rfl⟩) (fun _ => ⟨_, rfl⟩) a

theorem gstep_ok (s0 : Int) (h0 : Bool) (a0 b0 : Int) (s1 : Int) (h1 : Bool) (a1 b1 : Int) (s2 : Int) (h2 : Bool) (a2 b2 : Int) (s3 : Int) (h3 : Bool) (a3 b3 : Int) (s4 : Int) (h4 : Bool) (a4 b4 : Int) (s5 : Int) (h5 : Bool) (a5 b5 : Int) (deb x r0 r1 r2 r3 r4 r5 v0 v1 v2 v3 : Int) : ∃ q, guard_Step_g 20000 s0 h0 a0 b0 s1 h1 a1 b1 s2 h2 a2 b2 s3 h3 a3 b3 s4 h4 a4 b4 s5 h5 a5 b5 deb x r0 r1 r2 r3 r4 r5 v0 v1 v2 v3 = some q := by
  unfold guard_Step_g
  rw [check_k]
  cases hB : mayAll s0 a0 b0 s1 a1 b1 s2 a2 b2 s3 a3 b3 s4 a4 b4 s5 a5 b5 && decide (1 ≤ deb ∧ deb ≤ 31) with
  | false =>
    unfold checkB
    rw [hB]
    exact ⟨_, rfl⟩
  | true =>
    have hm := hB
    unfold mayAll at hm
    simp only [Bool.and_eq_true] at hm
    have hs : ∀ i : Nat, i < 6 → 0 ≤ selI [s0, s1, s2, s3, s4, s5] i ∧ selI [s0, s1, s2, s3, s4, s5] i < 4 := by
      intro i hi
      have : i = 0 ∨ i = 1 ∨ i = 2 ∨ i = 3 ∨ i = 4 ∨ i = 5 := by omega
      rcases this with rfl | rfl | rfl | rfl | rfl | rfl
      · exact may_src hm.1.1
      · exact may_src hm.1.2.1
      · exact may_src hm.1.2.2.1
      · exact may_src hm.1.2.2.2.1
      · exact may_src hm.1.2.2.2.2.1
      · exact may_src hm.1.2.2.2.2.2
    simp only [Option.bind_some]
    refine ex_bif ⟨_, rfl⟩ (ex_bind (within_all _ _ 1 _ (by omega)) fun a => ex_bif ⟨_, rfl⟩ (ex_bind (within_all _ _ 6 _ (by omega)) fun b => ex_bif ⟨_, rfl⟩ (ex_bind ?_ fun c => ⟨_, rfl⟩)))
    have := gstep_loop s0 h0 a0 b0 s1 h1 a1 b1 s2 h2 a2 b2 s3 h3 a3 b3 s4 h4 a4 b4 s5 h5 a5 b5 deb v0 v1 v2 v3 0 0 0 0 0 0 hs 6 0 20000 x r0 r1 r2 r3 r4 r5 (by omega) (by omega)
    exact this
end Go.Proofs.YtjmbhhinmbgneaaGreat.PG
