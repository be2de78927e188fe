/-
  Law 20 (guard), the plain part of all alarms' steps.
-/
import Derived.Test.YthjjjifpiibmeaaP
namespace Go.Proofs.Ythjjjifpiibmeaa
open Go.Sy
set_option maxHeartbeats 2000000

theorem may_k (so : Int) (hi : Bool) (at' ba : Int) (ra : Bool) (run : Int) : guard_alarm_may_g 1000 so hi at' ba ra run = some (mayB so at' ba, ()) := may_ok 998 ..
theorem within_k (lo hi x : Int) : guard_within_g 1000 lo hi 1 (fun j => selI [x] j) = some (decide (lo ≤ x ∧ x ≤ hi), ()) := within1 998 ..

section
variable (s0 : Int) (h0 : Bool) (a0 b0 : Int) (s1 : Int) (h1 : Bool) (a1 b1 : Int) (s2 : Int) (h2 : Bool) (a2 b2 : Int) (s3 : Int) (h3 : Bool) (a3 b3 : Int) (s4 : Int) (h4 : Bool) (a4 b4 : Int) (s5 : Int) (h5 : Bool) (a5 b5 : Int)

/-- Both loops of limits are one. -/
theorem check_loops (deb : Int) : ∀ (n : Nat) (i : Int), guard_Check_l0 1000 n deb s0 h0 a0 b0 s1 h1 a1 b1 s2 h2 a2 b2 s3 h3 a3 b3 s4 h4 a4 b4 s5 h5 a5 b5 i =
    rheostatref20_Check_l0 1000 n deb i s0 h0 a0 b0 s1 h1 a1 b1 s2 h2 a2 b2 s3 h3 a3 b3 s4 h4 a4 b4 s5 h5 a5 b5
  | 0, i => rfl
  | n + 1, i => by
    have e1 : guard_Check_l0 1000 (n + 1) deb s0 h0 a0 b0 s1 h1 a1 b1 s2 h2 a2 b2 s3 h3 a3 b3 s4 h4 a4 b4 s5 h5 a5 b5 i = guard_Check_l0r 1000 (guard_Check_l0 1000 n) deb s0 h0 a0 b0 s1 h1 a1 b1 s2 h2 a2 b2 s3 h3 a3 b3 s4 h4 a4 b4 s5 h5 a5 b5 i := rfl
    have e2 : rheostatref20_Check_l0 1000 (n + 1) deb i s0 h0 a0 b0 s1 h1 a1 b1 s2 h2 a2 b2 s3 h3 a3 b3 s4 h4 a4 b4 s5 h5 a5 b5 = rheostatref20_Check_l0r 1000 (rheostatref20_Check_l0 1000 n) deb i s0 h0 a0 b0 s1 h1 a1 b1 s2 h2 a2 b2 s3 h3 a3 b3 s4 h4 a4 b4 s5 h5 a5 b5 := rfl
    rw [e1, e2]
    simp only [guard_Check_l0r, rheostatref20_Check_l0r, may_k, rmay_ok, check_loops deb n]

/-- What the loop of limits says. -/
def mayAll : Bool := mayB s0 a0 b0 && (mayB s1 a1 b1 && (mayB s2 a2 b2 && (mayB s3 a3 b3 && (mayB s4 a4 b4 && mayB s5 a5 b5))))

theorem check_loop (deb : Int) : guard_Check_l0 1000 1000 deb s0 h0 a0 b0 s1 h1 a1 b1 s2 h2 a2 b2 s3 h3 a3 b3 s4 h4 a4 b4 s5 h5 a5 b5 0 =
    some (bif mayAll s0 a0 b0 s1 a1 b1 s2 a2 b2 s3 a3 b3 s4 a4 b4 s5 a5 b5 then .inl (deb, ()) else .inr (2, ())) := by
  have e : ∀ (n : Nat) (i : Int), guard_Check_l0 1000 (n + 1) deb s0 h0 a0 b0 s1 h1 a1 b1 s2 h2 a2 b2 s3 h3 a3 b3 s4 h4 a4 b4 s5 h5 a5 b5 i = guard_Check_l0r 1000 (guard_Check_l0 1000 n) deb s0 h0 a0 b0 s1 h1 a1 b1 s2 h2 a2 b2 s3 h3 a3 b3 s4 h4 a4 b4 s5 h5 a5 b5 i := fun _ _ => rfl
  have w0 : wi64 (0 + 1) = 1 := rfl
  have w1 : wi64 (1 + 1) = 2 := rfl
  have w2 : wi64 (2 + 1) = 3 := rfl
  have w3 : wi64 (3 + 1) = 4 := rfl
  have w4 : wi64 (4 + 1) = 5 := rfl
  have w5 : wi64 (5 + 1) = 6 := rfl
  unfold mayAll
  rw [e 999]; simp only [guard_Check_l0r, may_k, Option.bind_some, w0]
  rw [e 998]; simp only [guard_Check_l0r, may_k, Option.bind_some, w1]
  rw [e 997]; simp only [guard_Check_l0r, may_k, Option.bind_some, w2]
  rw [e 996]; simp only [guard_Check_l0r, may_k, Option.bind_some, w3]
  rw [e 995]; simp only [guard_Check_l0r, may_k, Option.bind_some, w4]
  rw [e 994]; simp only [guard_Check_l0r, may_k, Option.bind_some, w5]
  rw [e 993]; simp only [guard_Check_l0r]
  simp only [selI, List.getD]
  cases hm0 : mayB s0 a0 b0 <;> cases hm1 : mayB s1 a1 b1 <;> cases hm2 : mayB s2 a2 b2 <;> cases hm3 : mayB s3 a3 b3 <;> cases hm4 : mayB s4 a4 b4 <;> cases hm5 : mayB s5 a5 b5 <;> simp [hm0, hm1, hm2, hm3, hm4, hm5]

def checkB (deb : Int) : Int := bif mayAll s0 a0 b0 s1 a1 b1 s2 a2 b2 s3 a3 b3 s4 a4 b4 s5 a5 b5 && decide (1 ≤ deb ∧ deb ≤ 31) then 0 else 2

theorem check_k (deb : Int) : guard_Check_g 1000 s0 h0 a0 b0 s1 h1 a1 b1 s2 h2 a2 b2 s3 h3 a3 b3 s4 h4 a4 b4 s5 h5 a5 b5 deb =
    some (checkB s0 a0 b0 s1 a1 b1 s2 a2 b2 s3 a3 b3 s4 a4 b4 s5 a5 b5 deb, ()) := by
  simp only [guard_Check_g, check_loop, Option.bind_some, checkB]
  cases mayAll s0 a0 b0 s1 a1 b1 s2 a2 b2 s3 a3 b3 s4 a4 b4 s5 a5 b5
  · rfl
  · simp only [cond_true, Sum.elim_inl, within_k, Option.bind_some, Bool.true_and]
    cases decide (1 ≤ deb ∧ deb ≤ 31) <;> rfl

theorem rcheck_k (deb : Int) : rheostatref20_Check_g 1000 s0 h0 a0 b0 s1 h1 a1 b1 s2 h2 a2 b2 s3 h3 a3 b3 s4 h4 a4 b4 s5 h5 a5 b5 deb =
    some (checkB s0 a0 b0 s1 a1 b1 s2 a2 b2 s3 a3 b3 s4 a4 b4 s5 a5 b5 deb, ()) := by
  simp only [rheostatref20_Check_g, ← check_loops, check_loop, Option.bind_some, checkB]
  cases mayAll s0 a0 b0 s1 a1 b1 s2 a2 b2 s3 a3 b3 s4 a4 b4 s5 a5 b5
  · rfl
  · simp only [cond_true, Sum.elim_inl, Bool.true_and]
    by_cases e1 : deb < 1
    · have : ¬ (1 ≤ deb ∧ deb ≤ 31) := by omega
      simp [e1, this]
    · by_cases e2 : deb > 31
      · have : ¬ (1 ≤ deb ∧ deb ≤ 31) := by omega
        simp [e1, e2, this]
      · have : 1 ≤ deb ∧ deb ≤ 31 := by omega
        simp [e1, e2, this]
end

theorem bit_k : ∀ i : Nat, i < 6 → rheostatref20_bit_g 1000 (i : Int) = some (((2 ^ i : Nat) : Int), ()) := by decide +kernel

theorem gbit : ∀ x : Nat, x < 64 → ∀ i : Nat, i < 6 → (bitAnd .i64 (shR .i64 (x : Int) (i : Int)) 1 == 1) = decide (x / 2 ^ i % 2 = 1) := by decide +kernel
theorem gtog : ∀ x : Nat, x < 64 → ∀ i : Nat, i < 6 → bitXor .i64 (x : Int) (shL .i64 1 (i : Int)) = (((if x / 2 ^ i % 2 = 1 then x - 2 ^ i else x + 2 ^ i) : Nat) : Int) := by decide +kernel
theorem rbit : ∀ x : Nat, x < 64 → ∀ i : Nat, i < 6 → (Int.tmod (wi64 (Int.tdiv (x : Int) ((2 ^ i : Nat) : Int))) 2 == 1) = decide (x / 2 ^ i % 2 = 1) := by decide +kernel

/-- The lists of all masks, and of what is none. -/
noncomputable def sameLists (r : Int) : Option (Bool × Unit) := (guard_List_g 1000 r).bind fun q5 => (rheostatref20_List_g 1000 r).bind fun q6 => rheostatbase_SameInts_g 1000 q5.1 q6.1 q5.2.1 q6.2.1

theorem lists_in : ∀ r : Nat, r < 64 → sameLists (r : Int) = some (true, ()) := by decide +kernel

/-- What a step makes of a run, and whether the alarm turns. -/
def newRun (h : Bool) (run deb : Int) : Int := bif h then (bif wi64 (run + 1) == deb then 0 else wi64 (run + 1)) else 0
def turns (h : Bool) (run deb : Int) : Bool := h && (wi64 (run + 1) == deb)
def turned (x i : Nat) : Nat := if x / 2 ^ i % 2 = 1 then x - 2 ^ i else x + 2 ^ i

theorem gs_round (n i x : Nat) (hi : i < 6) (hx : x < 64) (deb : Int) (s0 : Int) (h0 : Bool) (a0 b0 : Int) (s1 : Int) (h1 : Bool) (a1 b1 : Int) (s2 : Int) (h2 : Bool) (a2 b2 : Int) (s3 : Int) (h3 : Bool) (a3 b3 : Int) (s4 : Int) (h4 : Bool) (a4 b4 : Int) (s5 : Int) (h5 : Bool) (a5 b5 : Int) (r0 r1 r2 r3 r4 r5 v0 v1 v2 v3 z0 z1 z2 z3 z4 z5 : Int) (hs : 0 ≤ (selI [s0, s1, s2, s3, s4, s5] i) ∧ (selI [s0, s1, s2, s3, s4, s5] i) < 4) :
    guard_Step_l0 1000 (n + 1) deb x s0 h0 a0 b0 s1 h1 a1 b1 s2 h2 a2 b2 s3 h3 a3 b3 s4 h4 a4 b4 s5 h5 a5 b5 i r0 r1 r2 r3 r4 r5 v0 v1 v2 v3 z0 z1 z2 z3 z4 z5 =
      guard_Step_l0 1000 n deb ((bif turns (holdsB (selB [h0, h1, h2, h3, h4, h5] i) (selI [a0, a1, a2, a3, a4, a5] i) (selI [b0, b1, b2, b3, b4, b5] i) (decide (x / 2 ^ i % 2 = 1)) (selI [v0, v1, v2, v3] (Int.toNat (selI [s0, s1, s2, s3, s4, s5] i)))) (selI [r0, r1, r2, r3, r4, r5] i) deb then turned x i else x : Nat) : Int) s0 h0 a0 b0 s1 h1 a1 b1 s2 h2 a2 b2 s3 h3 a3 b3 s4 h4 a4 b4 s5 h5 a5 b5 ((i + 1 : Nat) : Int)
        (bif Nat.beq i 0 then newRun (holdsB (selB [h0, h1, h2, h3, h4, h5] i) (selI [a0, a1, a2, a3, a4, a5] i) (selI [b0, b1, b2, b3, b4, b5] i) (decide (x / 2 ^ i % 2 = 1)) (selI [v0, v1, v2, v3] (Int.toNat (selI [s0, s1, s2, s3, s4, s5] i)))) (selI [r0, r1, r2, r3, r4, r5] i) deb else r0) (bif Nat.beq i 1 then newRun (holdsB (selB [h0, h1, h2, h3, h4, h5] i) (selI [a0, a1, a2, a3, a4, a5] i) (selI [b0, b1, b2, b3, b4, b5] i) (decide (x / 2 ^ i % 2 = 1)) (selI [v0, v1, v2, v3] (Int.toNat (selI [s0, s1, s2, s3, s4, s5] i)))) (selI [r0, r1, r2, r3, r4, r5] i) deb else r1) (bif Nat.beq i 2 then newRun (holdsB (selB [h0, h1, h2, h3, h4, h5] i) (selI [a0, a1, a2, a3, a4, a5] i) (selI [b0, b1, b2, b3, b4, b5] i) (decide (x / 2 ^ i % 2 = 1)) (selI [v0, v1, v2, v3] (Int.toNat (selI [s0, s1, s2, s3, s4, s5] i)))) (selI [r0, r1, r2, r3, r4, r5] i) deb else r2) (bif Nat.beq i 3 then newRun (holdsB (selB [h0, h1, h2, h3, h4, h5] i) (selI [a0, a1, a2, a3, a4, a5] i) (selI [b0, b1, b2, b3, b4, b5] i) (decide (x / 2 ^ i % 2 = 1)) (selI [v0, v1, v2, v3] (Int.toNat (selI [s0, s1, s2, s3, s4, s5] i)))) (selI [r0, r1, r2, r3, r4, r5] i) deb else r3) (bif Nat.beq i 4 then newRun (holdsB (selB [h0, h1, h2, h3, h4, h5] i) (selI [a0, a1, a2, a3, a4, a5] i) (selI [b0, b1, b2, b3, b4, b5] i) (decide (x / 2 ^ i % 2 = 1)) (selI [v0, v1, v2, v3] (Int.toNat (selI [s0, s1, s2, s3, s4, s5] i)))) (selI [r0, r1, r2, r3, r4, r5] i) deb else r4) (bif Nat.beq i 5 then newRun (holdsB (selB [h0, h1, h2, h3, h4, h5] i) (selI [a0, a1, a2, a3, a4, a5] i) (selI [b0, b1, b2, b3, b4, b5] i) (decide (x / 2 ^ i % 2 = 1)) (selI [v0, v1, v2, v3] (Int.toNat (selI [s0, s1, s2, s3, s4, s5] i)))) (selI [r0, r1, r2, r3, r4, r5] i) deb else r5) v0 v1 v2 v3 z0 z1 z2 z3 z4 z5 := by
  have e : guard_Step_l0 1000 (n + 1) deb x s0 h0 a0 b0 s1 h1 a1 b1 s2 h2 a2 b2 s3 h3 a3 b3 s4 h4 a4 b4 s5 h5 a5 b5 i r0 r1 r2 r3 r4 r5 v0 v1 v2 v3 z0 z1 z2 z3 z4 z5 = guard_Step_l0r 1000 (guard_Step_l0 1000 n) deb x s0 h0 a0 b0 s1 h1 a1 b1 s2 h2 a2 b2 s3 h3 a3 b3 s4 h4 a4 b4 s5 h5 a5 b5 i r0 r1 r2 r3 r4 r5 v0 v1 v2 v3 z0 z1 z2 z3 z4 z5 := rfl
  rw [e]
  have e1 : decide ((i : Int) < 6) = true := by simp; omega
  have e2 : decide (0 ≤ (i : Int)) = true := by simp
  have e3 : decide ((i : Int) < 0) = false := by simp
  have e4 : wi64 ((i : Int) + 1) = ((i + 1 : Nat) : Int) := by rw [wi64_id (by omega) (by omega)]; simp
  have e5 : decide (0 ≤ (selI [s0, s1, s2, s3, s4, s5] i)) = true := by simp [hs.1]
  have e6 : decide ((selI [s0, s1, s2, s3, s4, s5] i) < 4) = true := by simp [hs.2]
  simp only [guard_Step_l0r, e1, e2, e3, e4, e5, e6, Int.toNat_natCast, gbit x hx i hi, gtog x hx i hi, Bool.and_self, cond_true, cond_false, holds_ok, Option.bind_some, turns, newRun, turned]
  generalize holdsB (selB [h0, h1, h2, h3, h4, h5] i) (selI [a0, a1, a2, a3, a4, a5] i) (selI [b0, b1, b2, b3, b4, b5] i) (decide (x / 2 ^ i % 2 = 1)) (selI [v0, v1, v2, v3] (Int.toNat (selI [s0, s1, s2, s3, s4, s5] i))) = hb
  cases hb
  · simp
  · cases hq : (wi64 ((selI [r0, r1, r2, r3, r4, r5] i) + 1) == deb)
    · simp
    · cases hb2 : (decide (x / 2 ^ i % 2 = 1)) <;> simp

theorem rs_round (n i x out : Nat) (hi : i < 6) (hx : x < 64) (ho : out < 64) (deb : Int) (hd : 1 ≤ deb ∧ deb ≤ 31) (s0 : Int) (h0 : Bool) (a0 b0 : Int) (s1 : Int) (h1 : Bool) (a1 b1 : Int) (s2 : Int) (h2 : Bool) (a2 b2 : Int) (s3 : Int) (h3 : Bool) (a3 b3 : Int) (s4 : Int) (h4 : Bool) (a4 b4 : Int) (s5 : Int) (h5 : Bool) (a5 b5 : Int) (r0 r1 r2 r3 r4 r5 v0 v1 v2 v3 z0 z1 z2 z3 z4 z5 c0 c1 c2 c3 c4 c5 : Int) (hs : 0 ≤ (selI [s0, s1, s2, s3, s4, s5] i) ∧ (selI [s0, s1, s2, s3, s4, s5] i) < 4) (hm : mayB (selI [s0, s1, s2, s3, s4, s5] i) (selI [a0, a1, a2, a3, a4, a5] i) (selI [b0, b1, b2, b3, b4, b5] i) = true)
    (hr : 0 ≤ (selI [r0, r1, r2, r3, r4, r5] i) ∧ (selI [r0, r1, r2, r3, r4, r5] i) < deb) :
    rheostatref20_Step_l0 1000 (n + 1) deb x out i s0 h0 a0 b0 s1 h1 a1 b1 s2 h2 a2 b2 s3 h3 a3 b3 s4 h4 a4 b4 s5 h5 a5 b5 r0 r1 r2 r3 r4 r5 v0 v1 v2 v3 z0 z1 z2 z3 z4 z5 c0 c1 c2 c3 c4 c5 =
      rheostatref20_Step_l0 1000 n deb x ((bif xor (decide (x / 2 ^ i % 2 = 1)) (turns (holdsB (selB [h0, h1, h2, h3, h4, h5] i) (selI [a0, a1, a2, a3, a4, a5] i) (selI [b0, b1, b2, b3, b4, b5] i) (decide (x / 2 ^ i % 2 = 1)) (selI [v0, v1, v2, v3] (Int.toNat (selI [s0, s1, s2, s3, s4, s5] i)))) (selI [r0, r1, r2, r3, r4, r5] i) deb) then out + 2 ^ i else out : Nat) : Int) ((i + 1 : Nat) : Int) s0 h0 a0 b0 s1 h1 a1 b1 s2 h2 a2 b2 s3 h3 a3 b3 s4 h4 a4 b4 s5 h5 a5 b5 r0 r1 r2 r3 r4 r5 v0 v1 v2 v3 z0 z1 z2 z3 z4 z5 (bif Nat.beq i 0 then newRun (holdsB (selB [h0, h1, h2, h3, h4, h5] i) (selI [a0, a1, a2, a3, a4, a5] i) (selI [b0, b1, b2, b3, b4, b5] i) (decide (x / 2 ^ i % 2 = 1)) (selI [v0, v1, v2, v3] (Int.toNat (selI [s0, s1, s2, s3, s4, s5] i)))) (selI [r0, r1, r2, r3, r4, r5] i) deb else c0) (bif Nat.beq i 1 then newRun (holdsB (selB [h0, h1, h2, h3, h4, h5] i) (selI [a0, a1, a2, a3, a4, a5] i) (selI [b0, b1, b2, b3, b4, b5] i) (decide (x / 2 ^ i % 2 = 1)) (selI [v0, v1, v2, v3] (Int.toNat (selI [s0, s1, s2, s3, s4, s5] i)))) (selI [r0, r1, r2, r3, r4, r5] i) deb else c1) (bif Nat.beq i 2 then newRun (holdsB (selB [h0, h1, h2, h3, h4, h5] i) (selI [a0, a1, a2, a3, a4, a5] i) (selI [b0, b1, b2, b3, b4, b5] i) (decide (x / 2 ^ i % 2 = 1)) (selI [v0, v1, v2, v3] (Int.toNat (selI [s0, s1, s2, s3, s4, s5] i)))) (selI [r0, r1, r2, r3, r4, r5] i) deb else c2) (bif Nat.beq i 3 then newRun (holdsB (selB [h0, h1, h2, h3, h4, h5] i) (selI [a0, a1, a2, a3, a4, a5] i) (selI [b0, b1, b2, b3, b4, b5] i) (decide (x / 2 ^ i % 2 = 1)) (selI [v0, v1, v2, v3] (Int.toNat (selI [s0, s1, s2, s3, s4, s5] i)))) (selI [r0, r1, r2, r3, r4, r5] i) deb else c3) (bif Nat.beq i 4 then newRun (holdsB (selB [h0, h1, h2, h3, h4, h5] i) (selI [a0, a1, a2, a3, a4, a5] i) (selI [b0, b1, b2, b3, b4, b5] i) (decide (x / 2 ^ i % 2 = 1)) (selI [v0, v1, v2, v3] (Int.toNat (selI [s0, s1, s2, s3, s4, s5] i)))) (selI [r0, r1, r2, r3, r4, r5] i) deb else c4) (bif Nat.beq i 5 then newRun (holdsB (selB [h0, h1, h2, h3, h4, h5] i) (selI [a0, a1, a2, a3, a4, a5] i) (selI [b0, b1, b2, b3, b4, b5] i) (decide (x / 2 ^ i % 2 = 1)) (selI [v0, v1, v2, v3] (Int.toNat (selI [s0, s1, s2, s3, s4, s5] i)))) (selI [r0, r1, r2, r3, r4, r5] i) deb else c5) := by
  have e : rheostatref20_Step_l0 1000 (n + 1) deb x out i s0 h0 a0 b0 s1 h1 a1 b1 s2 h2 a2 b2 s3 h3 a3 b3 s4 h4 a4 b4 s5 h5 a5 b5 r0 r1 r2 r3 r4 r5 v0 v1 v2 v3 z0 z1 z2 z3 z4 z5 c0 c1 c2 c3 c4 c5 = rheostatref20_Step_l0r 1000 (rheostatref20_Step_l0 1000 n) deb x out i s0 h0 a0 b0 s1 h1 a1 b1 s2 h2 a2 b2 s3 h3 a3 b3 s4 h4 a4 b4 s5 h5 a5 b5 r0 r1 r2 r3 r4 r5 v0 v1 v2 v3 z0 z1 z2 z3 z4 z5 c0 c1 c2 c3 c4 c5 := rfl
  rw [e]
  have e1 : decide ((i : Int) < 6) = true := by simp; omega
  have e2 : decide (0 ≤ (i : Int)) = true := by simp
  have e4 : wi64 ((i : Int) + 1) = ((i + 1 : Nat) : Int) := by rw [wi64_id (by omega) (by omega)]; simp
  have e5 : decide (0 ≤ (selI [s0, s1, s2, s3, s4, s5] i)) = true := by simp [hs.1]
  have e6 : decide ((selI [s0, s1, s2, s3, s4, s5] i) < 4) = true := by simp [hs.2]
  have hp : 2 ^ i ≤ 32 := by
    have : 2 ^ i ≤ 2 ^ 5 := Nat.pow_le_pow_right (by omega) (by omega)
    simpa using this
  have hp0 : 0 < 2 ^ i := Nat.two_pow_pos i
  have e7 : ((((2 ^ i : Nat) : Int)) == 0) = false := by
    have : (((2 ^ i : Nat) : Int)) ≠ 0 := by omega
    simpa using this
  have e8 : wi64 ((out : Int) + ((2 ^ i : Nat) : Int)) = ((out + 2 ^ i : Nat) : Int) := by rw [wi64_id (by omega) (by omega)]; simp
  have e9 : wi64 ((selI [r0, r1, r2, r3, r4, r5] i) + 1) = (selI [r0, r1, r2, r3, r4, r5] i) + 1 := wi64_id (by omega) (by omega)
  simp only [rheostatref20_Step_l0r, e1, e2, e4, e5, e6, e7, e8, Int.toNat_natCast, bit_k i hi, rbit x hx i hi, Bool.and_self, cond_true, cond_false, rone_ok, Option.bind_some, turns, newRun, oneB, e9]
  rw [if_pos ⟨hm, hd.1, hd.2, hr.1, hr.2⟩]
  generalize (holdsB (selB [h0, h1, h2, h3, h4, h5] i) (selI [a0, a1, a2, a3, a4, a5] i) (selI [b0, b1, b2, b3, b4, b5] i) (decide (x / 2 ^ i % 2 = 1)) (selI [v0, v1, v2, v3] (Int.toNat (selI [s0, s1, s2, s3, s4, s5] i)))) = hb
  cases hb
  · cases hb2 : (decide (x / 2 ^ i % 2 = 1)) <;> simp
  · by_cases hq : (selI [r0, r1, r2, r3, r4, r5] i) + 1 = deb
    · have hq' : ((selI [r0, r1, r2, r3, r4, r5] i) + 1 == deb) = true := by simpa using hq
      rw [hq', if_pos hq]
      cases hb2 : (decide (x / 2 ^ i % 2 = 1)) <;> simp
    · have hq' : ((selI [r0, r1, r2, r3, r4, r5] i) + 1 == deb) = false := by simpa using hq
      rw [hq', if_neg hq]
      cases hb2 : (decide (x / 2 ^ i % 2 = 1)) <;> simp

theorem rs_bad (n i x out : Nat) (hi : i < 6) (hx : x < 64) (deb : Int) (s0 : Int) (h0 : Bool) (a0 b0 : Int) (s1 : Int) (h1 : Bool) (a1 b1 : Int) (s2 : Int) (h2 : Bool) (a2 b2 : Int) (s3 : Int) (h3 : Bool) (a3 b3 : Int) (s4 : Int) (h4 : Bool) (a4 b4 : Int) (s5 : Int) (h5 : Bool) (a5 b5 : Int) (r0 r1 r2 r3 r4 r5 v0 v1 v2 v3 z0 z1 z2 z3 z4 z5 c0 c1 c2 c3 c4 c5 : Int) (hs : 0 ≤ (selI [s0, s1, s2, s3, s4, s5] i) ∧ (selI [s0, s1, s2, s3, s4, s5] i) < 4)
    (hr : ¬ (0 ≤ (selI [r0, r1, r2, r3, r4, r5] i) ∧ (selI [r0, r1, r2, r3, r4, r5] i) < deb)) :
    rheostatref20_Step_l0 1000 (n + 1) deb x out i s0 h0 a0 b0 s1 h1 a1 b1 s2 h2 a2 b2 s3 h3 a3 b3 s4 h4 a4 b4 s5 h5 a5 b5 r0 r1 r2 r3 r4 r5 v0 v1 v2 v3 z0 z1 z2 z3 z4 z5 c0 c1 c2 c3 c4 c5 = some (.inr (0, 2, 0, 0, 0, 0, 0, 0, ())) := by
  have e : rheostatref20_Step_l0 1000 (n + 1) deb x out i s0 h0 a0 b0 s1 h1 a1 b1 s2 h2 a2 b2 s3 h3 a3 b3 s4 h4 a4 b4 s5 h5 a5 b5 r0 r1 r2 r3 r4 r5 v0 v1 v2 v3 z0 z1 z2 z3 z4 z5 c0 c1 c2 c3 c4 c5 = rheostatref20_Step_l0r 1000 (rheostatref20_Step_l0 1000 n) deb x out i s0 h0 a0 b0 s1 h1 a1 b1 s2 h2 a2 b2 s3 h3 a3 b3 s4 h4 a4 b4 s5 h5 a5 b5 r0 r1 r2 r3 r4 r5 v0 v1 v2 v3 z0 z1 z2 z3 z4 z5 c0 c1 c2 c3 c4 c5 := rfl
  rw [e]
  have e1 : decide ((i : Int) < 6) = true := by simp; omega
  have e2 : decide (0 ≤ (i : Int)) = true := by simp
  have e5 : decide (0 ≤ (selI [s0, s1, s2, s3, s4, s5] i)) = true := by simp [hs.1]
  have e6 : decide ((selI [s0, s1, s2, s3, s4, s5] i) < 4) = true := by simp [hs.2]
  have hp0 : 0 < 2 ^ i := Nat.two_pow_pos i
  have e7 : ((((2 ^ i : Nat) : Int)) == 0) = false := by
    have : (((2 ^ i : Nat) : Int)) ≠ 0 := by omega
    simpa using this
  simp only [rheostatref20_Step_l0r, e1, e2, e5, e6, e7, Int.toNat_natCast, bit_k i hi, rbit x hx i hi, Bool.and_self, cond_true, cond_false, rone_ok, Option.bind_some, oneB]
  rw [if_neg (fun h => hr ⟨h.2.2.2.1, h.2.2.2.2⟩)]
  rfl

/-- From round i on both loops come to the same. -/
theorem steps_agree (x : Nat) (hx : x < 64) (deb : Int) (hd : 1 ≤ deb ∧ deb ≤ 31) (s0 : Int) (h0 : Bool) (a0 b0 : Int) (s1 : Int) (h1 : Bool) (a1 b1 : Int) (s2 : Int) (h2 : Bool) (a2 b2 : Int) (s3 : Int) (h3 : Bool) (a3 b3 : Int) (s4 : Int) (h4 : Bool) (a4 b4 : Int) (s5 : Int) (h5 : Bool) (a5 b5 : Int) (r0 r1 r2 r3 r4 r5 v0 v1 v2 v3 z0 z1 z2 z3 z4 z5 y0 y1 y2 y3 y4 y5 : Int) (hs0 : 0 ≤ s0 ∧ s0 < 4) (hs1 : 0 ≤ s1 ∧ s1 < 4) (hs2 : 0 ≤ s2 ∧ s2 < 4) (hs3 : 0 ≤ s3 ∧ s3 < 4) (hs4 : 0 ≤ s4 ∧ s4 < 4) (hs5 : 0 ≤ s5 ∧ s5 < 4) (hm0 : mayB s0 a0 b0 = true) (hm1 : mayB s1 a1 b1 = true) (hm2 : mayB s2 a2 b2 = true) (hm3 : mayB s3 a3 b3 = true) (hm4 : mayB s4 a4 b4 = true) (hm5 : mayB s5 a5 b5 = true) (hr0 : 0 ≤ r0 ∧ r0 < deb) (hr1 : 0 ≤ r1 ∧ r1 < deb) (hr2 : 0 ≤ r2 ∧ r2 < deb) (hr3 : 0 ≤ r3 ∧ r3 < deb) (hr4 : 0 ≤ r4 ∧ r4 < deb) (hr5 : 0 ≤ r5 ∧ r5 < deb) :
    ∀ (m i : Nat), i + m = 6 → ∀ (n cur out : Nat) (p0 p1 p2 p3 p4 p5 c0 c1 c2 c3 c4 c5 : Int), m < n → out < 2 ^ i → cur = out + x / 2 ^ i * 2 ^ i → p0 = (bif Nat.blt 0 i then c0 else r0) → p1 = (bif Nat.blt 1 i then c1 else r1) → p2 = (bif Nat.blt 2 i then c2 else r2) → p3 = (bif Nat.blt 3 i then c3 else r3) → p4 = (bif Nat.blt 4 i then c4 else r4) → p5 = (bif Nat.blt 5 i then c5 else r5) →
      ∃ (o : Nat) (f0 f1 f2 f3 f4 f5 : Int), o < 64 ∧ guard_Step_l0 1000 n deb cur s0 h0 a0 b0 s1 h1 a1 b1 s2 h2 a2 b2 s3 h3 a3 b3 s4 h4 a4 b4 s5 h5 a5 b5 i p0 p1 p2 p3 p4 p5 v0 v1 v2 v3 z0 z1 z2 z3 z4 z5 = some ((o : Int), f0, f1, f2, f3, f4, f5, z0, z1, z2, z3, z4, z5, ()) ∧
        rheostatref20_Step_l0 1000 n deb x out i s0 h0 a0 b0 s1 h1 a1 b1 s2 h2 a2 b2 s3 h3 a3 b3 s4 h4 a4 b4 s5 h5 a5 b5 r0 r1 r2 r3 r4 r5 v0 v1 v2 v3 y0 y1 y2 y3 y4 y5 c0 c1 c2 c3 c4 c5 = some (.inl ((o : Int), y0, y1, y2, y3, y4, y5, f0, f1, f2, f3, f4, f5, ())) := by
  intro m
  induction m with
  | zero =>
    intro i hi n cur out p0 p1 p2 p3 p4 p5 c0 c1 c2 c3 c4 c5 hn ho hc g0 g1 g2 g3 g4 g5
    obtain ⟨n, rfl⟩ : ∃ n', n = n' + 1 := ⟨n - 1, by omega⟩
    have hi : i = 6 := by omega
    subst hi
    have hx0 : x / 2 ^ 6 = 0 := by omega
    rw [hx0] at hc
    refine ⟨out, c0, c1, c2, c3, c4, c5, by omega, ?_, rfl⟩
    have hc : cur = out := by omega
    subst hc
    have e : ∀ (q0 q1 q2 q3 q4 q5 : Int), guard_Step_l0 1000 (n + 1) deb cur s0 h0 a0 b0 s1 h1 a1 b1 s2 h2 a2 b2 s3 h3 a3 b3 s4 h4 a4 b4 s5 h5 a5 b5 (6 : Nat) q0 q1 q2 q3 q4 q5 v0 v1 v2 v3 z0 z1 z2 z3 z4 z5 = some ((cur : Int), q0, q1, q2, q3, q4, q5, z0, z1, z2, z3, z4, z5, ()) := fun _ _ _ _ _ _ => rfl
    rw [e]
    have  : True := trivial
    simp only [g0, g1, g2, g3, g4, g5]
    rfl
  | succ m ih =>
    intro i hi n cur out p0 p1 p2 p3 p4 p5 c0 c1 c2 c3 c4 c5 hn ho hc g0 g1 g2 g3 g4 g5
    obtain ⟨n, rfl⟩ : ∃ n', n = n' + 1 := ⟨n - 1, by omega⟩
    have hi5 : i < 6 := by omega
    have hx1 : cur < 64 := by
      match i, hi5 with
      | 0, _ => omega
      | 1, _ => omega
      | 2, _ => omega
      | 3, _ => omega
      | 4, _ => omega
      | 5, _ => omega
    have ho1 : out < 64 := by
      match i, hi5 with
      | 0, _ => omega
      | 1, _ => omega
      | 2, _ => omega
      | 3, _ => omega
      | 4, _ => omega
      | 5, _ => omega
    have hsi : 0 ≤ (selI [s0, s1, s2, s3, s4, s5] i) ∧ (selI [s0, s1, s2, s3, s4, s5] i) < 4 := by
      match i, hi5 with
      | 0, _ => exact hs0
      | 1, _ => exact hs1
      | 2, _ => exact hs2
      | 3, _ => exact hs3
      | 4, _ => exact hs4
      | 5, _ => exact hs5
    have hmi : mayB (selI [s0, s1, s2, s3, s4, s5] i) (selI [a0, a1, a2, a3, a4, a5] i) (selI [b0, b1, b2, b3, b4, b5] i) = true := by
      match i, hi5 with
      | 0, _ => exact hm0
      | 1, _ => exact hm1
      | 2, _ => exact hm2
      | 3, _ => exact hm3
      | 4, _ => exact hm4
      | 5, _ => exact hm5
    have hri : 0 ≤ (selI [r0, r1, r2, r3, r4, r5] i) ∧ (selI [r0, r1, r2, r3, r4, r5] i) < deb := by
      match i, hi5 with
      | 0, _ => exact hr0
      | 1, _ => exact hr1
      | 2, _ => exact hr2
      | 3, _ => exact hr3
      | 4, _ => exact hr4
      | 5, _ => exact hr5
    have hpi : selI [p0, p1, p2, p3, p4, p5] i = (selI [r0, r1, r2, r3, r4, r5] i) := by
      match i, hi5 with
      | 0, _ => exact g0
      | 1, _ => exact g1
      | 2, _ => exact g2
      | 3, _ => exact g3
      | 4, _ => exact g4
      | 5, _ => exact g5
    have hbit : decide (cur / 2 ^ i % 2 = 1) = decide (x / 2 ^ i % 2 = 1) := by
      have : cur / 2 ^ i % 2 = x / 2 ^ i % 2 := by
        match i, hi5 with
        | 0, _ => omega
        | 1, _ => omega
        | 2, _ => omega
        | 3, _ => omega
        | 4, _ => omega
        | 5, _ => omega
      rw [this]
    have G := gs_round n i cur hi5 hx1 deb s0 h0 a0 b0 s1 h1 a1 b1 s2 h2 a2 b2 s3 h3 a3 b3 s4 h4 a4 b4 s5 h5 a5 b5 p0 p1 p2 p3 p4 p5 v0 v1 v2 v3 z0 z1 z2 z3 z4 z5 hsi
    have H := rs_round n i x out hi5 hx ho1 deb hd s0 h0 a0 b0 s1 h1 a1 b1 s2 h2 a2 b2 s3 h3 a3 b3 s4 h4 a4 b4 s5 h5 a5 b5 r0 r1 r2 r3 r4 r5 v0 v1 v2 v3 y0 y1 y2 y3 y4 y5 c0 c1 c2 c3 c4 c5 hsi hmi hri
    rw [hbit, hpi] at G
    rw [G, H]
    generalize holdsB (selB [h0, h1, h2, h3, h4, h5] i) (selI [a0, a1, a2, a3, a4, a5] i) (selI [b0, b1, b2, b3, b4, b5] i) (decide (x / 2 ^ i % 2 = 1)) (selI [v0, v1, v2, v3] (Int.toNat (selI [s0, s1, s2, s3, s4, s5] i))) = hb
    generalize hnew : newRun hb (selI [r0, r1, r2, r3, r4, r5] i) deb = new
    generalize ht : turns hb (selI [r0, r1, r2, r3, r4, r5] i) deb = tn
    have hnum : (bif xor (decide (x / 2 ^ i % 2 = 1)) tn then out + 2 ^ i else out) < 2 ^ (i + 1) ∧
        (bif tn then turned cur i else cur) = (bif xor (decide (x / 2 ^ i % 2 = 1)) tn then out + 2 ^ i else out) + x / 2 ^ (i + 1) * 2 ^ (i + 1) := by
      unfold turned
      by_cases hb1 : x / 2 ^ i % 2 = 1
      · have hb2 : cur / 2 ^ i % 2 = 1 := by
          have := hbit
          rw [decide_eq_decide] at this
          exact this.2 hb1
        cases tn <;> simp only [hb1, hb2, decide_true, Bool.xor_false, Bool.xor_true, Bool.not_true, cond_true, cond_false, if_true]
        all_goals
          match i, hi5 with
          | 0, _ => omega
          | 1, _ => omega
          | 2, _ => omega
          | 3, _ => omega
          | 4, _ => omega
          | 5, _ => omega
      · have hb2 : ¬ cur / 2 ^ i % 2 = 1 := by
          have := hbit
          rw [decide_eq_decide] at this
          exact fun h => hb1 (this.1 h)
        cases tn <;> simp only [hb1, hb2, decide_false, Bool.xor_false, Bool.xor_true, Bool.not_false, cond_true, cond_false, if_false]
        all_goals
          match i, hi5 with
          | 0, _ => omega
          | 1, _ => omega
          | 2, _ => omega
          | 3, _ => omega
          | 4, _ => omega
          | 5, _ => omega
    have key := ih (i + 1) (by omega) n _ _ (bif Nat.beq i 0 then new else p0) (bif Nat.beq i 1 then new else p1) (bif Nat.beq i 2 then new else p2) (bif Nat.beq i 3 then new else p3) (bif Nat.beq i 4 then new else p4) (bif Nat.beq i 5 then new else p5) (bif Nat.beq i 0 then new else c0) (bif Nat.beq i 1 then new else c1) (bif Nat.beq i 2 then new else c2) (bif Nat.beq i 3 then new else c3) (bif Nat.beq i 4 then new else c4) (bif Nat.beq i 5 then new else c5) (by omega) hnum.1 hnum.2
    match i, hi5 with
    | 0, _ => exact key rfl g1 g2 g3 g4 g5
    | 1, _ => exact key g0 rfl g2 g3 g4 g5
    | 2, _ => exact key g0 g1 rfl g3 g4 g5
    | 3, _ => exact key g0 g1 g2 rfl g4 g5
    | 4, _ => exact key g0 g1 g2 g3 rfl g5
    | 5, _ => exact key g0 g1 g2 g3 g4 rfl

theorem steps_bad (x : Nat) (hx : x < 64) (deb : Int) (hd : 1 ≤ deb ∧ deb ≤ 31) (s0 : Int) (h0 : Bool) (a0 b0 : Int) (s1 : Int) (h1 : Bool) (a1 b1 : Int) (s2 : Int) (h2 : Bool) (a2 b2 : Int) (s3 : Int) (h3 : Bool) (a3 b3 : Int) (s4 : Int) (h4 : Bool) (a4 b4 : Int) (s5 : Int) (h5 : Bool) (a5 b5 : Int) (r0 r1 r2 r3 r4 r5 v0 v1 v2 v3 y0 y1 y2 y3 y4 y5 : Int) (hs0 : 0 ≤ s0 ∧ s0 < 4) (hs1 : 0 ≤ s1 ∧ s1 < 4) (hs2 : 0 ≤ s2 ∧ s2 < 4) (hs3 : 0 ≤ s3 ∧ s3 < 4) (hs4 : 0 ≤ s4 ∧ s4 < 4) (hs5 : 0 ≤ s5 ∧ s5 < 4) (hm0 : mayB s0 a0 b0 = true) (hm1 : mayB s1 a1 b1 = true) (hm2 : mayB s2 a2 b2 = true) (hm3 : mayB s3 a3 b3 = true) (hm4 : mayB s4 a4 b4 = true) (hm5 : mayB s5 a5 b5 = true) :
    ∀ (m i : Nat), i + m = 6 → ∀ (n out : Nat) (c0 c1 c2 c3 c4 c5 : Int), m < n → out < 2 ^ i → (∃ j, i ≤ j ∧ j < 6 ∧ ¬ (0 ≤ selI [r0, r1, r2, r3, r4, r5] j ∧ selI [r0, r1, r2, r3, r4, r5] j < deb)) →
      rheostatref20_Step_l0 1000 n deb x out i s0 h0 a0 b0 s1 h1 a1 b1 s2 h2 a2 b2 s3 h3 a3 b3 s4 h4 a4 b4 s5 h5 a5 b5 r0 r1 r2 r3 r4 r5 v0 v1 v2 v3 y0 y1 y2 y3 y4 y5 c0 c1 c2 c3 c4 c5 = some (.inr (0, 2, 0, 0, 0, 0, 0, 0, ())) := by
  intro m
  induction m with
  | zero =>
    intro i hi n out c0 c1 c2 c3 c4 c5 hn ho hj
    obtain ⟨j, h1, h2, _⟩ := hj
    omega
  | succ m ih =>
    intro i hi n out c0 c1 c2 c3 c4 c5 hn ho hj
    obtain ⟨n, rfl⟩ : ∃ n', n = n' + 1 := ⟨n - 1, by omega⟩
    have hi5 : i < 6 := by omega
    have ho1 : out < 64 := by
      match i, hi5 with
      | 0, _ => omega
      | 1, _ => omega
      | 2, _ => omega
      | 3, _ => omega
      | 4, _ => omega
      | 5, _ => omega
    have hsi : 0 ≤ (selI [s0, s1, s2, s3, s4, s5] i) ∧ (selI [s0, s1, s2, s3, s4, s5] i) < 4 := by
      match i, hi5 with
      | 0, _ => exact hs0
      | 1, _ => exact hs1
      | 2, _ => exact hs2
      | 3, _ => exact hs3
      | 4, _ => exact hs4
      | 5, _ => exact hs5
    have hmi : mayB (selI [s0, s1, s2, s3, s4, s5] i) (selI [a0, a1, a2, a3, a4, a5] i) (selI [b0, b1, b2, b3, b4, b5] i) = true := by
      match i, hi5 with
      | 0, _ => exact hm0
      | 1, _ => exact hm1
      | 2, _ => exact hm2
      | 3, _ => exact hm3
      | 4, _ => exact hm4
      | 5, _ => exact hm5
    by_cases hri : 0 ≤ (selI [r0, r1, r2, r3, r4, r5] i) ∧ (selI [r0, r1, r2, r3, r4, r5] i) < deb
    · rw [rs_round n i x out hi5 hx ho1 deb hd s0 h0 a0 b0 s1 h1 a1 b1 s2 h2 a2 b2 s3 h3 a3 b3 s4 h4 a4 b4 s5 h5 a5 b5 r0 r1 r2 r3 r4 r5 v0 v1 v2 v3 y0 y1 y2 y3 y4 y5 c0 c1 c2 c3 c4 c5 hsi hmi hri]
      refine ih (i + 1) (by omega) n _ _ _ _ _ _ _ (by omega) ?_ ?_
      · have hp : 2 ^ (i + 1) = 2 ^ i + 2 ^ i := by rw [Nat.pow_succ]; omega
        generalize xor (decide (x / 2 ^ i % 2 = 1)) _ = bb
        cases bb
        · simp only [cond_false]; omega
        · simp only [cond_true]; omega
      · obtain ⟨j, h1, h2, h3⟩ := hj
        refine ⟨j, ?_, h2, h3⟩
        rcases Nat.lt_or_ge i j with h | h
        · omega
        · have : j = i := by omega
          subst this
          exact absurd hri h3
    · exact rs_bad n i x out hi5 hx deb s0 h0 a0 b0 s1 h1 a1 b1 s2 h2 a2 b2 s3 h3 a3 b3 s4 h4 a4 b4 s5 h5 a5 b5 r0 r1 r2 r3 r4 r5 v0 v1 v2 v3 y0 y1 y2 y3 y4 y5 c0 c1 c2 c3 c4 c5 hsi hri

def inB (lo hi x : Int) : Bool := decide (lo ≤ x ∧ x ≤ hi)

theorem within_round (n : Nat) (lo hi : Int) (len i : Nat) (h : i < len) (hl : len < 1000) (f : Nat → Int) :
    guard_within_l0 1000 (n + 1) lo hi len ((len : Nat) : Int) (i : Int) f = bif inB lo hi (f i) then guard_within_l0 1000 n lo hi len ((len : Nat) : Int) ((i + 1 : Nat) : Int) f else some (.inr (false, ())) := by
  have e : guard_within_l0 1000 (n + 1) lo hi len ((len : Nat) : Int) (i : Int) f = guard_within_l0r 1000 (guard_within_l0 1000 n) lo hi len ((len : Nat) : Int) (i : Int) f := rfl
  rw [e]
  have e1 : decide ((i : Int) < ((len : Nat) : Int)) = true := by simp; omega
  have e2 : decide (0 ≤ (i : Int)) = true := by simp
  have e4 : wi64 ((i : Int) + 1) = ((i + 1 : Nat) : Int) := by rw [wi64_id (by omega) (by omega)]; simp
  simp only [guard_within_l0r, e1, e2, e4, Int.toNat_natCast, Bool.and_self, cond_true, inB]
  by_cases h1 : f i < lo
  · have : ¬ (lo ≤ f i ∧ f i ≤ hi) := by omega
    simp [h1, this]
  · by_cases h2 : f i > hi
    · have : ¬ (lo ≤ f i ∧ f i ≤ hi) := by omega
      simp [h1, h2, this]
    · have : lo ≤ f i ∧ f i ≤ hi := by omega
      simp [h1, h2, this]

theorem within6 (lo hi : Int) (f : Nat → Int) : guard_within_g 1000 lo hi 6 f = some (inB lo hi (f 0) && (inB lo hi (f 1) && (inB lo hi (f 2) && (inB lo hi (f 3) && (inB lo hi (f 4) && inB lo hi (f 5))))), ()) := by
  unfold guard_within_g
  have w0 := within_round 999 lo hi 6 0 (by omega) (by omega) f
  have w1 := within_round 998 lo hi 6 1 (by omega) (by omega) f
  have w2 := within_round 997 lo hi 6 2 (by omega) (by omega) f
  have w3 := within_round 996 lo hi 6 3 (by omega) (by omega) f
  have w4 := within_round 995 lo hi 6 4 (by omega) (by omega) f
  have w5 := within_round 994 lo hi 6 5 (by omega) (by omega) f
  have w6 : guard_within_l0 1000 994 lo hi 6 ((6 : Nat) : Int) ((5 + 1 : Nat) : Int) f = some (.inl ()) := rfl
  have z0 : guard_within_l0 1000 1000 lo hi 6 ((6 : Nat) : Int) 0 f = guard_within_l0 1000 (999 + 1) lo hi 6 ((6 : Nat) : Int) ((0 : Nat) : Int) f := rfl
  rw [z0, w0]
  cases inB lo hi (f 0)
  · rfl
  rw [cond_true, w1]
  cases inB lo hi (f 1)
  · rfl
  rw [cond_true, w2]
  cases inB lo hi (f 2)
  · rfl
  rw [cond_true, w3]
  cases inB lo hi (f 3)
  · rfl
  rw [cond_true, w4]
  cases inB lo hi (f 4)
  · rfl
  rw [cond_true, w5]
  cases inB lo hi (f 5)
  · rfl
  rw [cond_true, w6]
  rfl

theorem step_both (r0 r1 r2 r3 r4 r5 v0 v1 v2 v3 deb r : Int) (s0 : Int) (h0 : Bool) (a0 b0 : Int) (s1 : Int) (h1 : Bool) (a1 b1 : Int) (s2 : Int) (h2 : Bool) (a2 b2 : Int) (s3 : Int) (h3 : Bool) (a3 b3 : Int) (s4 : Int) (h4 : Bool) (a4 b4 : Int) (s5 : Int) (h5 : Bool) (a5 b5 : Int) : ∃ q, guard_Step_g 1000 s0 h0 a0 b0 s1 h1 a1 b1 s2 h2 a2 b2 s3 h3 a3 b3 s4 h4 a4 b4 s5 h5 a5 b5 deb r r0 r1 r2 r3 r4 r5 v0 v1 v2 v3 = some q ∧ rheostatref20_Step_g 1000 s0 h0 a0 b0 s1 h1 a1 b1 s2 h2 a2 b2 s3 h3 a3 b3 s4 h4 a4 b4 s5 h5 a5 b5 deb r r0 r1 r2 r3 r4 r5 v0 v1 v2 v3 = some q := by
  unfold guard_Step_g rheostatref20_Step_g
  rw [check_k, rcheck_k]
  simp only [Option.bind_some]
  by_cases hc : checkB s0 a0 b0 s1 a1 b1 s2 a2 b2 s3 a3 b3 s4 a4 b4 s5 a5 b5 deb = 0
  · have hc' : (checkB s0 a0 b0 s1 a1 b1 s2 a2 b2 s3 a3 b3 s4 a4 b4 s5 a5 b5 deb != 0) = false := by simp [hc]
    rw [hc']
    simp only [cond_false]
    have hok : mayAll s0 a0 b0 s1 a1 b1 s2 a2 b2 s3 a3 b3 s4 a4 b4 s5 a5 b5 = true ∧ (1 ≤ deb ∧ deb ≤ 31) := by
      unfold checkB at hc
      cases h : (mayAll s0 a0 b0 s1 a1 b1 s2 a2 b2 s3 a3 b3 s4 a4 b4 s5 a5 b5 && decide (1 ≤ deb ∧ deb ≤ 31)) with
      | false => rw [h] at hc; simp at hc
      | true =>
        rw [Bool.and_eq_true] at h
        exact ⟨h.1, of_decide_eq_true h.2⟩
    obtain ⟨hall, hd⟩ := hok
    unfold mayAll at hall
    simp only [Bool.and_eq_true] at hall
    obtain ⟨hm0, hm1, hm2, hm3, hm4, hm5⟩ := hall
    have rng : ∀ (s a b : Int), mayB s a b = true → 0 ≤ s ∧ s < 4 := fun s a b h => by
      have := (mayB_iff.1 h).1
      omega
    rw [within_k]
    simp only [Option.bind_some]
    by_cases hr : 0 ≤ r ∧ r ≤ 63
    · have e1 : decide (0 ≤ r ∧ r ≤ 63) = true := by simp [hr]
      have e2 : decide (r < 0) = false := by simp; omega
      have e3 : decide (r > 63) = false := by simp; omega
      simp only [e1, e2, e3, Bool.not_true, cond_false]
      obtain ⟨x, rfl⟩ : ∃ x : Nat, r = x := ⟨r.toNat, by omega⟩
      have hx : x < 64 := by omega
      rw [within6, wi64_id (x := deb - 1) (by omega) (by omega)]
      simp only [Option.bind_some, selI, List.getD, List.getElem?_cons_zero, List.getElem?_cons_succ, Option.getD_some]
      by_cases hv : (0 ≤ r0 ∧ r0 < deb) ∧ (0 ≤ r1 ∧ r1 < deb) ∧ (0 ≤ r2 ∧ r2 < deb) ∧ (0 ≤ r3 ∧ r3 < deb) ∧ (0 ≤ r4 ∧ r4 < deb) ∧ (0 ≤ r5 ∧ r5 < deb)
      · obtain ⟨v0', v1', v2', v3', v4', v5'⟩ := hv
        obtain ⟨o, f0, f1, f2, f3, f4, f5, ho, G, H⟩ := steps_agree x hx deb hd s0 h0 a0 b0 s1 h1 a1 b1 s2 h2 a2 b2 s3 h3 a3 b3 s4 h4 a4 b4 s5 h5 a5 b5 r0 r1 r2 r3 r4 r5 v0 v1 v2 v3 0 0 0 0 0 0 0 0 0 0 0 0 (rng _ _ _ hm0) (rng _ _ _ hm1) (rng _ _ _ hm2) (rng _ _ _ hm3) (rng _ _ _ hm4) (rng _ _ _ hm5) hm0 hm1 hm2 hm3 hm4 hm5 v0' v1' v2' v3' v4' v5'
          6 0 rfl 1000 x 0 r0 r1 r2 r3 r4 r5 0 0 0 0 0 0 (by omega) (by omega) (by simp) rfl rfl rfl rfl rfl rfl
        have G' : guard_Step_l0 1000 1000 deb (x : Int) s0 h0 a0 b0 s1 h1 a1 b1 s2 h2 a2 b2 s3 h3 a3 b3 s4 h4 a4 b4 s5 h5 a5 b5 0 r0 r1 r2 r3 r4 r5 v0 v1 v2 v3 0 0 0 0 0 0 = _ := G
        have H' : rheostatref20_Step_l0 1000 1000 deb (x : Int) 0 0 s0 h0 a0 b0 s1 h1 a1 b1 s2 h2 a2 b2 s3 h3 a3 b3 s4 h4 a4 b4 s5 h5 a5 b5 r0 r1 r2 r3 r4 r5 v0 v1 v2 v3 0 0 0 0 0 0 0 0 0 0 0 0 = _ := H
        rw [G', H']
        have q0 : inB 0 (deb - 1) r0 = true := by simp only [inB, decide_eq_true_eq]; omega
        have q1 : inB 0 (deb - 1) r1 = true := by simp only [inB, decide_eq_true_eq]; omega
        have q2 : inB 0 (deb - 1) r2 = true := by simp only [inB, decide_eq_true_eq]; omega
        have q3 : inB 0 (deb - 1) r3 = true := by simp only [inB, decide_eq_true_eq]; omega
        have q4 : inB 0 (deb - 1) r4 = true := by simp only [inB, decide_eq_true_eq]; omega
        have q5 : inB 0 (deb - 1) r5 = true := by simp only [inB, decide_eq_true_eq]; omega
        rw [q0, q1, q2, q3, q4, q5]
        exact ⟨_, rfl, rfl⟩
      · have hbad : ∃ j, 0 ≤ j ∧ j < 6 ∧ ¬ (0 ≤ selI [r0, r1, r2, r3, r4, r5] j ∧ selI [r0, r1, r2, r3, r4, r5] j < deb) := by
          by_cases u0 : 0 ≤ r0 ∧ r0 < deb
          · by_cases u1 : 0 ≤ r1 ∧ r1 < deb
            · by_cases u2 : 0 ≤ r2 ∧ r2 < deb
              · by_cases u3 : 0 ≤ r3 ∧ r3 < deb
                · by_cases u4 : 0 ≤ r4 ∧ r4 < deb
                  · by_cases u5 : 0 ≤ r5 ∧ r5 < deb
                    · exact absurd ⟨u0, u1, u2, u3, u4, u5⟩ hv
                    · exact ⟨5, by omega, by omega, u5⟩
                  · exact ⟨4, by omega, by omega, u4⟩
                · exact ⟨3, by omega, by omega, u3⟩
              · exact ⟨2, by omega, by omega, u2⟩
            · exact ⟨1, by omega, by omega, u1⟩
          · exact ⟨0, by omega, by omega, u0⟩
        have H := steps_bad x hx deb hd s0 h0 a0 b0 s1 h1 a1 b1 s2 h2 a2 b2 s3 h3 a3 b3 s4 h4 a4 b4 s5 h5 a5 b5 r0 r1 r2 r3 r4 r5 v0 v1 v2 v3 0 0 0 0 0 0 (rng _ _ _ hm0) (rng _ _ _ hm1) (rng _ _ _ hm2) (rng _ _ _ hm3) (rng _ _ _ hm4) (rng _ _ _ hm5) hm0 hm1 hm2 hm3 hm4 hm5
          6 0 rfl 1000 0 0 0 0 0 0 0 (by omega) (by omega) hbad
        have H' : rheostatref20_Step_l0 1000 1000 deb (x : Int) 0 0 s0 h0 a0 b0 s1 h1 a1 b1 s2 h2 a2 b2 s3 h3 a3 b3 s4 h4 a4 b4 s5 h5 a5 b5 r0 r1 r2 r3 r4 r5 v0 v1 v2 v3 0 0 0 0 0 0 0 0 0 0 0 0 = _ := H
        rw [H']
        have hf : (inB 0 (deb - 1) r0 && (inB 0 (deb - 1) r1 && (inB 0 (deb - 1) r2 && (inB 0 (deb - 1) r3 && (inB 0 (deb - 1) r4 && inB 0 (deb - 1) r5))))) = false := by
          rw [Bool.eq_false_iff]
          intro h
          simp only [inB, Bool.and_eq_true, decide_eq_true_eq] at h
          exact hv (by omega)
        rw [hf]
        exact ⟨_, rfl, rfl⟩
    · have e1 : decide (0 ≤ r ∧ r ≤ 63) = false := by simp; omega
      simp only [e1, Bool.not_false, cond_true]
      by_cases e2 : r < 0
      · exact ⟨_, rfl, by simp [e2]⟩
      · have e3 : r > 63 := by omega
        exact ⟨_, rfl, by simp [e2, e3]⟩
  · have hc' : (checkB s0 a0 b0 s1 a1 b1 s2 a2 b2 s3 a3 b3 s4 a4 b4 s5 a5 b5 deb != 0) = true := by simp [hc]
    rw [hc']
    exact ⟨_, rfl, rfl⟩

theorem lists_k (r : Int) : ∃ q5 q6, guard_List_g 1000 r = some q5 ∧ rheostatref20_List_g 1000 r = some q6 ∧ rheostatbase_SameInts_g 1000 q5.1 q6.1 q5.2.1 q6.2.1 = some (true, ()) := by
  by_cases hr : 0 ≤ r ∧ r ≤ 63
  · obtain ⟨x, rfl⟩ : ∃ x : Nat, r = x := ⟨r.toNat, by omega⟩
    have h := lists_in x (by omega)
    unfold sameLists at h
    obtain ⟨q5, h1, h⟩ := bind_some' h
    obtain ⟨q6, h2, h⟩ := bind_some' h
    exact ⟨q5, q6, h1, h2, h⟩
  · have h1 : decide (0 ≤ r ∧ r ≤ 63) = false := by simp; omega
    refine ⟨(0, (fun _ => 0), ()), (0, (fun _ => 0), ()), ?_, ?_, rfl⟩
    · unfold guard_List_g
      rw [within_k]
      simp [h1]
    · unfold rheostatref20_List_g
      have e : rheostatref20_List_l0 1000 1000 r 0 0 (fun _ => 0) = rheostatref20_List_l0r 1000 (rheostatref20_List_l0 1000 999) r 0 0 (fun _ => 0) := rfl
      rw [e]
      simp only [rheostatref20_List_l0r]
      by_cases h2 : r ≥ 0
      · have h3 : ¬ r ≤ 63 := by omega
        simp [h2, h3]
      · simp [h2]

theorem GuardSteps_ok (s0 : Int) (h0 : Bool) (a0 b0 : Int) (s1 : Int) (h1 : Bool) (a1 b1 : Int) (s2 : Int) (h2 : Bool) (a2 b2 : Int) (s3 : Int) (h3 : Bool) (a3 b3 : Int) (s4 : Int) (h4 : Bool) (a4 b4 : Int) (s5 : Int) (h5 : Bool) (a5 b5 : Int) (deb r r0 r1 r2 r3 r4 r5 v0 v1 v2 v3 : Int) :
    rheostatlaw20_GuardSteps_g 1000 s0 h0 a0 b0 s1 h1 a1 b1 s2 h2 a2 b2 s3 h3 a3 b3 s4 h4 a4 b4 s5 h5 a5 b5 deb r r0 r1 r2 r3 r4 r5 v0 v1 v2 v3 = some true := by
  obtain ⟨q, e1, e2⟩ := step_both r0 r1 r2 r3 r4 r5 v0 v1 v2 v3 deb r s0 h0 a0 b0 s1 h1 a1 b1 s2 h2 a2 b2 s3 h3 a3 b3 s4 h4 a4 b4 s5 h5 a5 b5
  obtain ⟨q5, q6, e3, e4, e5⟩ := lists_k r
  simp only [rheostatlaw20_GuardSteps_g, e1, e2, e3, e4, e5, check_k, rcheck_k, works_ok, Option.bind_some]
  simp
end Go.Proofs.Ythjjjifpiibmeaa
