/-
  The document's alarms: what its printed functions compute.
-/
import Derived.Test.YtjmbhhinmbgneaaGreatsJ
import Derived.Test.YtjmbhhinmbgneaaGreatsH
namespace Go.Proofs.YtjmbhhinmbgneaaGreat.PG
open Go.Sy
set_option maxHeartbeats 2000000

theorem rmay_ok (K : Nat) (so : Int) (hi : Bool) (at' ba : Int) : r20_may_g K so hi at' ba = some (mayB so at' ba, ()) := by
  simp only [r20_may_g, mayB]
  by_cases h1 : so ≥ 0 <;> by_cases h2 : so ≤ 3 <;> by_cases h3 : at' ≥ -2147483648 <;> by_cases h4 : at' ≤ 2147483648 <;> by_cases h5 : ba ≥ 0 <;> simp [h1, h2, h3, h4, h5] <;> omega

/-- A step, as the document has it. -/
def oneB (so : Int) (hi : Bool) (at' ba deb : Int) (ra : Bool) (run v : Int) : Bool × Int × Int × Unit :=
  if mayB so at' ba = true ∧ 1 ≤ deb ∧ deb ≤ 31 ∧ 0 ≤ run ∧ run < deb then
    (if holdsB hi at' ba ra v = false then (ra, 0, 0, ()) else if run + 1 = deb then (!ra, 0, 0, ()) else (ra, run + 1, 0, ()))
  else (false, 0, 2, ())

theorem tailB (ra hb : Bool) (run deb : Int) : (bif !hb then some (ra, (0 : Int), (0 : Int), ()) else bif decide (run + 1 = deb) then some (!ra, 0, 0, ()) else some (ra, run + 1, 0, ())) =
    some (if hb = false then (ra, (0 : Int), (0 : Int), ()) else if run + 1 = deb then (!ra, 0, 0, ()) else (ra, run + 1, 0, ())) := by
  cases hb <;> by_cases h : run + 1 = deb <;> simp [h]

theorem rone_ok (K : Nat) (so : Int) (hi : Bool) (at' ba deb : Int) (ra : Bool) (run v : Int) : r20_One_g K so hi at' ba deb ra run v = some (oneB so hi at' ba deb ra run v) := by
  simp only [r20_One_g, rmay_ok, Option.bind_some, oneB, r20_Beyond_g, r20_Back_g]
  cases hm : mayB so at' ba
  · simp
  · by_cases h1 : deb < 1
    · rw [if_neg (by omega)]; simp [h1]
    · by_cases h2 : deb > 31
      · rw [if_neg (by omega)]; simp [h1, h2]
      · by_cases h3 : run < 0
        · rw [if_neg (by omega)]; simp [h1, h2, h3]
        · by_cases h4 : run ≥ deb
          · rw [if_neg (by omega)]; simp [h1, h2, h3, h4]
          · have e2 : wi64 (run + 1) = run + 1 := wi64_id (by omega) (by omega)
            rw [if_pos ⟨rfl, by omega⟩]
            simp only [e2]
            have e3 : (run + 1 == deb) = decide (run + 1 = deb) := rfl
            simp only [e3, h1, h2, h3, h4, decide_false, cond_false, Bool.not_true, holdsB]
            cases ra <;> cases hi <;> simp only [cond_true, cond_false, Option.bind_some]
            all_goals exact tailB _ _ _ _

theorem mayB_iff {so at' ba : Int} : mayB so at' ba = true ↔ (0 ≤ so ∧ so ≤ 3) ∧ (-2147483648 ≤ at' ∧ at' ≤ 2147483648) ∧ 0 ≤ ba ∧ ba ≤ 2147483648 := by
  simp [mayB]

section
variable (s0 : Int) (h0 : Bool) (a0 b0 : Int) (s1 : Int) (h1 : Bool) (a1 b1 : Int) (s2 : Int) (h2 : Bool) (a2 b2 : Int) (s3 : Int) (h3 : Bool) (a3 b3 : Int) (s4 : Int) (h4 : Bool) (a4 b4 : Int) (s5 : Int) (h5 : Bool) (a5 b5 : Int)

/-- Both loops of limits are one. -/
theorem check_loops (deb : Int) : ∀ (n : Nat) (i : Int), guard_Check_l0 20000 n deb s0 h0 a0 b0 s1 h1 a1 b1 s2 h2 a2 b2 s3 h3 a3 b3 s4 h4 a4 b4 s5 h5 a5 b5 i =
    r20_Check_l0 20000 n deb i s0 h0 a0 b0 s1 h1 a1 b1 s2 h2 a2 b2 s3 h3 a3 b3 s4 h4 a4 b4 s5 h5 a5 b5
  | 0, i => rfl
  | n + 1, i => by
    have e1 : guard_Check_l0 20000 (n + 1) deb s0 h0 a0 b0 s1 h1 a1 b1 s2 h2 a2 b2 s3 h3 a3 b3 s4 h4 a4 b4 s5 h5 a5 b5 i = guard_Check_l0r 20000 (guard_Check_l0 20000 n) deb s0 h0 a0 b0 s1 h1 a1 b1 s2 h2 a2 b2 s3 h3 a3 b3 s4 h4 a4 b4 s5 h5 a5 b5 i := rfl
    have e2 : r20_Check_l0 20000 (n + 1) deb i s0 h0 a0 b0 s1 h1 a1 b1 s2 h2 a2 b2 s3 h3 a3 b3 s4 h4 a4 b4 s5 h5 a5 b5 = r20_Check_l0r 20000 (r20_Check_l0 20000 n) deb i s0 h0 a0 b0 s1 h1 a1 b1 s2 h2 a2 b2 s3 h3 a3 b3 s4 h4 a4 b4 s5 h5 a5 b5 := rfl
    rw [e1, e2]
    simp only [guard_Check_l0r, r20_Check_l0r, may_k, rmay_ok, check_loops deb n]

theorem rcheck_k (deb : Int) : r20_Check_g 20000 s0 h0 a0 b0 s1 h1 a1 b1 s2 h2 a2 b2 s3 h3 a3 b3 s4 h4 a4 b4 s5 h5 a5 b5 deb =
    some (checkB s0 a0 b0 s1 a1 b1 s2 a2 b2 s3 a3 b3 s4 a4 b4 s5 a5 b5 deb, ()) := by
  simp only [r20_Check_g, ← check_loops, check_loop, Option.bind_some, checkB]
  cases mayAll s0 a0 b0 s1 a1 b1 s2 a2 b2 s3 a3 b3 s4 a4 b4 s5 a5 b5
  · rfl
  · simp only [cond_true, Sum.elim_inl, Bool.true_and]
    by_cases e1 : deb < 1
    · have : ¬ (1 ≤ deb ∧ deb ≤ 31) := by omega
      simp [e1, this]
    · by_cases e2 : deb > 31
      · have : ¬ (1 ≤ deb ∧ deb ≤ 31) := by omega
        simp [e1, e2, this]
      · have : 1 ≤ deb ∧ deb ≤ 31 := by omega
        simp [e1, e2, this]

end

theorem bit_k : ∀ i : Nat, i < 6 → r20_bit_g 20000 (i : Int) = some (((2 ^ i : Nat) : Int), ()) := by decide +kernel

theorem gbit : ∀ x : Nat, x < 64 → ∀ i : Nat, i < 6 → (bitAnd .i64 (shR .i64 (x : Int) (i : Int)) 1 == 1) = decide (x / 2 ^ i % 2 = 1) := by decide +kernel

theorem rbit : ∀ x : Nat, x < 64 → ∀ i : Nat, i < 6 → (Int.tmod (wi64 (Int.tdiv (x : Int) ((2 ^ i : Nat) : Int))) 2 == 1) = decide (x / 2 ^ i % 2 = 1) := by decide +kernel

/-- What a step makes of a run, and whether the alarm turns. -/
def newRun (h : Bool) (run deb : Int) : Int := bif h then (bif wi64 (run + 1) == deb then 0 else wi64 (run + 1)) else 0

def turns (h : Bool) (run deb : Int) : Bool := h && (wi64 (run + 1) == deb)

def turned (x i : Nat) : Nat := if x / 2 ^ i % 2 = 1 then x - 2 ^ i else x + 2 ^ i

theorem gs_round (n i x : Nat) (hi : i < 6) (hx : x < 64) (deb : Int) (s0 : Int) (h0 : Bool) (a0 b0 : Int) (s1 : Int) (h1 : Bool) (a1 b1 : Int) (s2 : Int) (h2 : Bool) (a2 b2 : Int) (s3 : Int) (h3 : Bool) (a3 b3 : Int) (s4 : Int) (h4 : Bool) (a4 b4 : Int) (s5 : Int) (h5 : Bool) (a5 b5 : Int) (r0 r1 r2 r3 r4 r5 v0 v1 v2 v3 z0 z1 z2 z3 z4 z5 : Int) (hs : 0 ≤ (selI [s0, s1, s2, s3, s4, s5] i) ∧ (selI [s0, s1, s2, s3, s4, s5] i) < 4) :
    guard_Step_l0 20000 (n + 1) deb x s0 h0 a0 b0 s1 h1 a1 b1 s2 h2 a2 b2 s3 h3 a3 b3 s4 h4 a4 b4 s5 h5 a5 b5 i r0 r1 r2 r3 r4 r5 v0 v1 v2 v3 z0 z1 z2 z3 z4 z5 =
      guard_Step_l0 20000 n deb ((bif turns (holdsB (selB [h0, h1, h2, h3, h4, h5] i) (selI [a0, a1, a2, a3, a4, a5] i) (selI [b0, b1, b2, b3, b4, b5] i) (decide (x / 2 ^ i % 2 = 1)) (selI [v0, v1, v2, v3] (Int.toNat (selI [s0, s1, s2, s3, s4, s5] i)))) (selI [r0, r1, r2, r3, r4, r5] i) deb then turned x i else x : Nat) : Int) s0 h0 a0 b0 s1 h1 a1 b1 s2 h2 a2 b2 s3 h3 a3 b3 s4 h4 a4 b4 s5 h5 a5 b5 ((i + 1 : Nat) : Int)
        (bif Nat.beq i 0 then newRun (holdsB (selB [h0, h1, h2, h3, h4, h5] i) (selI [a0, a1, a2, a3, a4, a5] i) (selI [b0, b1, b2, b3, b4, b5] i) (decide (x / 2 ^ i % 2 = 1)) (selI [v0, v1, v2, v3] (Int.toNat (selI [s0, s1, s2, s3, s4, s5] i)))) (selI [r0, r1, r2, r3, r4, r5] i) deb else r0) (bif Nat.beq i 1 then newRun (holdsB (selB [h0, h1, h2, h3, h4, h5] i) (selI [a0, a1, a2, a3, a4, a5] i) (selI [b0, b1, b2, b3, b4, b5] i) (decide (x / 2 ^ i % 2 = 1)) (selI [v0, v1, v2, v3] (Int.toNat (selI [s0, s1, s2, s3, s4, s5] i)))) (selI [r0, r1, r2, r3, r4, r5] i) deb else r1) (bif Nat.beq i 2 then newRun (holdsB (selB [h0, h1, h2, h3, h4, h5] i) (selI [a0, a1, a2, a3, a4, a5] i) (selI [b0, b1, b2, b3, b4, b5] i) (decide (x / 2 ^ i % 2 = 1)) (selI [v0, v1, v2, v3] (Int.toNat (selI [s0, s1, s2, s3, s4, s5] i)))) (selI [r0, r1, r2, r3, r4, r5] i) deb else r2) (bif Nat.beq i 3 then newRun (holdsB (selB [h0, h1, h2, h3, h4, h5] i) (selI [a0, a1, a2, a3, a4, a5] i) (selI [b0, b1, b2, b3, b4, b5] i) (decide (x / 2 ^ i % 2 = 1)) (selI [v0, v1, v2, v3] (Int.toNat (selI [s0, s1, s2, s3, s4, s5] i)))) (selI [r0, r1, r2, r3, r4, r5] i) deb else r3) (bif Nat.beq i 4 then newRun (holdsB (selB [h0, h1, h2, h3, h4, h5] i) (selI [a0, a1, a2, a3, a4, a5] i) (selI [b0, b1, b2, b3, b4, b5] i) (decide (x / 2 ^ i % 2 = 1)) (selI [v0, v1, v2, v3] (Int.toNat (selI [s0, s1, s2, s3, s4, s5] i)))) (selI [r0, r1, r2, r3, r4, r5] i) deb else r4) (bif Nat.beq i 5 then newRun (holdsB (selB [h0, h1, h2, h3, h4, h5] i) (selI [a0, a1, a2, a3, a4, a5] i) (selI [b0, b1, b2, b3, b4, b5] i) (decide (x / 2 ^ i % 2 = 1)) (selI [v0, v1, v2, v3] (Int.toNat (selI [s0, s1, s2, s3, s4, s5] i)))) (selI [r0, r1, r2, r3, r4, r5] i) deb else r5) v0 v1 v2 v3 z0 z1 z2 z3 z4 z5 := by
  have e : guard_Step_l0 20000 (n + 1) deb x s0 h0 a0 b0 s1 h1 a1 b1 s2 h2 a2 b2 s3 h3 a3 b3 s4 h4 a4 b4 s5 h5 a5 b5 i r0 r1 r2 r3 r4 r5 v0 v1 v2 v3 z0 z1 z2 z3 z4 z5 = guard_Step_l0r 20000 (guard_Step_l0 20000 n) deb x s0 h0 a0 b0 s1 h1 a1 b1 s2 h2 a2 b2 s3 h3 a3 b3 s4 h4 a4 b4 s5 h5 a5 b5 i r0 r1 r2 r3 r4 r5 v0 v1 v2 v3 z0 z1 z2 z3 z4 z5 := rfl
  rw [e]
  have e1 : decide ((i : Int) < 6) = true := by simp; omega
  have e2 : decide (0 ≤ (i : Int)) = true := by simp
  have e3 : decide ((i : Int) < 0) = false := by simp
  have e4 : wi64 ((i : Int) + 1) = ((i + 1 : Nat) : Int) := by rw [wi64_id (by omega) (by omega)]; simp
  have e5 : decide (0 ≤ (selI [s0, s1, s2, s3, s4, s5] i)) = true := by simp [hs.1]
  have e6 : decide ((selI [s0, s1, s2, s3, s4, s5] i) < 4) = true := by simp [hs.2]
  simp only [guard_Step_l0r, e1, e2, e3, e4, e5, e6, Int.toNat_natCast, gbit x hx i hi, gtog x hx i hi, Bool.and_self, cond_true, cond_false, holds_ok, Option.bind_some, turns, newRun, turned]
  generalize holdsB (selB [h0, h1, h2, h3, h4, h5] i) (selI [a0, a1, a2, a3, a4, a5] i) (selI [b0, b1, b2, b3, b4, b5] i) (decide (x / 2 ^ i % 2 = 1)) (selI [v0, v1, v2, v3] (Int.toNat (selI [s0, s1, s2, s3, s4, s5] i))) = hb
  cases hb
  · simp
  · cases hq : (wi64 ((selI [r0, r1, r2, r3, r4, r5] i) + 1) == deb)
    · simp
    · cases hb2 : (decide (x / 2 ^ i % 2 = 1)) <;> simp

theorem rs_round (n i x out : Nat) (hi : i < 6) (hx : x < 64) (ho : out < 64) (deb : Int) (hd : 1 ≤ deb ∧ deb ≤ 31) (s0 : Int) (h0 : Bool) (a0 b0 : Int) (s1 : Int) (h1 : Bool) (a1 b1 : Int) (s2 : Int) (h2 : Bool) (a2 b2 : Int) (s3 : Int) (h3 : Bool) (a3 b3 : Int) (s4 : Int) (h4 : Bool) (a4 b4 : Int) (s5 : Int) (h5 : Bool) (a5 b5 : Int) (r0 r1 r2 r3 r4 r5 v0 v1 v2 v3 z0 z1 z2 z3 z4 z5 c0 c1 c2 c3 c4 c5 : Int) (hs : 0 ≤ (selI [s0, s1, s2, s3, s4, s5] i) ∧ (selI [s0, s1, s2, s3, s4, s5] i) < 4) (hm : mayB (selI [s0, s1, s2, s3, s4, s5] i) (selI [a0, a1, a2, a3, a4, a5] i) (selI [b0, b1, b2, b3, b4, b5] i) = true)
    (hr : 0 ≤ (selI [r0, r1, r2, r3, r4, r5] i) ∧ (selI [r0, r1, r2, r3, r4, r5] i) < deb) :
    r20_Step_l0 20000 (n + 1) deb x out i s0 h0 a0 b0 s1 h1 a1 b1 s2 h2 a2 b2 s3 h3 a3 b3 s4 h4 a4 b4 s5 h5 a5 b5 r0 r1 r2 r3 r4 r5 v0 v1 v2 v3 z0 z1 z2 z3 z4 z5 c0 c1 c2 c3 c4 c5 =
      r20_Step_l0 20000 n deb x ((bif xor (decide (x / 2 ^ i % 2 = 1)) (turns (holdsB (selB [h0, h1, h2, h3, h4, h5] i) (selI [a0, a1, a2, a3, a4, a5] i) (selI [b0, b1, b2, b3, b4, b5] i) (decide (x / 2 ^ i % 2 = 1)) (selI [v0, v1, v2, v3] (Int.toNat (selI [s0, s1, s2, s3, s4, s5] i)))) (selI [r0, r1, r2, r3, r4, r5] i) deb) then out + 2 ^ i else out : Nat) : Int) ((i + 1 : Nat) : Int) s0 h0 a0 b0 s1 h1 a1 b1 s2 h2 a2 b2 s3 h3 a3 b3 s4 h4 a4 b4 s5 h5 a5 b5 r0 r1 r2 r3 r4 r5 v0 v1 v2 v3 z0 z1 z2 z3 z4 z5 (bif Nat.beq i 0 then newRun (holdsB (selB [h0, h1, h2, h3, h4, h5] i) (selI [a0, a1, a2, a3, a4, a5] i) (selI [b0, b1, b2, b3, b4, b5] i) (decide (x / 2 ^ i % 2 = 1)) (selI [v0, v1, v2, v3] (Int.toNat (selI [s0, s1, s2, s3, s4, s5] i)))) (selI [r0, r1, r2, r3, r4, r5] i) deb else c0) (bif Nat.beq i 1 then newRun (holdsB (selB [h0, h1, h2, h3, h4, h5] i) (selI [a0, a1, a2, a3, a4, a5] i) (selI [b0, b1, b2, b3, b4, b5] i) (decide (x / 2 ^ i % 2 = 1)) (selI [v0, v1, v2, v3] (Int.toNat (selI [s0, s1, s2, s3, s4, s5] i)))) (selI [r0, r1, r2, r3, r4, r5] i) deb else c1) (bif Nat.beq i 2 then newRun (holdsB (selB [h0, h1, h2, h3, h4, h5] i) (selI [a0, a1, a2, a3, a4, a5] i) (selI [b0, b1, b2, b3, b4, b5] i) (decide (x / 2 ^ i % 2 = 1)) (selI [v0, v1, v2, v3] (Int.toNat (selI [s0, s1, s2, s3, s4, s5] i)))) (selI [r0, r1, r2, r3, r4, r5] i) deb else c2) (bif Nat.beq i 3 then newRun (holdsB (selB [h0, h1, h2, h3, h4, h5] i) (selI [a0, a1, a2, a3, a4, a5] i) (selI [b0, b1, b2, b3, b4, b5] i) (decide (x / 2 ^ i % 2 = 1)) (selI [v0, v1, v2, v3] (Int.toNat (selI [s0, s1, s2, s3, s4, s5] i)))) (selI [r0, r1, r2, r3, r4, r5] i) deb else c3) (bif Nat.beq i 4 then newRun (holdsB (selB [h0, h1, h2, h3, h4, h5] i) (selI [a0, a1, a2, a3, a4, a5] i) (selI [b0, b1, b2, b3, b4, b5] i) (decide (x / 2 ^ i % 2 = 1)) (selI [v0, v1, v2, v3] (Int.toNat (selI [s0, s1, s2, s3, s4, s5] i)))) (selI [r0, r1, r2, r3, r4, r5] i) deb else c4) (bif Nat.beq i 5 then newRun (holdsB (selB [h0, h1, h2, h3, h4, h5] i) (selI [a0, a1, a2, a3, a4, a5] i) (selI [b0, b1, b2, b3, b4, b5] i) (decide (x / 2 ^ i % 2 = 1)) (selI [v0, v1, v2, v3] (Int.toNat (selI [s0, s1, s2, s3, s4, s5] i)))) (selI [r0, r1, r2, r3, r4, r5] i) deb else c5) := by
  have e : r20_Step_l0 20000 (n + 1) deb x out i s0 h0 a0 b0 s1 h1 a1 b1 s2 h2 a2 b2 s3 h3 a3 b3 s4 h4 a4 b4 s5 h5 a5 b5 r0 r1 r2 r3 r4 r5 v0 v1 v2 v3 z0 z1 z2 z3 z4 z5 c0 c1 c2 c3 c4 c5 = r20_Step_l0r 20000 (r20_Step_l0 20000 n) deb x out i s0 h0 a0 b0 s1 h1 a1 b1 s2 h2 a2 b2 s3 h3 a3 b3 s4 h4 a4 b4 s5 h5 a5 b5 r0 r1 r2 r3 r4 r5 v0 v1 v2 v3 z0 z1 z2 z3 z4 z5 c0 c1 c2 c3 c4 c5 := rfl
  rw [e]
  have e1 : decide ((i : Int) < 6) = true := by simp; omega
  have e2 : decide (0 ≤ (i : Int)) = true := by simp
  have e4 : wi64 ((i : Int) + 1) = ((i + 1 : Nat) : Int) := by rw [wi64_id (by omega) (by omega)]; simp
  have e5 : decide (0 ≤ (selI [s0, s1, s2, s3, s4, s5] i)) = true := by simp [hs.1]
  have e6 : decide ((selI [s0, s1, s2, s3, s4, s5] i) < 4) = true := by simp [hs.2]
  have hp : 2 ^ i ≤ 32 := by
    have : 2 ^ i ≤ 2 ^ 5 := Nat.pow_le_pow_right (by omega) (by omega)
    simpa using this
  have hp0 : 0 < 2 ^ i := Nat.two_pow_pos i
  have e7 : ((((2 ^ i : Nat) : Int)) == 0) = false := by
    have : (((2 ^ i : Nat) : Int)) ≠ 0 := by omega
    simpa using this
  have e8 : wi64 ((out : Int) + ((2 ^ i : Nat) : Int)) = ((out + 2 ^ i : Nat) : Int) := by rw [wi64_id (by omega) (by omega)]; simp
  have e9 : wi64 ((selI [r0, r1, r2, r3, r4, r5] i) + 1) = (selI [r0, r1, r2, r3, r4, r5] i) + 1 := wi64_id (by omega) (by omega)
  simp only [r20_Step_l0r, e1, e2, e4, e5, e6, e7, e8, Int.toNat_natCast, bit_k i hi, rbit x hx i hi, Bool.and_self, cond_true, cond_false, rone_ok, Option.bind_some, turns, newRun, oneB, e9]
  rw [if_pos ⟨hm, hd.1, hd.2, hr.1, hr.2⟩]
  generalize (holdsB (selB [h0, h1, h2, h3, h4, h5] i) (selI [a0, a1, a2, a3, a4, a5] i) (selI [b0, b1, b2, b3, b4, b5] i) (decide (x / 2 ^ i % 2 = 1)) (selI [v0, v1, v2, v3] (Int.toNat (selI [s0, s1, s2, s3, s4, s5] i)))) = hb
  cases hb
  · cases hb2 : (decide (x / 2 ^ i % 2 = 1)) <;> simp
  · by_cases hq : (selI [r0, r1, r2, r3, r4, r5] i) + 1 = deb
    · have hq' : ((selI [r0, r1, r2, r3, r4, r5] i) + 1 == deb) = true := by simpa using hq
      rw [hq', if_pos hq]
      cases hb2 : (decide (x / 2 ^ i % 2 = 1)) <;> simp
    · have hq' : ((selI [r0, r1, r2, r3, r4, r5] i) + 1 == deb) = false := by simpa using hq
      rw [hq', if_neg hq]
      cases hb2 : (decide (x / 2 ^ i % 2 = 1)) <;> simp

/-- From round i on both loops come to the same. -/
theorem steps_agree (x : Nat) (hx : x < 64) (deb : Int) (hd : 1 ≤ deb ∧ deb ≤ 31) (s0 : Int) (h0 : Bool) (a0 b0 : Int) (s1 : Int) (h1 : Bool) (a1 b1 : Int) (s2 : Int) (h2 : Bool) (a2 b2 : Int) (s3 : Int) (h3 : Bool) (a3 b3 : Int) (s4 : Int) (h4 : Bool) (a4 b4 : Int) (s5 : Int) (h5 : Bool) (a5 b5 : Int) (r0 r1 r2 r3 r4 r5 v0 v1 v2 v3 z0 z1 z2 z3 z4 z5 y0 y1 y2 y3 y4 y5 : Int) (hs0 : 0 ≤ s0 ∧ s0 < 4) (hs1 : 0 ≤ s1 ∧ s1 < 4) (hs2 : 0 ≤ s2 ∧ s2 < 4) (hs3 : 0 ≤ s3 ∧ s3 < 4) (hs4 : 0 ≤ s4 ∧ s4 < 4) (hs5 : 0 ≤ s5 ∧ s5 < 4) (hm0 : mayB s0 a0 b0 = true) (hm1 : mayB s1 a1 b1 = true) (hm2 : mayB s2 a2 b2 = true) (hm3 : mayB s3 a3 b3 = true) (hm4 : mayB s4 a4 b4 = true) (hm5 : mayB s5 a5 b5 = true) (hr0 : 0 ≤ r0 ∧ r0 < deb) (hr1 : 0 ≤ r1 ∧ r1 < deb) (hr2 : 0 ≤ r2 ∧ r2 < deb) (hr3 : 0 ≤ r3 ∧ r3 < deb) (hr4 : 0 ≤ r4 ∧ r4 < deb) (hr5 : 0 ≤ r5 ∧ r5 < deb) :
    ∀ (m i : Nat), i + m = 6 → ∀ (n cur out : Nat) (p0 p1 p2 p3 p4 p5 c0 c1 c2 c3 c4 c5 : Int), m < n → out < 2 ^ i → cur = out + x / 2 ^ i * 2 ^ i → p0 = (bif Nat.blt 0 i then c0 else r0) → p1 = (bif Nat.blt 1 i then c1 else r1) → p2 = (bif Nat.blt 2 i then c2 else r2) → p3 = (bif Nat.blt 3 i then c3 else r3) → p4 = (bif Nat.blt 4 i then c4 else r4) → p5 = (bif Nat.blt 5 i then c5 else r5) →
      ∃ (o : Nat) (f0 f1 f2 f3 f4 f5 : Int), o < 64 ∧ guard_Step_l0 20000 n deb cur s0 h0 a0 b0 s1 h1 a1 b1 s2 h2 a2 b2 s3 h3 a3 b3 s4 h4 a4 b4 s5 h5 a5 b5 i p0 p1 p2 p3 p4 p5 v0 v1 v2 v3 z0 z1 z2 z3 z4 z5 = some ((o : Int), f0, f1, f2, f3, f4, f5, z0, z1, z2, z3, z4, z5, ()) ∧
        r20_Step_l0 20000 n deb x out i s0 h0 a0 b0 s1 h1 a1 b1 s2 h2 a2 b2 s3 h3 a3 b3 s4 h4 a4 b4 s5 h5 a5 b5 r0 r1 r2 r3 r4 r5 v0 v1 v2 v3 y0 y1 y2 y3 y4 y5 c0 c1 c2 c3 c4 c5 = some (.inl ((o : Int), y0, y1, y2, y3, y4, y5, f0, f1, f2, f3, f4, f5, ())) := by
  intro m
  induction m with
  | zero =>
    intro i hi n cur out p0 p1 p2 p3 p4 p5 c0 c1 c2 c3 c4 c5 hn ho hc g0 g1 g2 g3 g4 g5
    obtain ⟨n, rfl⟩ : ∃ n', n = n' + 1 := ⟨n - 1, by omega⟩
    have hi : i = 6 := by omega
    subst hi
    have hx0 : x / 2 ^ 6 = 0 := by omega
    rw [hx0] at hc
    refine ⟨out, c0, c1, c2, c3, c4, c5, by omega, ?_, rfl⟩
    have hc : cur = out := by omega
    subst hc
    have e : ∀ (q0 q1 q2 q3 q4 q5 : Int), guard_Step_l0 20000 (n + 1) deb cur s0 h0 a0 b0 s1 h1 a1 b1 s2 h2 a2 b2 s3 h3 a3 b3 s4 h4 a4 b4 s5 h5 a5 b5 (6 : Nat) q0 q1 q2 q3 q4 q5 v0 v1 v2 v3 z0 z1 z2 z3 z4 z5 = some ((cur : Int), q0, q1, q2, q3, q4, q5, z0, z1, z2, z3, z4, z5, ()) := fun _ _ _ _ _ _ => rfl
    rw [e]
    have  : True := trivial
    simp only [g0, g1, g2, g3, g4, g5]
    rfl
  | succ m ih =>
    intro i hi n cur out p0 p1 p2 p3 p4 p5 c0 c1 c2 c3 c4 c5 hn ho hc g0 g1 g2 g3 g4 g5
    obtain ⟨n, rfl⟩ : ∃ n', n = n' + 1 := ⟨n - 1, by omega⟩
    have hi5 : i < 6 := by omega
    have hx1 : cur < 64 := by
      match i, hi5 with
      | 0, _ => omega
      | 1, _ => omega
      | 2, _ => omega
      | 3, _ => omega
      | 4, _ => omega
      | 5, _ => omega
    have ho1 : out < 64 := by
      match i, hi5 with
      | 0, _ => omega
      | 1, _ => omega
      | 2, _ => omega
      | 3, _ => omega
      | 4, _ => omega
      | 5, _ => omega
    have hsi : 0 ≤ (selI [s0, s1, s2, s3, s4, s5] i) ∧ (selI [s0, s1, s2, s3, s4, s5] i) < 4 := by
      match i, hi5 with
      | 0, _ => exact hs0
      | 1, _ => exact hs1
      | 2, _ => exact hs2
      | 3, _ => exact hs3
      | 4, _ => exact hs4
      | 5, _ => exact hs5
    have hmi : mayB (selI [s0, s1, s2, s3, s4, s5] i) (selI [a0, a1, a2, a3, a4, a5] i) (selI [b0, b1, b2, b3, b4, b5] i) = true := by
      match i, hi5 with
      | 0, _ => exact hm0
      | 1, _ => exact hm1
      | 2, _ => exact hm2
      | 3, _ => exact hm3
      | 4, _ => exact hm4
      | 5, _ => exact hm5
    have hri : 0 ≤ (selI [r0, r1, r2, r3, r4, r5] i) ∧ (selI [r0, r1, r2, r3, r4, r5] i) < deb := by
      match i, hi5 with
      | 0, _ => exact hr0
      | 1, _ => exact hr1
      | 2, _ => exact hr2
      | 3, _ => exact hr3
      | 4, _ => exact hr4
      | 5, _ => exact hr5
    have hpi : selI [p0, p1, p2, p3, p4, p5] i = (selI [r0, r1, r2, r3, r4, r5] i) := by
      match i, hi5 with
      | 0, _ => exact g0
      | 1, _ => exact g1
      | 2, _ => exact g2
      | 3, _ => exact g3
      | 4, _ => exact g4
      | 5, _ => exact g5
    have hbit : decide (cur / 2 ^ i % 2 = 1) = decide (x / 2 ^ i % 2 = 1) := by
      have : cur / 2 ^ i % 2 = x / 2 ^ i % 2 := by
        match i, hi5 with
        | 0, _ => omega
        | 1, _ => omega
        | 2, _ => omega
        | 3, _ => omega
        | 4, _ => omega
        | 5, _ => omega
      rw [this]
    have G := gs_round n i cur hi5 hx1 deb s0 h0 a0 b0 s1 h1 a1 b1 s2 h2 a2 b2 s3 h3 a3 b3 s4 h4 a4 b4 s5 h5 a5 b5 p0 p1 p2 p3 p4 p5 v0 v1 v2 v3 z0 z1 z2 z3 z4 z5 hsi
    have H := rs_round n i x out hi5 hx ho1 deb hd s0 h0 a0 b0 s1 h1 a1 b1 s2 h2 a2 b2 s3 h3 a3 b3 s4 h4 a4 b4 s5 h5 a5 b5 r0 r1 r2 r3 r4 r5 v0 v1 v2 v3 y0 y1 y2 y3 y4 y5 c0 c1 c2 c3 c4 c5 hsi hmi hri
    rw [hbit, hpi] at G
    rw [G, H]
    generalize holdsB (selB [h0, h1, h2, h3, h4, h5] i) (selI [a0, a1, a2, a3, a4, a5] i) (selI [b0, b1, b2, b3, b4, b5] i) (decide (x / 2 ^ i % 2 = 1)) (selI [v0, v1, v2, v3] (Int.toNat (selI [s0, s1, s2, s3, s4, s5] i))) = hb
    generalize hnew : newRun hb (selI [r0, r1, r2, r3, r4, r5] i) deb = new
    generalize ht : turns hb (selI [r0, r1, r2, r3, r4, r5] i) deb = tn
    have hnum : (bif xor (decide (x / 2 ^ i % 2 = 1)) tn then out + 2 ^ i else out) < 2 ^ (i + 1) ∧
        (bif tn then turned cur i else cur) = (bif xor (decide (x / 2 ^ i % 2 = 1)) tn then out + 2 ^ i else out) + x / 2 ^ (i + 1) * 2 ^ (i + 1) := by
      unfold turned
      by_cases hb1 : x / 2 ^ i % 2 = 1
      · have hb2 : cur / 2 ^ i % 2 = 1 := by
          have := hbit
          rw [decide_eq_decide] at this
          exact this.2 hb1
        cases tn <;> simp only [hb1, hb2, decide_true, Bool.xor_false, Bool.xor_true, Bool.not_true, cond_true, cond_false, if_true]
        all_goals
          match i, hi5 with
          | 0, _ => omega
          | 1, _ => omega
          | 2, _ => omega
          | 3, _ => omega
          | 4, _ => omega
          | 5, _ => omega
      · have hb2 : ¬ cur / 2 ^ i % 2 = 1 := by
          have := hbit
          rw [decide_eq_decide] at this
          exact fun h => hb1 (this.1 h)
        cases tn <;> simp only [hb1, hb2, decide_false, Bool.xor_false, Bool.xor_true, Bool.not_false, cond_true, cond_false, if_false]
        all_goals
          match i, hi5 with
          | 0, _ => omega
          | 1, _ => omega
          | 2, _ => omega
          | 3, _ => omega
          | 4, _ => omega
          | 5, _ => omega
    have key := ih (i + 1) (by omega) n _ _ (bif Nat.beq i 0 then new else p0) (bif Nat.beq i 1 then new else p1) (bif Nat.beq i 2 then new else p2) (bif Nat.beq i 3 then new else p3) (bif Nat.beq i 4 then new else p4) (bif Nat.beq i 5 then new else p5) (bif Nat.beq i 0 then new else c0) (bif Nat.beq i 1 then new else c1) (bif Nat.beq i 2 then new else c2) (bif Nat.beq i 3 then new else c3) (bif Nat.beq i 4 then new else c4) (bif Nat.beq i 5 then new else c5) (by omega) hnum.1 hnum.2
    match i, hi5 with
    | 0, _ => exact key rfl g1 g2 g3 g4 g5
    | 1, _ => exact key g0 rfl g2 g3 g4 g5
    | 2, _ => exact key g0 g1 rfl g3 g4 g5
    | 3, _ => exact key g0 g1 g2 rfl g4 g5
    | 4, _ => exact key g0 g1 g2 g3 rfl g5
    | 5, _ => exact key g0 g1 g2 g3 g4 rfl

/-- Where all is as it may be both steps come to the same. -/
theorem rstep_same (r0 r1 r2 r3 r4 r5 v0 v1 v2 v3 deb r : Int) (s0 : Int) (h0 : Bool) (a0 b0 : Int) (s1 : Int) (h1 : Bool) (a1 b1 : Int) (s2 : Int) (h2 : Bool) (a2 b2 : Int) (s3 : Int) (h3 : Bool) (a3 b3 : Int) (s4 : Int) (h4 : Bool) (a4 b4 : Int) (s5 : Int) (h5 : Bool) (a5 b5 : Int) (hB : (mayAll s0 a0 b0 s1 a1 b1 s2 a2 b2 s3 a3 b3 s4 a4 b4 s5 a5 b5 && decide (1 ≤ deb ∧ deb ≤ 31)) = true) (hr : 0 ≤ r ∧ r ≤ 63) (q0 : rin deb r0) (q1 : rin deb r1) (q2 : rin deb r2) (q3 : rin deb r3) (q4 : rin deb r4) (q5 : rin deb r5) : r20_Step_g 20000 s0 h0 a0 b0 s1 h1 a1 b1 s2 h2 a2 b2 s3 h3 a3 b3 s4 h4 a4 b4 s5 h5 a5 b5 deb r r0 r1 r2 r3 r4 r5 v0 v1 v2 v3 = guard_Step_g 20000 s0 h0 a0 b0 s1 h1 a1 b1 s2 h2 a2 b2 s3 h3 a3 b3 s4 h4 a4 b4 s5 h5 a5 b5 deb r r0 r1 r2 r3 r4 r5 v0 v1 v2 v3 := by
  unfold guard_Step_g r20_Step_g
  rw [check_k, rcheck_k]
  unfold checkB
  rw [hB]
  rw [Bool.and_eq_true] at hB
  have hd : 1 ≤ deb ∧ deb ≤ 31 := of_decide_eq_true hB.2
  have hall := hB.1
  unfold mayAll at hall
  simp only [Bool.and_eq_true] at hall
  obtain ⟨hm0, hm1, hm2, hm3, hm4, hm5⟩ := hall
  have rng : ∀ (s a b : Int), mayB s a b = true → 0 ≤ s ∧ s < 4 := fun s a b h => may_src h
  have d0 : ((0 : Int) != 0) = false := rfl
  have e1 : decide (0 ≤ r ∧ r ≤ 63) = true := decide_eq_true hr
  have e2 : decide (r < 0) = false := decide_eq_false (by omega)
  have e3 : decide (r > 63) = false := decide_eq_false (by omega)
  rw [within_k]
  simp only [Option.bind_some, cond_true, d0, cond_false, e1, e2, e3, Bool.not_true]
  rw [wi64_id (x := deb - 1) (by omega) (by omega), within_true 0 (deb - 1) 6 _ (by omega) (fun j hj => sel_in q0 q1 q2 q3 q4 q5 j hj)]
  simp only [Option.bind_some, Bool.not_true, cond_false]
  obtain ⟨x, rfl⟩ : ∃ x : Nat, r = x := ⟨r.toNat, by omega⟩
  have hx : x < 64 := by omega
  obtain ⟨o, f0, f1, f2, f3, f4, f5, ho, G, H⟩ := steps_agree x hx deb hd s0 h0 a0 b0 s1 h1 a1 b1 s2 h2 a2 b2 s3 h3 a3 b3 s4 h4 a4 b4 s5 h5 a5 b5 r0 r1 r2 r3 r4 r5 v0 v1 v2 v3 0 0 0 0 0 0 0 0 0 0 0 0 (rng _ _ _ hm0) (rng _ _ _ hm1) (rng _ _ _ hm2) (rng _ _ _ hm3) (rng _ _ _ hm4) (rng _ _ _ hm5) hm0 hm1 hm2 hm3 hm4 hm5 ⟨q0.1, by have := q0.2; omega⟩ ⟨q1.1, by have := q1.2; omega⟩ ⟨q2.1, by have := q2.2; omega⟩ ⟨q3.1, by have := q3.2; omega⟩ ⟨q4.1, by have := q4.2; omega⟩ ⟨q5.1, by have := q5.2; omega⟩
    6 0 rfl 20000 x 0 r0 r1 r2 r3 r4 r5 0 0 0 0 0 0 (by omega) (by omega) (by simp) rfl rfl rfl rfl rfl rfl
  have G' : guard_Step_l0 20000 20000 deb (x : Int) s0 h0 a0 b0 s1 h1 a1 b1 s2 h2 a2 b2 s3 h3 a3 b3 s4 h4 a4 b4 s5 h5 a5 b5 0 r0 r1 r2 r3 r4 r5 v0 v1 v2 v3 0 0 0 0 0 0 = _ := G
  have H' : r20_Step_l0 20000 20000 deb (x : Int) 0 0 s0 h0 a0 b0 s1 h1 a1 b1 s2 h2 a2 b2 s3 h3 a3 b3 s4 h4 a4 b4 s5 h5 a5 b5 r0 r1 r2 r3 r4 r5 v0 v1 v2 v3 0 0 0 0 0 0 0 0 0 0 0 0 = _ := H
  rw [G', H']
  rfl
end Go.Proofs.YtjmbhhinmbgneaaGreat.PG
