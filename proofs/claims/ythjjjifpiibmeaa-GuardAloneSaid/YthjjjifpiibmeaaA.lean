/-
  Law 20 (guard), the plain part of GuardAlone: each alarm of a whole step steps as it does alone.
-/
import Derived.Test.YthjjjifpiibmeaaQ
namespace Go.Proofs.Ythjjjifpiibmeaa
open Go.Sy
set_option maxHeartbeats 2000000

def bt (x i : Nat) : Bool := decide (x / 2 ^ i % 2 = 1)
def tg (x i : Nat) (t : Bool) : Nat := bif t then turned x i else x

theorem tgs0 : ∀ x : Nat, x < 64 → ∀ t0 t1 t2 t3 t4 t5 : Bool,
    (tg x 0 t0 < 64 ∧ bt (tg x 0 t0) 1 = bt x 1) ∧ (tg (tg x 0 t0) 1 t1 < 64 ∧ bt (tg (tg x 0 t0) 1 t1) 2 = bt x 2) ∧ (tg (tg (tg x 0 t0) 1 t1) 2 t2 < 64 ∧ bt (tg (tg (tg x 0 t0) 1 t1) 2 t2) 3 = bt x 3) ∧
    (tg (tg (tg (tg x 0 t0) 1 t1) 2 t2) 3 t3 < 64 ∧ bt (tg (tg (tg (tg x 0 t0) 1 t1) 2 t2) 3 t3) 4 = bt x 4) ∧ (tg (tg (tg (tg (tg x 0 t0) 1 t1) 2 t2) 3 t3) 4 t4 < 64 ∧ bt (tg (tg (tg (tg (tg x 0 t0) 1 t1) 2 t2) 3 t3) 4 t4) 5 = bt x 5) ∧
    (tg (tg (tg (tg (tg (tg x 0 t0) 1 t1) 2 t2) 3 t3) 4 t4) 5 t5 < 64 ∧ bt (tg (tg (tg (tg (tg (tg x 0 t0) 1 t1) 2 t2) 3 t3) 4 t4) 5 t5) 0 = xor (bt x 0) t0 ∧ bt (tg (tg (tg (tg (tg (tg x 0 t0) 1 t1) 2 t2) 3 t3) 4 t4) 5 t5) 1 = xor (bt x 1) t1 ∧
      bt (tg (tg (tg (tg (tg (tg x 0 t0) 1 t1) 2 t2) 3 t3) 4 t4) 5 t5) 2 = xor (bt x 2) t2 ∧ bt (tg (tg (tg (tg (tg (tg x 0 t0) 1 t1) 2 t2) 3 t3) 4 t4) 5 t5) 3 = xor (bt x 3) t3 ∧ bt (tg (tg (tg (tg (tg (tg x 0 t0) 1 t1) 2 t2) 3 t3) 4 t4) 5 t5) 4 = xor (bt x 4) t4 ∧ bt (tg (tg (tg (tg (tg (tg x 0 t0) 1 t1) 2 t2) 3 t3) 4 t4) 5 t5) 5 = xor (bt x 5) t5) := by decide +kernel

def tgx0 (x : Nat) (t : Bool) : Nat := tg x 0 t

theorem has_in : ∀ x : Nat, x < 64 → ∀ i : Nat, i < 6 → ((guard_List_g 1000 (x : Int)).bind fun q => rheostatbase_HasInt_g 1000 q.1 (i : Int) q.2.1) = some (bt x i, ()) := by decide +kernel
theorem len_in : ∀ x : Nat, x < 64 → ((guard_List_g 1000 (x : Int)).map fun q => decide (((q.1 : Nat) : Int) ≤ 6)) = some true := by decide +kernel

theorem one_turn (so : Int) (hi : Bool) (at' ba deb : Int) (ra : Bool) (run v : Int) (hm : mayB so at' ba = true) (hd : 1 ≤ deb ∧ deb ≤ 31) (hr : 0 ≤ run ∧ run < deb) :
    oneB so hi at' ba deb ra run v = (xor ra (turns (holdsB hi at' ba ra v) run deb), newRun (holdsB hi at' ba ra v) run deb, 0, ()) := by
  unfold oneB turns newRun
  rw [if_pos ⟨hm, hd.1, hd.2, hr.1, hr.2⟩, wi64_id (x := run + 1) (by omega) (by omega)]
  cases holdsB hi at' ba ra v
  · simp
  · by_cases h : run + 1 = deb
    · have h' : (run + 1 == deb) = true := by simpa using h
      simp [h]
    · have h' : (run + 1 == deb) = false := by simpa using h
      simp [h, h']

theorem loop_alone (x : Nat) (hx : x < 64) (deb : Int) (s0 : Int) (h0 : Bool) (a0 b0 : Int) (s1 : Int) (h1 : Bool) (a1 b1 : Int) (s2 : Int) (h2 : Bool) (a2 b2 : Int) (s3 : Int) (h3 : Bool) (a3 b3 : Int) (s4 : Int) (h4 : Bool) (a4 b4 : Int) (s5 : Int) (h5 : Bool) (a5 b5 : Int) (r0 r1 r2 r3 r4 r5 v0 v1 v2 v3 z0 z1 z2 z3 z4 z5 : Int) (hs0 : 0 ≤ s0 ∧ s0 < 4) (hs1 : 0 ≤ s1 ∧ s1 < 4) (hs2 : 0 ≤ s2 ∧ s2 < 4) (hs3 : 0 ≤ s3 ∧ s3 < 4) (hs4 : 0 ≤ s4 ∧ s4 < 4) (hs5 : 0 ≤ s5 ∧ s5 < 4) :
    ∃ o : Nat, o < 64 ∧ (bt o 0 = xor (bt x 0) (turns (holdsB h0 a0 b0 (bt x 0) (selI [v0, v1, v2, v3] (Int.toNat s0))) r0 deb) ∧ bt o 1 = xor (bt x 1) (turns (holdsB h1 a1 b1 (bt x 1) (selI [v0, v1, v2, v3] (Int.toNat s1))) r1 deb) ∧ bt o 2 = xor (bt x 2) (turns (holdsB h2 a2 b2 (bt x 2) (selI [v0, v1, v2, v3] (Int.toNat s2))) r2 deb) ∧ bt o 3 = xor (bt x 3) (turns (holdsB h3 a3 b3 (bt x 3) (selI [v0, v1, v2, v3] (Int.toNat s3))) r3 deb) ∧ bt o 4 = xor (bt x 4) (turns (holdsB h4 a4 b4 (bt x 4) (selI [v0, v1, v2, v3] (Int.toNat s4))) r4 deb) ∧ bt o 5 = xor (bt x 5) (turns (holdsB h5 a5 b5 (bt x 5) (selI [v0, v1, v2, v3] (Int.toNat s5))) r5 deb)) ∧ guard_Step_l0 1000 1000 deb (x : Int) s0 h0 a0 b0 s1 h1 a1 b1 s2 h2 a2 b2 s3 h3 a3 b3 s4 h4 a4 b4 s5 h5 a5 b5 0 r0 r1 r2 r3 r4 r5 v0 v1 v2 v3 z0 z1 z2 z3 z4 z5 = some ((o : Int), (newRun (holdsB h0 a0 b0 (bt x 0) (selI [v0, v1, v2, v3] (Int.toNat s0))) r0 deb), (newRun (holdsB h1 a1 b1 (bt x 1) (selI [v0, v1, v2, v3] (Int.toNat s1))) r1 deb), (newRun (holdsB h2 a2 b2 (bt x 2) (selI [v0, v1, v2, v3] (Int.toNat s2))) r2 deb), (newRun (holdsB h3 a3 b3 (bt x 3) (selI [v0, v1, v2, v3] (Int.toNat s3))) r3 deb), (newRun (holdsB h4 a4 b4 (bt x 4) (selI [v0, v1, v2, v3] (Int.toNat s4))) r4 deb), (newRun (holdsB h5 a5 b5 (bt x 5) (selI [v0, v1, v2, v3] (Int.toNat s5))) r5 deb), z0, z1, z2, z3, z4, z5, ()) := by
  have k := tgs0 x hx (turns (holdsB h0 a0 b0 (bt x 0) (selI [v0, v1, v2, v3] (Int.toNat s0))) r0 deb) (turns (holdsB h1 a1 b1 (bt x 1) (selI [v0, v1, v2, v3] (Int.toNat s1))) r1 deb) (turns (holdsB h2 a2 b2 (bt x 2) (selI [v0, v1, v2, v3] (Int.toNat s2))) r2 deb) (turns (holdsB h3 a3 b3 (bt x 3) (selI [v0, v1, v2, v3] (Int.toNat s3))) r3 deb) (turns (holdsB h4 a4 b4 (bt x 4) (selI [v0, v1, v2, v3] (Int.toNat s4))) r4 deb) (turns (holdsB h5 a5 b5 (bt x 5) (selI [v0, v1, v2, v3] (Int.toNat s5))) r5 deb)
  obtain ⟨⟨k0, e1⟩, ⟨k1, e2⟩, ⟨k2, e3⟩, ⟨k3, e4⟩, ⟨k4, e5⟩, k5, m0, m1, m2, m3, m4, m5⟩ := k
  obtain ⟨x1, q0⟩ : ∃ y, y = tg x 0 (turns (holdsB h0 a0 b0 (bt x 0) (selI [v0, v1, v2, v3] (Int.toNat s0))) r0 deb) := ⟨_, rfl⟩
  obtain ⟨x2, q1⟩ : ∃ y, y = tg x1 1 (turns (holdsB h1 a1 b1 (bt x 1) (selI [v0, v1, v2, v3] (Int.toNat s1))) r1 deb) := ⟨_, rfl⟩
  obtain ⟨x3, q2⟩ : ∃ y, y = tg x2 2 (turns (holdsB h2 a2 b2 (bt x 2) (selI [v0, v1, v2, v3] (Int.toNat s2))) r2 deb) := ⟨_, rfl⟩
  obtain ⟨x4, q3⟩ : ∃ y, y = tg x3 3 (turns (holdsB h3 a3 b3 (bt x 3) (selI [v0, v1, v2, v3] (Int.toNat s3))) r3 deb) := ⟨_, rfl⟩
  obtain ⟨x5, q4⟩ : ∃ y, y = tg x4 4 (turns (holdsB h4 a4 b4 (bt x 4) (selI [v0, v1, v2, v3] (Int.toNat s4))) r4 deb) := ⟨_, rfl⟩
  obtain ⟨x6, q5⟩ : ∃ y, y = tg x5 5 (turns (holdsB h5 a5 b5 (bt x 5) (selI [v0, v1, v2, v3] (Int.toNat s5))) r5 deb) := ⟨_, rfl⟩
  rw [← q0] at k0 e1 k1 e2 k2 e3 k3 e4 k4 e5 k5 m0 m1 m2 m3 m4 m5
  rw [← q1] at k1 e2 k2 e3 k3 e4 k4 e5 k5 m0 m1 m2 m3 m4 m5
  rw [← q2] at k2 e3 k3 e4 k4 e5 k5 m0 m1 m2 m3 m4 m5
  rw [← q3] at k3 e4 k4 e5 k5 m0 m1 m2 m3 m4 m5
  rw [← q4] at k4 e5 k5 m0 m1 m2 m3 m4 m5
  rw [← q5] at k5 m0 m1 m2 m3 m4 m5
  refine ⟨x6, k5, ⟨m0, m1, m2, m3, m4, m5⟩, ?_⟩
  have c0 : guard_Step_l0 1000 1000 deb (x : Int) s0 h0 a0 b0 s1 h1 a1 b1 s2 h2 a2 b2 s3 h3 a3 b3 s4 h4 a4 b4 s5 h5 a5 b5 ((0 : Nat) : Int) r0 r1 r2 r3 r4 r5 v0 v1 v2 v3 z0 z1 z2 z3 z4 z5 = guard_Step_l0 1000 999 deb (x1 : Int) s0 h0 a0 b0 s1 h1 a1 b1 s2 h2 a2 b2 s3 h3 a3 b3 s4 h4 a4 b4 s5 h5 a5 b5 ((1 : Nat) : Int) (newRun (holdsB h0 a0 b0 (bt x 0) (selI [v0, v1, v2, v3] (Int.toNat s0))) r0 deb) r1 r2 r3 r4 r5 v0 v1 v2 v3 z0 z1 z2 z3 z4 z5 := by
    rw [q0]
    exact gs_round 999 0 x (by omega) hx deb s0 h0 a0 b0 s1 h1 a1 b1 s2 h2 a2 b2 s3 h3 a3 b3 s4 h4 a4 b4 s5 h5 a5 b5 r0 r1 r2 r3 r4 r5 v0 v1 v2 v3 z0 z1 z2 z3 z4 z5 hs0
  have c1 : guard_Step_l0 1000 999 deb (x1 : Int) s0 h0 a0 b0 s1 h1 a1 b1 s2 h2 a2 b2 s3 h3 a3 b3 s4 h4 a4 b4 s5 h5 a5 b5 ((1 : Nat) : Int) (newRun (holdsB h0 a0 b0 (bt x 0) (selI [v0, v1, v2, v3] (Int.toNat s0))) r0 deb) r1 r2 r3 r4 r5 v0 v1 v2 v3 z0 z1 z2 z3 z4 z5 = guard_Step_l0 1000 998 deb (x2 : Int) s0 h0 a0 b0 s1 h1 a1 b1 s2 h2 a2 b2 s3 h3 a3 b3 s4 h4 a4 b4 s5 h5 a5 b5 ((2 : Nat) : Int) (newRun (holdsB h0 a0 b0 (bt x 0) (selI [v0, v1, v2, v3] (Int.toNat s0))) r0 deb) (newRun (holdsB h1 a1 b1 (bt x 1) (selI [v0, v1, v2, v3] (Int.toNat s1))) r1 deb) r2 r3 r4 r5 v0 v1 v2 v3 z0 z1 z2 z3 z4 z5 := by
    rw [q1, ← e1]
    have := gs_round 998 1 x1 (by omega) k0 deb s0 h0 a0 b0 s1 h1 a1 b1 s2 h2 a2 b2 s3 h3 a3 b3 s4 h4 a4 b4 s5 h5 a5 b5 (newRun (holdsB h0 a0 b0 (bt x 0) (selI [v0, v1, v2, v3] (Int.toNat s0))) r0 deb) r1 r2 r3 r4 r5 v0 v1 v2 v3 z0 z1 z2 z3 z4 z5 hs1
    exact this
  have c2 : guard_Step_l0 1000 998 deb (x2 : Int) s0 h0 a0 b0 s1 h1 a1 b1 s2 h2 a2 b2 s3 h3 a3 b3 s4 h4 a4 b4 s5 h5 a5 b5 ((2 : Nat) : Int) (newRun (holdsB h0 a0 b0 (bt x 0) (selI [v0, v1, v2, v3] (Int.toNat s0))) r0 deb) (newRun (holdsB h1 a1 b1 (bt x 1) (selI [v0, v1, v2, v3] (Int.toNat s1))) r1 deb) r2 r3 r4 r5 v0 v1 v2 v3 z0 z1 z2 z3 z4 z5 = guard_Step_l0 1000 997 deb (x3 : Int) s0 h0 a0 b0 s1 h1 a1 b1 s2 h2 a2 b2 s3 h3 a3 b3 s4 h4 a4 b4 s5 h5 a5 b5 ((3 : Nat) : Int) (newRun (holdsB h0 a0 b0 (bt x 0) (selI [v0, v1, v2, v3] (Int.toNat s0))) r0 deb) (newRun (holdsB h1 a1 b1 (bt x 1) (selI [v0, v1, v2, v3] (Int.toNat s1))) r1 deb) (newRun (holdsB h2 a2 b2 (bt x 2) (selI [v0, v1, v2, v3] (Int.toNat s2))) r2 deb) r3 r4 r5 v0 v1 v2 v3 z0 z1 z2 z3 z4 z5 := by
    rw [q2, ← e2]
    have := gs_round 997 2 x2 (by omega) k1 deb s0 h0 a0 b0 s1 h1 a1 b1 s2 h2 a2 b2 s3 h3 a3 b3 s4 h4 a4 b4 s5 h5 a5 b5 (newRun (holdsB h0 a0 b0 (bt x 0) (selI [v0, v1, v2, v3] (Int.toNat s0))) r0 deb) (newRun (holdsB h1 a1 b1 (bt x 1) (selI [v0, v1, v2, v3] (Int.toNat s1))) r1 deb) r2 r3 r4 r5 v0 v1 v2 v3 z0 z1 z2 z3 z4 z5 hs2
    exact this
  have c3 : guard_Step_l0 1000 997 deb (x3 : Int) s0 h0 a0 b0 s1 h1 a1 b1 s2 h2 a2 b2 s3 h3 a3 b3 s4 h4 a4 b4 s5 h5 a5 b5 ((3 : Nat) : Int) (newRun (holdsB h0 a0 b0 (bt x 0) (selI [v0, v1, v2, v3] (Int.toNat s0))) r0 deb) (newRun (holdsB h1 a1 b1 (bt x 1) (selI [v0, v1, v2, v3] (Int.toNat s1))) r1 deb) (newRun (holdsB h2 a2 b2 (bt x 2) (selI [v0, v1, v2, v3] (Int.toNat s2))) r2 deb) r3 r4 r5 v0 v1 v2 v3 z0 z1 z2 z3 z4 z5 = guard_Step_l0 1000 996 deb (x4 : Int) s0 h0 a0 b0 s1 h1 a1 b1 s2 h2 a2 b2 s3 h3 a3 b3 s4 h4 a4 b4 s5 h5 a5 b5 ((4 : Nat) : Int) (newRun (holdsB h0 a0 b0 (bt x 0) (selI [v0, v1, v2, v3] (Int.toNat s0))) r0 deb) (newRun (holdsB h1 a1 b1 (bt x 1) (selI [v0, v1, v2, v3] (Int.toNat s1))) r1 deb) (newRun (holdsB h2 a2 b2 (bt x 2) (selI [v0, v1, v2, v3] (Int.toNat s2))) r2 deb) (newRun (holdsB h3 a3 b3 (bt x 3) (selI [v0, v1, v2, v3] (Int.toNat s3))) r3 deb) r4 r5 v0 v1 v2 v3 z0 z1 z2 z3 z4 z5 := by
    rw [q3, ← e3]
    have := gs_round 996 3 x3 (by omega) k2 deb s0 h0 a0 b0 s1 h1 a1 b1 s2 h2 a2 b2 s3 h3 a3 b3 s4 h4 a4 b4 s5 h5 a5 b5 (newRun (holdsB h0 a0 b0 (bt x 0) (selI [v0, v1, v2, v3] (Int.toNat s0))) r0 deb) (newRun (holdsB h1 a1 b1 (bt x 1) (selI [v0, v1, v2, v3] (Int.toNat s1))) r1 deb) (newRun (holdsB h2 a2 b2 (bt x 2) (selI [v0, v1, v2, v3] (Int.toNat s2))) r2 deb) r3 r4 r5 v0 v1 v2 v3 z0 z1 z2 z3 z4 z5 hs3
    exact this
  have c4 : guard_Step_l0 1000 996 deb (x4 : Int) s0 h0 a0 b0 s1 h1 a1 b1 s2 h2 a2 b2 s3 h3 a3 b3 s4 h4 a4 b4 s5 h5 a5 b5 ((4 : Nat) : Int) (newRun (holdsB h0 a0 b0 (bt x 0) (selI [v0, v1, v2, v3] (Int.toNat s0))) r0 deb) (newRun (holdsB h1 a1 b1 (bt x 1) (selI [v0, v1, v2, v3] (Int.toNat s1))) r1 deb) (newRun (holdsB h2 a2 b2 (bt x 2) (selI [v0, v1, v2, v3] (Int.toNat s2))) r2 deb) (newRun (holdsB h3 a3 b3 (bt x 3) (selI [v0, v1, v2, v3] (Int.toNat s3))) r3 deb) r4 r5 v0 v1 v2 v3 z0 z1 z2 z3 z4 z5 = guard_Step_l0 1000 995 deb (x5 : Int) s0 h0 a0 b0 s1 h1 a1 b1 s2 h2 a2 b2 s3 h3 a3 b3 s4 h4 a4 b4 s5 h5 a5 b5 ((5 : Nat) : Int) (newRun (holdsB h0 a0 b0 (bt x 0) (selI [v0, v1, v2, v3] (Int.toNat s0))) r0 deb) (newRun (holdsB h1 a1 b1 (bt x 1) (selI [v0, v1, v2, v3] (Int.toNat s1))) r1 deb) (newRun (holdsB h2 a2 b2 (bt x 2) (selI [v0, v1, v2, v3] (Int.toNat s2))) r2 deb) (newRun (holdsB h3 a3 b3 (bt x 3) (selI [v0, v1, v2, v3] (Int.toNat s3))) r3 deb) (newRun (holdsB h4 a4 b4 (bt x 4) (selI [v0, v1, v2, v3] (Int.toNat s4))) r4 deb) r5 v0 v1 v2 v3 z0 z1 z2 z3 z4 z5 := by
    rw [q4, ← e4]
    have := gs_round 995 4 x4 (by omega) k3 deb s0 h0 a0 b0 s1 h1 a1 b1 s2 h2 a2 b2 s3 h3 a3 b3 s4 h4 a4 b4 s5 h5 a5 b5 (newRun (holdsB h0 a0 b0 (bt x 0) (selI [v0, v1, v2, v3] (Int.toNat s0))) r0 deb) (newRun (holdsB h1 a1 b1 (bt x 1) (selI [v0, v1, v2, v3] (Int.toNat s1))) r1 deb) (newRun (holdsB h2 a2 b2 (bt x 2) (selI [v0, v1, v2, v3] (Int.toNat s2))) r2 deb) (newRun (holdsB h3 a3 b3 (bt x 3) (selI [v0, v1, v2, v3] (Int.toNat s3))) r3 deb) r4 r5 v0 v1 v2 v3 z0 z1 z2 z3 z4 z5 hs4
    exact this
  have c5 : guard_Step_l0 1000 995 deb (x5 : Int) s0 h0 a0 b0 s1 h1 a1 b1 s2 h2 a2 b2 s3 h3 a3 b3 s4 h4 a4 b4 s5 h5 a5 b5 ((5 : Nat) : Int) (newRun (holdsB h0 a0 b0 (bt x 0) (selI [v0, v1, v2, v3] (Int.toNat s0))) r0 deb) (newRun (holdsB h1 a1 b1 (bt x 1) (selI [v0, v1, v2, v3] (Int.toNat s1))) r1 deb) (newRun (holdsB h2 a2 b2 (bt x 2) (selI [v0, v1, v2, v3] (Int.toNat s2))) r2 deb) (newRun (holdsB h3 a3 b3 (bt x 3) (selI [v0, v1, v2, v3] (Int.toNat s3))) r3 deb) (newRun (holdsB h4 a4 b4 (bt x 4) (selI [v0, v1, v2, v3] (Int.toNat s4))) r4 deb) r5 v0 v1 v2 v3 z0 z1 z2 z3 z4 z5 = guard_Step_l0 1000 994 deb (x6 : Int) s0 h0 a0 b0 s1 h1 a1 b1 s2 h2 a2 b2 s3 h3 a3 b3 s4 h4 a4 b4 s5 h5 a5 b5 ((6 : Nat) : Int) (newRun (holdsB h0 a0 b0 (bt x 0) (selI [v0, v1, v2, v3] (Int.toNat s0))) r0 deb) (newRun (holdsB h1 a1 b1 (bt x 1) (selI [v0, v1, v2, v3] (Int.toNat s1))) r1 deb) (newRun (holdsB h2 a2 b2 (bt x 2) (selI [v0, v1, v2, v3] (Int.toNat s2))) r2 deb) (newRun (holdsB h3 a3 b3 (bt x 3) (selI [v0, v1, v2, v3] (Int.toNat s3))) r3 deb) (newRun (holdsB h4 a4 b4 (bt x 4) (selI [v0, v1, v2, v3] (Int.toNat s4))) r4 deb) (newRun (holdsB h5 a5 b5 (bt x 5) (selI [v0, v1, v2, v3] (Int.toNat s5))) r5 deb) v0 v1 v2 v3 z0 z1 z2 z3 z4 z5 := by
    rw [q5, ← e5]
    have := gs_round 994 5 x5 (by omega) k4 deb s0 h0 a0 b0 s1 h1 a1 b1 s2 h2 a2 b2 s3 h3 a3 b3 s4 h4 a4 b4 s5 h5 a5 b5 (newRun (holdsB h0 a0 b0 (bt x 0) (selI [v0, v1, v2, v3] (Int.toNat s0))) r0 deb) (newRun (holdsB h1 a1 b1 (bt x 1) (selI [v0, v1, v2, v3] (Int.toNat s1))) r1 deb) (newRun (holdsB h2 a2 b2 (bt x 2) (selI [v0, v1, v2, v3] (Int.toNat s2))) r2 deb) (newRun (holdsB h3 a3 b3 (bt x 3) (selI [v0, v1, v2, v3] (Int.toNat s3))) r3 deb) (newRun (holdsB h4 a4 b4 (bt x 4) (selI [v0, v1, v2, v3] (Int.toNat s4))) r4 deb) r5 v0 v1 v2 v3 z0 z1 z2 z3 z4 z5 hs5
    exact this
  have c6 : guard_Step_l0 1000 994 deb (x6 : Int) s0 h0 a0 b0 s1 h1 a1 b1 s2 h2 a2 b2 s3 h3 a3 b3 s4 h4 a4 b4 s5 h5 a5 b5 ((6 : Nat) : Int) (newRun (holdsB h0 a0 b0 (bt x 0) (selI [v0, v1, v2, v3] (Int.toNat s0))) r0 deb) (newRun (holdsB h1 a1 b1 (bt x 1) (selI [v0, v1, v2, v3] (Int.toNat s1))) r1 deb) (newRun (holdsB h2 a2 b2 (bt x 2) (selI [v0, v1, v2, v3] (Int.toNat s2))) r2 deb) (newRun (holdsB h3 a3 b3 (bt x 3) (selI [v0, v1, v2, v3] (Int.toNat s3))) r3 deb) (newRun (holdsB h4 a4 b4 (bt x 4) (selI [v0, v1, v2, v3] (Int.toNat s4))) r4 deb) (newRun (holdsB h5 a5 b5 (bt x 5) (selI [v0, v1, v2, v3] (Int.toNat s5))) r5 deb) v0 v1 v2 v3 z0 z1 z2 z3 z4 z5 = some ((x6 : Int), (newRun (holdsB h0 a0 b0 (bt x 0) (selI [v0, v1, v2, v3] (Int.toNat s0))) r0 deb), (newRun (holdsB h1 a1 b1 (bt x 1) (selI [v0, v1, v2, v3] (Int.toNat s1))) r1 deb), (newRun (holdsB h2 a2 b2 (bt x 2) (selI [v0, v1, v2, v3] (Int.toNat s2))) r2 deb), (newRun (holdsB h3 a3 b3 (bt x 3) (selI [v0, v1, v2, v3] (Int.toNat s3))) r3 deb), (newRun (holdsB h4 a4 b4 (bt x 4) (selI [v0, v1, v2, v3] (Int.toNat s4))) r4 deb), (newRun (holdsB h5 a5 b5 (bt x 5) (selI [v0, v1, v2, v3] (Int.toNat s5))) r5 deb), z0, z1, z2, z3, z4, z5, ()) := rfl
  have c : guard_Step_l0 1000 1000 deb (x : Int) s0 h0 a0 b0 s1 h1 a1 b1 s2 h2 a2 b2 s3 h3 a3 b3 s4 h4 a4 b4 s5 h5 a5 b5 0 r0 r1 r2 r3 r4 r5 v0 v1 v2 v3 z0 z1 z2 z3 z4 z5 = guard_Step_l0 1000 1000 deb (x : Int) s0 h0 a0 b0 s1 h1 a1 b1 s2 h2 a2 b2 s3 h3 a3 b3 s4 h4 a4 b4 s5 h5 a5 b5 ((0 : Nat) : Int) r0 r1 r2 r3 r4 r5 v0 v1 v2 v3 z0 z1 z2 z3 z4 z5 := rfl
  rw [c, c0, c1, c2, c3, c4, c5, c6]

theorem step_alone (r r0 r1 r2 r3 r4 r5 v0 v1 v2 v3 deb : Int) (s0 : Int) (h0 : Bool) (a0 b0 : Int) (s1 : Int) (h1 : Bool) (a1 b1 : Int) (s2 : Int) (h2 : Bool) (a2 b2 : Int) (s3 : Int) (h3 : Bool) (a3 b3 : Int) (s4 : Int) (h4 : Bool) (a4 b4 : Int) (s5 : Int) (h5 : Bool) (a5 b5 : Int) : ∃ q, guard_Step_g 1000 s0 h0 a0 b0 s1 h1 a1 b1 s2 h2 a2 b2 s3 h3 a3 b3 s4 h4 a4 b4 s5 h5 a5 b5 deb r r0 r1 r2 r3 r4 r5 v0 v1 v2 v3 = some q ∧ (q = (0, 0, 0, 0, 0, 0, 0, 2, ()) ∨
    ∃ x o : Nat, r = x ∧ x < 64 ∧ o < 64 ∧ (1 ≤ deb ∧ deb ≤ 31) ∧ (mayB s0 a0 b0 = true ∧ (0 ≤ r0 ∧ r0 < deb) ∧ mayB s1 a1 b1 = true ∧ (0 ≤ r1 ∧ r1 < deb) ∧ mayB s2 a2 b2 = true ∧ (0 ≤ r2 ∧ r2 < deb) ∧ mayB s3 a3 b3 = true ∧ (0 ≤ r3 ∧ r3 < deb) ∧ mayB s4 a4 b4 = true ∧ (0 ≤ r4 ∧ r4 < deb) ∧ mayB s5 a5 b5 = true ∧ (0 ≤ r5 ∧ r5 < deb)) ∧ (bt o 0 = xor (bt x 0) (turns (holdsB h0 a0 b0 (bt x 0) (selI [v0, v1, v2, v3] (Int.toNat s0))) r0 deb) ∧ bt o 1 = xor (bt x 1) (turns (holdsB h1 a1 b1 (bt x 1) (selI [v0, v1, v2, v3] (Int.toNat s1))) r1 deb) ∧ bt o 2 = xor (bt x 2) (turns (holdsB h2 a2 b2 (bt x 2) (selI [v0, v1, v2, v3] (Int.toNat s2))) r2 deb) ∧ bt o 3 = xor (bt x 3) (turns (holdsB h3 a3 b3 (bt x 3) (selI [v0, v1, v2, v3] (Int.toNat s3))) r3 deb) ∧ bt o 4 = xor (bt x 4) (turns (holdsB h4 a4 b4 (bt x 4) (selI [v0, v1, v2, v3] (Int.toNat s4))) r4 deb) ∧ bt o 5 = xor (bt x 5) (turns (holdsB h5 a5 b5 (bt x 5) (selI [v0, v1, v2, v3] (Int.toNat s5))) r5 deb)) ∧ q = ((o : Int), (newRun (holdsB h0 a0 b0 (bt x 0) (selI [v0, v1, v2, v3] (Int.toNat s0))) r0 deb), (newRun (holdsB h1 a1 b1 (bt x 1) (selI [v0, v1, v2, v3] (Int.toNat s1))) r1 deb), (newRun (holdsB h2 a2 b2 (bt x 2) (selI [v0, v1, v2, v3] (Int.toNat s2))) r2 deb), (newRun (holdsB h3 a3 b3 (bt x 3) (selI [v0, v1, v2, v3] (Int.toNat s3))) r3 deb), (newRun (holdsB h4 a4 b4 (bt x 4) (selI [v0, v1, v2, v3] (Int.toNat s4))) r4 deb), (newRun (holdsB h5 a5 b5 (bt x 5) (selI [v0, v1, v2, v3] (Int.toNat s5))) r5 deb), 0, ())) := by
  unfold guard_Step_g
  rw [check_k]
  simp only [Option.bind_some]
  by_cases hc : checkB s0 a0 b0 s1 a1 b1 s2 a2 b2 s3 a3 b3 s4 a4 b4 s5 a5 b5 deb = 0
  · have hc' : (checkB s0 a0 b0 s1 a1 b1 s2 a2 b2 s3 a3 b3 s4 a4 b4 s5 a5 b5 deb != 0) = false := by simp [hc]
    rw [hc']
    simp only [cond_false]
    have hok : mayAll s0 a0 b0 s1 a1 b1 s2 a2 b2 s3 a3 b3 s4 a4 b4 s5 a5 b5 = true ∧ (1 ≤ deb ∧ deb ≤ 31) := by
      unfold checkB at hc
      cases h : (mayAll s0 a0 b0 s1 a1 b1 s2 a2 b2 s3 a3 b3 s4 a4 b4 s5 a5 b5 && decide (1 ≤ deb ∧ deb ≤ 31)) with
      | false => rw [h] at hc; simp at hc
      | true =>
        rw [Bool.and_eq_true] at h
        exact ⟨h.1, of_decide_eq_true h.2⟩
    obtain ⟨hall, hd⟩ := hok
    unfold mayAll at hall
    simp only [Bool.and_eq_true] at hall
    obtain ⟨hm0, hm1, hm2, hm3, hm4, hm5⟩ := hall
    have rng : ∀ (s a b : Int), mayB s a b = true → 0 ≤ s ∧ s < 4 := fun s a b h => by
      have := (mayB_iff.1 h).1
      omega
    rw [within_k]
    simp only [Option.bind_some]
    by_cases hr : 0 ≤ r ∧ r ≤ 63
    · have e1 : decide (0 ≤ r ∧ r ≤ 63) = true := by simp [hr]
      simp only [e1, Bool.not_true, cond_false]
      obtain ⟨x, rfl⟩ : ∃ x : Nat, r = x := ⟨r.toNat, by omega⟩
      have hx : x < 64 := by omega
      rw [within6, wi64_id (x := deb - 1) (by omega) (by omega)]
      simp only [Option.bind_some, selI, List.getD, List.getElem?_cons_zero, List.getElem?_cons_succ, Option.getD_some]
      by_cases hv : (0 ≤ r0 ∧ r0 < deb) ∧ (0 ≤ r1 ∧ r1 < deb) ∧ (0 ≤ r2 ∧ r2 < deb) ∧ (0 ≤ r3 ∧ r3 < deb) ∧ (0 ≤ r4 ∧ r4 < deb) ∧ (0 ≤ r5 ∧ r5 < deb)
      · obtain ⟨v0', v1', v2', v3', v4', v5'⟩ := hv
        obtain ⟨o, ho, hbits, G⟩ := loop_alone x hx deb s0 h0 a0 b0 s1 h1 a1 b1 s2 h2 a2 b2 s3 h3 a3 b3 s4 h4 a4 b4 s5 h5 a5 b5 r0 r1 r2 r3 r4 r5 v0 v1 v2 v3 0 0 0 0 0 0 (rng _ _ _ hm0) (rng _ _ _ hm1) (rng _ _ _ hm2) (rng _ _ _ hm3) (rng _ _ _ hm4) (rng _ _ _ hm5)
        rw [G]
        have q0 : inB 0 (deb - 1) r0 = true := by (simp only [inB, decide_eq_true_eq]; omega)
        have q1 : inB 0 (deb - 1) r1 = true := by (simp only [inB, decide_eq_true_eq]; omega)
        have q2 : inB 0 (deb - 1) r2 = true := by (simp only [inB, decide_eq_true_eq]; omega)
        have q3 : inB 0 (deb - 1) r3 = true := by (simp only [inB, decide_eq_true_eq]; omega)
        have q4 : inB 0 (deb - 1) r4 = true := by (simp only [inB, decide_eq_true_eq]; omega)
        have q5 : inB 0 (deb - 1) r5 = true := by (simp only [inB, decide_eq_true_eq]; omega)
        rw [q0, q1, q2, q3, q4, q5]
        exact ⟨_, rfl, Or.inr ⟨x, o, rfl, hx, ho, hd, ⟨hm0, v0', hm1, v1', hm2, v2', hm3, v3', hm4, v4', hm5, v5'⟩, hbits, rfl⟩⟩
      · have hf : (inB 0 (deb - 1) r0 && (inB 0 (deb - 1) r1 && (inB 0 (deb - 1) r2 && (inB 0 (deb - 1) r3 && (inB 0 (deb - 1) r4 && (inB 0 (deb - 1) r5)))))) = false := by
          rw [Bool.eq_false_iff]
          intro h
          simp only [inB, Bool.and_eq_true, decide_eq_true_eq] at h
          exact hv (by omega)
        rw [hf]
        exact ⟨_, rfl, Or.inl rfl⟩
    · have e1 : decide (0 ≤ r ∧ r ≤ 63) = false := by simp; omega
      simp only [e1, Bool.not_false, cond_true]
      exact ⟨_, rfl, Or.inl rfl⟩
  · have hc' : (checkB s0 a0 b0 s1 a1 b1 s2 a2 b2 s3 a3 b3 s4 a4 b4 s5 a5 b5 deb != 0) = true := by simp [hc]
    rw [hc']
    exact ⟨_, rfl, Or.inl rfl⟩

theorem ga_round (n i : Nat) (hi : i < 6) (x o : Nat) (hx : x < 64) (ho : o < 64) (un wn : Nat) (um wm : Nat → Int) (hu : guard_List_g 1000 (o : Int) = some (un, um, ())) (hw : guard_List_g 1000 (x : Int) = some (wn, wm, ())) (a deb r : Int) (hd : 1 ≤ deb ∧ deb ≤ 31) (s0 : Int) (h0 : Bool) (a0 b0 : Int) (s1 : Int) (h1 : Bool) (a1 b1 : Int) (s2 : Int) (h2 : Bool) (a2 b2 : Int) (s3 : Int) (h3 : Bool) (a3 b3 : Int) (s4 : Int) (h4 : Bool) (a4 b4 : Int) (s5 : Int) (h5 : Bool) (a5 b5 : Int) (r0 r1 r2 r3 r4 r5 v0 v1 v2 v3 f0 f1 f2 f3 f4 f5 : Int)
    (si : Int) (hhi : Bool) (ai bi ri fi : Int) (es : selI [s0, s1, s2, s3, s4, s5] i = si) (eh : selB [h0, h1, h2, h3, h4, h5] i = hhi) (ea : selI [a0, a1, a2, a3, a4, a5] i = ai) (eb : selI [b0, b1, b2, b3, b4, b5] i = bi) (er : selI [r0, r1, r2, r3, r4, r5] i = ri) (ef : selI [f0, f1, f2, f3, f4, f5] i = fi)
    (hm : mayB si ai bi = true) (hr : 0 ≤ ri ∧ ri < deb) (hf : fi = newRun (holdsB hhi ai bi (bt x i) (selI [v0, v1, v2, v3] (Int.toNat si))) ri deb) (hb : bt o i = xor (bt x i) (turns (holdsB hhi ai bi (bt x i) (selI [v0, v1, v2, v3] (Int.toNat si))) ri deb)) :
    rheostatlaw20_GuardAlone_l0 1000 (n + 1) a un wn (i : Int) s0 h0 a0 b0 s1 h1 a1 b1 s2 h2 a2 b2 s3 h3 a3 b3 s4 h4 a4 b4 s5 h5 a5 b5 deb r r0 r1 r2 r3 r4 r5 v0 v1 v2 v3 f0 f1 f2 f3 f4 f5 um wm = rheostatlaw20_GuardAlone_l0 1000 n a un wn ((i + 1 : Nat) : Int) s0 h0 a0 b0 s1 h1 a1 b1 s2 h2 a2 b2 s3 h3 a3 b3 s4 h4 a4 b4 s5 h5 a5 b5 deb r r0 r1 r2 r3 r4 r5 v0 v1 v2 v3 f0 f1 f2 f3 f4 f5 um wm := by
  have e : rheostatlaw20_GuardAlone_l0 1000 (n + 1) a un wn (i : Int) s0 h0 a0 b0 s1 h1 a1 b1 s2 h2 a2 b2 s3 h3 a3 b3 s4 h4 a4 b4 s5 h5 a5 b5 deb r r0 r1 r2 r3 r4 r5 v0 v1 v2 v3 f0 f1 f2 f3 f4 f5 um wm = rheostatlaw20_GuardAlone_l0r 1000 (rheostatlaw20_GuardAlone_l0 1000 n) a un wn (i : Int) s0 h0 a0 b0 s1 h1 a1 b1 s2 h2 a2 b2 s3 h3 a3 b3 s4 h4 a4 b4 s5 h5 a5 b5 deb r r0 r1 r2 r3 r4 r5 v0 v1 v2 v3 f0 f1 f2 f3 f4 f5 um wm := rfl
  rw [e]
  have e1 : decide ((i : Int) < 6) = true := by simp; omega
  have e2 : decide (0 ≤ (i : Int)) = true := by simp
  have e4 : wi64 ((i : Int) + 1) = ((i + 1 : Nat) : Int) := by rw [wi64_id (by omega) (by omega)]; simp
  have hsr := (mayB_iff.1 hm).1
  have e5 : decide (0 ≤ si) = true := by simp; omega
  have e6 : decide (si < 4) = true := by simp; omega
  have hX := has_in x hx i hi
  have hO := has_in o ho i hi
  rw [hw] at hX
  rw [hu] at hO
  simp only [Option.bind_some] at hX hO
  simp only [rheostatlaw20_GuardAlone_l0r, e1, e2, e4, Int.toNat_natCast, es, eh, ea, eb, er, ef, e5, e6, Bool.and_self, cond_true, hX, hO, Option.bind_some, one_k, one_turn si hhi ai bi deb (bt x i) ri _ hm hd hr]
  rw [hb, hf]
  simp

theorem GuardAlone_ok (s0 : Int) (h0 : Bool) (a0 b0 : Int) (s1 : Int) (h1 : Bool) (a1 b1 : Int) (s2 : Int) (h2 : Bool) (a2 b2 : Int) (s3 : Int) (h3 : Bool) (a3 b3 : Int) (s4 : Int) (h4 : Bool) (a4 b4 : Int) (s5 : Int) (h5 : Bool) (a5 b5 : Int) (deb r r0 r1 r2 r3 r4 r5 v0 v1 v2 v3 : Int) :
    rheostatlaw20_GuardAlone_g 1000 s0 h0 a0 b0 s1 h1 a1 b1 s2 h2 a2 b2 s3 h3 a3 b3 s4 h4 a4 b4 s5 h5 a5 b5 deb r r0 r1 r2 r3 r4 r5 v0 v1 v2 v3 = some true := by
  obtain ⟨q, e1, h⟩ := step_alone r r0 r1 r2 r3 r4 r5 v0 v1 v2 v3 deb s0 h0 a0 b0 s1 h1 a1 b1 s2 h2 a2 b2 s3 h3 a3 b3 s4 h4 a4 b4 s5 h5 a5 b5
  simp only [rheostatlaw20_GuardAlone_g, works_ok, Option.bind_some, e1]
  rcases h with rfl | ⟨x, o, rfl, hx, ho, hd, ⟨hm0, hr0, hm1, hr1, hm2, hr2, hm3, hr3, hm4, hr4, hm5, hr5⟩, ⟨m0, m1, m2, m3, m4, m5⟩, rfl⟩
  · rfl
  · have lo := len_in o ho
    have lx := len_in x hx
    cases hu : guard_List_g 1000 (o : Int) with
    | none => rw [hu] at lo; cases lo
    | some u =>
      obtain ⟨un, um, ⟨⟩⟩ := u
      rw [hu] at lo
      cases hw : guard_List_g 1000 (x : Int) with
      | none => rw [hw] at lx; cases lx
      | some w =>
        obtain ⟨wn, wm, ⟨⟩⟩ := w
        have lo' : decide ((un : Int) ≤ 6) = true := by simpa using lo
        simp only [Option.bind_some]
        have c : rheostatlaw20_GuardAlone_l0 1000 1000 (o : Int) un wn 0 s0 h0 a0 b0 s1 h1 a1 b1 s2 h2 a2 b2 s3 h3 a3 b3 s4 h4 a4 b4 s5 h5 a5 b5 deb x r0 r1 r2 r3 r4 r5 v0 v1 v2 v3 (newRun (holdsB h0 a0 b0 (bt x 0) (selI [v0, v1, v2, v3] (Int.toNat s0))) r0 deb) (newRun (holdsB h1 a1 b1 (bt x 1) (selI [v0, v1, v2, v3] (Int.toNat s1))) r1 deb) (newRun (holdsB h2 a2 b2 (bt x 2) (selI [v0, v1, v2, v3] (Int.toNat s2))) r2 deb) (newRun (holdsB h3 a3 b3 (bt x 3) (selI [v0, v1, v2, v3] (Int.toNat s3))) r3 deb) (newRun (holdsB h4 a4 b4 (bt x 4) (selI [v0, v1, v2, v3] (Int.toNat s4))) r4 deb) (newRun (holdsB h5 a5 b5 (bt x 5) (selI [v0, v1, v2, v3] (Int.toNat s5))) r5 deb) um wm = some (.inl ((o : Int), un, um, ())) := by
          have c0 := ga_round 999 0 (by omega) x o hx ho un wn um wm hu hw (o : Int) deb x hd s0 h0 a0 b0 s1 h1 a1 b1 s2 h2 a2 b2 s3 h3 a3 b3 s4 h4 a4 b4 s5 h5 a5 b5 r0 r1 r2 r3 r4 r5 v0 v1 v2 v3 (newRun (holdsB h0 a0 b0 (bt x 0) (selI [v0, v1, v2, v3] (Int.toNat s0))) r0 deb) (newRun (holdsB h1 a1 b1 (bt x 1) (selI [v0, v1, v2, v3] (Int.toNat s1))) r1 deb) (newRun (holdsB h2 a2 b2 (bt x 2) (selI [v0, v1, v2, v3] (Int.toNat s2))) r2 deb) (newRun (holdsB h3 a3 b3 (bt x 3) (selI [v0, v1, v2, v3] (Int.toNat s3))) r3 deb) (newRun (holdsB h4 a4 b4 (bt x 4) (selI [v0, v1, v2, v3] (Int.toNat s4))) r4 deb) (newRun (holdsB h5 a5 b5 (bt x 5) (selI [v0, v1, v2, v3] (Int.toNat s5))) r5 deb) s0 h0 a0 b0 r0 (newRun (holdsB h0 a0 b0 (bt x 0) (selI [v0, v1, v2, v3] (Int.toNat s0))) r0 deb) rfl rfl rfl rfl rfl rfl hm0 hr0 rfl m0
          have c1 := ga_round 998 1 (by omega) x o hx ho un wn um wm hu hw (o : Int) deb x hd s0 h0 a0 b0 s1 h1 a1 b1 s2 h2 a2 b2 s3 h3 a3 b3 s4 h4 a4 b4 s5 h5 a5 b5 r0 r1 r2 r3 r4 r5 v0 v1 v2 v3 (newRun (holdsB h0 a0 b0 (bt x 0) (selI [v0, v1, v2, v3] (Int.toNat s0))) r0 deb) (newRun (holdsB h1 a1 b1 (bt x 1) (selI [v0, v1, v2, v3] (Int.toNat s1))) r1 deb) (newRun (holdsB h2 a2 b2 (bt x 2) (selI [v0, v1, v2, v3] (Int.toNat s2))) r2 deb) (newRun (holdsB h3 a3 b3 (bt x 3) (selI [v0, v1, v2, v3] (Int.toNat s3))) r3 deb) (newRun (holdsB h4 a4 b4 (bt x 4) (selI [v0, v1, v2, v3] (Int.toNat s4))) r4 deb) (newRun (holdsB h5 a5 b5 (bt x 5) (selI [v0, v1, v2, v3] (Int.toNat s5))) r5 deb) s1 h1 a1 b1 r1 (newRun (holdsB h1 a1 b1 (bt x 1) (selI [v0, v1, v2, v3] (Int.toNat s1))) r1 deb) rfl rfl rfl rfl rfl rfl hm1 hr1 rfl m1
          have c2 := ga_round 997 2 (by omega) x o hx ho un wn um wm hu hw (o : Int) deb x hd s0 h0 a0 b0 s1 h1 a1 b1 s2 h2 a2 b2 s3 h3 a3 b3 s4 h4 a4 b4 s5 h5 a5 b5 r0 r1 r2 r3 r4 r5 v0 v1 v2 v3 (newRun (holdsB h0 a0 b0 (bt x 0) (selI [v0, v1, v2, v3] (Int.toNat s0))) r0 deb) (newRun (holdsB h1 a1 b1 (bt x 1) (selI [v0, v1, v2, v3] (Int.toNat s1))) r1 deb) (newRun (holdsB h2 a2 b2 (bt x 2) (selI [v0, v1, v2, v3] (Int.toNat s2))) r2 deb) (newRun (holdsB h3 a3 b3 (bt x 3) (selI [v0, v1, v2, v3] (Int.toNat s3))) r3 deb) (newRun (holdsB h4 a4 b4 (bt x 4) (selI [v0, v1, v2, v3] (Int.toNat s4))) r4 deb) (newRun (holdsB h5 a5 b5 (bt x 5) (selI [v0, v1, v2, v3] (Int.toNat s5))) r5 deb) s2 h2 a2 b2 r2 (newRun (holdsB h2 a2 b2 (bt x 2) (selI [v0, v1, v2, v3] (Int.toNat s2))) r2 deb) rfl rfl rfl rfl rfl rfl hm2 hr2 rfl m2
          have c3 := ga_round 996 3 (by omega) x o hx ho un wn um wm hu hw (o : Int) deb x hd s0 h0 a0 b0 s1 h1 a1 b1 s2 h2 a2 b2 s3 h3 a3 b3 s4 h4 a4 b4 s5 h5 a5 b5 r0 r1 r2 r3 r4 r5 v0 v1 v2 v3 (newRun (holdsB h0 a0 b0 (bt x 0) (selI [v0, v1, v2, v3] (Int.toNat s0))) r0 deb) (newRun (holdsB h1 a1 b1 (bt x 1) (selI [v0, v1, v2, v3] (Int.toNat s1))) r1 deb) (newRun (holdsB h2 a2 b2 (bt x 2) (selI [v0, v1, v2, v3] (Int.toNat s2))) r2 deb) (newRun (holdsB h3 a3 b3 (bt x 3) (selI [v0, v1, v2, v3] (Int.toNat s3))) r3 deb) (newRun (holdsB h4 a4 b4 (bt x 4) (selI [v0, v1, v2, v3] (Int.toNat s4))) r4 deb) (newRun (holdsB h5 a5 b5 (bt x 5) (selI [v0, v1, v2, v3] (Int.toNat s5))) r5 deb) s3 h3 a3 b3 r3 (newRun (holdsB h3 a3 b3 (bt x 3) (selI [v0, v1, v2, v3] (Int.toNat s3))) r3 deb) rfl rfl rfl rfl rfl rfl hm3 hr3 rfl m3
          have c4 := ga_round 995 4 (by omega) x o hx ho un wn um wm hu hw (o : Int) deb x hd s0 h0 a0 b0 s1 h1 a1 b1 s2 h2 a2 b2 s3 h3 a3 b3 s4 h4 a4 b4 s5 h5 a5 b5 r0 r1 r2 r3 r4 r5 v0 v1 v2 v3 (newRun (holdsB h0 a0 b0 (bt x 0) (selI [v0, v1, v2, v3] (Int.toNat s0))) r0 deb) (newRun (holdsB h1 a1 b1 (bt x 1) (selI [v0, v1, v2, v3] (Int.toNat s1))) r1 deb) (newRun (holdsB h2 a2 b2 (bt x 2) (selI [v0, v1, v2, v3] (Int.toNat s2))) r2 deb) (newRun (holdsB h3 a3 b3 (bt x 3) (selI [v0, v1, v2, v3] (Int.toNat s3))) r3 deb) (newRun (holdsB h4 a4 b4 (bt x 4) (selI [v0, v1, v2, v3] (Int.toNat s4))) r4 deb) (newRun (holdsB h5 a5 b5 (bt x 5) (selI [v0, v1, v2, v3] (Int.toNat s5))) r5 deb) s4 h4 a4 b4 r4 (newRun (holdsB h4 a4 b4 (bt x 4) (selI [v0, v1, v2, v3] (Int.toNat s4))) r4 deb) rfl rfl rfl rfl rfl rfl hm4 hr4 rfl m4
          have c5 := ga_round 994 5 (by omega) x o hx ho un wn um wm hu hw (o : Int) deb x hd s0 h0 a0 b0 s1 h1 a1 b1 s2 h2 a2 b2 s3 h3 a3 b3 s4 h4 a4 b4 s5 h5 a5 b5 r0 r1 r2 r3 r4 r5 v0 v1 v2 v3 (newRun (holdsB h0 a0 b0 (bt x 0) (selI [v0, v1, v2, v3] (Int.toNat s0))) r0 deb) (newRun (holdsB h1 a1 b1 (bt x 1) (selI [v0, v1, v2, v3] (Int.toNat s1))) r1 deb) (newRun (holdsB h2 a2 b2 (bt x 2) (selI [v0, v1, v2, v3] (Int.toNat s2))) r2 deb) (newRun (holdsB h3 a3 b3 (bt x 3) (selI [v0, v1, v2, v3] (Int.toNat s3))) r3 deb) (newRun (holdsB h4 a4 b4 (bt x 4) (selI [v0, v1, v2, v3] (Int.toNat s4))) r4 deb) (newRun (holdsB h5 a5 b5 (bt x 5) (selI [v0, v1, v2, v3] (Int.toNat s5))) r5 deb) s5 h5 a5 b5 r5 (newRun (holdsB h5 a5 b5 (bt x 5) (selI [v0, v1, v2, v3] (Int.toNat s5))) r5 deb) rfl rfl rfl rfl rfl rfl hm5 hr5 rfl m5
          have c6 : rheostatlaw20_GuardAlone_l0 1000 994 (o : Int) un wn ((6 : Nat) : Int) s0 h0 a0 b0 s1 h1 a1 b1 s2 h2 a2 b2 s3 h3 a3 b3 s4 h4 a4 b4 s5 h5 a5 b5 deb x r0 r1 r2 r3 r4 r5 v0 v1 v2 v3 (newRun (holdsB h0 a0 b0 (bt x 0) (selI [v0, v1, v2, v3] (Int.toNat s0))) r0 deb) (newRun (holdsB h1 a1 b1 (bt x 1) (selI [v0, v1, v2, v3] (Int.toNat s1))) r1 deb) (newRun (holdsB h2 a2 b2 (bt x 2) (selI [v0, v1, v2, v3] (Int.toNat s2))) r2 deb) (newRun (holdsB h3 a3 b3 (bt x 3) (selI [v0, v1, v2, v3] (Int.toNat s3))) r3 deb) (newRun (holdsB h4 a4 b4 (bt x 4) (selI [v0, v1, v2, v3] (Int.toNat s4))) r4 deb) (newRun (holdsB h5 a5 b5 (bt x 5) (selI [v0, v1, v2, v3] (Int.toNat s5))) r5 deb) um wm = some (.inl ((o : Int), un, um, ())) := rfl
          exact c0.trans (c1.trans (c2.trans (c3.trans (c4.trans (c5.trans c6)))))
        have g1 : decide ((o : Int) ≥ 0) = true := by simp
        have g2 : decide ((o : Int) < 64) = true := by simp; omega
        have g3 : ((0 : Int) != 0) = false := rfl
        simp only [g3, cond_false, c, Option.bind_some, Sum.elim_inl, lo', g1, g2, cond_true]
        rfl
end Go.Proofs.Ythjjjifpiibmeaa
