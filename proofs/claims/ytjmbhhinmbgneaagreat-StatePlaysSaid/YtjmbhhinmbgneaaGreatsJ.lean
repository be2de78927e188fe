/-
  Alarms: behind a step they are within their ranges.
-/
import Derived.Test.YtjmbhhinmbgneaaGreatsZ
namespace Go.Proofs.YtjmbhhinmbgneaaGreat.PG
open Go.Sy
set_option maxHeartbeats 2000000

def rin (deb r : Int) : Prop := 0 ≤ r ∧ r ≤ deb - 1

theorem sel_in {deb r0 r1 r2 r3 r4 r5 : Int} (h0 : rin deb r0) (h1 : rin deb r1) (h2 : rin deb r2) (h3 : rin deb r3) (h4 : rin deb r4) (h5 : rin deb r5) (i : Nat) (hi : i < 6) : rin deb (selI [r0, r1, r2, r3, r4, r5] i) := by
  have : i = 0 ∨ i = 1 ∨ i = 2 ∨ i = 3 ∨ i = 4 ∨ i = 5 := by omega
  rcases this with rfl | rfl | rfl | rfl | rfl | rfl
  · exact h0
  · exact h1
  · exact h2
  · exact h3
  · exact h4
  · exact h5

theorem upd_in {deb a b : Int} (c : Bool) (ha : rin deb a) (hb : rin deb b) : rin deb (bif c then a else b) := by
  cases c
  · exact hb
  · exact ha

theorem gtog : ∀ x : Nat, x < 64 → ∀ i : Nat, i < 6 → bitXor .i64 (x : Int) (shL .i64 1 (i : Int)) = (((if x / 2 ^ i % 2 = 1 then x - 2 ^ i else x + 2 ^ i) : Nat) : Int) := by decide +kernel
theorem gtog_lt : ∀ x : Nat, x < 64 → ∀ i : Nat, i < 6 → (if x / 2 ^ i % 2 = 1 then x - 2 ^ i else x + 2 ^ i) < 64 := by decide +kernel

def GQ (deb : Int) (z0 z1 z2 z3 z4 z5 : Int) (o : Option (Int × Int × Int × Int × Int × Int × Int × Int × Int × Int × Int × Int × Int × Unit)) : Prop :=
  ∃ (y : Nat) (p0 p1 p2 p3 p4 p5 : Int), y < 64 ∧ (rin deb p0 ∧ rin deb p1 ∧ rin deb p2 ∧ rin deb p3 ∧ rin deb p4 ∧ rin deb p5) ∧ o = some ((y : Int), p0, p1, p2, p3, p4, p5, z0, z1, z2, z3, z4, z5, ())

theorem GQ_bif {deb z0 z1 z2 z3 z4 z5 : Int} {c : Bool} {x y : Option (Int × Int × Int × Int × Int × Int × Int × Int × Int × Int × Int × Int × Int × Unit)} (h : GQ deb z0 z1 z2 z3 z4 z5 x) (h' : GQ deb z0 z1 z2 z3 z4 z5 y) : GQ deb z0 z1 z2 z3 z4 z5 (bif c then x else y) := by
  cases c
  · exact h'
  · exact h

theorem gstep_inv (s0 : Int) (h0 : Bool) (a0 b0 : Int) (s1 : Int) (h1 : Bool) (a1 b1 : Int) (s2 : Int) (h2 : Bool) (a2 b2 : Int) (s3 : Int) (h3 : Bool) (a3 b3 : Int) (s4 : Int) (h4 : Bool) (a4 b4 : Int) (s5 : Int) (h5 : Bool) (a5 b5 : Int) (deb v0 v1 v2 v3 z0 z1 z2 z3 z4 z5 : Int) (hdb : 1 ≤ deb ∧ deb ≤ 31) (hs : ∀ i : Nat, i < 6 → 0 ≤ selI [s0, s1, s2, s3, s4, s5] i ∧ selI [s0, s1, s2, s3, s4, s5] i < 4) :
    ∀ (d i N : Nat) (x : Nat) (r0 r1 r2 r3 r4 r5 : Int), i + d = 6 → d < N → x < 64 → rin deb r0 → rin deb r1 → rin deb r2 → rin deb r3 → rin deb r4 → rin deb r5 →
      GQ deb z0 z1 z2 z3 z4 z5 (guard_Step_l0 20000 N deb (x : Int) s0 h0 a0 b0 s1 h1 a1 b1 s2 h2 a2 b2 s3 h3 a3 b3 s4 h4 a4 b4 s5 h5 a5 b5 (i : Int) r0 r1 r2 r3 r4 r5 v0 v1 v2 v3 z0 z1 z2 z3 z4 z5)
  | 0, i, N, x, r0, r1, r2, r3, r4, r5, hd, hf, hx, q0, q1, q2, q3, q4, q5 => by
    obtain ⟨f, rfl⟩ : ∃ f, N = f + 1 := ⟨N - 1, by omega⟩
    obtain rfl : i = 6 := by omega
    exact ⟨x, r0, r1, r2, r3, r4, r5, hx, ⟨q0, q1, q2, q3, q4, q5⟩, rfl⟩
  | d + 1, i, N, x, r0, r1, r2, r3, r4, r5, hd, hf, hx, q0, q1, q2, q3, q4, q5 => by
    obtain ⟨f, rfl⟩ : ∃ f, N = f + 1 := ⟨N - 1, by omega⟩
    have e0 : guard_Step_l0 20000 (f + 1) deb (x : Int) s0 h0 a0 b0 s1 h1 a1 b1 s2 h2 a2 b2 s3 h3 a3 b3 s4 h4 a4 b4 s5 h5 a5 b5 (i : Int) r0 r1 r2 r3 r4 r5 v0 v1 v2 v3 z0 z1 z2 z3 z4 z5 = guard_Step_l0r 20000 (guard_Step_l0 20000 f) deb (x : Int) s0 h0 a0 b0 s1 h1 a1 b1 s2 h2 a2 b2 s3 h3 a3 b3 s4 h4 a4 b4 s5 h5 a5 b5 (i : Int) r0 r1 r2 r3 r4 r5 v0 v1 v2 v3 z0 z1 z2 z3 z4 z5 := rfl
    have ih := gstep_inv s0 h0 a0 b0 s1 h1 a1 b1 s2 h2 a2 b2 s3 h3 a3 b3 s4 h4 a4 b4 s5 h5 a5 b5 deb v0 v1 v2 v3 z0 z1 z2 z3 z4 z5 hdb hs d (i + 1) f
    have hi := hs i (by omega)
    have w : wi64 ((i : Int) + 1) = ((i + 1 : Nat) : Int) := by rw [wi64_id (by omega) (by omega)]; simp
    have hsel := sel_in q0 q1 q2 q3 q4 q5 i (by omega)
    have hz : rin deb 0 := ⟨by omega, by omega⟩
    have ht := gtog_lt x hx i (by omega)
    rw [e0]
    unfold guard_Step_l0r
    rw [w]
    simp only [decide_eq_true (show (i : Int) < 6 by omega), decide_eq_true (show 0 ≤ (i : Int) by omega), decide_eq_false (show ¬ (i : Int) < 0 by omega), Bool.and_self, cond_true, cond_false, Int.toNat_natCast, decide_eq_true hi.1, decide_eq_true hi.2, holds_ok, Option.bind_some, gtog x hx i (by omega)]
    have k := fun (x : Nat) r0 r1 r2 r3 r4 r5 => ih x r0 r1 r2 r3 r4 r5 (by omega) (by omega)
    have kz := fun (y : Nat) (hy : y < 64) => k y _ _ _ _ _ _ hy (upd_in (Nat.beq i 0) hz q0) (upd_in (Nat.beq i 1) hz q1) (upd_in (Nat.beq i 2) hz q2) (upd_in (Nat.beq i 3) hz q3) (upd_in (Nat.beq i 4) hz q4) (upd_in (Nat.beq i 5) hz q5)
    refine GQ_bif (GQ_bif (kz _ ht) (kz _ hx)) ?_
    have w2 : wi64 (selI [r0, r1, r2, r3, r4, r5] i + 1) = selI [r0, r1, r2, r3, r4, r5] i + 1 := wi64_id (by have := hsel.1; omega) (by have := hsel.2; omega)
    rw [w2]
    cases hc : (selI [r0, r1, r2, r3, r4, r5] i + 1 == deb) with
    | true =>
      simp only [cond_true]
      exact GQ_bif (kz _ ht) (kz _ hx)
    | false =>
      have hn : selI [r0, r1, r2, r3, r4, r5] i + 1 ≠ deb := by simpa using hc
      have hq : rin deb (selI [r0, r1, r2, r3, r4, r5] i + 1) := ⟨by have := hsel.1; omega, by have := hsel.2; omega⟩
      have kq := fun (y : Nat) (hy : y < 64) => k y _ _ _ _ _ _ hy (upd_in (Nat.beq i 0) hq q0) (upd_in (Nat.beq i 1) hq q1) (upd_in (Nat.beq i 2) hq q2) (upd_in (Nat.beq i 3) hq q3) (upd_in (Nat.beq i 4) hq q4) (upd_in (Nat.beq i 5) hq q5)
      simp only [cond_false]
      exact GQ_bif (kq _ ht) (kq _ hx)

theorem within_true (lo hi : Int) (n : Nat) (m : Nat → Int) (hn : n < 900) (hm : ∀ j, j < n → lo ≤ m j ∧ m j ≤ hi) : guard_within_g 20000 lo hi n m = some (true, ()) := by
  have key : ∀ (d i N : Nat), i + d = n → d < N → guard_within_l0 20000 N lo hi n (n : Int) (i : Int) m = some (.inl ()) := by
    intro d
    induction d with
    | zero =>
      intro i N hd hf
      obtain ⟨f, rfl⟩ : ∃ f, N = f + 1 := ⟨N - 1, by omega⟩
      obtain rfl : i = n := by omega
      show guard_within_l0r 20000 (guard_within_l0 20000 f) lo hi i (i : Int) (i : Int) m = _
      unfold guard_within_l0r
      rw [decide_eq_false (show ¬ (i : Int) < (i : Int) by omega)]
      rfl
    | succ d ih =>
      intro i N hd hf
      obtain ⟨f, rfl⟩ : ∃ f, N = f + 1 := ⟨N - 1, by omega⟩
      show guard_within_l0r 20000 (guard_within_l0 20000 f) lo hi n (n : Int) (i : Int) m = _
      unfold guard_within_l0r
      have w : wi64 ((i : Int) + 1) = ((i + 1 : Nat) : Int) := by rw [wi64_id (by omega) (by omega)]; simp
      have h1 := hm i (by omega)
      rw [decide_eq_true (show (i : Int) < (n : Int) by omega), decide_eq_true (show 0 ≤ (i : Int) by omega), w, Int.toNat_natCast, decide_eq_false (show ¬ m i < lo by omega), decide_eq_false (show ¬ m i > hi by omega)]
      exact ih (i + 1) f (by omega) (by omega)
  unfold guard_within_g
  have h : guard_within_l0 20000 20000 lo hi n (n : Int) 0 m = _ := key n 0 20000 (by omega) (by omega)
  rw [h]
  rfl

theorem gstep_good (s0 : Int) (h0 : Bool) (a0 b0 : Int) (s1 : Int) (h1 : Bool) (a1 b1 : Int) (s2 : Int) (h2 : Bool) (a2 b2 : Int) (s3 : Int) (h3 : Bool) (a3 b3 : Int) (s4 : Int) (h4 : Bool) (a4 b4 : Int) (s5 : Int) (h5 : Bool) (a5 b5 : Int) {deb x r0 r1 r2 r3 r4 r5 : Int} (v0 v1 v2 v3 : Int) (hB : (mayAll s0 a0 b0 s1 a1 b1 s2 a2 b2 s3 a3 b3 s4 a4 b4 s5 a5 b5 && decide (1 ≤ deb ∧ deb ≤ 31)) = true) (hx : 0 ≤ x ∧ x ≤ 63)
    (q0 : rin deb r0) (q1 : rin deb r1) (q2 : rin deb r2) (q3 : rin deb r3) (q4 : rin deb r4) (q5 : rin deb r5) :
    ∃ (y p0 p1 p2 p3 p4 p5 : Int), (0 ≤ y ∧ y ≤ 63) ∧ (rin deb p0 ∧ rin deb p1 ∧ rin deb p2 ∧ rin deb p3 ∧ rin deb p4 ∧ rin deb p5) ∧ guard_Step_g 20000 s0 h0 a0 b0 s1 h1 a1 b1 s2 h2 a2 b2 s3 h3 a3 b3 s4 h4 a4 b4 s5 h5 a5 b5 deb x r0 r1 r2 r3 r4 r5 v0 v1 v2 v3 = some (y, p0, p1, p2, p3, p4, p5, 0, ()) := by
  unfold guard_Step_g
  rw [check_k]
  have hm := hB
  unfold mayAll at hm
  simp only [Bool.and_eq_true, decide_eq_true_eq] at hm
  have hs : ∀ i : Nat, i < 6 → 0 ≤ selI [s0, s1, s2, s3, s4, s5] i ∧ selI [s0, s1, s2, s3, s4, s5] i < 4 := by
    intro i hi
    have : i = 0 ∨ i = 1 ∨ i = 2 ∨ i = 3 ∨ i = 4 ∨ i = 5 := by omega
    rcases this with rfl | rfl | rfl | rfl | rfl | rfl
    · exact may_src hm.1.1
    · exact may_src hm.1.2.1
    · exact may_src hm.1.2.2.1
    · exact may_src hm.1.2.2.2.1
    · exact may_src hm.1.2.2.2.2.1
    · exact may_src hm.1.2.2.2.2.2
  have d0 : ((0 : Int) != 0) = false := rfl
  obtain ⟨n, rfl⟩ : ∃ n : Nat, x = (n : Int) := ⟨x.toNat, by omega⟩
  unfold checkB
  rw [hB]
  simp only [Option.bind_some, cond_true, d0, cond_false]
  rw [within_true 0 63 1 _ (by omega) (fun j hj => by obtain rfl : j = 0 := by omega
                                                      exact hx), wi64_id (x := deb - 1) (by omega) (by omega), within_true 0 (deb - 1) 6 _ (by omega) (fun j hj => sel_in q0 q1 q2 q3 q4 q5 j hj)]
  simp only [Option.bind_some, Bool.not_true, cond_false]
  obtain ⟨y, p0, p1, p2, p3, p4, p5, hy, hp, e⟩ := gstep_inv s0 h0 a0 b0 s1 h1 a1 b1 s2 h2 a2 b2 s3 h3 a3 b3 s4 h4 a4 b4 s5 h5 a5 b5 deb v0 v1 v2 v3 0 0 0 0 0 0 hm.2 hs 6 0 20000 n r0 r1 r2 r3 r4 r5 (by omega) (by omega) (by omega) q0 q1 q2 q3 q4 q5
  have e0 : ((0 : Nat) : Int) = 0 := rfl
  rw [e0] at e
  refine ⟨(y : Int), p0, p1, p2, p3, p4, p5, ⟨by omega, by omega⟩, hp, ?_⟩
  rw [e]
  rfl
end Go.Proofs.YtjmbhhinmbgneaaGreat.PG
