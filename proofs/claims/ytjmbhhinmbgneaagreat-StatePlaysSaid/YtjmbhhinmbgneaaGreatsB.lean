/-
  Samples: what the printed functions compute, as plain functions of the numbers.
-/
import Derived.Test.YtjmbhhinmbgneaaGreatsA
namespace Go.Proofs.YtjmbhhinmbgneaaGreat.PA
open Go.Sy
set_option maxHeartbeats 1000000

theorem inside_ok (K : Nat) (lo hi n : Int) : sample_Inside_g K lo hi n = some (decide (lo ≤ n ∧ n ≤ hi), ()) := by
  unfold sample_Inside_g
  by_cases h1 : lo ≤ n
  · by_cases h2 : n ≤ hi <;> simp [h1, h2]
  · simp [h1]

theorem all2 (a b x y : Int) : sample_all_g 20000 a b 2 (fun j => selI [x, y] j) = some (decide (a ≤ x ∧ x ≤ b) && decide (a ≤ y ∧ y ≤ b), ()) := by
  unfold sample_all_g
  have e : ∀ (n : Nat) (c : Nat) (d i : Int) (f : Nat → Int), sample_all_l0 20000 (n + 1) c d i a b f = sample_all_l0r 20000 (sample_all_l0 20000 n) c d i a b f := fun _ _ _ _ _ => rfl
  have w1 : wi64 (0 + 1) = 1 := rfl
  have w2 : wi64 (1 + 1) = 2 := rfl
  have s0 : (fun j => selI [x, y] j) (Int.toNat 0) = x := rfl
  have s1 : (fun j => selI [x, y] j) (Int.toNat 1) = y := rfl
  have d1 : decide ((0 : Int) < ((2 : Nat) : Int)) = true := rfl
  have d2 : decide ((1 : Int) < ((2 : Nat) : Int)) = true := rfl
  have d3 : decide ((0 : Int) ≤ 0) = true := rfl
  have d4 : decide ((0 : Int) ≤ 1) = true := rfl
  rw [show sample_all_l0 20000 20000 = sample_all_l0 20000 ((20000 - 3) + 1 + 1 + 1) from rfl, e]
  unfold sample_all_l0r
  rw [d1, d3, s0, inside_ok, w1, e]
  unfold sample_all_l0r
  rw [d2, d4, s1, inside_ok, w2, e]
  cases decide (a ≤ x ∧ x ≤ b)
  · rfl
  · cases decide (a ≤ y ∧ y ≤ b) <;> rfl

def spanB (lo hi : Int) : Bool := decide (lo ≤ hi ∧ -2147483648 ≤ lo ∧ hi ≤ 2147483648)
def wayI (z g p lo hi : Int) : Bool := lineB z g p && spanB lo hi

theorem way_step {α : Type} (z g p lo hi : Int) (cont : Option (Unit ⊕ (α × Unit))) (f : Int → α) : (((some (lineE z g p, ())).bind fun q1 => (bif (q1.1 != 0) then (some (.inr (f q1.1, ()))) else (bif (decide (lo > hi)) then (some (.inr (f 120, ()))) else ((some (decide (-2147483648 ≤ lo ∧ lo ≤ 2147483648) && decide (-2147483648 ≤ hi ∧ hi ≤ 2147483648), ())).bind fun q2 => (bif (!q2.1) then (some (.inr (f 120, ()))) else cont)))))) =
    bif wayI z g p lo hi then cont else some (.inr (f 120, ())) := by
  unfold wayI lineE
  cases lineB z g p
  · rfl
  · by_cases h : lo > hi
    · have : spanB lo hi = false := decide_eq_false (by omega)
      rw [decide_eq_true h, this]
      rfl
    · rw [decide_eq_false h]
      by_cases h2 : -2147483648 ≤ lo ∧ hi ≤ 2147483648
      · have : spanB lo hi = true := decide_eq_true (by omega)
        rw [this, decide_eq_true (show -2147483648 ≤ lo ∧ lo ≤ 2147483648 by omega), decide_eq_true (show -2147483648 ≤ hi ∧ hi ≤ 2147483648 by omega)]
        rfl
      · have : spanB lo hi = false := decide_eq_false (by omega)
        rw [this]
        by_cases h3 : -2147483648 ≤ lo
        · rw [decide_eq_false (show ¬ (-2147483648 ≤ hi ∧ hi ≤ 2147483648) by omega), Bool.and_false]
          rfl
        · rw [decide_eq_false (show ¬ (-2147483648 ≤ lo ∧ lo ≤ 2147483648) by omega)]
          rfl

theorem way_ok (z0 g0 p0 z1 g1 p1 z2 g2 p2 l0 h0 l1 h1 l2 h2 : Int) : sample_Check_g 20000 z0 g0 p0 z1 g1 p1 z2 g2 p2 l0 h0 l1 h1 l2 h2 = some (bif wayI z0 g0 p0 l0 h0 && (wayI z1 g1 p1 l1 h1 && (wayI z2 g2 p2 l2 h2)) then 0 else 120, ()) := by
  unfold sample_Check_g
  have e : ∀ (n : Nat) (i : Int), sample_Check_l0 20000 (n + 1) l0 h0 l1 h1 l2 h2 i z0 g0 p0 z1 g1 p1 z2 g2 p2 (-2147483648) 2147483648 = sample_Check_l0r 20000 (sample_Check_l0 20000 n) l0 h0 l1 h1 l2 h2 i z0 g0 p0 z1 g1 p1 z2 g2 p2 (-2147483648) 2147483648 := fun _ _ => rfl
  have st : ∀ (n : Nat), sample_Check_l0 20000 (n + 1) l0 h0 l1 h1 l2 h2 3 z0 g0 p0 z1 g1 p1 z2 g2 p2 (-2147483648) 2147483648 = some (.inl ()) := fun _ => rfl
  have k0 : ∀ n, sample_Check_l0 20000 (n + 1) l0 h0 l1 h1 l2 h2 0 z0 g0 p0 z1 g1 p1 z2 g2 p2 (-2147483648) 2147483648 = bif wayI z0 g0 p0 l0 h0 then sample_Check_l0 20000 n l0 h0 l1 h1 l2 h2 1 z0 g0 p0 z1 g1 p1 z2 g2 p2 (-2147483648) 2147483648 else some (.inr (120, ())) := by
    intro n
    rw [e, ← way_step z0 g0 p0 l0 h0 _ (fun x => x), ← check_ok, ← all2]
    rfl
  have k1 : ∀ n, sample_Check_l0 20000 (n + 1) l0 h0 l1 h1 l2 h2 1 z0 g0 p0 z1 g1 p1 z2 g2 p2 (-2147483648) 2147483648 = bif wayI z1 g1 p1 l1 h1 then sample_Check_l0 20000 n l0 h0 l1 h1 l2 h2 2 z0 g0 p0 z1 g1 p1 z2 g2 p2 (-2147483648) 2147483648 else some (.inr (120, ())) := by
    intro n
    rw [e, ← way_step z1 g1 p1 l1 h1 _ (fun x => x), ← check_ok, ← all2]
    rfl
  have k2 : ∀ n, sample_Check_l0 20000 (n + 1) l0 h0 l1 h1 l2 h2 2 z0 g0 p0 z1 g1 p1 z2 g2 p2 (-2147483648) 2147483648 = bif wayI z2 g2 p2 l2 h2 then sample_Check_l0 20000 n l0 h0 l1 h1 l2 h2 3 z0 g0 p0 z1 g1 p1 z2 g2 p2 (-2147483648) 2147483648 else some (.inr (120, ())) := by
    intro n
    rw [e, ← way_step z2 g2 p2 l2 h2 _ (fun x => x), ← check_ok, ← all2]
    rfl
  rw [show sample_Check_l0 20000 20000 = sample_Check_l0 20000 ((20000 - 4) + 1 + 1 + 1 + 1) from rfl, k0, k1, k2, st]
  cases wayI z0 g0 p0 l0 h0
  · rfl
  · cases wayI z1 g1 p1 l1 h1
    · rfl
    · cases wayI z2 g2 p2 l2 h2 <;> rfl

theorem may_ok (K : Nat) (t : Int) : sample_ticks_may_g K t = some (decide (1 ≤ t ∧ t ≤ 60000), ()) := by
  unfold sample_ticks_may_g
  by_cases h1 : t ≥ 1
  · by_cases h2 : t ≤ 60000 <;> simp [h1, h2]
  · have : ¬ 1 ≤ t := by omega
    simp [h1, this]

/-- Is a count's unit within its span? -/
def unitI (z g p lo hi r : Int) : Bool := rawB r && decide (lo ≤ unitV z g p r ∧ unitV z g p r ≤ hi)

def wayB (z0 g0 p0 z1 g1 p1 z2 g2 p2 l0 h0 l1 h1 l2 h2 : Int) : Bool := wayI z0 g0 p0 l0 h0 && (wayI z1 g1 p1 l1 h1 && (wayI z2 g2 p2 l2 h2))
def readB (z0 g0 p0 z1 g1 p1 z2 g2 p2 l0 h0 l1 h1 l2 h2 r0 r1 r2 tk : Int) : Bool := wayB z0 g0 p0 z1 g1 p1 z2 g2 p2 l0 h0 l1 h1 l2 h2 && (decide (1 ≤ tk ∧ tk ≤ 60000) && (unitI z0 g0 p0 l0 h0 r0 && (unitI z1 g1 p1 l1 h1 r1 && unitI z2 g2 p2 l2 h2 r2)))

def readE (z0 g0 p0 z1 g1 p1 z2 g2 p2 l0 h0 l1 h1 l2 h2 r0 r1 r2 tk : Int) : Int × Int × Int × Int × Int × Unit :=
  bif readB z0 g0 p0 z1 g1 p1 z2 g2 p2 l0 h0 l1 h1 l2 h2 r0 r1 r2 tk then (unitV z0 g0 p0 r0, unitV z1 g1 p1 r1, unitV z2 g2 p2 r2, tk, 0, ()) else (0, 0, 0, 0, (bif wayB z0 g0 p0 z1 g1 p1 z2 g2 p2 l0 h0 l1 h1 l2 h2 then 130 else 120), ())

theorem read_step (z g p lo hi r : Int) (h : lineB z g p = true) {β : Type} (bad : Option β) (cont : Int → Option β) : ((some (unitE z g p r)).bind fun q1 => (bif (q1.2.1 != 0) then bad else ((some (decide (lo ≤ q1.1 ∧ q1.1 ≤ hi), ())).bind fun q2 => (bif (!q2.1) then bad else cont q1.1)))) =
    bif unitI z g p lo hi r then cont (unitV z g p r) else bad := by
  unfold unitE unitI
  rw [h]
  cases rawB r
  · rfl
  · show (((some (decide (lo ≤ unitV z g p r ∧ unitV z g p r ≤ hi), ())).bind fun q2 => (bif (!q2.1) then bad else cont (unitV z g p r)))) = bif true && decide (lo ≤ unitV z g p r ∧ unitV z g p r ≤ hi) then cont (unitV z g p r) else bad
    cases decide (lo ≤ unitV z g p r ∧ unitV z g p r ≤ hi) <;> rfl

theorem read_ok (z0 g0 p0 z1 g1 p1 z2 g2 p2 l0 h0 l1 h1 l2 h2 r0 r1 r2 tk : Int) : sample_Read_g 20000 z0 g0 p0 z1 g1 p1 z2 g2 p2 l0 h0 l1 h1 l2 h2 r0 r1 r2 tk = some (readE z0 g0 p0 z1 g1 p1 z2 g2 p2 l0 h0 l1 h1 l2 h2 r0 r1 r2 tk) := by
  unfold sample_Read_g readE readB
  rw [way_ok]
  have hw : (wayI z0 g0 p0 l0 h0 && (wayI z1 g1 p1 l1 h1 && (wayI z2 g2 p2 l2 h2))) = wayB z0 g0 p0 z1 g1 p1 z2 g2 p2 l0 h0 l1 h1 l2 h2 := rfl
  rw [hw]
  cases hwb : wayB z0 g0 p0 z1 g1 p1 z2 g2 p2 l0 h0 l1 h1 l2 h2
  · rfl
  · simp only [Option.bind_some, cond_true, show ((0 : Int) != 0) = false from rfl, cond_false, Bool.true_and]
    unfold sample_take_g
    simp only [Option.bind_some]
    rw [may_ok]
    cases decide (1 ≤ tk ∧ tk ≤ 60000)
    · rfl
    · simp only [Option.bind_some, Bool.not_true, cond_false, Bool.true_and]
      have hl : lineB z0 g0 p0 = true ∧ lineB z1 g1 p1 = true ∧ lineB z2 g2 p2 = true := by
        unfold wayB wayI at hwb
        simp only [Bool.and_eq_true] at hwb
        exact ⟨hwb.1.1, hwb.2.1.1, hwb.2.2.1⟩
      have e : ∀ (n : Nat) (i a b c d : Int), sample_Read_l0 20000 (n + 1) r0 r1 r2 i z0 g0 p0 z1 g1 p1 z2 g2 p2 l0 h0 l1 h1 l2 h2 0 0 0 0 a b c d = sample_Read_l0r 20000 (sample_Read_l0 20000 n) r0 r1 r2 i z0 g0 p0 z1 g1 p1 z2 g2 p2 l0 h0 l1 h1 l2 h2 0 0 0 0 a b c d := fun _ _ _ _ _ _ => rfl
      have st : ∀ (n : Nat) (a b c d : Int), sample_Read_l0 20000 (n + 1) r0 r1 r2 3 z0 g0 p0 z1 g1 p1 z2 g2 p2 l0 h0 l1 h1 l2 h2 0 0 0 0 a b c d = some (.inl (0, 0, 0, 0, a, b, c, d, ())) := fun _ _ _ _ _ => rfl
      have k0 : ∀ n a b c d, sample_Read_l0 20000 (n + 1) r0 r1 r2 0 z0 g0 p0 z1 g1 p1 z2 g2 p2 l0 h0 l1 h1 l2 h2 0 0 0 0 a b c d = bif unitI z0 g0 p0 l0 h0 r0 then sample_Read_l0 20000 n r0 r1 r2 1 z0 g0 p0 z1 g1 p1 z2 g2 p2 l0 h0 l1 h1 l2 h2 0 0 0 0 (unitV z0 g0 p0 r0) b c d else some (.inr (130, 0, 0, 0, 0, ())) := by
        intro n a b c d
        rw [e, ← read_step z0 g0 p0 l0 h0 r0 hl.1 _ (fun u => sample_Read_l0 20000 n r0 r1 r2 1 z0 g0 p0 z1 g1 p1 z2 g2 p2 l0 h0 l1 h1 l2 h2 0 0 0 0 u b c d), ← unit_all]
        simp only [← inside_ok 20000]
        rfl
      have k1 : ∀ n a b c d, sample_Read_l0 20000 (n + 1) r0 r1 r2 1 z0 g0 p0 z1 g1 p1 z2 g2 p2 l0 h0 l1 h1 l2 h2 0 0 0 0 a b c d = bif unitI z1 g1 p1 l1 h1 r1 then sample_Read_l0 20000 n r0 r1 r2 2 z0 g0 p0 z1 g1 p1 z2 g2 p2 l0 h0 l1 h1 l2 h2 0 0 0 0 a (unitV z1 g1 p1 r1) c d else some (.inr (130, 0, 0, 0, 0, ())) := by
        intro n a b c d
        rw [e, ← read_step z1 g1 p1 l1 h1 r1 hl.2.1 _ (fun u => sample_Read_l0 20000 n r0 r1 r2 2 z0 g0 p0 z1 g1 p1 z2 g2 p2 l0 h0 l1 h1 l2 h2 0 0 0 0 a u c d), ← unit_all]
        simp only [← inside_ok 20000]
        rfl
      have k2 : ∀ n a b c d, sample_Read_l0 20000 (n + 1) r0 r1 r2 2 z0 g0 p0 z1 g1 p1 z2 g2 p2 l0 h0 l1 h1 l2 h2 0 0 0 0 a b c d = bif unitI z2 g2 p2 l2 h2 r2 then sample_Read_l0 20000 n r0 r1 r2 3 z0 g0 p0 z1 g1 p1 z2 g2 p2 l0 h0 l1 h1 l2 h2 0 0 0 0 a b (unitV z2 g2 p2 r2) d else some (.inr (130, 0, 0, 0, 0, ())) := by
        intro n a b c d
        rw [e, ← read_step z2 g2 p2 l2 h2 r2 hl.2.2 _ (fun u => sample_Read_l0 20000 n r0 r1 r2 3 z0 g0 p0 z1 g1 p1 z2 g2 p2 l0 h0 l1 h1 l2 h2 0 0 0 0 a b u d), ← unit_all]
        simp only [← inside_ok 20000]
        rfl
      rw [show sample_Read_l0 20000 20000 = sample_Read_l0 20000 ((20000 - 4) + 1 + 1 + 1 + 1) from rfl, k0, k1, k2, st]
      cases unitI z0 g0 p0 l0 h0 r0
      · rfl
      · cases unitI z1 g1 p1 l1 h1 r1
        · rfl
        · cases unitI z2 g2 p2 l2 h2 r2 <;> rfl

theorem way_iff {z0 g0 p0 z1 g1 p1 z2 g2 p2 l0 h0 l1 h1 l2 h2 : Int} (h : wayB z0 g0 p0 z1 g1 p1 z2 g2 p2 l0 h0 l1 h1 l2 h2 = true) : (lineB z0 g0 p0 = true ∧ lineB z1 g1 p1 = true ∧ lineB z2 g2 p2 = true) ∧ (l0 ≤ h0 ∧ -2147483648 ≤ l0 ∧ h0 ≤ 2147483648) ∧ (l1 ≤ h1 ∧ -2147483648 ≤ l1 ∧ h1 ≤ 2147483648) ∧ (l2 ≤ h2 ∧ -2147483648 ≤ l2 ∧ h2 ≤ 2147483648) := by
  unfold wayB wayI spanB at h
  simp only [Bool.and_eq_true, decide_eq_true_eq] at h
  exact ⟨⟨h.1.1, h.2.1.1, h.2.2.1⟩, h.1.2, h.2.1.2, h.2.2.2⟩

theorem read_iff {z0 g0 p0 z1 g1 p1 z2 g2 p2 l0 h0 l1 h1 l2 h2 r0 r1 r2 tk : Int} (h : readB z0 g0 p0 z1 g1 p1 z2 g2 p2 l0 h0 l1 h1 l2 h2 r0 r1 r2 tk = true) : wayB z0 g0 p0 z1 g1 p1 z2 g2 p2 l0 h0 l1 h1 l2 h2 = true ∧ (1 ≤ tk ∧ tk ≤ 60000) ∧ (rawB r0 = true ∧ l0 ≤ unitV z0 g0 p0 r0 ∧ unitV z0 g0 p0 r0 ≤ h0) ∧ (rawB r1 = true ∧ l1 ≤ unitV z1 g1 p1 r1 ∧ unitV z1 g1 p1 r1 ≤ h1) ∧ (rawB r2 = true ∧ l2 ≤ unitV z2 g2 p2 r2 ∧ unitV z2 g2 p2 r2 ≤ h2) := by
  unfold readB unitI at h
  simp only [Bool.and_eq_true, decide_eq_true_eq] at h
  exact ⟨h.1, h.2.1, h.2.2.1, h.2.2.2.1, h.2.2.2.2⟩

theorem read_mk {z0 g0 p0 z1 g1 p1 z2 g2 p2 l0 h0 l1 h1 l2 h2 r0 r1 r2 tk : Int} (hw : wayB z0 g0 p0 z1 g1 p1 z2 g2 p2 l0 h0 l1 h1 l2 h2 = true) (ht : 1 ≤ tk ∧ tk ≤ 60000) (k0 : rawB r0 = true ∧ l0 ≤ unitV z0 g0 p0 r0 ∧ unitV z0 g0 p0 r0 ≤ h0) (k1 : rawB r1 = true ∧ l1 ≤ unitV z1 g1 p1 r1 ∧ unitV z1 g1 p1 r1 ≤ h1) (k2 : rawB r2 = true ∧ l2 ≤ unitV z2 g2 p2 r2 ∧ unitV z2 g2 p2 r2 ≤ h2) : readB z0 g0 p0 z1 g1 p1 z2 g2 p2 l0 h0 l1 h1 l2 h2 r0 r1 r2 tk = true := by
  unfold readB unitI
  simp only [Bool.and_eq_true, decide_eq_true_eq]
  exact ⟨hw, ht, k0, k1, k2⟩

end Go.Proofs.YtjmbhhinmbgneaaGreat.PA
