/-
  Law 13 (sample), the plain part: what the printed functions compute answers as the laws say.
-/
import Derived.Test.YtdcjkkgfimbodaaA
namespace Go.Proofs.Ytdcjkkgfimbodaa
open Go.Sy
set_option maxHeartbeats 1000000

theorem works_ok : rheostatlaw13_works_g 1000 = some (true, ()) := by kernel_rfl

theorem inside_ok (K : Nat) (lo hi n : Int) : sample_Inside_g K lo hi n = some (decide (lo ≤ n ∧ n ≤ hi), ()) := by
  unfold sample_Inside_g
  by_cases h1 : lo ≤ n
  · by_cases h2 : n ≤ hi <;> simp [h1, h2]
  · simp [h1]

theorem all2 (a b x y : Int) : sample_all_g 1000 a b 2 (fun j => selI [x, y] j) = some (decide (a ≤ x ∧ x ≤ b) && decide (a ≤ y ∧ y ≤ b), ()) := by
  unfold sample_all_g
  have e : ∀ (n : Nat) (c : Nat) (d i : Int) (f : Nat → Int), sample_all_l0 1000 (n + 1) c d i a b f = sample_all_l0r 1000 (sample_all_l0 1000 n) c d i a b f := fun _ _ _ _ _ => rfl
  have w1 : wi64 (0 + 1) = 1 := rfl
  have w2 : wi64 (1 + 1) = 2 := rfl
  have s0 : (fun j => selI [x, y] j) (Int.toNat 0) = x := rfl
  have s1 : (fun j => selI [x, y] j) (Int.toNat 1) = y := rfl
  have d1 : decide ((0 : Int) < ((2 : Nat) : Int)) = true := rfl
  have d2 : decide ((1 : Int) < ((2 : Nat) : Int)) = true := rfl
  have d3 : decide ((0 : Int) ≤ 0) = true := rfl
  have d4 : decide ((0 : Int) ≤ 1) = true := rfl
  rw [show sample_all_l0 1000 1000 = sample_all_l0 1000 (997 + 1 + 1 + 1) from rfl, e]
  unfold sample_all_l0r
  rw [d1, d3, s0, inside_ok, w1, e]
  unfold sample_all_l0r
  rw [d2, d4, s1, inside_ok, w2, e]
  cases decide (a ≤ x ∧ x ≤ b)
  · rfl
  · cases decide (a ≤ y ∧ y ≤ b) <;> rfl

def spanB (lo hi : Int) : Bool := decide (lo ≤ hi ∧ -2147483648 ≤ lo ∧ hi ≤ 2147483648)
def wayI (z g p lo hi : Int) : Bool := lineB z g p && spanB lo hi

theorem way_step {α : Type} (z g p lo hi : Int) (cont : Option (Unit ⊕ (α × Unit))) (f : Int → α) : (((some (lineE z g p, ())).bind fun q1 => (bif (q1.1 != 0) then (some (.inr (f q1.1, ()))) else (bif (decide (lo > hi)) then (some (.inr (f 120, ()))) else ((some (decide (-2147483648 ≤ lo ∧ lo ≤ 2147483648) && decide (-2147483648 ≤ hi ∧ hi ≤ 2147483648), ())).bind fun q2 => (bif (!q2.1) then (some (.inr (f 120, ()))) else cont)))))) =
    bif wayI z g p lo hi then cont else some (.inr (f 120, ())) := by
  unfold wayI lineE
  cases lineB z g p
  · rfl
  · by_cases h : lo > hi
    · have : spanB lo hi = false := decide_eq_false (by omega)
      rw [decide_eq_true h, this]
      rfl
    · rw [decide_eq_false h]
      by_cases h2 : -2147483648 ≤ lo ∧ hi ≤ 2147483648
      · have : spanB lo hi = true := decide_eq_true (by omega)
        rw [this, decide_eq_true (show -2147483648 ≤ lo ∧ lo ≤ 2147483648 by omega), decide_eq_true (show -2147483648 ≤ hi ∧ hi ≤ 2147483648 by omega)]
        rfl
      · have : spanB lo hi = false := decide_eq_false (by omega)
        rw [this]
        by_cases h3 : -2147483648 ≤ lo
        · rw [decide_eq_false (show ¬ (-2147483648 ≤ hi ∧ hi ≤ 2147483648) by omega), Bool.and_false]
          rfl
        · rw [decide_eq_false (show ¬ (-2147483648 ≤ lo ∧ lo ≤ 2147483648) by omega)]
          rfl

theorem way_ok (z0 g0 p0 z1 g1 p1 z2 g2 p2 l0 h0 l1 h1 l2 h2 : Int) : sample_Check_g 1000 z0 g0 p0 z1 g1 p1 z2 g2 p2 l0 h0 l1 h1 l2 h2 = some (bif wayI z0 g0 p0 l0 h0 && (wayI z1 g1 p1 l1 h1 && (wayI z2 g2 p2 l2 h2)) then 0 else 120, ()) := by
  unfold sample_Check_g
  have e : ∀ (n : Nat) (i : Int), sample_Check_l0 1000 (n + 1) l0 h0 l1 h1 l2 h2 i z0 g0 p0 z1 g1 p1 z2 g2 p2 (-2147483648) 2147483648 = sample_Check_l0r 1000 (sample_Check_l0 1000 n) l0 h0 l1 h1 l2 h2 i z0 g0 p0 z1 g1 p1 z2 g2 p2 (-2147483648) 2147483648 := fun _ _ => rfl
  have st : ∀ (n : Nat), sample_Check_l0 1000 (n + 1) l0 h0 l1 h1 l2 h2 3 z0 g0 p0 z1 g1 p1 z2 g2 p2 (-2147483648) 2147483648 = some (.inl ()) := fun _ => rfl
  have k0 : ∀ n, sample_Check_l0 1000 (n + 1) l0 h0 l1 h1 l2 h2 0 z0 g0 p0 z1 g1 p1 z2 g2 p2 (-2147483648) 2147483648 = bif wayI z0 g0 p0 l0 h0 then sample_Check_l0 1000 n l0 h0 l1 h1 l2 h2 1 z0 g0 p0 z1 g1 p1 z2 g2 p2 (-2147483648) 2147483648 else some (.inr (120, ())) := by
    intro n
    rw [e, ← way_step z0 g0 p0 l0 h0 _ (fun x => x), ← check_ok, ← all2]
    rfl
  have k1 : ∀ n, sample_Check_l0 1000 (n + 1) l0 h0 l1 h1 l2 h2 1 z0 g0 p0 z1 g1 p1 z2 g2 p2 (-2147483648) 2147483648 = bif wayI z1 g1 p1 l1 h1 then sample_Check_l0 1000 n l0 h0 l1 h1 l2 h2 2 z0 g0 p0 z1 g1 p1 z2 g2 p2 (-2147483648) 2147483648 else some (.inr (120, ())) := by
    intro n
    rw [e, ← way_step z1 g1 p1 l1 h1 _ (fun x => x), ← check_ok, ← all2]
    rfl
  have k2 : ∀ n, sample_Check_l0 1000 (n + 1) l0 h0 l1 h1 l2 h2 2 z0 g0 p0 z1 g1 p1 z2 g2 p2 (-2147483648) 2147483648 = bif wayI z2 g2 p2 l2 h2 then sample_Check_l0 1000 n l0 h0 l1 h1 l2 h2 3 z0 g0 p0 z1 g1 p1 z2 g2 p2 (-2147483648) 2147483648 else some (.inr (120, ())) := by
    intro n
    rw [e, ← way_step z2 g2 p2 l2 h2 _ (fun x => x), ← check_ok, ← all2]
    rfl
  rw [show sample_Check_l0 1000 1000 = sample_Check_l0 1000 (996 + 1 + 1 + 1 + 1) from rfl, k0, k1, k2, st]
  cases wayI z0 g0 p0 l0 h0
  · rfl
  · cases wayI z1 g1 p1 l1 h1
    · rfl
    · cases wayI z2 g2 p2 l2 h2 <;> rfl

theorem may_ok (K : Nat) (t : Int) : sample_ticks_may_g K t = some (decide (1 ≤ t ∧ t ≤ 60000), ()) := by
  unfold sample_ticks_may_g
  by_cases h1 : t ≥ 1
  · by_cases h2 : t ≤ 60000 <;> simp [h1, h2]
  · have : ¬ 1 ≤ t := by omega
    simp [h1, this]

/-- Is a count's unit within its span? -/
def unitI (z g p lo hi r : Int) : Bool := rawB r && decide (lo ≤ unitV z g p r ∧ unitV z g p r ≤ hi)

def wayB (z0 g0 p0 z1 g1 p1 z2 g2 p2 l0 h0 l1 h1 l2 h2 : Int) : Bool := wayI z0 g0 p0 l0 h0 && (wayI z1 g1 p1 l1 h1 && (wayI z2 g2 p2 l2 h2))
def readB (z0 g0 p0 z1 g1 p1 z2 g2 p2 l0 h0 l1 h1 l2 h2 r0 r1 r2 tk : Int) : Bool := wayB z0 g0 p0 z1 g1 p1 z2 g2 p2 l0 h0 l1 h1 l2 h2 && (decide (1 ≤ tk ∧ tk ≤ 60000) && (unitI z0 g0 p0 l0 h0 r0 && (unitI z1 g1 p1 l1 h1 r1 && unitI z2 g2 p2 l2 h2 r2)))

def readE (z0 g0 p0 z1 g1 p1 z2 g2 p2 l0 h0 l1 h1 l2 h2 r0 r1 r2 tk : Int) : Int × Int × Int × Int × Int × Unit :=
  bif readB z0 g0 p0 z1 g1 p1 z2 g2 p2 l0 h0 l1 h1 l2 h2 r0 r1 r2 tk then (unitV z0 g0 p0 r0, unitV z1 g1 p1 r1, unitV z2 g2 p2 r2, tk, 0, ()) else (0, 0, 0, 0, (bif wayB z0 g0 p0 z1 g1 p1 z2 g2 p2 l0 h0 l1 h1 l2 h2 then 130 else 120), ())

theorem read_step (z g p lo hi r : Int) (h : lineB z g p = true) {β : Type} (bad : Option β) (cont : Int → Option β) : ((some (unitE z g p r)).bind fun q1 => (bif (q1.2.1 != 0) then bad else ((some (decide (lo ≤ q1.1 ∧ q1.1 ≤ hi), ())).bind fun q2 => (bif (!q2.1) then bad else cont q1.1)))) =
    bif unitI z g p lo hi r then cont (unitV z g p r) else bad := by
  unfold unitE unitI
  rw [h]
  cases rawB r
  · rfl
  · show (((some (decide (lo ≤ unitV z g p r ∧ unitV z g p r ≤ hi), ())).bind fun q2 => (bif (!q2.1) then bad else cont (unitV z g p r)))) = bif true && decide (lo ≤ unitV z g p r ∧ unitV z g p r ≤ hi) then cont (unitV z g p r) else bad
    cases decide (lo ≤ unitV z g p r ∧ unitV z g p r ≤ hi) <;> rfl

theorem read_ok (z0 g0 p0 z1 g1 p1 z2 g2 p2 l0 h0 l1 h1 l2 h2 r0 r1 r2 tk : Int) : sample_Read_g 1000 z0 g0 p0 z1 g1 p1 z2 g2 p2 l0 h0 l1 h1 l2 h2 r0 r1 r2 tk = some (readE z0 g0 p0 z1 g1 p1 z2 g2 p2 l0 h0 l1 h1 l2 h2 r0 r1 r2 tk) := by
  unfold sample_Read_g readE readB
  rw [way_ok]
  have hw : (wayI z0 g0 p0 l0 h0 && (wayI z1 g1 p1 l1 h1 && (wayI z2 g2 p2 l2 h2))) = wayB z0 g0 p0 z1 g1 p1 z2 g2 p2 l0 h0 l1 h1 l2 h2 := rfl
  rw [hw]
  cases hwb : wayB z0 g0 p0 z1 g1 p1 z2 g2 p2 l0 h0 l1 h1 l2 h2
  · rfl
  · simp only [Option.bind_some, cond_true, show ((0 : Int) != 0) = false from rfl, cond_false, Bool.true_and]
    unfold sample_take_g
    simp only [Option.bind_some]
    rw [may_ok]
    cases decide (1 ≤ tk ∧ tk ≤ 60000)
    · rfl
    · simp only [Option.bind_some, Bool.not_true, cond_false, Bool.true_and]
      have hl : lineB z0 g0 p0 = true ∧ lineB z1 g1 p1 = true ∧ lineB z2 g2 p2 = true := by
        unfold wayB wayI at hwb
        simp only [Bool.and_eq_true] at hwb
        exact ⟨hwb.1.1, hwb.2.1.1, hwb.2.2.1⟩
      have e : ∀ (n : Nat) (i a b c d : Int), sample_Read_l0 1000 (n + 1) r0 r1 r2 i z0 g0 p0 z1 g1 p1 z2 g2 p2 l0 h0 l1 h1 l2 h2 0 0 0 0 a b c d = sample_Read_l0r 1000 (sample_Read_l0 1000 n) r0 r1 r2 i z0 g0 p0 z1 g1 p1 z2 g2 p2 l0 h0 l1 h1 l2 h2 0 0 0 0 a b c d := fun _ _ _ _ _ _ => rfl
      have st : ∀ (n : Nat) (a b c d : Int), sample_Read_l0 1000 (n + 1) r0 r1 r2 3 z0 g0 p0 z1 g1 p1 z2 g2 p2 l0 h0 l1 h1 l2 h2 0 0 0 0 a b c d = some (.inl (0, 0, 0, 0, a, b, c, d, ())) := fun _ _ _ _ _ => rfl
      have k0 : ∀ n a b c d, sample_Read_l0 1000 (n + 1) r0 r1 r2 0 z0 g0 p0 z1 g1 p1 z2 g2 p2 l0 h0 l1 h1 l2 h2 0 0 0 0 a b c d = bif unitI z0 g0 p0 l0 h0 r0 then sample_Read_l0 1000 n r0 r1 r2 1 z0 g0 p0 z1 g1 p1 z2 g2 p2 l0 h0 l1 h1 l2 h2 0 0 0 0 (unitV z0 g0 p0 r0) b c d else some (.inr (130, 0, 0, 0, 0, ())) := by
        intro n a b c d
        rw [e, ← read_step z0 g0 p0 l0 h0 r0 hl.1 _ (fun u => sample_Read_l0 1000 n r0 r1 r2 1 z0 g0 p0 z1 g1 p1 z2 g2 p2 l0 h0 l1 h1 l2 h2 0 0 0 0 u b c d), ← unit_all]
        simp only [← inside_ok 1000]
        rfl
      have k1 : ∀ n a b c d, sample_Read_l0 1000 (n + 1) r0 r1 r2 1 z0 g0 p0 z1 g1 p1 z2 g2 p2 l0 h0 l1 h1 l2 h2 0 0 0 0 a b c d = bif unitI z1 g1 p1 l1 h1 r1 then sample_Read_l0 1000 n r0 r1 r2 2 z0 g0 p0 z1 g1 p1 z2 g2 p2 l0 h0 l1 h1 l2 h2 0 0 0 0 a (unitV z1 g1 p1 r1) c d else some (.inr (130, 0, 0, 0, 0, ())) := by
        intro n a b c d
        rw [e, ← read_step z1 g1 p1 l1 h1 r1 hl.2.1 _ (fun u => sample_Read_l0 1000 n r0 r1 r2 2 z0 g0 p0 z1 g1 p1 z2 g2 p2 l0 h0 l1 h1 l2 h2 0 0 0 0 a u c d), ← unit_all]
        simp only [← inside_ok 1000]
        rfl
      have k2 : ∀ n a b c d, sample_Read_l0 1000 (n + 1) r0 r1 r2 2 z0 g0 p0 z1 g1 p1 z2 g2 p2 l0 h0 l1 h1 l2 h2 0 0 0 0 a b c d = bif unitI z2 g2 p2 l2 h2 r2 then sample_Read_l0 1000 n r0 r1 r2 3 z0 g0 p0 z1 g1 p1 z2 g2 p2 l0 h0 l1 h1 l2 h2 0 0 0 0 a b (unitV z2 g2 p2 r2) d else some (.inr (130, 0, 0, 0, 0, ())) := by
        intro n a b c d
        rw [e, ← read_step z2 g2 p2 l2 h2 r2 hl.2.2 _ (fun u => sample_Read_l0 1000 n r0 r1 r2 3 z0 g0 p0 z1 g1 p1 z2 g2 p2 l0 h0 l1 h1 l2 h2 0 0 0 0 a b u d), ← unit_all]
        simp only [← inside_ok 1000]
        rfl
      rw [show sample_Read_l0 1000 1000 = sample_Read_l0 1000 (996 + 1 + 1 + 1 + 1) from rfl, k0, k1, k2, st]
      cases unitI z0 g0 p0 l0 h0 r0
      · rfl
      · cases unitI z1 g1 p1 l1 h1 r1
        · rfl
        · cases unitI z2 g2 p2 l2 h2 r2 <;> rfl

theorem way_iff {z0 g0 p0 z1 g1 p1 z2 g2 p2 l0 h0 l1 h1 l2 h2 : Int} (h : wayB z0 g0 p0 z1 g1 p1 z2 g2 p2 l0 h0 l1 h1 l2 h2 = true) : (lineB z0 g0 p0 = true ∧ lineB z1 g1 p1 = true ∧ lineB z2 g2 p2 = true) ∧ (l0 ≤ h0 ∧ -2147483648 ≤ l0 ∧ h0 ≤ 2147483648) ∧ (l1 ≤ h1 ∧ -2147483648 ≤ l1 ∧ h1 ≤ 2147483648) ∧ (l2 ≤ h2 ∧ -2147483648 ≤ l2 ∧ h2 ≤ 2147483648) := by
  unfold wayB wayI spanB at h
  simp only [Bool.and_eq_true, decide_eq_true_eq] at h
  exact ⟨⟨h.1.1, h.2.1.1, h.2.2.1⟩, h.1.2, h.2.1.2, h.2.2.2⟩

theorem read_iff {z0 g0 p0 z1 g1 p1 z2 g2 p2 l0 h0 l1 h1 l2 h2 r0 r1 r2 tk : Int} (h : readB z0 g0 p0 z1 g1 p1 z2 g2 p2 l0 h0 l1 h1 l2 h2 r0 r1 r2 tk = true) : wayB z0 g0 p0 z1 g1 p1 z2 g2 p2 l0 h0 l1 h1 l2 h2 = true ∧ (1 ≤ tk ∧ tk ≤ 60000) ∧ (rawB r0 = true ∧ l0 ≤ unitV z0 g0 p0 r0 ∧ unitV z0 g0 p0 r0 ≤ h0) ∧ (rawB r1 = true ∧ l1 ≤ unitV z1 g1 p1 r1 ∧ unitV z1 g1 p1 r1 ≤ h1) ∧ (rawB r2 = true ∧ l2 ≤ unitV z2 g2 p2 r2 ∧ unitV z2 g2 p2 r2 ≤ h2) := by
  unfold readB unitI at h
  simp only [Bool.and_eq_true, decide_eq_true_eq] at h
  exact ⟨h.1, h.2.1, h.2.2.1, h.2.2.2.1, h.2.2.2.2⟩

theorem read_mk {z0 g0 p0 z1 g1 p1 z2 g2 p2 l0 h0 l1 h1 l2 h2 r0 r1 r2 tk : Int} (hw : wayB z0 g0 p0 z1 g1 p1 z2 g2 p2 l0 h0 l1 h1 l2 h2 = true) (ht : 1 ≤ tk ∧ tk ≤ 60000) (k0 : rawB r0 = true ∧ l0 ≤ unitV z0 g0 p0 r0 ∧ unitV z0 g0 p0 r0 ≤ h0) (k1 : rawB r1 = true ∧ l1 ≤ unitV z1 g1 p1 r1 ∧ unitV z1 g1 p1 r1 ≤ h1) (k2 : rawB r2 = true ∧ l2 ≤ unitV z2 g2 p2 r2 ∧ unitV z2 g2 p2 r2 ≤ h2) : readB z0 g0 p0 z1 g1 p1 z2 g2 p2 l0 h0 l1 h1 l2 h2 r0 r1 r2 tk = true := by
  unfold readB unitI
  simp only [Bool.and_eq_true, decide_eq_true_eq]
  exact ⟨hw, ht, k0, k1, k2⟩

theorem size_fx (K : Nat) (n : Int) (h : -9223372036854775808 < n) (h' : n < 9223372036854775808) : fx_Size_g K n = some (ab n, ()) := by
  unfold fx_Size_g ab
  by_cases hn : n < 0
  · rw [decide_eq_true hn, if_pos hn, wi64_id (x := 0 - n) (by omega) (by omega), decide_eq_false (show ¬ 0 - n < 0 by omega), Int.zero_sub]
    rfl
  · rw [decide_eq_false hn, if_neg hn]
    rfl

theorem clamp_ok (n : Int) : fx_Clamp_g 1000 2147483648 n = some (btw (-2147483648) 2147483648 n, 0, ()) := by
  unfold fx_Clamp_g
  have hb : fx_bound_g 1000 2147483648 = some (0, ()) := rfl
  rw [hb]
  simp only [Option.bind_some]
  rw [fx_between_ok]
  rfl

theorem worst_ok (a b c d e f : Int) (h : a ≤ b ∧ -2147483648 ≤ a ∧ b ≤ 2147483648) : ∃ w, sample_Worst_g 1000 a b c d e f = some (w * 60000, ()) ∧ ab a ≤ w ∧ ab b ≤ w ∧ w ≤ 2147483648 := by
  have ha := ab_bound (x := a) (M := 2147483648) (by omega) (by omega)
  have hb := ab_bound (x := b) (M := 2147483648) (by omega) (by omega)
  have ha0 := ab_nonneg a
  have hb0 := ab_nonneg b
  unfold sample_Worst_g
  rw [decide_eq_false (show ¬ a > b by omega), clamp_ok, clamp_ok, btw_id (by omega) (by omega), btw_id (by omega) (by omega)]
  simp only [cond_false, Option.bind_some]
  rw [size_fx 1000 a (by omega) (by omega), size_fx 1000 b (by omega) (by omega)]
  simp only [Option.bind_some]
  by_cases hab : ab b > ab a
  · rw [decide_eq_true hab, cond_true, wi64_id (by omega) (by omega)]
    exact ⟨_, rfl, by omega, by omega, by omega⟩
  · rw [decide_eq_false hab, cond_false, wi64_id (by omega) (by omega)]
    exact ⟨_, rfl, by omega, by omega, by omega⟩

theorem mx_ok (x : Int) (h : -9223372036854775808 < x) (h' : x < 9223372036854775808) : (bif decide (wi64 (0 - x) > x) then wi64 (0 - x) else x) = ab x := by
  rw [wi64_id (x := 0 - x) (by omega) (by omega)]
  unfold ab
  by_cases hx : x < 0
  · rw [decide_eq_true (by omega), if_pos hx, cond_true, Int.zero_sub]
  · rw [if_neg hx]
    rw [decide_eq_false (by omega), cond_false]

theorem SampleBounds_ok (z0 g0 p0 z1 g1 p1 z2 g2 p2 l0 h0 l1 h1 l2 h2 r0 r1 r2 tk : Int) : rheostatlaw13_SampleBounds_g 1000 z0 g0 p0 z1 g1 p1 z2 g2 p2 l0 h0 l1 h1 l2 h2 r0 r1 r2 tk = some true := by
  unfold rheostatlaw13_SampleBounds_g
  rw [works_ok, read_ok]
  simp only [Option.bind_some, Bool.not_true, cond_false]
  unfold readE
  cases hr : readB z0 g0 p0 z1 g1 p1 z2 g2 p2 l0 h0 l1 h1 l2 h2 r0 r1 r2 tk
  · cases wayB z0 g0 p0 z1 g1 p1 z2 g2 p2 l0 h0 l1 h1 l2 h2 <;> rfl
  · obtain ⟨hw, ht, k0, k1, k2⟩ := read_iff hr
    obtain ⟨_, s0, s1, s2⟩ := way_iff hw
    generalize unitV z0 g0 p0 r0 = u0 at *
    generalize unitV z1 g1 p1 r1 = u1 at *
    generalize unitV z2 g2 p2 r2 = u2 at *
    have e : ∀ (n : Nat) (i : Int), rheostatlaw13_SampleBounds_l0 1000 (n + 1) i z0 g0 p0 z1 g1 p1 z2 g2 p2 l0 h0 l1 h1 l2 h2 r0 r1 r2 tk u0 u1 u2 tk = rheostatlaw13_SampleBounds_l0r 1000 (rheostatlaw13_SampleBounds_l0 1000 n) i z0 g0 p0 z1 g1 p1 z2 g2 p2 l0 h0 l1 h1 l2 h2 r0 r1 r2 tk u0 u1 u2 tk := fun _ _ => rfl
    have hloop : rheostatlaw13_SampleBounds_l0 1000 1000 0 z0 g0 p0 z1 g1 p1 z2 g2 p2 l0 h0 l1 h1 l2 h2 r0 r1 r2 tk u0 u1 u2 tk = some (.inl (z0, g0, p0, z1, g1, p1, z2, g2, p2, l0, h0, l1, h1, l2, h2, r0, r1, r2, tk, u0, u1, u2, tk, ())) := by
      have q0 : ∀ n, rheostatlaw13_SampleBounds_l0 1000 (n + 1) 0 z0 g0 p0 z1 g1 p1 z2 g2 p2 l0 h0 l1 h1 l2 h2 r0 r1 r2 tk u0 u1 u2 tk = rheostatlaw13_SampleBounds_l0 1000 n 1 z0 g0 p0 z1 g1 p1 z2 g2 p2 l0 h0 l1 h1 l2 h2 r0 r1 r2 tk u0 u1 u2 tk := by
        intro n
        rw [e]
        show (bif decide (u0 < l0) then some (Sum.inr (false, ())) else bif decide (u0 > h0) then some (Sum.inr (false, ())) else _) = _
        rw [decide_eq_false (show ¬ u0 < l0 by omega), decide_eq_false (show ¬ u0 > h0 by omega)]
        rfl
      have q1 : ∀ n, rheostatlaw13_SampleBounds_l0 1000 (n + 1) 1 z0 g0 p0 z1 g1 p1 z2 g2 p2 l0 h0 l1 h1 l2 h2 r0 r1 r2 tk u0 u1 u2 tk = rheostatlaw13_SampleBounds_l0 1000 n 2 z0 g0 p0 z1 g1 p1 z2 g2 p2 l0 h0 l1 h1 l2 h2 r0 r1 r2 tk u0 u1 u2 tk := by
        intro n
        rw [e]
        show (bif decide (u1 < l1) then some (Sum.inr (false, ())) else bif decide (u1 > h1) then some (Sum.inr (false, ())) else _) = _
        rw [decide_eq_false (show ¬ u1 < l1 by omega), decide_eq_false (show ¬ u1 > h1 by omega)]
        rfl
      have q2 : ∀ n, rheostatlaw13_SampleBounds_l0 1000 (n + 1) 2 z0 g0 p0 z1 g1 p1 z2 g2 p2 l0 h0 l1 h1 l2 h2 r0 r1 r2 tk u0 u1 u2 tk = rheostatlaw13_SampleBounds_l0 1000 n 3 z0 g0 p0 z1 g1 p1 z2 g2 p2 l0 h0 l1 h1 l2 h2 r0 r1 r2 tk u0 u1 u2 tk := by
        intro n
        rw [e]
        show (bif decide (u2 < l2) then some (Sum.inr (false, ())) else bif decide (u2 > h2) then some (Sum.inr (false, ())) else _) = _
        rw [decide_eq_false (show ¬ u2 < l2 by omega), decide_eq_false (show ¬ u2 > h2 by omega)]
        rfl
      rw [show rheostatlaw13_SampleBounds_l0 1000 1000 = rheostatlaw13_SampleBounds_l0 1000 (996 + 1 + 1 + 1 + 1) from rfl, q0, q1, q2]
      rfl
    obtain ⟨w, w1, w2, w3, w4⟩ := worst_ok l0 h0 l1 h1 l2 h2 s0
    have hu : ab u0 ≤ w := by
      unfold ab at w2 w3 ⊢
      split at w2 <;> split at w3 <;> split <;> omega
    have hu0 := ab_nonneg u0
    have hp : ab (u0 * tk) ≤ w * 60000 := ab_mul_le hu (ab_bound (by omega) (by omega)) (by omega)
    have hp2 : -(w * 60000) ≤ u0 * tk ∧ u0 * tk ≤ w * 60000 := by
      unfold ab at hp
      split at hp <;> omega
    have fin : (fun x : Int => (bif (tk == tk) then ((sample_Worst_g 1000 l0 h0 l1 h1 l2 h2).bind fun q6 => (some (decide ((bif (decide ((wi64 (0 - (wi64 (u0 * x)))) > (wi64 (u0 * x)))) then (wi64 (0 - (wi64 (u0 * x)))) else (wi64 (u0 * x))) ≤ q6.1)))) else (some false))) tk = some true := by
      simp only [beq_self_eq_true, cond_true]
      rw [w1, wi64_id (x := u0 * tk) (by omega) (by omega), mx_ok (u0 * tk) (by omega) (by omega)]
      simp only [Option.bind_some]
      rw [decide_eq_true hp]
    simp only [cond_true, show ((0 : Int) != 0) = false from rfl, cond_false]
    rw [hloop]
    exact fin

theorem SampleWider_ok (z0 g0 p0 z1 g1 p1 z2 g2 p2 l0 h0 l1 h1 l2 h2 r0 r1 r2 tk m0 m1 m2 : Int) : rheostatlaw13_SampleWider_g 1000 z0 g0 p0 z1 g1 p1 z2 g2 p2 l0 h0 l1 h1 l2 h2 r0 r1 r2 tk m0 m1 m2 = some true := by
  unfold rheostatlaw13_SampleWider_g
  rw [works_ok, read_ok]
  simp only [Option.bind_some, Bool.not_true, cond_false]
  unfold readE
  cases hr : readB z0 g0 p0 z1 g1 p1 z2 g2 p2 l0 h0 l1 h1 l2 h2 r0 r1 r2 tk
  · cases wayB z0 g0 p0 z1 g1 p1 z2 g2 p2 l0 h0 l1 h1 l2 h2 <;> rfl
  · obtain ⟨hw, ht, k0, k1, k2⟩ := read_iff hr
    obtain ⟨lb, s0, s1, s2⟩ := way_iff hw
    obtain ⟨a0, a1, a2, ea⟩ := among_ok 1000 m0 1000 (by omega) (by omega)
    obtain ⟨b0, b1, b2, eb⟩ := among_ok 1000 m1 1000 (by omega) (by omega)
    obtain ⟨c0, c1, c2, ec⟩ := among_ok 1000 m2 1000 (by omega) (by omega)
    have wd : ∀ lo hi k : Int, (lo ≤ hi ∧ -2147483648 ≤ lo ∧ hi ≤ 2147483648) → 0 ≤ k → k < 1000 → ∃ x y, (bif decide (wi64 (lo - k) > -2147483648) then wi64 (lo - k) else -2147483648) = x ∧ (bif decide (wi64 (hi + k) < 2147483648) then wi64 (hi + k) else 2147483648) = y ∧ x ≤ lo ∧ hi ≤ y ∧ -2147483648 ≤ x ∧ y ≤ 2147483648 := by
      intro lo hi k h1 h2 h3
      refine ⟨_, _, rfl, rfl, ?_⟩
      rw [wi64_id (x := lo - k) (by omega) (by omega), wi64_id (x := hi + k) (by omega) (by omega)]
      by_cases q1 : lo - k > -2147483648 <;> by_cases q2 : hi + k < 2147483648 <;> simp only [q1, q2, decide_true, decide_false, cond_true, cond_false] <;> omega
    obtain ⟨x0, y0, ex0, ey0, v0⟩ := wd l0 h0 a0 s0 a1 a2
    obtain ⟨x1, y1, ex1, ey1, v1⟩ := wd l1 h1 b0 s1 b1 b2
    obtain ⟨x2, y2, ex2, ey2, v2⟩ := wd l2 h2 c0 s2 c1 c2
    have hw2 : wayB z0 g0 p0 z1 g1 p1 z2 g2 p2 x0 y0 x1 y1 x2 y2 = true := by
      unfold wayB wayI spanB
      simp only [Bool.and_eq_true, decide_eq_true_eq]
      exact ⟨⟨lb.1, by omega⟩, ⟨lb.2.1, by omega⟩, lb.2.2, by omega⟩
    have hr2 : readB z0 g0 p0 z1 g1 p1 z2 g2 p2 x0 y0 x1 y1 x2 y2 r0 r1 r2 tk = true := read_mk hw2 ht ⟨k0.1, by omega, by omega⟩ ⟨k1.1, by omega, by omega⟩ ⟨k2.1, by omega, by omega⟩
    generalize hu0 : unitV z0 g0 p0 r0 = u0 at *
    generalize hu1 : unitV z1 g1 p1 r1 = u1 at *
    generalize hu2 : unitV z2 g2 p2 r2 = u2 at *
    have e : ∀ (n : Nat) (i a b c d f g : Int), rheostatlaw13_SampleWider_l0 1000 (n + 1) i z0 g0 p0 z1 g1 p1 z2 g2 p2 l0 h0 l1 h1 l2 h2 r0 r1 r2 tk m0 m1 m2 u0 u1 u2 tk a b c d f g = rheostatlaw13_SampleWider_l0r 1000 (rheostatlaw13_SampleWider_l0 1000 n) i z0 g0 p0 z1 g1 p1 z2 g2 p2 l0 h0 l1 h1 l2 h2 r0 r1 r2 tk m0 m1 m2 u0 u1 u2 tk a b c d f g := fun _ _ _ _ _ _ _ _ => rfl
    have hloop : rheostatlaw13_SampleWider_l0 1000 1000 0 z0 g0 p0 z1 g1 p1 z2 g2 p2 l0 h0 l1 h1 l2 h2 r0 r1 r2 tk m0 m1 m2 u0 u1 u2 tk l0 h0 l1 h1 l2 h2 = some (z0, g0, p0, z1, g1, p1, z2, g2, p2, l0, h0, l1, h1, l2, h2, r0, r1, r2, tk, u0, u1, u2, tk, x0, y0, x1, y1, x2, y2, ()) := by
      have q0 : ∀ n, rheostatlaw13_SampleWider_l0 1000 (n + 1) 0 z0 g0 p0 z1 g1 p1 z2 g2 p2 l0 h0 l1 h1 l2 h2 r0 r1 r2 tk m0 m1 m2 u0 u1 u2 tk l0 h0 l1 h1 l2 h2 = rheostatlaw13_SampleWider_l0 1000 n 1 z0 g0 p0 z1 g1 p1 z2 g2 p2 l0 h0 l1 h1 l2 h2 r0 r1 r2 tk m0 m1 m2 u0 u1 u2 tk x0 y0 l1 h1 l2 h2 := by
        intro n
        rw [e, ← ex0, ← ey0]
        unfold rheostatlaw13_SampleWider_l0r
        rw [show selI [m0, m1, m2] (Int.toNat 0) = m0 from rfl, ea]
        rfl
      have q1 : ∀ n, rheostatlaw13_SampleWider_l0 1000 (n + 1) 1 z0 g0 p0 z1 g1 p1 z2 g2 p2 l0 h0 l1 h1 l2 h2 r0 r1 r2 tk m0 m1 m2 u0 u1 u2 tk x0 y0 l1 h1 l2 h2 = rheostatlaw13_SampleWider_l0 1000 n 2 z0 g0 p0 z1 g1 p1 z2 g2 p2 l0 h0 l1 h1 l2 h2 r0 r1 r2 tk m0 m1 m2 u0 u1 u2 tk x0 y0 x1 y1 l2 h2 := by
        intro n
        rw [e, ← ex1, ← ey1]
        unfold rheostatlaw13_SampleWider_l0r
        rw [show selI [m0, m1, m2] (Int.toNat 1) = m1 from rfl, eb]
        rfl
      have q2 : ∀ n, rheostatlaw13_SampleWider_l0 1000 (n + 1) 2 z0 g0 p0 z1 g1 p1 z2 g2 p2 l0 h0 l1 h1 l2 h2 r0 r1 r2 tk m0 m1 m2 u0 u1 u2 tk x0 y0 x1 y1 l2 h2 = rheostatlaw13_SampleWider_l0 1000 n 3 z0 g0 p0 z1 g1 p1 z2 g2 p2 l0 h0 l1 h1 l2 h2 r0 r1 r2 tk m0 m1 m2 u0 u1 u2 tk x0 y0 x1 y1 x2 y2 := by
        intro n
        rw [e, ← ex2, ← ey2]
        unfold rheostatlaw13_SampleWider_l0r
        rw [show selI [m0, m1, m2] (Int.toNat 2) = m2 from rfl, ec]
        rfl
      rw [show rheostatlaw13_SampleWider_l0 1000 1000 = rheostatlaw13_SampleWider_l0 1000 (996 + 1 + 1 + 1 + 1) from rfl, q0, q1, q2]
      rfl
    simp only [cond_true, show ((0 : Int) != 0) = false from rfl, cond_false]
    rw [hloop]
    show ((sample_Read_g 1000 z0 g0 p0 z1 g1 p1 z2 g2 p2 x0 y0 x1 y1 x2 y2 r0 r1 r2 tk).bind fun q4 => (bif (q4.2.2.2.2.1 == 0) then (some ((u0 == q4.1) && ((u1 == q4.2.1) && ((u2 == q4.2.2.1) && (tk == q4.2.2.2.1))))) else (some false))) = some true
    rw [read_ok]
    unfold readE
    rw [hr2, hu0, hu1, hu2]
    simp
end Go.Proofs.Ytdcjkkgfimbodaa
