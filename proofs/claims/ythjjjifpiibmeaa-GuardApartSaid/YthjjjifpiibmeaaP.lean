/-
  Law 20 (guard), the plain part: what the printed functions compute answers as the laws say.
-/
import Derived.Test.YthjjjifpiibmeaaG
namespace Go.Proofs.Ythjjjifpiibmeaa
open Go.Sy

theorem within1 (K : Nat) (lo hi x : Int) : guard_within_g (K + 2) lo hi 1 (fun j => selI [x] j) = some (decide (lo ≤ x ∧ x ≤ hi), ()) := by
  have e : ∀ n a b c d e f, guard_within_l0 (K + 2) (n + 1) a b c d e f = guard_within_l0r (K + 2) (guard_within_l0 (K + 2) n) a b c d e f := fun _ _ _ _ _ _ _ => rfl
  simp only [guard_within_g, e, guard_within_l0r]
  by_cases h1 : x < lo
  · simp [selI, h1]
    omega
  · by_cases h2 : x > hi
    · simp [selI, h1, h2]
    · simp [selI, h1, h2, wi64_def]
      omega

def mayB (so at' ba : Int) : Bool := decide (0 ≤ so ∧ so ≤ 3) && (decide (-2147483648 ≤ at' ∧ at' ≤ 2147483648) && decide (0 ≤ ba ∧ ba ≤ 2147483648))

theorem may_ok (K : Nat) (so : Int) (hi : Bool) (at' ba : Int) (ra : Bool) (run : Int) : guard_alarm_may_g (K + 2) so hi at' ba ra run = some (mayB so at' ba, ()) := by
  simp only [guard_alarm_may_g, within1, Option.bind_some, mayB]
  cases decide (0 ≤ so ∧ so ≤ 3) <;> cases decide (-2147483648 ≤ at' ∧ at' ≤ 2147483648) <;> rfl

theorem rmay_ok (K : Nat) (so : Int) (hi : Bool) (at' ba : Int) : rheostatref20_may_g K so hi at' ba = some (mayB so at' ba, ()) := by
  simp only [rheostatref20_may_g, mayB]
  by_cases h1 : so ≥ 0 <;> by_cases h2 : so ≤ 3 <;> by_cases h3 : at' ≥ -2147483648 <;> by_cases h4 : at' ≤ 2147483648 <;> by_cases h5 : ba ≥ 0 <;> simp [h1, h2, h3, h4, h5] <;> omega

def holdsB (hi : Bool) (at' ba : Int) (ra : Bool) (v : Int) : Bool :=
  bif ra then (bif hi then decide (v ≤ wi64 (at' - ba)) else decide (v ≥ wi64 (at' + ba))) else (bif hi then decide (v > at') else decide (v < at'))

theorem holds_ok (K : Nat) (so : Int) (hi : Bool) (at' ba : Int) (ra : Bool) (run v : Int) : guard_alarm_holds_g K so hi at' ba ra run v = some (holdsB hi at' ba ra v, ()) := by
  simp only [guard_alarm_holds_g, guard_Back_g, guard_Beyond_g, holdsB]
  cases ra <;> cases hi <;> rfl

/-- A step, as the document has it. -/
def oneB (so : Int) (hi : Bool) (at' ba deb : Int) (ra : Bool) (run v : Int) : Bool × Int × Int × Unit :=
  if mayB so at' ba = true ∧ 1 ≤ deb ∧ deb ≤ 31 ∧ 0 ≤ run ∧ run < deb then
    (if holdsB hi at' ba ra v = false then (ra, 0, 0, ()) else if run + 1 = deb then (!ra, 0, 0, ()) else (ra, run + 1, 0, ()))
  else (false, 0, 2, ())

theorem one_ok (K : Nat) (so : Int) (hi : Bool) (at' ba deb : Int) (ra : Bool) (run v : Int) : guard_One_g (K + 2) so hi at' ba deb ra run v = some (oneB so hi at' ba deb ra run v) := by
  simp only [guard_One_g, may_ok, within1, holds_ok, Option.bind_some, oneB]
  cases hm : mayB so at' ba
  · simp
  · by_cases hd : 1 ≤ deb ∧ deb ≤ 31
    · have e : wi64 (deb - 1) = deb - 1 := wi64_id (by omega) (by omega)
      rw [e]
      by_cases hr : 0 ≤ run ∧ run ≤ deb - 1
      · have e2 : wi64 (run + 1) = run + 1 := wi64_id (by omega) (by omega)
        rw [e2, if_pos ⟨rfl, by omega⟩]
        cases hh : holdsB hi at' ba ra v
        · simp [hd, hr]
        · by_cases hq : run + 1 = deb
          · have e3 : (run + 1 == deb) = true := by simp [hq]
            rw [e3, if_pos hq]
            simp [hd, hr]
          · have e3 : (run + 1 == deb) = false := by simp [hq]
            rw [e3, if_neg hq]
            simp [hd, hr]
      · rw [if_neg (by omega)]
        simp [hd, hr]
    · rw [if_neg (by omega)]
      simp [hd]

theorem tailB (ra hb : Bool) (run deb : Int) : (bif !hb then some (ra, (0 : Int), (0 : Int), ()) else bif decide (run + 1 = deb) then some (!ra, 0, 0, ()) else some (ra, run + 1, 0, ())) =
    some (if hb = false then (ra, (0 : Int), (0 : Int), ()) else if run + 1 = deb then (!ra, 0, 0, ()) else (ra, run + 1, 0, ())) := by
  cases hb <;> by_cases h : run + 1 = deb <;> simp [h]

theorem rone_ok (K : Nat) (so : Int) (hi : Bool) (at' ba deb : Int) (ra : Bool) (run v : Int) : rheostatref20_One_g K so hi at' ba deb ra run v = some (oneB so hi at' ba deb ra run v) := by
  simp only [rheostatref20_One_g, rmay_ok, Option.bind_some, oneB, rheostatref20_Beyond_g, rheostatref20_Back_g]
  cases hm : mayB so at' ba
  · simp
  · by_cases h1 : deb < 1
    · rw [if_neg (by omega)]; simp [h1]
    · by_cases h2 : deb > 31
      · rw [if_neg (by omega)]; simp [h1, h2]
      · by_cases h3 : run < 0
        · rw [if_neg (by omega)]; simp [h1, h2, h3]
        · by_cases h4 : run ≥ deb
          · rw [if_neg (by omega)]; simp [h1, h2, h3, h4]
          · have e2 : wi64 (run + 1) = run + 1 := wi64_id (by omega) (by omega)
            rw [if_pos ⟨rfl, by omega⟩]
            simp only [e2]
            have e3 : (run + 1 == deb) = decide (run + 1 = deb) := rfl
            simp only [e3, h1, h2, h3, h4, decide_false, cond_false, Bool.not_true, holdsB]
            cases ra <;> cases hi <;> simp only [cond_true, cond_false, Option.bind_some]
            all_goals exact tailB _ _ _ _

theorem one_k (so : Int) (hi : Bool) (at' ba deb : Int) (ra : Bool) (run v : Int) : guard_One_g 1000 so hi at' ba deb ra run v = some (oneB so hi at' ba deb ra run v) := one_ok 998 ..

theorem works_ok : rheostatlaw20_works_g 1000 = some (true, ()) := by kernel_rfl

theorem GuardOnes_ok (so : Int) (hi : Bool) (at' ba deb : Int) (ra : Bool) (run v : Int) : rheostatlaw20_GuardOnes_g 1000 so hi at' ba deb ra run v = some true := by
  have e1 : guard_Beyond_g 1000 so hi at' ba v = rheostatref20_Beyond_g 1000 so hi at' ba v := rfl
  have e2 : guard_Back_g 1000 so hi at' ba v = rheostatref20_Back_g 1000 so hi at' ba v := rfl
  simp only [rheostatlaw20_GuardOnes_g, one_k, rone_ok, works_ok, e1, e2, rheostatref20_Beyond_g, rheostatref20_Back_g]
  cases hi <;> simp

theorem mayB_iff {so at' ba : Int} : mayB so at' ba = true ↔ (0 ≤ so ∧ so ≤ 3) ∧ (-2147483648 ≤ at' ∧ at' ≤ 2147483648) ∧ 0 ≤ ba ∧ ba ≤ 2147483648 := by
  simp [mayB]

theorem GuardApart_ok (so : Int) (hi : Bool) (at' ba v : Int) : rheostatlaw20_GuardApart_g 1000 so hi at' ba v = some true := by
  simp only [rheostatlaw20_GuardApart_g, one_k, works_ok, guard_Beyond_g, guard_Back_g, Option.bind_some, oneB]
  cases hm : mayB so at' ba
  · simp
  · obtain ⟨_, h2, h3⟩ := mayB_iff.1 hm
    have w1 : wi64 (at' - ba) = at' - ba := wi64_id (by omega) (by omega)
    have w2 : wi64 (at' + ba) = at' + ba := wi64_id (by omega) (by omega)
    rw [if_pos ⟨rfl, by decide⟩]
    have h0 : ∀ b : Bool, ((if b = false then (false, (0 : Int), (0 : Int), ()) else if (0 : Int) + 1 = 1 then (!false, 0, 0, ()) else (false, 0 + 1, 0, ())).2.2.1 != 0) = false := by intro b; cases b <;> rfl
    rw [h0]
    cases hi
    · simp only [cond_false, Bool.not_true, Option.bind_some, w1, w2]
      by_cases h4 : v < at'
      · simp [h4]; omega
      · simp [h4]
    · simp only [cond_true, cond_false, Bool.not_true, Option.bind_some, w1, w2]
      by_cases h4 : v > at'
      · simp [h4]; omega
      · simp [h4]

theorem often_loop (so : Int) (hi : Bool) (at' ba : Int) (len : Nat) (m : Nat → Int) : ∀ (n : Nat) (up : Bool) (i : Int), 0 ≤ i → 200 - i < n → i ≤ 200 →
    rheostatlaw20_GuardOften_l0 1000 n len up i m so hi at' ba = some (.inl ()) ∨ rheostatlaw20_GuardOften_l0 1000 n len up i m so hi at' ba = some (.inr (true, ()))
  | 0, up, i, h0, h1, h2 => by omega
  | n + 1, up, i, h0, h1, h2 => by
    have e : rheostatlaw20_GuardOften_l0 1000 (n + 1) len up i m so hi at' ba = rheostatlaw20_GuardOften_l0r 1000 (rheostatlaw20_GuardOften_l0 1000 n) len up i m so hi at' ba := rfl
    rw [e]
    simp only [rheostatlaw20_GuardOften_l0r, one_k, Option.bind_some]
    by_cases h3 : i < (len : Int)
    · by_cases h4 : i < 200
      · have w : wi64 (i + 1) = i + 1 := wi64_id (by omega) (by omega)
        have ih := fun up => often_loop so hi at' ba len m n up (i + 1) (by omega) (by omega) (by omega)
        simp only [h3, h4, h0, w, decide_true, Bool.and_self, cond_true, oneB]
        cases hm : mayB so at' ba
        · simp
        · obtain ⟨_, h5, h6⟩ := mayB_iff.1 hm
          have w1 : wi64 (at' - ba) = at' - ba := wi64_id (by omega) (by omega)
          have w2 : wi64 (at' + ba) = at' + ba := wi64_id (by omega) (by omega)
          rw [if_pos ⟨rfl, by decide⟩]
          generalize m i.toNat = v
          simp only [guard_Beyond_g, guard_Back_g, holdsB, w1, w2]
          cases hi <;> cases up <;> simp only [cond_true, cond_false, Option.bind_some]
          · by_cases h7 : v < at' <;> by_cases h8 : v ≥ at' + ba
            · omega
            · simpa [h7, h8] using ih true
            · simpa [h7, h8] using ih false
            · simpa [h7, h8] using ih false
          · by_cases h7 : v < at' <;> by_cases h8 : v ≥ at' + ba
            · omega
            · simpa [h7, h8] using ih true
            · simpa [h7, h8] using ih false
            · simpa [h7, h8] using ih true
          · by_cases h7 : v > at' <;> by_cases h8 : v ≤ at' - ba
            · omega
            · simpa [h7, h8] using ih true
            · simpa [h7, h8] using ih false
            · simpa [h7, h8] using ih false
          · by_cases h7 : v > at' <;> by_cases h8 : v ≤ at' - ba
            · omega
            · simpa [h7, h8] using ih true
            · simpa [h7, h8] using ih false
            · simpa [h7, h8] using ih true
      · simp [h3, h4]
    · simp [h3]

theorem GuardOften_ok (so : Int) (hi : Bool) (at' ba : Int) (len : Nat) (m : Nat → Int) : rheostatlaw20_GuardOften_g 1000 so hi at' ba len m = some true := by
  simp only [rheostatlaw20_GuardOften_g, works_ok, Option.bind_some]
  rcases often_loop so hi at' ba len m 1000 false 0 (by omega) (by omega) (by omega) with h | h
  · rw [h]; rfl
  · rw [h]; rfl
end Go.Proofs.Ythjjjifpiibmeaa
