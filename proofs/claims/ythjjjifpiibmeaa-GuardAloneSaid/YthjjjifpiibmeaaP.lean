/-
  Law 20 (guard), the plain part: what the printed functions compute answers as the laws say.
-/
import Derived.Test.YthjjjifpiibmeaaG
namespace Go.Proofs.Ythjjjifpiibmeaa
open Go.Sy

theorem within1 (K : Nat) (lo hi x : Int) : guard_within_g (K + 2) lo hi 1 (fun j => selI [x] j) = some (decide (lo ≤ x ∧ x ≤ hi), ()) := by
  have e : ∀ n a b c d e f, guard_within_l0 (K + 2) (n + 1) a b c d e f = guard_within_l0r (K + 2) (guard_within_l0 (K + 2) n) a b c d e f := fun _ _ _ _ _ _ _ => rfl
  simp only [guard_within_g, e, guard_within_l0r]
  by_cases h1 : x < lo
  · simp [selI, h1]
    omega
  · by_cases h2 : x > hi
    · simp [selI, h1, h2]
    · simp [selI, h1, h2, wi64_def]
      omega

def mayB (so at' ba : Int) : Bool := decide (0 ≤ so ∧ so ≤ 3) && (decide (-2147483648 ≤ at' ∧ at' ≤ 2147483648) && decide (0 ≤ ba ∧ ba ≤ 2147483648))

theorem may_ok (K : Nat) (so : Int) (hi : Bool) (at' ba : Int) (ra : Bool) (run : Int) : guard_alarm_may_g (K + 2) so hi at' ba ra run = some (mayB so at' ba, ()) := by
  simp only [guard_alarm_may_g, within1, Option.bind_some, mayB]
  cases decide (0 ≤ so ∧ so ≤ 3) <;> cases decide (-2147483648 ≤ at' ∧ at' ≤ 2147483648) <;> rfl

theorem rmay_ok (K : Nat) (so : Int) (hi : Bool) (at' ba : Int) : rheostatref20_may_g K so hi at' ba = some (mayB so at' ba, ()) := by
  simp only [rheostatref20_may_g, mayB]
  by_cases h1 : so ≥ 0 <;> by_cases h2 : so ≤ 3 <;> by_cases h3 : at' ≥ -2147483648 <;> by_cases h4 : at' ≤ 2147483648 <;> by_cases h5 : ba ≥ 0 <;> simp [h1, h2, h3, h4, h5] <;> omega

def holdsB (hi : Bool) (at' ba : Int) (ra : Bool) (v : Int) : Bool :=
  bif ra then (bif hi then decide (v ≤ wi64 (at' - ba)) else decide (v ≥ wi64 (at' + ba))) else (bif hi then decide (v > at') else decide (v < at'))

theorem holds_ok (K : Nat) (so : Int) (hi : Bool) (at' ba : Int) (ra : Bool) (run v : Int) : guard_alarm_holds_g K so hi at' ba ra run v = some (holdsB hi at' ba ra v, ()) := by
  simp only [guard_alarm_holds_g, guard_Back_g, guard_Beyond_g, holdsB]
  cases ra <;> cases hi <;> rfl

/-- A step, as the document has it. -/
def oneB (so : Int) (hi : Bool) (at' ba deb : Int) (ra : Bool) (run v : Int) : Bool × Int × Int × Unit :=
  if mayB so at' ba = true ∧ 1 ≤ deb ∧ deb ≤ 31 ∧ 0 ≤ run ∧ run < deb then
    (if holdsB hi at' ba ra v = false then (ra, 0, 0, ()) else if run + 1 = deb then (!ra, 0, 0, ()) else (ra, run + 1, 0, ()))
  else (false, 0, 2, ())

theorem one_ok (K : Nat) (so : Int) (hi : Bool) (at' ba deb : Int) (ra : Bool) (run v : Int) : guard_One_g (K + 2) so hi at' ba deb ra run v = some (oneB so hi at' ba deb ra run v) := by
  simp only [guard_One_g, may_ok, within1, holds_ok, Option.bind_some, oneB]
  cases hm : mayB so at' ba
  · simp
  · by_cases hd : 1 ≤ deb ∧ deb ≤ 31
    · have e : wi64 (deb - 1) = deb - 1 := wi64_id (by omega) (by omega)
      rw [e]
      by_cases hr : 0 ≤ run ∧ run ≤ deb - 1
      · have e2 : wi64 (run + 1) = run + 1 := wi64_id (by omega) (by omega)
        rw [e2, if_pos ⟨rfl, by omega⟩]
        cases hh : holdsB hi at' ba ra v
        · simp [hd, hr]
        · by_cases hq : run + 1 = deb
          · have e3 : (run + 1 == deb) = true := by simp [hq]
            rw [e3, if_pos hq]
            simp [hd, hr]
          · have e3 : (run + 1 == deb) = false := by simp [hq]
            rw [e3, if_neg hq]
            simp [hd, hr]
      · rw [if_neg (by omega)]
        simp [hd, hr]
    · rw [if_neg (by omega)]
      simp [hd]

theorem tailB (ra hb : Bool) (run deb : Int) : (bif !hb then some (ra, (0 : Int), (0 : Int), ()) else bif decide (run + 1 = deb) then some (!ra, 0, 0, ()) else some (ra, run + 1, 0, ())) =
    some (if hb = false then (ra, (0 : Int), (0 : Int), ()) else if run + 1 = deb then (!ra, 0, 0, ()) else (ra, run + 1, 0, ())) := by
  cases hb <;> by_cases h : run + 1 = deb <;> simp [h]

theorem rone_ok (K : Nat) (so : Int) (hi : Bool) (at' ba deb : Int) (ra : Bool) (run v : Int) : rheostatref20_One_g K so hi at' ba deb ra run v = some (oneB so hi at' ba deb ra run v) := by
  simp only [rheostatref20_One_g, rmay_ok, Option.bind_some, oneB, rheostatref20_Beyond_g, rheostatref20_Back_g]
  cases hm : mayB so at' ba
  · simp
  · by_cases h1 : deb < 1
    · rw [if_neg (by omega)]; simp [h1]
    · by_cases h2 : deb > 31
      · rw [if_neg (by omega)]; simp [h1, h2]
      · by_cases h3 : run < 0
        · rw [if_neg (by omega)]; simp [h1, h2, h3]
        · by_cases h4 : run ≥ deb
          · rw [if_neg (by omega)]; simp [h1, h2, h3, h4]
          · have e2 : wi64 (run + 1) = run + 1 := wi64_id (by omega) (by omega)
            rw [if_pos ⟨rfl, by omega⟩]
            simp only [e2]
            have e3 : (run + 1 == deb) = decide (run + 1 = deb) := rfl
            simp only [e3, h1, h2, h3, h4, decide_false, cond_false, Bool.not_true, holdsB]
            cases ra <;> cases hi <;> simp only [cond_true, cond_false, Option.bind_some]
            all_goals exact tailB _ _ _ _

theorem one_k (so : Int) (hi : Bool) (at' ba deb : Int) (ra : Bool) (run v : Int) : guard_One_g 1000 so hi at' ba deb ra run v = some (oneB so hi at' ba deb ra run v) := one_ok 998 ..

theorem works_ok : rheostatlaw20_works_g 1000 = some (true, ()) := by kernel_rfl

theorem GuardOnes_ok (so : Int) (hi : Bool) (at' ba deb : Int) (ra : Bool) (run v : Int) : rheostatlaw20_GuardOnes_g 1000 so hi at' ba deb ra run v = some true := by
  have e1 : guard_Beyond_g 1000 so hi at' ba v = rheostatref20_Beyond_g 1000 so hi at' ba v := rfl
  have e2 : guard_Back_g 1000 so hi at' ba v = rheostatref20_Back_g 1000 so hi at' ba v := rfl
  simp only [rheostatlaw20_GuardOnes_g, one_k, rone_ok, works_ok, e1, e2, rheostatref20_Beyond_g, rheostatref20_Back_g]
  cases hi <;> simp

theorem mayB_iff {so at' ba : Int} : mayB so at' ba = true ↔ (0 ≤ so ∧ so ≤ 3) ∧ (-2147483648 ≤ at' ∧ at' ≤ 2147483648) ∧ 0 ≤ ba ∧ ba ≤ 2147483648 := by
  simp [mayB]

theorem GuardApart_ok (so : Int) (hi : Bool) (at' ba v : Int) : rheostatlaw20_GuardApart_g 1000 so hi at' ba v = some true := by
  simp only [rheostatlaw20_GuardApart_g, one_k, works_ok, guard_Beyond_g, guard_Back_g, Option.bind_some, oneB]
  cases hm : mayB so at' ba
  · simp
  · obtain ⟨_, h2, h3⟩ := mayB_iff.1 hm
    have w1 : wi64 (at' - ba) = at' - ba := wi64_id (by omega) (by omega)
    have w2 : wi64 (at' + ba) = at' + ba := wi64_id (by omega) (by omega)
    rw [if_pos ⟨rfl, by decide⟩]
    have h0 : ∀ b : Bool, ((if b = false then (false, (0 : Int), (0 : Int), ()) else if (0 : Int) + 1 = 1 then (!false, 0, 0, ()) else (false, 0 + 1, 0, ())).2.2.1 != 0) = false := by intro b; cases b <;> rfl
    rw [h0]
    cases hi
    · simp only [cond_false, Bool.not_true, Option.bind_some, w1, w2]
      by_cases h4 : v < at'
      · simp [h4]; omega
      · simp [h4]
    · simp only [cond_true, cond_false, Bool.not_true, Option.bind_some, w1, w2]
      by_cases h4 : v > at'
      · simp [h4]; omega
      · simp [h4]

theorem often_loop (so : Int) (hi : Bool) (at' ba : Int) (len : Nat) (m : Nat → Int) : ∀ (n : Nat) (up : Bool) (i : Int), 0 ≤ i → 200 - i < n → i ≤ 200 →
    rheostatlaw20_GuardOften_l0 1000 n len up i m so hi at' ba = some (.inl ()) ∨ rheostatlaw20_GuardOften_l0 1000 n len up i m so hi at' ba = some (.inr (true, ()))
  | 0, up, i, h0, h1, h2 => by omega
  | n + 1, up, i, h0, h1, h2 => by
    have e : rheostatlaw20_GuardOften_l0 1000 (n + 1) len up i m so hi at' ba = rheostatlaw20_GuardOften_l0r 1000 (rheostatlaw20_GuardOften_l0 1000 n) len up i m so hi at' ba := rfl
    rw [e]
    simp only [rheostatlaw20_GuardOften_l0r, one_k, Option.bind_some]
    by_cases h3 : i < (len : Int)
    · by_cases h4 : i < 200
      · have w : wi64 (i + 1) = i + 1 := wi64_id (by omega) (by omega)
        have ih := fun up => often_loop so hi at' ba len m n up (i + 1) (by omega) (by omega) (by omega)
        simp only [h3, h4, h0, w, decide_true, Bool.and_self, cond_true, oneB]
        cases hm : mayB so at' ba
        · simp
        · obtain ⟨_, h5, h6⟩ := mayB_iff.1 hm
          have w1 : wi64 (at' - ba) = at' - ba := wi64_id (by omega) (by omega)
          have w2 : wi64 (at' + ba) = at' + ba := wi64_id (by omega) (by omega)
          rw [if_pos ⟨rfl, by decide⟩]
          generalize m i.toNat = v
          simp only [guard_Beyond_g, guard_Back_g, holdsB, w1, w2]
          cases hi <;> cases up <;> simp only [cond_true, cond_false, Option.bind_some]
          · by_cases h7 : v < at' <;> by_cases h8 : v ≥ at' + ba
            · omega
            · simpa [h7, h8] using ih true
            · simpa [h7, h8] using ih false
            · simpa [h7, h8] using ih false
          · by_cases h7 : v < at' <;> by_cases h8 : v ≥ at' + ba
            · omega
            · simpa [h7, h8] using ih true
            · simpa [h7, h8] using ih false
            · simpa [h7, h8] using ih true
          · by_cases h7 : v > at' <;> by_cases h8 : v ≤ at' - ba
            · omega
            · simpa [h7, h8] using ih true
            · simpa [h7, h8] using ih false
            · simpa [h7, h8] using ih false
          · by_cases h7 : v > at' <;> by_cases h8 : v ≤ at' - ba
            · omega
            · simpa [h7, h8] using ih true
            · simpa [h7, h8] using ih false
            · simpa [h7, h8] using ih true
      · simp [h3, h4]
    · simp [h3]

theorem GuardOften_ok (so : Int) (hi : Bool) (at' ba : Int) (len : Nat) (m : Nat → Int) : rheostatlaw20_GuardOften_g 1000 so hi at' ba len m = some true := by
  simp only [rheostatlaw20_GuardOften_g, works_ok, Option.bind_some]
  rcases often_loop so hi at' ba len m 1000 false 0 (by omega) (by omega) (by omega) with h | h
  · rw [h]; rfl
  · rw [h]; rfl
/-- One round of the counting back. -/
theorem back_round (K : Nat) (rec' : Int → Nat → Bool → Int → Int → Bool → Int → Int → Int → (Nat → Int) → Int → Bool → Int → Int → Option (Int × Nat × Bool × Int × Int × Bool × Int × Int × (Nat → Int) × Int × Bool × Int × Int × Unit))
    (deb : Int) (len : Nat) (up : Bool) (since i : Int) (x : Bool) (n held k : Int) (m : Nat → Int) (so : Int) (hi : Bool) (at' ba : Int) (hk : 0 ≤ k) (hl : k < (len : Int)) :
    rheostatlaw20_GuardTimes_l1r K rec' deb len up since i x n held k m so hi at' ba =
      bif decide (k ≥ since) && holdsB hi at' ba up (m k.toNat) then rec' deb len up since i x n (wi64 (held + 1)) (wi64 (k - 1)) m so hi at' ba
      else some (deb, len, up, since, i, x, n, held, m, so, hi, at', ba, ()) := by
  simp only [rheostatlaw20_GuardTimes_l1r, holdsB, hk, hl, decide_true, Bool.and_self, cond_true]
  generalize m k.toNat = v
  cases decide (k ≥ since)
  · rfl
  · cases hi <;> cases up <;> simp only [cond_true, cond_false, Bool.not_true, Bool.not_false, Bool.true_and]
    all_goals (by_cases h2 : v ≥ wi64 (at' + ba) <;> by_cases h3 : v ≤ wi64 (at' - ba) <;> by_cases h : v < at' <;> by_cases h' : v > at' <;> simp [h, h', h2, h3])

/-- Counting back from k: j that hold, then one that does not, or the beginning. -/
theorem back_loop (deb : Int) (len : Nat) (up : Bool) (since i : Int) (x : Bool) (nn : Int) (m : Nat → Int) (so : Int) (hi : Bool) (at' ba : Int) :
    ∀ (j n : Nat) (held k : Int), j < n → k < (len : Int) → k < 200 → 0 ≤ since → 0 ≤ held → held + j ≤ 400 → since ≤ k - j + 1 →
      (∀ q : Int, k - j < q → q ≤ k → holdsB hi at' ba up (m q.toNat) = true) → (k - j < since ∨ (0 ≤ k - j ∧ holdsB hi at' ba up (m (k - j).toNat) = false)) → 
      rheostatlaw20_GuardTimes_l1 1000 n deb len up since i x nn held k m so hi at' ba = some (deb, len, up, since, i, x, nn, held + j, m, so, hi, at', ba, ())
  | j, 0, held, k, h, _, _, _, _, _, _, _, _ => by omega
  | 0, n + 1, held, k, _, hl, h2, hs, h0, _, hk, _, hend => by
    have e : rheostatlaw20_GuardTimes_l1 1000 (n + 1) deb len up since i x nn held k m so hi at' ba = rheostatlaw20_GuardTimes_l1r 1000 (rheostatlaw20_GuardTimes_l1 1000 n) deb len up since i x nn held k m so hi at' ba := rfl
    rw [e]
    by_cases hneg : k < since
    · simp only [rheostatlaw20_GuardTimes_l1r]
      have : decide (k ≥ since) = false := by simp; omega
      rw [this]
      simp
    · rw [back_round _ _ _ _ _ _ _ _ _ _ _ _ _ _ _ _ (by omega) hl]
      have : holdsB hi at' ba up (m k.toNat) = false := by
        rcases hend with h | ⟨_, h⟩
        · omega
        · simpa using h
      rw [this]
      simp
  | j + 1, n + 1, held, k, h, hl, h2, hs, h0, h1, hk, hall, hend => by
    have e : rheostatlaw20_GuardTimes_l1 1000 (n + 1) deb len up since i x nn held k m so hi at' ba = rheostatlaw20_GuardTimes_l1r 1000 (rheostatlaw20_GuardTimes_l1 1000 n) deb len up since i x nn held k m so hi at' ba := rfl
    rw [e]
    have hk1 : since ≤ k := by omega
    rw [back_round _ _ _ _ _ _ _ _ _ _ _ _ _ _ _ _ (by omega) hl]
    rw [hall k (by omega) (Int.le_refl _)]
    have : decide (k ≥ since) = true := by simp; omega
    rw [this]
    simp only [Bool.and_self, cond_true]
    rw [wi64_id (x := held + 1) (by omega) (by omega), wi64_id (x := k - 1) (by omega) (by omega)]
    rw [back_loop deb len up since i x nn m so hi at' ba j n (held + 1) (k - 1) (by omega) (by omega) (by omega) hs (by omega) (by omega) (by omega) (fun q hq hq' => hall q (by omega) (by omega))
      (by rw [show k - 1 - (j : Int) = k - ((j + 1 : Nat) : Int) by omega]; exact hend)]
    congr 2
    simp
    omega

/-- What the run counts: so many values just ahead of i hold, since the last change, and no more. -/
def Trail (hi : Bool) (at' ba : Int) (m : Nat → Int) (up : Bool) (since i : Int) (r : Nat) : Prop :=
  since ≤ i - r ∧ (∀ q : Int, i - r ≤ q → q < i → holdsB hi at' ba up (m q.toNat) = true) ∧ (i - r = since ∨ (since < i - r ∧ holdsB hi at' ba up (m (i - r - 1).toNat) = false))

theorem times_loop (so : Int) (hi : Bool) (at' ba deb : Int) (hd : 1 ≤ deb ∧ deb ≤ 31) (len : Nat) (m : Nat → Int) : ∀ (n : Nat) (up : Bool) (r : Nat) (since i : Int), 0 ≤ since → since ≤ i → 200 - i < n → i ≤ 200 → (r : Int) < deb →
    Trail hi at' ba m up since i r →
    rheostatlaw20_GuardTimes_l0 1000 n deb len up r since i m so hi at' ba = some (.inl ()) ∨ rheostatlaw20_GuardTimes_l0 1000 n deb len up r since i m so hi at' ba = some (.inr (true, ()))
  | 0, up, r, since, i, h0, h1, h2, h3, _, _ => by omega
  | n + 1, up, r, since, i, h0, h1, h2, h3, hr, hT => by
    have e : rheostatlaw20_GuardTimes_l0 1000 (n + 1) deb len up r since i m so hi at' ba = rheostatlaw20_GuardTimes_l0r 1000 (rheostatlaw20_GuardTimes_l0 1000 n) deb len up r since i m so hi at' ba := rfl
    rw [e]
    obtain ⟨t1, t2, t3⟩ := hT
    simp only [rheostatlaw20_GuardTimes_l0r, one_k, Option.bind_some]
    by_cases h4 : i < (len : Int)
    · by_cases h5 : i < 200
      · have w : wi64 (i + 1) = i + 1 := wi64_id (by omega) (by omega)
        have hi0 : 0 ≤ i := by omega
        simp only [h4, h5, hi0, decide_true, Bool.and_self, cond_true, oneB]
        cases hm : mayB so at' ba
        · simp
        · rw [if_pos ⟨rfl, by omega⟩]
          cases hh : holdsB hi at' ba up (m i.toNat)
          · -- it does not hold
            have hb := fun x nn => back_loop deb len up since i x nn m so hi at' ba 0 1000 0 i (by omega) h4 h5 h0 (by omega) (by omega) (by omega) (fun q hq hq' => by omega) (.inr ⟨by omega, by simpa using hh⟩)
            have hq : decide ((0 : Int) ≥ deb) = false := by simp; omega
            simp only [if_true, hb, Option.bind_some, bne_self_eq_false, cond_false]
            have hq' : decide ((0 : Int) + ((0 : Nat) : Int) ≥ deb) = false := by simpa using hq
            rw [hq']
            have ih := times_loop so hi at' ba deb hd len m n up 0 since (i + 1) h0 (by omega) (by omega) (by omega) (by omega)
              ⟨by omega, fun q hq hq' => by omega, .inr ⟨by omega, by rw [show i + 1 - ((0 : Nat) : Int) - 1 = i by omega]; exact hh⟩⟩
            simpa [w] using ih
          · -- it holds
            have hb := fun x nn => back_loop deb len up since i x nn m so hi at' ba (r + 1) 1000 0 i (by omega) h4 h5 h0 (by omega) (by omega) (by omega)
              (fun q hq hq' => by
                by_cases e : q = i
                · subst e; exact hh
                · exact t2 q (by omega) (by omega))
              (by
                rcases t3 with h | ⟨h, h'⟩
                · exact .inl (by omega)
                · exact .inr ⟨by omega, by rw [show i - ((r + 1 : Nat) : Int) = i - r - 1 by omega]; exact h'⟩)
            by_cases hq : (r : Int) + 1 = deb
            · have hq' : decide ((0 : Int) + ((r + 1 : Nat) : Int) ≥ deb) = true := by simp; omega
              rw [if_pos hq]
              simp only [Bool.true_eq_false, if_false, hb, Option.bind_some, bne_self_eq_false, cond_false, hq']
              have ih := times_loop so hi at' ba deb hd len m n (!up) 0 (i + 1) (i + 1) (by omega) (by omega) (by omega) (by omega) (by omega)
                ⟨by omega, fun q hq hq' => by omega, .inl (by omega)⟩
              cases up <;> simpa [w] using ih
            · have hq' : decide ((0 : Int) + ((r + 1 : Nat) : Int) ≥ deb) = false := by simp; omega
              rw [if_neg hq]
              simp only [Bool.true_eq_false, if_false, hb, Option.bind_some, bne_self_eq_false, cond_false, hq']
              have ih := times_loop so hi at' ba deb hd len m n up (r + 1) since (i + 1) h0 (by omega) (by omega) (by omega) (by omega)
                ⟨by omega, fun q hq hq' => by
                  by_cases e : q = i
                  · subst e; exact hh
                  · exact t2 q (by omega) (by omega), by
                  rcases t3 with h | ⟨h, h'⟩
                  · exact .inl (by omega)
                  · exact .inr ⟨by omega, by rw [show i + 1 - ((r + 1 : Nat) : Int) - 1 = i - r - 1 by omega]; exact h'⟩⟩
              simpa [w] using ih
      · simp [h4, h5]
    · simp [h4]

theorem among_ok (K : Nat) (x : Int) (n : Int) (hn : 1 ≤ n) (hn' : n < 9223372036854775808) : ∃ y, rheostatbase_Among_g K x n = some (y, ()) ∧ 0 ≤ y ∧ y < n := by
  have h1 : decide (n < 1) = false := by simp; omega
  have h2 : wu64 n = n := wu64_id (by omega) (by omega)
  have h3 : (n == 0) = false := by simp; omega
  have h4 : 0 ≤ wu64 x := by rw [wu64_def]; omega
  have h5 : 0 ≤ Int.tmod (wu64 x) n := Int.tmod_nonneg _ h4
  have h6 : Int.tmod (wu64 x) n < n := Int.tmod_lt_of_pos _ (by omega)
  simp only [rheostatbase_Among_g, h1, h2, h3, cond_false]
  rw [wi64_id (by omega) (by omega)]
  exact ⟨_, rfl, h5, h6⟩

theorem GuardTimes_ok (so : Int) (hi : Bool) (at' ba deb : Int) (len : Nat) (m : Nat → Int) : rheostatlaw20_GuardTimes_g 1000 so hi at' ba deb len m = some true := by
  obtain ⟨y, h1, h2, h3⟩ := among_ok 1000 deb 31 (by omega) (by omega)
  simp only [rheostatlaw20_GuardTimes_g, works_ok, Option.bind_some, h1]
  rw [wi64_id (x := 1 + y) (by omega) (by omega)]
  rcases times_loop so hi at' ba (1 + y) (by omega) len m 1000 false 0 0 0 (by omega) (by omega) (by omega) (by omega) (by omega) ⟨by omega, fun q hq hq' => by omega, .inl (by omega)⟩ with h | h
  · have h : rheostatlaw20_GuardTimes_l0 1000 1000 (1 + y) len false 0 0 0 m so hi at' ba = some (.inl ()) := h
    simp [h]
  · have h : rheostatlaw20_GuardTimes_l0 1000 1000 (1 + y) len false 0 0 0 m so hi at' ba = some (.inr (true, ())) := h
    simp [h]
end Go.Proofs.Ythjjjifpiibmeaa
