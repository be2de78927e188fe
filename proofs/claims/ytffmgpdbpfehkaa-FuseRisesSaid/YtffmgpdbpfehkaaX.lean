/-
  Law 17 (fuse), the second part: what a cell at rest tells.
-/
import Derived.Test.YtffmgpdbpfehkaaU
import Derived.Test.YtffmgpdbpfehkaaV
namespace Go.Proofs.Ytffmgpdbpfehkaa
open Go.Sy
set_option maxHeartbeats 1000000

theorem light_cases (n m p : Nat) (X Y Z : Nat → Int) : ∃ b, rheostatlaw17_light_g 20000 n m p X Y Z = some (b, ()) := by
  unfold rheostatlaw17_light_g
  cases decide (wi64 (((n : Nat) : Int) + ((m : Nat) : Int)) ≤ 600) with
  | true => exact ⟨_, rfl⟩
  | false => exact ⟨_, rfl⟩

theorem rfxbetween_ok (K : Nat) (lo hi n : Int) : rheostatref03_Between_g K lo hi n = some (btw lo hi n, ()) := by
  unfold rheostatref03_Between_g btw
  by_cases h1 : n < lo
  · rw [decide_eq_true h1, if_pos h1]; rfl
  · rw [decide_eq_false h1, if_neg h1]
    by_cases h2 : n > hi
    · rw [decide_eq_true h2, if_pos h2]; rfl
    · rw [decide_eq_false h2, if_neg h2]; rfl

def tellE (z c : Int) : Int × Int × Unit := if c = 0 then (btw 0 10000 z, 0, ()) else (0, c, ())

theorem told_ok (n m p : Nat) (x y : Int) (X Y Z : Nat → Int) : fuse_Told_g 20000 n m p x y X Y Z = some (tellE (gV n m X Y Z x y) (gchk n m p X Y Z)) := by
  unfold fuse_Told_g tellE
  rw [gAt_ok]
  by_cases hg : GGood n m p X Y Z
  · rw [gchk_good hg, if_pos rfl, if_pos rfl]
    have d0 : ((0 : Int) != 0) = false := rfl
    simp only [Option.bind_some, d0, cond_false, fx_between_ok]
  · rw [gchk_bad hg]
    rfl

theorem rtold_ok (n m p : Nat) (x y : Int) (X Y Z : Nat → Int) : rheostatref17_Told_g 20000 n m p x y X Y Z = some (tellE (gV n m X Y Z x y) (gchk n m p X Y Z)) := by
  unfold rheostatref17_Told_g tellE
  rw [rgAt_ok]
  by_cases hg : GGood n m p X Y Z
  · rw [gchk_good hg, if_pos rfl, if_pos rfl]
    have d0 : ((0 : Int) != 0) = false := rfl
    simp only [Option.bind_some, d0, cond_false, rfxbetween_ok]
  · rw [gchk_bad hg]
    rfl

theorem rsoc_ok (K : Nat) (n : Int) : rheostatref17_soc_g K n = some (decide (0 ≤ n ∧ n ≤ 10000), ()) := by
  unfold rheostatref17_soc_g
  by_cases h1 : n ≥ 0
  · rw [decide_eq_true h1]
    by_cases h2 : n ≤ 10000
    · rw [decide_eq_true h2, decide_eq_true (show 0 ≤ n ∧ n ≤ 10000 from ⟨h1, h2⟩)]; rfl
    · rw [decide_eq_false h2, decide_eq_false (show ¬ (0 ≤ n ∧ n ≤ 10000) from fun k => h2 k.2)]; rfl
  · rw [decide_eq_false h1, decide_eq_false (show ¬ (0 ≤ n ∧ n ≤ 10000) from fun k => h1 k.1)]; rfl

theorem rtoward_ok {a b c : Int} (h : okC a b c) : rheostatref03_Toward_g 20000 a b c = some (tw a b c, ()) := by
  unfold okC at h
  unfold rheostatref03_Toward_g tw
  rw [decide_eq_false (show ¬ c < 1 by omega), wu64_id (x := c) (by omega) (by omega), wu64_id (x := a) (by omega) (by omega), wu64_id (x := b) (by omega) (by omega)]
  simp only [cond_false]
  by_cases he : a = b
  · subst he
    have d : (a == a) = true := by simp
    rw [d, if_pos (Int.le_refl _), if_pos (by omega)]
    rfl
  · have d : (a == b) = false := by simp [he]
    rw [d]
    simp only [cond_false]
    by_cases h1 : a < b
    · rw [decide_eq_true h1, wu64_id (x := b - a) (by omega) (by omega), if_pos (show a ≤ b by omega)]
      simp only [cond_true]
      by_cases h2 : b - a ≤ c
      · rw [decide_eq_true h2, if_pos h2]; rfl
      · rw [decide_eq_false h2, if_neg h2, wi64_id (x := a + c) (by omega) (by omega)]; rfl
    · rw [decide_eq_false h1, wu64_id (x := a - b) (by omega) (by omega), if_neg (show ¬ a ≤ b by omega)]
      simp only [cond_false]
      by_cases h2 : a - b ≤ c
      · rw [decide_eq_true h2, if_pos h2]; rfl
      · rw [decide_eq_false h2, if_neg h2, wi64_id (x := a - c) (by omega) (by omega)]; rfl

theorem rcorrect_ok (a b c : Int) : rheostatref17_Correct_g 20000 a b c = some (corE a b c) := by
  unfold rheostatref17_Correct_g corE
  rw [rsoc_ok, rsoc_ok]
  by_cases h : okC a b c
  · have h' := h
    unfold okC at h'
    rw [decide_eq_true h'.1, decide_eq_true h'.2.1, if_pos h, decide_eq_false (show ¬ c < 1 by omega), decide_eq_false (show ¬ c > 10000 by omega)]
    simp only [Option.bind_some, Bool.not_true, cond_false, rtoward_ok h]
  · rw [if_neg h]
    unfold okC at h
    by_cases h1 : 0 ≤ a ∧ a ≤ 10000
    · by_cases h2 : 0 ≤ b ∧ b ≤ 10000
      · rw [decide_eq_true h1, decide_eq_true h2]
        by_cases h3 : c < 1
        · rw [decide_eq_true h3]; rfl
        · rw [decide_eq_false h3, decide_eq_true (show c > 10000 by omega)]; rfl
      · rw [decide_eq_true h1, decide_eq_false h2]; rfl
    · rw [decide_eq_false h1]; rfl

theorem rfxsize_ok (K : Nat) {x : Int} (h : -9223372036854775807 ≤ x) (h' : x < 9223372036854775808) : rheostatref03_Size_g K x = some (ab x, ()) := by
  unfold rheostatref03_Size_g ab
  have d : (x == (-9223372036854775808 : Int)) = false := by simp; omega
  rw [d]
  by_cases h1 : x < 0
  · rw [decide_eq_true h1, if_pos h1, wi64_id (x := 0 - x) (by omega) (by omega), show 0 - x = -x by omega]; rfl
  · rw [decide_eq_false h1, if_neg h1]; rfl

theorem rfar_ok (a b c : Int) : rheostatref17_Far_g 20000 a b c = some (farE a b c) := by
  unfold rheostatref17_Far_g farE
  rw [rcorrect_ok]
  unfold corE
  by_cases h : okC a b c
  · rw [if_pos h, if_pos h]
    have hr := ad_in h
    have hf := farV_in h
    have h' := h
    unfold okC at h'
    have d0 : ((0 : Int) != 0) = false := rfl
    have d1 : (c == 0) = false := by simp; omega
    simp only [Option.bind_some, d0, cond_false]
    rw [wi64_id (x := a - b) (by omega) (by omega), rfxsize_ok 20000 (by omega) (by omega), ab_ad]
    simp only [Option.bind_some, d1, cond_false]
    rw [wi64_id (x := ad a b + c) (by omega) (by omega), wi64_id (x := ad a b + c - 1) (by omega) (by omega), (tdiv_pos (show 0 ≤ ad a b + c - 1 by omega)).1]
    have e : (ad a b + c - 1) / c = farV a b c := rfl
    rw [e, wi64_id (by omega) (by omega)]
  · rw [if_neg h, if_neg h]
    rfl

theorem FuseTells_ok (n m p : Nat) (x y a b c : Int) (X Y Z : Nat → Int) : rheostatlaw17_FuseTells_g 20000 n m p x y a b c X Y Z = some true := by
  unfold rheostatlaw17_FuseTells_g
  obtain ⟨l, hl⟩ := light_cases n m p X Y Z
  rw [hl]
  cases l with
  | false => rfl
  | true =>
    simp only [Option.bind_some, Bool.not_true, cond_false, told_ok, rtold_ok, correct_ok, rcorrect_ok, far_ok, rfar_ok, beq_self_eq_true, cond_true, works_ok]

theorem btw_mon10 {x y : Int} (h : x ≤ y) : btw 0 10000 x ≤ btw 0 10000 y := by
  unfold btw
  split <;> split <;> (try split) <;> (try split) <;> omega

theorem minmax_tail (f : Int → Int) (hf : ∀ x y, x ≤ y → f x ≤ f y) (a b : Int) : f (bif decide (b < a) then b else a) ≤ f (bif decide (b > a) then b else a) := by
  by_cases c : b < a
  · rw [decide_eq_true c, decide_eq_false (show ¬ b > a by omega)]; exact hf b a (by omega)
  · rw [decide_eq_false c]
    by_cases c2 : b > a
    · rw [decide_eq_true c2]; exact hf a b (by omega)
    · rw [decide_eq_false c2]; exact Int.le_refl _

theorem FuseRises_ok (n m p : Nat) (a b y : Int) (X Y Z : Nat → Int) : rheostatlaw17_FuseRises_g 20000 n m p a b y X Y Z = some true := by
  unfold rheostatlaw17_FuseRises_g
  obtain ⟨l, hl⟩ := light_cases n m p X Y Z
  rw [works_ok, hl]
  cases l with
  | false => rfl
  | true =>
    simp only [Option.bind_some, Bool.not_true, cond_false, rgcheck_ok, told_ok]
    by_cases hg : GGood n m p X Y Z
    · have hn := hg.n2
      have d0 : ((0 : Int) != 0) = false := rfl
      have d1 : ((0 : Int) == 0) = true := rfl
      rw [gchk_good hg]
      unfold tellE
      rw [if_pos rfl, if_pos rfl]
      have w1 := bw (gV n m X Y Z (bif decide (b < a) then b else a) y)
      have w2 := bw (gV n m X Y Z (bif decide (b > a) then b else a) y)
      simp only [d0, d1, cond_false, cond_true, Option.bind_some]
      rw [decide_eq_true (show btw 0 10000 (gV n m X Y Z (bif decide (b < a) then b else a) y) ≥ 0 from w1.1), decide_eq_true w1.2, decide_eq_true (show btw 0 10000 (gV n m X Y Z (bif decide (b > a) then b else a) y) ≥ 0 from w2.1), decide_eq_true w2.2, rgrises_ok]
      simp only [cond_true, Option.bind_some]
      cases hr : dc (GGood n m p X Y Z ∧ GUp m p Z) with
      | false => rfl
      | true =>
        obtain ⟨_, hu⟩ := of_dc hr
        have hv := minmax_tail (fun x => btw 0 10000 (gV n m X Y Z x y)) (fun x x' hx => btw_mon10 (V_mono (hg.cols y).gd (hg.colUp hu y) hx (by omega))) a b
        rw [decide_eq_true hv]
        rfl
    · rw [gchk_bad hg]
      rfl
end Go.Proofs.Ytffmgpdbpfehkaa
