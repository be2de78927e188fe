/-
  What is shown and corrected: what the printed functions compute, as plain functions of the numbers.
-/
import Derived.Test.YtjmbhhinmbgneaaGreatsC
import Derived.Test.YtjmbhhinmbgneaaGreatsQ
namespace Go.Proofs.YtjmbhhinmbgneaaGreat
open Go.Sy
set_option maxHeartbeats 1000000

/-! ### A correction -/
def allS (m : Nat → Int) (i : Nat) : Nat → Bool
  | 0 => true
  | d + 1 => decide (0 ≤ m i ∧ m i ≤ 10000) && allS m (i + 1) d

theorem fright_loop (n : Nat) (m : Nat → Int) (hn : n < 900) : ∀ (d i fuel : Nat), i + d = n → d < fuel →
    fuse_right_l0 20000 fuel n (n : Int) (i : Int) m = some (bif allS m i d then .inl () else .inr (false, ()))
  | 0, i, fuel, hd, hf => by
    obtain ⟨f, rfl⟩ : ∃ f, fuel = f + 1 := ⟨fuel - 1, by omega⟩
    have e : i = n := by omega
    subst e
    show fuse_right_l0r 20000 (fuse_right_l0 20000 f) i (i : Int) (i : Int) m = _
    unfold fuse_right_l0r
    rw [nat_lt_self]
    rfl
  | d + 1, i, fuel, hd, hf => by
    obtain ⟨f, rfl⟩ : ∃ f, fuel = f + 1 := ⟨fuel - 1, by omega⟩
    have hin : i < n := by omega
    have ih := fright_loop n m hn d (i + 1) f (by omega) (by omega)
    have e0 : fuse_right_l0 20000 (f + 1) n (n : Int) (i : Int) m = fuse_right_l0r 20000 (fuse_right_l0 20000 f) n (n : Int) (i : Int) m := rfl
    rw [e0]
    unfold fuse_right_l0r
    simp only [nat_lt_dec hin, nat_nn_dec, Bool.and_self, cond_true, Int.toNat_natCast, wi_succ (show i < 1000000 by omega), ih, allS]
    by_cases h1 : m i < 0
    · rw [decide_eq_true h1, decide_eq_false (show ¬ (0 ≤ m i ∧ m i ≤ 10000) by omega)]
      rfl
    · rw [decide_eq_false h1]
      by_cases h2 : m i > 10000
      · rw [decide_eq_true h2, decide_eq_false (show ¬ (0 ≤ m i ∧ m i ≤ 10000) by omega)]
        rfl
      · rw [decide_eq_false h2, decide_eq_true (show 0 ≤ m i ∧ m i ≤ 10000 by omega)]
        rfl

theorem fright_ok (a b c : Int) : fuse_right_g 20000 3 (fun j => selI [a, b, c] j) = some (decide ((0 ≤ a ∧ a ≤ 10000) ∧ (0 ≤ b ∧ b ≤ 10000) ∧ (0 ≤ c ∧ c ≤ 10000)), ()) := by
  unfold fuse_right_g
  have h : fuse_right_l0 20000 20000 3 ((3 : Nat) : Int) 0 (fun j => selI [a, b, c] j) = _ := fright_loop 3 _ (by omega) 3 0 20000 (by omega) (by omega)
  rw [h]
  have e : allS (fun j => selI [a, b, c] j) 0 3 = (decide (0 ≤ a ∧ a ≤ 10000) && (decide (0 ≤ b ∧ b ≤ 10000) && (decide (0 ≤ c ∧ c ≤ 10000) && true))) := rfl
  rw [e]
  by_cases h1 : 0 ≤ a ∧ a ≤ 10000
  · by_cases h2 : 0 ≤ b ∧ b ≤ 10000
    · by_cases h3 : 0 ≤ c ∧ c ≤ 10000
      · rw [decide_eq_true h1, decide_eq_true h2, decide_eq_true h3, decide_eq_true ⟨h1, h2, h3⟩]; rfl
      · rw [decide_eq_true h1, decide_eq_true h2, decide_eq_false h3, decide_eq_false (show ¬ ((0 ≤ a ∧ a ≤ 10000) ∧ (0 ≤ b ∧ b ≤ 10000) ∧ (0 ≤ c ∧ c ≤ 10000)) from fun k => h3 k.2.2)]; rfl
    · rw [decide_eq_true h1, decide_eq_false h2, decide_eq_false (show ¬ ((0 ≤ a ∧ a ≤ 10000) ∧ (0 ≤ b ∧ b ≤ 10000) ∧ (0 ≤ c ∧ c ≤ 10000)) from fun k => h2 k.2.1)]; rfl
  · rw [decide_eq_false h1, decide_eq_false (show ¬ ((0 ≤ a ∧ a ≤ 10000) ∧ (0 ≤ b ∧ b ≤ 10000) ∧ (0 ≤ c ∧ c ≤ 10000)) from fun k => h1 k.1)]; rfl

/-- Towards a number. -/
def tw (x t s : Int) : Int := if x ≤ t then (if t - x ≤ s then t else x + s) else (if x - t ≤ s then t else x - s)

def okC (a b c : Int) : Prop := (0 ≤ a ∧ a ≤ 10000) ∧ (0 ≤ b ∧ b ≤ 10000) ∧ (1 ≤ c ∧ c ≤ 10000)
instance (a b c : Int) : Decidable (okC a b c) := by unfold okC; exact inferInstance

def corE (a b c : Int) : Int × Int × Unit := if okC a b c then (tw a b c, 0, ()) else (0, 2, ())

theorem tw_in {a b c : Int} (h : okC a b c) : 0 ≤ tw a b c ∧ tw a b c ≤ 10000 := by
  unfold okC at h
  unfold tw
  split <;> split <;> omega

theorem toward_ok {a b c : Int} (h : okC a b c) : fx_Toward_g 20000 a b c = some (tw a b c, ()) := by
  unfold okC at h
  unfold fx_Toward_g tw
  rw [decide_eq_false (show ¬ c < 1 by omega), wu64_id (x := c) (by omega) (by omega)]
  simp only [cond_false]
  by_cases h1 : a ≤ b
  · rw [decide_eq_true h1, decide_eq_false (show ¬ a > b by omega), wi64_id (x := b - a) (by omega) (by omega), wu64_id (x := b - a) (by omega) (by omega), if_pos h1]
    simp only [cond_true, cond_false]
    by_cases h2 : b - a ≤ c
    · rw [decide_eq_true h2, if_pos h2]; rfl
    · rw [decide_eq_false h2, if_neg h2, decide_eq_true (show a < b by omega), wi64_id (x := a + c) (by omega) (by omega)]; rfl
  · rw [decide_eq_false h1, decide_eq_true (show a > b by omega), wi64_id (x := a - b) (by omega) (by omega), wu64_id (x := a - b) (by omega) (by omega), if_neg h1]
    simp only [cond_true, cond_false]
    by_cases h2 : a - b ≤ c
    · rw [decide_eq_true h2, if_pos h2]; rfl
    · rw [decide_eq_false h2, if_neg h2, decide_eq_false (show ¬ a < b by omega), wi64_id (x := a - c) (by omega) (by omega)]; rfl

theorem correct_ok (a b c : Int) : fuse_Correct_g 20000 a b c = some (corE a b c) := by
  unfold fuse_Correct_g corE
  rw [fright_ok]
  by_cases h : okC a b c
  · have h' := h
    unfold okC at h'
    rw [decide_eq_true (show (0 ≤ a ∧ a ≤ 10000) ∧ (0 ≤ b ∧ b ≤ 10000) ∧ (0 ≤ c ∧ c ≤ 10000) by omega), if_pos h]
    have d : (c == 0) = false := by simp; omega
    simp only [Option.bind_some, Bool.not_true, cond_false, d, toward_ok h]
  · rw [if_neg h]
    unfold okC at h
    by_cases h2 : (0 ≤ a ∧ a ≤ 10000) ∧ (0 ≤ b ∧ b ≤ 10000) ∧ (0 ≤ c ∧ c ≤ 10000)
    · have hc : c = 0 := by omega
      rw [decide_eq_true h2, hc]
      rfl
    · rw [decide_eq_false h2]
      rfl

theorem tw_bounds {x t s : Int} (hs : 1 ≤ s) : x - tw x t s ≤ s ∧ tw x t s - x ≤ s ∧ (x ≤ t → x ≤ tw x t s ∧ tw x t s ≤ t) ∧ (t < x → t ≤ tw x t s ∧ tw x t s ≤ x) := by
  unfold tw
  split <;> split <;> omega

/-! ### What changes -/
theorem bw (x : Int) : 0 ≤ btw 0 10000 x ∧ btw 0 10000 x ≤ 10000 := btw_le (by omega)

theorem shown_self {s n c : Int} (hs : 0 ≤ s ∧ s ≤ 10000) (hc : 1 ≤ c) : shownV s n n c = s := by
  unfold shownV
  have e : nr (10000 * (n - n)) c = 0 := by rw [Int.sub_self, Int.mul_zero]; exact nr_zero (by omega)
  rw [e]
  unfold btw
  rw [if_neg (by omega), if_neg (by omega), if_neg (by omega), if_neg (by omega), Int.add_zero]

theorem go_ok (s0 s1 s2 s3 s4 s5 s6 s7 s8 s9 s10 s11 s12 s13 s14 s15 s16 s17 s18 s19 s20 s21 s22 : Int) :
    fuse_Go_g 20000 s0 s1 s2 s3 s4 s5 s6 s7 s8 s9 s10 s11 s12 s13 s14 s15 s16 s17 s18 s19 s20 s21 s22 =
      some (if (0 ≤ s3 ∧ s3 ≤ 10000) ∧ (1 ≤ s8 ∧ s8 ≤ 1125899906842624) ∧ inB 1125899906842624 s4 = true ∧ inB 1125899906842624 s0 = true then
        (s0, s1, shownV s3 s4 s0 s8, s3, s4, s5, s6, s7, s8, s9, s10, s11, s12, s13, s14, s15, s16, s17, s18, s19, s20, s21, s22, 0, ())
        else (0, 0, 0, 0, 0, 0, 0, 0, 0, 0, 0, 0, 0, 0, 0, 0, 0, 0, 0, 0, 0, 0, 0, 2, ())) := by
  unfold fuse_Go_g fuse_gone_shown_g
  rw [shown_ok]
  unfold shownE
  by_cases h : (0 ≤ s3 ∧ s3 ≤ 10000) ∧ (1 ≤ s8 ∧ s8 ≤ 1125899906842624) ∧ inB 1125899906842624 s4 = true ∧ inB 1125899906842624 s0 = true
  · rw [if_pos h, if_pos h]; rfl
  · rw [if_neg h, if_neg h]; rfl

theorem rest_ok (s0 s1 s2 s3 s4 s5 s6 s7 s8 s9 s10 s11 s12 s13 s14 s15 s16 s17 s18 s19 s20 s21 s22 told slew : Int) :
    fuse_Rest_g 20000 s0 s1 s2 s3 s4 s5 s6 s7 s8 s9 s10 s11 s12 s13 s14 s15 s16 s17 s18 s19 s20 s21 s22 told slew =
      some (if ((0 ≤ s3 ∧ s3 ≤ 10000) ∧ (1 ≤ s8 ∧ s8 ≤ 1125899906842624) ∧ inB 1125899906842624 s4 = true ∧ inB 1125899906842624 s0 = true) ∧ okC (shownV s3 s4 s0 s8) told slew then
        (s0, s1, tw (shownV s3 s4 s0 s8) told slew, tw (shownV s3 s4 s0 s8) told slew, s0, s5, s6, s7, s8, s9, s10, s11, s12, s13, s14, s15, s16, s17, s18, s19, s20, s21, s22, 0, ())
        else (0, 0, 0, 0, 0, 0, 0, 0, 0, 0, 0, 0, 0, 0, 0, 0, 0, 0, 0, 0, 0, 0, 0, 2, ())) := by
  unfold fuse_Rest_g
  rw [go_ok]
  have d2 : ((0 : Int) == 0) = true := rfl
  have d3 : ((0 : Int) != 0) = false := rfl
  by_cases h : (0 ≤ s3 ∧ s3 ≤ 10000) ∧ (1 ≤ s8 ∧ s8 ≤ 1125899906842624) ∧ inB 1125899906842624 s4 = true ∧ inB 1125899906842624 s0 = true
  · rw [if_pos h]
    simp only [Option.bind_some, d2, cond_true]
    rw [correct_ok]
    unfold corE
    by_cases h2 : okC (shownV s3 s4 s0 s8) told slew
    · rw [if_pos h2, if_pos ⟨h, h2⟩]
      rfl
    · rw [if_neg h2, if_neg (fun k => h2 k.2)]
      rfl
  · rw [if_neg h, if_neg (fun k => h k.1)]
    rfl

def tellE (z c : Int) : Int × Int × Unit := if c = 0 then (btw 0 10000 z, 0, ()) else (0, c, ())

theorem told_ok (n m p : Nat) (x y : Int) (X Y Z : Nat → Int) : fuse_Told_g 20000 n m p x y X Y Z = some (tellE (gV n m X Y Z x y) (gchk n m p X Y Z)) := by
  unfold fuse_Told_g tellE
  rw [gAt_ok]
  by_cases hg : GGood n m p X Y Z
  · rw [gchk_good hg, if_pos rfl, if_pos rfl]
    have d0 : ((0 : Int) != 0) = false := rfl
    simp only [Option.bind_some, d0, cond_false, fx_between_ok]
  · rw [gchk_bad hg]
    rfl

end Go.Proofs.YtjmbhhinmbgneaaGreat
