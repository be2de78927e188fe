/-
  The functions of law 13, as plain functions, and that the program does what they say. Printed by a program of ours.
-/
import Derived.Test.YtdcjkkgfimbodaaH
namespace Go.Proofs.Ytdcjkkgfimbodaa
open Go.Sy
set_option maxRecDepth 100000
set_option linter.unusedVariables false
/-! rheostatref04_Near -/
noncomputable def rheostatref04_Near_e0 (K : Nat) : Env := ⟨tt, [(44, rheostatref04_by_o K), (46, rheostatref04_plus_o K), (47, rheostatref04_Of_o K), (45, rheostatref04_against_o K), (48, rheostatref04_one_o K), (49, rheostatref04_whole_o K)], [], [], eqs⟩
theorem rheostatref04_Near_t0 (K : Nat) : EnvT Try.prog (rheostatref04_Near_e0 K) := envT_of tt_ok eqs_ok ⟨rheostatref04_by_ok K, rheostatref04_plus_ok K, rheostatref04_Of_ok K, rheostatref04_against_ok K, rheostatref04_one_ok K, rheostatref04_whole_ok K, trivial⟩
theorem rheostatref04_Near_i0 (K : Nat) : EnvI Try.prog (rheostatref04_Near_e0 K) := envI_of (es := []) trivial trivial
noncomputable def rheostatref04_Near_h : Sh := ⟨2, [(0, .ag [.b, .i .i64, .i .i64, .i .i64, .i .i64, .i .i64, .i .i64, .i .i64, .i .i64, .i .i64, .i .i64, .i .i64, .i .i64, .i .i64, .i .i64, .i .i64, .i .i64, .i .i64, .i .i64, .i .i64, .i .i64]), (1, .sc (.i .i64))], [], []⟩
noncomputable def rheostatref04_Near_r : Sh := ⟨2, [(0, .sc (.i .i64)), (1, .sc (.i .i64))], [], []⟩
noncomputable def rheostatref04_Near_g (K : Nat) (n_0_0 : Bool) (n_0_1 : Int) (n_0_2 : Int) (n_0_3 : Int) (n_0_4 : Int) (n_0_5 : Int) (n_0_6 : Int) (n_0_7 : Int) (n_0_8 : Int) (n_0_9 : Int) (n_0_10 : Int) (n_0_11 : Int) (n_0_12 : Int) (n_0_13 : Int) (n_0_14 : Int) (n_0_15 : Int) (n_0_16 : Int) (n_0_17 : Int) (n_0_18 : Int) (n_0_19 : Int) (n_0_20 : Int) (c_1 : Int) : Option (Int × Int × Unit) :=
  (bif (decide (c_1 < 1)) then (some (0, 2, ())) else ((rheostatref04_by_g K n_0_1 n_0_2 n_0_3 n_0_4 n_0_5 n_0_6 n_0_7 n_0_8 n_0_9 n_0_10 n_0_11 n_0_12 n_0_13 n_0_14 n_0_15 n_0_16 n_0_17 n_0_18 n_0_19 n_0_20 (wu64 (c_1))).bind fun q1 => ((rheostatref04_plus_g K q1.2.2.2.2.2.2.2.2.2.2.2.2.2.2.2.2.2.2.2.2.1 q1.2.2.2.2.2.2.2.2.2.2.2.2.2.2.2.2.2.2.2.2.2.1 q1.2.2.2.2.2.2.2.2.2.2.2.2.2.2.2.2.2.2.2.2.2.2.1 q1.2.2.2.2.2.2.2.2.2.2.2.2.2.2.2.2.2.2.2.2.2.2.2.1 q1.2.2.2.2.2.2.2.2.2.2.2.2.2.2.2.2.2.2.2.2.2.2.2.2.1 q1.2.2.2.2.2.2.2.2.2.2.2.2.2.2.2.2.2.2.2.2.2.2.2.2.2.1 q1.2.2.2.2.2.2.2.2.2.2.2.2.2.2.2.2.2.2.2.2.2.2.2.2.2.2.1 q1.2.2.2.2.2.2.2.2.2.2.2.2.2.2.2.2.2.2.2.2.2.2.2.2.2.2.2.1 q1.2.2.2.2.2.2.2.2.2.2.2.2.2.2.2.2.2.2.2.2.2.2.2.2.2.2.2.2.1 q1.2.2.2.2.2.2.2.2.2.2.2.2.2.2.2.2.2.2.2.2.2.2.2.2.2.2.2.2.2.1 q1.2.2.2.2.2.2.2.2.2.2.2.2.2.2.2.2.2.2.2.2.2.2.2.2.2.2.2.2.2.2.1 q1.2.2.2.2.2.2.2.2.2.2.2.2.2.2.2.2.2.2.2.2.2.2.2.2.2.2.2.2.2.2.2.1 q1.2.2.2.2.2.2.2.2.2.2.2.2.2.2.2.2.2.2.2.2.2.2.2.2.2.2.2.2.2.2.2.2.1 q1.2.2.2.2.2.2.2.2.2.2.2.2.2.2.2.2.2.2.2.2.2.2.2.2.2.2.2.2.2.2.2.2.2.1 q1.2.2.2.2.2.2.2.2.2.2.2.2.2.2.2.2.2.2.2.2.2.2.2.2.2.2.2.2.2.2.2.2.2.2.1 q1.2.2.2.2.2.2.2.2.2.2.2.2.2.2.2.2.2.2.2.2.2.2.2.2.2.2.2.2.2.2.2.2.2.2.2.1 q1.2.2.2.2.2.2.2.2.2.2.2.2.2.2.2.2.2.2.2.2.2.2.2.2.2.2.2.2.2.2.2.2.2.2.2.2.1 q1.2.2.2.2.2.2.2.2.2.2.2.2.2.2.2.2.2.2.2.2.2.2.2.2.2.2.2.2.2.2.2.2.2.2.2.2.2.1 q1.2.2.2.2.2.2.2.2.2.2.2.2.2.2.2.2.2.2.2.2.2.2.2.2.2.2.2.2.2.2.2.2.2.2.2.2.2.2.1 q1.2.2.2.2.2.2.2.2.2.2.2.2.2.2.2.2.2.2.2.2.2.2.2.2.2.2.2.2.2.2.2.2.2.2.2.2.2.2.2.1 q1.2.2.2.2.2.2.2.2.2.2.2.2.2.2.2.2.2.2.2.2.1 q1.2.2.2.2.2.2.2.2.2.2.2.2.2.2.2.2.2.2.2.2.2.1 q1.2.2.2.2.2.2.2.2.2.2.2.2.2.2.2.2.2.2.2.2.2.2.1 q1.2.2.2.2.2.2.2.2.2.2.2.2.2.2.2.2.2.2.2.2.2.2.2.1 q1.2.2.2.2.2.2.2.2.2.2.2.2.2.2.2.2.2.2.2.2.2.2.2.2.1 q1.2.2.2.2.2.2.2.2.2.2.2.2.2.2.2.2.2.2.2.2.2.2.2.2.2.1 q1.2.2.2.2.2.2.2.2.2.2.2.2.2.2.2.2.2.2.2.2.2.2.2.2.2.2.1 q1.2.2.2.2.2.2.2.2.2.2.2.2.2.2.2.2.2.2.2.2.2.2.2.2.2.2.2.1 q1.2.2.2.2.2.2.2.2.2.2.2.2.2.2.2.2.2.2.2.2.2.2.2.2.2.2.2.2.1 q1.2.2.2.2.2.2.2.2.2.2.2.2.2.2.2.2.2.2.2.2.2.2.2.2.2.2.2.2.2.1 q1.2.2.2.2.2.2.2.2.2.2.2.2.2.2.2.2.2.2.2.2.2.2.2.2.2.2.2.2.2.2.1 q1.2.2.2.2.2.2.2.2.2.2.2.2.2.2.2.2.2.2.2.2.2.2.2.2.2.2.2.2.2.2.2.1 q1.2.2.2.2.2.2.2.2.2.2.2.2.2.2.2.2.2.2.2.2.2.2.2.2.2.2.2.2.2.2.2.2.1 q1.2.2.2.2.2.2.2.2.2.2.2.2.2.2.2.2.2.2.2.2.2.2.2.2.2.2.2.2.2.2.2.2.2.1 q1.2.2.2.2.2.2.2.2.2.2.2.2.2.2.2.2.2.2.2.2.2.2.2.2.2.2.2.2.2.2.2.2.2.2.1 q1.2.2.2.2.2.2.2.2.2.2.2.2.2.2.2.2.2.2.2.2.2.2.2.2.2.2.2.2.2.2.2.2.2.2.2.1 q1.2.2.2.2.2.2.2.2.2.2.2.2.2.2.2.2.2.2.2.2.2.2.2.2.2.2.2.2.2.2.2.2.2.2.2.2.1 q1.2.2.2.2.2.2.2.2.2.2.2.2.2.2.2.2.2.2.2.2.2.2.2.2.2.2.2.2.2.2.2.2.2.2.2.2.2.1 q1.2.2.2.2.2.2.2.2.2.2.2.2.2.2.2.2.2.2.2.2.2.2.2.2.2.2.2.2.2.2.2.2.2.2.2.2.2.2.1 q1.2.2.2.2.2.2.2.2.2.2.2.2.2.2.2.2.2.2.2.2.2.2.2.2.2.2.2.2.2.2.2.2.2.2.2.2.2.2.2.1).bind fun q2 => ((rheostatref04_Of_g K c_1).bind fun q3 => ((rheostatref04_against_g K q2.1 q2.2.1 q2.2.2.1 q2.2.2.2.1 q2.2.2.2.2.1 q2.2.2.2.2.2.1 q2.2.2.2.2.2.2.1 q2.2.2.2.2.2.2.2.1 q2.2.2.2.2.2.2.2.2.1 q2.2.2.2.2.2.2.2.2.2.1 q2.2.2.2.2.2.2.2.2.2.2.1 q2.2.2.2.2.2.2.2.2.2.2.2.1 q2.2.2.2.2.2.2.2.2.2.2.2.2.1 q2.2.2.2.2.2.2.2.2.2.2.2.2.2.1 q2.2.2.2.2.2.2.2.2.2.2.2.2.2.2.1 q2.2.2.2.2.2.2.2.2.2.2.2.2.2.2.2.1 q2.2.2.2.2.2.2.2.2.2.2.2.2.2.2.2.2.1 q2.2.2.2.2.2.2.2.2.2.2.2.2.2.2.2.2.2.1 q2.2.2.2.2.2.2.2.2.2.2.2.2.2.2.2.2.2.2.1 q2.2.2.2.2.2.2.2.2.2.2.2.2.2.2.2.2.2.2.2.1 q3.2.1 q3.2.2.1 q3.2.2.2.1 q3.2.2.2.2.1 q3.2.2.2.2.2.1 q3.2.2.2.2.2.2.1 q3.2.2.2.2.2.2.2.1 q3.2.2.2.2.2.2.2.2.1 q3.2.2.2.2.2.2.2.2.2.1 q3.2.2.2.2.2.2.2.2.2.2.1 q3.2.2.2.2.2.2.2.2.2.2.2.1 q3.2.2.2.2.2.2.2.2.2.2.2.2.1 q3.2.2.2.2.2.2.2.2.2.2.2.2.2.1 q3.2.2.2.2.2.2.2.2.2.2.2.2.2.2.1 q3.2.2.2.2.2.2.2.2.2.2.2.2.2.2.2.1 q3.2.2.2.2.2.2.2.2.2.2.2.2.2.2.2.2.1 q3.2.2.2.2.2.2.2.2.2.2.2.2.2.2.2.2.2.1 q3.2.2.2.2.2.2.2.2.2.2.2.2.2.2.2.2.2.2.1 q3.2.2.2.2.2.2.2.2.2.2.2.2.2.2.2.2.2.2.2.1 q3.2.2.2.2.2.2.2.2.2.2.2.2.2.2.2.2.2.2.2.2.1).bind fun q4 => (bif (decide (q4.1 ≥ 0)) then ((rheostatref04_one_g K).bind fun q5 => ((rheostatref04_plus_g K q1.1 q1.2.1 q1.2.2.1 q1.2.2.2.1 q1.2.2.2.2.1 q1.2.2.2.2.2.1 q1.2.2.2.2.2.2.1 q1.2.2.2.2.2.2.2.1 q1.2.2.2.2.2.2.2.2.1 q1.2.2.2.2.2.2.2.2.2.1 q1.2.2.2.2.2.2.2.2.2.2.1 q1.2.2.2.2.2.2.2.2.2.2.2.1 q1.2.2.2.2.2.2.2.2.2.2.2.2.1 q1.2.2.2.2.2.2.2.2.2.2.2.2.2.1 q1.2.2.2.2.2.2.2.2.2.2.2.2.2.2.1 q1.2.2.2.2.2.2.2.2.2.2.2.2.2.2.2.1 q1.2.2.2.2.2.2.2.2.2.2.2.2.2.2.2.2.1 q1.2.2.2.2.2.2.2.2.2.2.2.2.2.2.2.2.2.1 q1.2.2.2.2.2.2.2.2.2.2.2.2.2.2.2.2.2.2.1 q1.2.2.2.2.2.2.2.2.2.2.2.2.2.2.2.2.2.2.2.1 q5.1 q5.2.1 q5.2.2.1 q5.2.2.2.1 q5.2.2.2.2.1 q5.2.2.2.2.2.1 q5.2.2.2.2.2.2.1 q5.2.2.2.2.2.2.2.1 q5.2.2.2.2.2.2.2.2.1 q5.2.2.2.2.2.2.2.2.2.1 q5.2.2.2.2.2.2.2.2.2.2.1 q5.2.2.2.2.2.2.2.2.2.2.2.1 q5.2.2.2.2.2.2.2.2.2.2.2.2.1 q5.2.2.2.2.2.2.2.2.2.2.2.2.2.1 q5.2.2.2.2.2.2.2.2.2.2.2.2.2.2.1 q5.2.2.2.2.2.2.2.2.2.2.2.2.2.2.2.1 q5.2.2.2.2.2.2.2.2.2.2.2.2.2.2.2.2.1 q5.2.2.2.2.2.2.2.2.2.2.2.2.2.2.2.2.2.1 q5.2.2.2.2.2.2.2.2.2.2.2.2.2.2.2.2.2.2.1 q5.2.2.2.2.2.2.2.2.2.2.2.2.2.2.2.2.2.2.2.1).bind fun q6 => ((rheostatref04_whole_g K n_0_0 q6.1 q6.2.1 q6.2.2.1 q6.2.2.2.1 q6.2.2.2.2.1 q6.2.2.2.2.2.1 q6.2.2.2.2.2.2.1 q6.2.2.2.2.2.2.2.1 q6.2.2.2.2.2.2.2.2.1 q6.2.2.2.2.2.2.2.2.2.1 q6.2.2.2.2.2.2.2.2.2.2.1 q6.2.2.2.2.2.2.2.2.2.2.2.1 q6.2.2.2.2.2.2.2.2.2.2.2.2.1 q6.2.2.2.2.2.2.2.2.2.2.2.2.2.1 q6.2.2.2.2.2.2.2.2.2.2.2.2.2.2.1 q6.2.2.2.2.2.2.2.2.2.2.2.2.2.2.2.1 q6.2.2.2.2.2.2.2.2.2.2.2.2.2.2.2.2.1 q6.2.2.2.2.2.2.2.2.2.2.2.2.2.2.2.2.2.1 q6.2.2.2.2.2.2.2.2.2.2.2.2.2.2.2.2.2.2.1 q6.2.2.2.2.2.2.2.2.2.2.2.2.2.2.2.2.2.2.2.1).bind fun q7 => (bif (!q7.2.1) then (some (0, 3, ())) else (some (q7.1, 0, ())))))) else ((rheostatref04_whole_g K n_0_0 q1.1 q1.2.1 q1.2.2.1 q1.2.2.2.1 q1.2.2.2.2.1 q1.2.2.2.2.2.1 q1.2.2.2.2.2.2.1 q1.2.2.2.2.2.2.2.1 q1.2.2.2.2.2.2.2.2.1 q1.2.2.2.2.2.2.2.2.2.1 q1.2.2.2.2.2.2.2.2.2.2.1 q1.2.2.2.2.2.2.2.2.2.2.2.1 q1.2.2.2.2.2.2.2.2.2.2.2.2.1 q1.2.2.2.2.2.2.2.2.2.2.2.2.2.1 q1.2.2.2.2.2.2.2.2.2.2.2.2.2.2.1 q1.2.2.2.2.2.2.2.2.2.2.2.2.2.2.2.1 q1.2.2.2.2.2.2.2.2.2.2.2.2.2.2.2.2.1 q1.2.2.2.2.2.2.2.2.2.2.2.2.2.2.2.2.2.1 q1.2.2.2.2.2.2.2.2.2.2.2.2.2.2.2.2.2.2.1 q1.2.2.2.2.2.2.2.2.2.2.2.2.2.2.2.2.2.2.2.1).bind fun q8 => (bif (!q8.2.1) then (some (0, 3, ())) else (some (q8.1, 0, ()))))))))))
noncomputable def rheostatref04_Near_gu (K : Nat) (t : rheostatref04_Near_h.T) : Option (Int × Int × Unit) :=
  let u1 := t.2
  let u2 := u1.2
  let u3 := u2.2
  let u4 := u3.2
  let u5 := u4.2
  let u6 := u5.2
  let u7 := u6.2
  let u8 := u7.2
  let u9 := u8.2
  let u10 := u9.2
  let u11 := u10.2
  let u12 := u11.2
  let u13 := u12.2
  let u14 := u13.2
  let u15 := u14.2
  let u16 := u15.2
  let u17 := u16.2
  let u18 := u17.2
  let u19 := u18.2
  let u20 := u19.2
  let u21 := u20.2
  rheostatref04_Near_g K t.1 u1.1 u2.1 u3.1 u4.1 u5.1 u6.1 u7.1 u8.1 u9.1 u10.1 u11.1 u12.1 u13.1 u14.1 u15.1 u16.1 u17.1 u18.1 u19.1 u20.1 u21.1
noncomputable def rheostatref04_Near_o (K : Nat) : FO := fnFO rheostatref04_Near_h rheostatref04_Near_r fun t => rheostatref04_Near_gu K t
theorem rheostatref04_Near_q (K : Nat) (t : rheostatref04_Near_h.T) : exFn (rheostatref04_Near_e0 K) (hdl (rheostatref04_Near_e0 K) 0) [34] Try.f34 (slVals (rheostatref04_Near_h.put t).fr.sl) ⟨⟨0, []⟩, [], (rheostatref04_Near_h.put t).mem⟩ (takeRes rheostatref04_Near_r) = rheostatref04_Near_gu K t := by kernel_rfl
theorem rheostatref04_Near_ok (K : Nat) : FOok Try.prog 34 (rheostatref04_Near_o K) :=
  fn_rule (rheostatref04_Near_t0 K) (rheostatref04_Near_i0 K) (draws (rheostatref04_Near_t0 K)) 0 Try.func34 (fnB_ok Try.func34 (by kernel_rfl)) rfl rfl (allOwn_ok false (by kernel_rfl)) rfl (allOwn_ok true (by kernel_rfl)) (fun t => rheostatref04_Near_q K t)
/-! rheostatref03_Between -/
noncomputable def rheostatref03_Between_e0 (K : Nat) : Env := ⟨tt, [], [], [], eqs⟩
theorem rheostatref03_Between_t0 (K : Nat) : EnvT Try.prog (rheostatref03_Between_e0 K) := envT_of tt_ok eqs_ok trivial
theorem rheostatref03_Between_i0 (K : Nat) : EnvI Try.prog (rheostatref03_Between_e0 K) := envI_of (es := []) trivial trivial
noncomputable def rheostatref03_Between_h : Sh := ⟨3, [(0, .sc (.i .i64)), (1, .sc (.i .i64)), (2, .sc (.i .i64))], [], []⟩
noncomputable def rheostatref03_Between_r : Sh := ⟨1, [(0, .sc (.i .i64))], [], []⟩
noncomputable def rheostatref03_Between_g (K : Nat) (low_0 : Int) (high_1 : Int) (n_2 : Int) : Option (Int × Unit) :=
  (bif (decide (n_2 < low_0)) then (some (low_0, ())) else (bif (decide (n_2 > high_1)) then (some (high_1, ())) else (some (n_2, ()))))
noncomputable def rheostatref03_Between_o (K : Nat) : FO := fnFO rheostatref03_Between_h rheostatref03_Between_r fun t => rheostatref03_Between_g K t.1 t.2.1 t.2.2.1
theorem rheostatref03_Between_q (K : Nat) (t : rheostatref03_Between_h.T) : exFn (rheostatref03_Between_e0 K) (hdl (rheostatref03_Between_e0 K) 0) [36] Try.f36 (slVals (rheostatref03_Between_h.put t).fr.sl) ⟨⟨0, []⟩, [], (rheostatref03_Between_h.put t).mem⟩ (takeRes rheostatref03_Between_r) = rheostatref03_Between_g K t.1 t.2.1 t.2.2.1 := by kernel_rfl
theorem rheostatref03_Between_ok (K : Nat) : FOok Try.prog 36 (rheostatref03_Between_o K) :=
  fn_rule (rheostatref03_Between_t0 K) (rheostatref03_Between_i0 K) (draws (rheostatref03_Between_t0 K)) 0 Try.func36 (fnB_ok Try.func36 (by kernel_rfl)) rfl rfl (allOwn_ok false (by kernel_rfl)) rfl (allOwn_ok true (by kernel_rfl)) (fun t => rheostatref03_Between_q K t)
/-! rheostatref12_Unit -/
noncomputable def rheostatref12_Unit_e0 (K : Nat) : Env := ⟨tt, [(26, rheostatref12_Check_o K), (33, rheostatref12_raw_o K), (35, rheostatref04_Mul_o K), (34, rheostatref04_Near_o K), (36, rheostatref03_Between_o K)], [], [], eqs⟩
theorem rheostatref12_Unit_t0 (K : Nat) : EnvT Try.prog (rheostatref12_Unit_e0 K) := envT_of tt_ok eqs_ok ⟨rheostatref12_Check_ok K, rheostatref12_raw_ok K, rheostatref04_Mul_ok K, rheostatref04_Near_ok K, rheostatref03_Between_ok K, trivial⟩
theorem rheostatref12_Unit_i0 (K : Nat) : EnvI Try.prog (rheostatref12_Unit_e0 K) := envI_of (es := []) trivial trivial
noncomputable def rheostatref12_Unit_h : Sh := ⟨2, [(0, .ag [.i .i64, .i .i64, .i .i64]), (1, .sc (.i .i64))], [], []⟩
noncomputable def rheostatref12_Unit_r : Sh := ⟨2, [(0, .sc (.i .i64)), (1, .sc (.i .i64))], [], []⟩
noncomputable def rheostatref12_Unit_g (K : Nat) (l_0_0 : Int) (l_0_1 : Int) (l_0_2 : Int) (count_1 : Int) : Option (Int × Int × Unit) :=
  ((rheostatref12_Check_g K l_0_0 l_0_1 l_0_2).bind fun q1 => (bif (q1.1 != 0) then (some (0, q1.1, ())) else ((rheostatref12_raw_g K count_1).bind fun q2 => (bif (!q2.1) then (some (0, 2, ())) else ((rheostatref04_Mul_g K (wi64 (count_1 - l_0_0)) l_0_1).bind fun q3 => ((rheostatref04_Near_g K q3.1 q3.2.1 q3.2.2.1 q3.2.2.2.1 q3.2.2.2.2.1 q3.2.2.2.2.2.1 q3.2.2.2.2.2.2.1 q3.2.2.2.2.2.2.2.1 q3.2.2.2.2.2.2.2.2.1 q3.2.2.2.2.2.2.2.2.2.1 q3.2.2.2.2.2.2.2.2.2.2.1 q3.2.2.2.2.2.2.2.2.2.2.2.1 q3.2.2.2.2.2.2.2.2.2.2.2.2.1 q3.2.2.2.2.2.2.2.2.2.2.2.2.2.1 q3.2.2.2.2.2.2.2.2.2.2.2.2.2.2.1 q3.2.2.2.2.2.2.2.2.2.2.2.2.2.2.2.1 q3.2.2.2.2.2.2.2.2.2.2.2.2.2.2.2.2.1 q3.2.2.2.2.2.2.2.2.2.2.2.2.2.2.2.2.2.1 q3.2.2.2.2.2.2.2.2.2.2.2.2.2.2.2.2.2.2.1 q3.2.2.2.2.2.2.2.2.2.2.2.2.2.2.2.2.2.2.2.1 q3.2.2.2.2.2.2.2.2.2.2.2.2.2.2.2.2.2.2.2.2.1 l_0_2).bind fun q4 => ((rheostatref03_Between_g K (-2147483648) 2147483648 q4.1).bind fun q5 => (some (q5.1, 0, ())))))))))
noncomputable def rheostatref12_Unit_gu (K : Nat) (t : rheostatref12_Unit_h.T) : Option (Int × Int × Unit) :=
  rheostatref12_Unit_g K t.1 t.2.1 t.2.2.1 t.2.2.2.1
noncomputable def rheostatref12_Unit_o (K : Nat) : FO := fnFO rheostatref12_Unit_h rheostatref12_Unit_r fun t => rheostatref12_Unit_gu K t
theorem rheostatref12_Unit_q (K : Nat) (t : rheostatref12_Unit_h.T) : exFn (rheostatref12_Unit_e0 K) (hdl (rheostatref12_Unit_e0 K) 0) [23] Try.f23 (slVals (rheostatref12_Unit_h.put t).fr.sl) ⟨⟨0, []⟩, [], (rheostatref12_Unit_h.put t).mem⟩ (takeRes rheostatref12_Unit_r) = rheostatref12_Unit_gu K t := by kernel_rfl
theorem rheostatref12_Unit_ok (K : Nat) : FOok Try.prog 23 (rheostatref12_Unit_o K) :=
  fn_rule (rheostatref12_Unit_t0 K) (rheostatref12_Unit_i0 K) (draws (rheostatref12_Unit_t0 K)) 0 Try.func23 (fnB_ok Try.func23 (by kernel_rfl)) rfl rfl (allOwn_ok false (by kernel_rfl)) rfl (allOwn_ok true (by kernel_rfl)) (fun t => rheostatref12_Unit_q K t)
/-! rheostatref13_Inside -/
noncomputable def rheostatref13_Inside_e0 (K : Nat) : Env := ⟨tt, [], [], [], eqs⟩
theorem rheostatref13_Inside_t0 (K : Nat) : EnvT Try.prog (rheostatref13_Inside_e0 K) := envT_of tt_ok eqs_ok trivial
theorem rheostatref13_Inside_i0 (K : Nat) : EnvI Try.prog (rheostatref13_Inside_e0 K) := envI_of (es := []) trivial trivial
noncomputable def rheostatref13_Inside_h : Sh := ⟨2, [(0, .ag [.i .i64, .i .i64]), (1, .sc (.i .i64))], [], []⟩
noncomputable def rheostatref13_Inside_r : Sh := ⟨1, [(0, .sc (.b))], [], []⟩
noncomputable def rheostatref13_Inside_g (K : Nat) (s_0_0 : Int) (s_0_1 : Int) (n_1 : Int) : Option (Bool × Unit) :=
  (bif (decide (n_1 ≥ s_0_0)) then (some ((decide (n_1 ≤ s_0_1)), ())) else (some (false, ())))
noncomputable def rheostatref13_Inside_o (K : Nat) : FO := fnFO rheostatref13_Inside_h rheostatref13_Inside_r fun t => rheostatref13_Inside_g K t.1 t.2.1 t.2.2.1
theorem rheostatref13_Inside_q (K : Nat) (t : rheostatref13_Inside_h.T) : exFn (rheostatref13_Inside_e0 K) (hdl (rheostatref13_Inside_e0 K) 0) [13] Try.f13 (slVals (rheostatref13_Inside_h.put t).fr.sl) ⟨⟨0, []⟩, [], (rheostatref13_Inside_h.put t).mem⟩ (takeRes rheostatref13_Inside_r) = rheostatref13_Inside_g K t.1 t.2.1 t.2.2.1 := by kernel_rfl
theorem rheostatref13_Inside_ok (K : Nat) : FOok Try.prog 13 (rheostatref13_Inside_o K) :=
  fn_rule (rheostatref13_Inside_t0 K) (rheostatref13_Inside_i0 K) (draws (rheostatref13_Inside_t0 K)) 0 Try.func13 (fnB_ok Try.func13 (by kernel_rfl)) rfl rfl (allOwn_ok false (by kernel_rfl)) rfl (allOwn_ok true (by kernel_rfl)) (fun t => rheostatref13_Inside_q K t)
/-! rheostatref13_Read -/
noncomputable def rheostatref13_Read_e0 (K : Nat) : Env := ⟨tt, [(11, rheostatref13_Check_o K), (23, rheostatref12_Unit_o K), (13, rheostatref13_Inside_o K)], [], [], eqs⟩
theorem rheostatref13_Read_t0 (K : Nat) : EnvT Try.prog (rheostatref13_Read_e0 K) := envT_of tt_ok eqs_ok ⟨rheostatref13_Check_ok K, rheostatref12_Unit_ok K, rheostatref13_Inside_ok K, trivial⟩
theorem rheostatref13_Read_i0 (K : Nat) : EnvI Try.prog (rheostatref13_Read_e0 K) := envI_of (es := []) trivial trivial
noncomputable def rheostatref13_Read_l0h : Sh := ⟨63, [(3, .sc (.lit (.p 0 0 0 []))), (4, .sc (.lit (.p 1 0 0 []))), (5, .sc (.lit (.p 2 0 0 []))), (6, .sc (.lit (.p 3 0 0 []))), (9, .sc (.lit (.p 4 0 0 []))), (10, .sc (.i .i64))], [(0, [])], [(true, false, [.i .i64, .i .i64, .i .i64, .i .i64, .i .i64, .i .i64, .i .i64, .i .i64, .i .i64]), (true, false, [.i .i64, .i .i64, .i .i64, .i .i64, .i .i64, .i .i64]), (true, false, [.i .i64, .i .i64, .i .i64, .i .i64]), (true, false, [.i .i64, .i .i64, .i .i64, .i .i64]), (true, false, [.i .i64, .i .i64, .i .i64, .i .i64])]⟩
noncomputable def rheostatref13_Read_l0x0 : Sh := ⟨63, [(6, .sc (.lit (.p 0 0 0 []))), (9, .sc (.lit (.p 1 0 0 [])))], [(0, [])], [(true, false, [.i .i64, .i .i64, .i .i64, .i .i64]), (true, false, [.i .i64, .i .i64, .i .i64, .i .i64])]⟩
noncomputable def rheostatref13_Read_l0x1 : Sh := ⟨63, [(6, .sc (.lit (.p 0 0 0 []))), (7, .sc (.i .i64))], [(0, [])], [(true, false, [.i .i64, .i .i64, .i .i64, .i .i64])]⟩
noncomputable def rheostatref13_Read_l0O : OutI ((Int × Int × Int × Int × Int × Int × Int × Int × Unit) ⊕ (Int × Int × Int × Int × Int × Unit)) := (OutI.or (OutI.exit 0 rheostatref13_Read_l0x0) (OutI.ret rheostatref13_Read_l0x1))
noncomputable def rheostatref13_Read_l0r (K : Nat) (rec : Int → Int → Int → Int → Int → Int → Int → Int → Int → Int → Int → Int → Int → Int → Int → Int → Int → Int → Int → Int → Int → Int → Int → Int → Int → Int → Int → Int → Option ((Int × Int × Int × Int × Int × Int × Int × Int × Unit) ⊕ (Int × Int × Int × Int × Int × Unit))) (i_10 : Int) (m0_0 : Int) (m0_1 : Int) (m0_2 : Int) (m0_3 : Int) (m0_4 : Int) (m0_5 : Int) (m0_6 : Int) (m0_7 : Int) (m0_8 : Int) (m1_0 : Int) (m1_1 : Int) (m1_2 : Int) (m1_3 : Int) (m1_4 : Int) (m1_5 : Int) (m2_0 : Int) (m2_1 : Int) (m2_2 : Int) (m2_3 : Int) (m3_0 : Int) (m3_1 : Int) (m3_2 : Int) (m3_3 : Int) (m4_0 : Int) (m4_1 : Int) (m4_2 : Int) (m4_3 : Int) : Option ((Int × Int × Int × Int × Int × Int × Int × Int × Unit) ⊕ (Int × Int × Int × Int × Int × Unit)) :=
  (bif (decide (i_10 < 3)) then (bif ((decide (0 ≤ i_10)) && (decide (i_10 < 3))) then (bif ((decide (0 ≤ i_10)) && (decide (i_10 < 3))) then ((rheostatref12_Unit_g K (selI [m0_0, m0_3, m0_6] (Int.toNat i_10)) (selI [m0_1, m0_4, m0_7] (Int.toNat i_10)) (selI [m0_2, m0_5, m0_8] (Int.toNat i_10)) (selI [m2_0, m2_1, m2_2] (Int.toNat i_10))).bind fun q1 => (bif (q1.2.1 != 0) then (some (.inr (130, 0, 0, 0, 0, ()))) else (bif ((decide (0 ≤ i_10)) && (decide (i_10 < 3))) then ((rheostatref13_Inside_g K (selI [m1_0, m1_2, m1_4] (Int.toNat i_10)) (selI [m1_1, m1_3, m1_5] (Int.toNat i_10)) q1.1).bind fun q2 => (bif (!q2.1) then (some (.inr (130, 0, 0, 0, 0, ()))) else (bif ((decide (0 ≤ i_10)) && (decide (i_10 < 3))) then (rec (wi64 (i_10 + 1)) m0_0 m0_1 m0_2 m0_3 m0_4 m0_5 m0_6 m0_7 m0_8 m1_0 m1_1 m1_2 m1_3 m1_4 m1_5 m2_0 m2_1 m2_2 m2_3 m3_0 m3_1 m3_2 m3_3 (bif (Nat.beq (Int.toNat i_10) 0) then q1.1 else m4_0) (bif (Nat.beq (Int.toNat i_10) 1) then q1.1 else m4_1) (bif (Nat.beq (Int.toNat i_10) 2) then q1.1 else m4_2) m4_3) else none))) else none))) else none) else none) else (some (.inl (m3_0, m3_1, m3_2, m3_3, m4_0, m4_1, m4_2, m4_3, ()))))
noncomputable def rheostatref13_Read_l0 (K n : Nat) : Int → Int → Int → Int → Int → Int → Int → Int → Int → Int → Int → Int → Int → Int → Int → Int → Int → Int → Int → Int → Int → Int → Int → Int → Int → Int → Int → Int → Option ((Int × Int × Int × Int × Int × Int × Int × Int × Unit) ⊕ (Int × Int × Int × Int × Int × Unit)) := Nat.rec (motive := fun _ => Int → Int → Int → Int → Int → Int → Int → Int → Int → Int → Int → Int → Int → Int → Int → Int → Int → Int → Int → Int → Int → Int → Int → Int → Int → Int → Int → Int → Option ((Int × Int × Int × Int × Int × Int × Int × Int × Unit) ⊕ (Int × Int × Int × Int × Int × Unit))) (fun _ _ _ _ _ _ _ _ _ _ _ _ _ _ _ _ _ _ _ _ _ _ _ _ _ _ _ _ => none) (fun _ ih => rheostatref13_Read_l0r K ih) n
noncomputable def rheostatref13_Read_l0u (K n : Nat) (t : rheostatref13_Read_l0h.T) : Option ((Int × Int × Int × Int × Int × Int × Int × Int × Unit) ⊕ (Int × Int × Int × Int × Int × Unit)) :=
  let u1 := t.2
  let u2 := u1.2
  let u3 := u2.2
  let u4 := u3.2
  let u5 := u4.2
  let u6 := u5.2
  let u7 := u6.2
  let u8 := u7.2
  let u9 := u8.2
  let u10 := u9.2
  let u11 := u10.2
  let u12 := u11.2
  let u13 := u12.2
  let u14 := u13.2
  let u15 := u14.2
  let u16 := u15.2
  let u17 := u16.2
  let u18 := u17.2
  let u19 := u18.2
  let u20 := u19.2
  let u21 := u20.2
  let u22 := u21.2
  let u23 := u22.2
  let u24 := u23.2
  let u25 := u24.2
  let u26 := u25.2
  let u27 := u26.2
  rheostatref13_Read_l0 K n t.1 u1.1 u2.1 u3.1 u4.1 u5.1 u6.1 u7.1 u8.1 u9.1 u10.1 u11.1 u12.1 u13.1 u14.1 u15.1 u16.1 u17.1 u18.1 u19.1 u20.1 u21.1 u22.1 u23.1 u24.1 u25.1 u26.1 u27.1
noncomputable def rheostatref13_Read_l0o (K : Nat) : LO := loopLO rheostatref13_Read_l0h rheostatref13_Read_l0O fun t => rheostatref13_Read_l0u K K t
noncomputable def rheostatref13_Read_l0C : Code := bodyOf Try.f9
noncomputable def rheostatref13_Read_l0B : Code := (findLoops 8 (loopsIn rheostatref13_Read_l0C)).headD .skip
theorem rheostatref13_Read_l0F : findLoops 8 (loopsIn rheostatref13_Read_l0C) = [rheostatref13_Read_l0B] := by kernel_rfl
theorem rheostatref13_Read_l0q (K n : Nat) (t : rheostatref13_Read_l0h.T) : exC (rheostatref13_Read_e0 K) (hdl (rheostatref13_Read_e0 K) 0) (9 :: []) rheostatref13_Read_l0B (rheostatref13_Read_l0h.put t) (fun s => (rheostatref13_Read_l0h.take s).bind fun t => rheostatref13_Read_l0u K n t) (fun id s => rheostatref13_Read_l0O.get (some id) s) (fun s => rheostatref13_Read_l0O.get none s) = rheostatref13_Read_l0u K (n + 1) t := by kernel_rfl
noncomputable def rheostatref13_Read_l0E (K : Nat) : LoopE Try.prog := ⟨[8, 9], rheostatref13_Read_l0o K, Try.f9, rheostatref13_Read_l0C, rheostatref13_Read_l0B, ⟨8, 9, [], rfl, Try.func9, by kernel_rfl, rheostatref13_Read_l0F⟩,
  loop_rule (F := fun n t => rheostatref13_Read_l0u K n t) (rheostatref13_Read_t0 K) (rheostatref13_Read_i0 K) (draws (rheostatref13_Read_t0 K)) 0 Try.func9 (c := rheostatref13_Read_l0C) (by kernel_rfl) (body_in rheostatref13_Read_l0F) (ctx' := []) (h := rheostatref13_Read_l0h) (O := rheostatref13_Read_l0O) (fun _ => rfl) (fun m t => rheostatref13_Read_l0q K m t) K⟩
noncomputable def rheostatref13_Read_e1 (K : Nat) : Env := ⟨tt, [(11, rheostatref13_Check_o K), (23, rheostatref12_Unit_o K), (13, rheostatref13_Inside_o K)], [], [([8, 9], rheostatref13_Read_l0o K)], eqs⟩
theorem rheostatref13_Read_t1 (K : Nat) : EnvT Try.prog (rheostatref13_Read_e1 K) := envT_of tt_ok eqs_ok ⟨rheostatref13_Check_ok K, rheostatref12_Unit_ok K, rheostatref13_Inside_ok K, trivial⟩
theorem rheostatref13_Read_i1 (K : Nat) : EnvI Try.prog (rheostatref13_Read_e1 K) := envI_of (es := [rheostatref13_Read_l0E K]) trivial ⟨⟨rfl, rfl⟩, trivial⟩
noncomputable def rheostatref13_Read_h : Sh := ⟨3, [(0, .ag [.i .i64, .i .i64, .i .i64, .i .i64, .i .i64, .i .i64, .i .i64, .i .i64, .i .i64]), (1, .ag [.i .i64, .i .i64, .i .i64, .i .i64, .i .i64, .i .i64]), (2, .ag [.i .i64, .i .i64, .i .i64, .i .i64])], [], []⟩
noncomputable def rheostatref13_Read_r : Sh := ⟨2, [(0, .ag [.i .i64, .i .i64, .i .i64, .i .i64]), (1, .sc (.i .i64))], [], []⟩
noncomputable def rheostatref13_Read_g (K : Nat) (lines_0_0 : Int) (lines_0_1 : Int) (lines_0_2 : Int) (lines_0_3 : Int) (lines_0_4 : Int) (lines_0_5 : Int) (lines_0_6 : Int) (lines_0_7 : Int) (lines_0_8 : Int) (spans_1_0 : Int) (spans_1_1 : Int) (spans_1_2 : Int) (spans_1_3 : Int) (spans_1_4 : Int) (spans_1_5 : Int) (s_2_0 : Int) (s_2_1 : Int) (s_2_2 : Int) (s_2_3 : Int) : Option (Int × Int × Int × Int × Int × Unit) :=
  ((rheostatref13_Check_g K lines_0_0 lines_0_1 lines_0_2 lines_0_3 lines_0_4 lines_0_5 lines_0_6 lines_0_7 lines_0_8 spans_1_0 spans_1_1 spans_1_2 spans_1_3 spans_1_4 spans_1_5).bind fun q1 => (bif (q1.1 != 0) then (some (0, 0, 0, 0, q1.1, ())) else (bif (decide (s_2_3 < 1)) then (some (0, 0, 0, 0, 130, ())) else (bif (decide (s_2_3 > 60000)) then (some (0, 0, 0, 0, 130, ())) else ((rheostatref13_Read_l0 K K 0 lines_0_0 lines_0_1 lines_0_2 lines_0_3 lines_0_4 lines_0_5 lines_0_6 lines_0_7 lines_0_8 spans_1_0 spans_1_1 spans_1_2 spans_1_3 spans_1_4 spans_1_5 s_2_0 s_2_1 s_2_2 s_2_3 0 0 0 0 0 0 0 s_2_3).bind fun q2 => (Sum.elim (fun q3 => (some (q3.2.2.2.2.1, q3.2.2.2.2.2.1, q3.2.2.2.2.2.2.1, q3.2.2.2.2.2.2.2.1, 0, ()))) (fun q4 => (some (q4.2.1, q4.2.2.1, q4.2.2.2.1, q4.2.2.2.2.1, q4.1, ()))) q2))))))
noncomputable def rheostatref13_Read_gu (K : Nat) (t : rheostatref13_Read_h.T) : Option (Int × Int × Int × Int × Int × Unit) :=
  let u1 := t.2
  let u2 := u1.2
  let u3 := u2.2
  let u4 := u3.2
  let u5 := u4.2
  let u6 := u5.2
  let u7 := u6.2
  let u8 := u7.2
  let u9 := u8.2
  let u10 := u9.2
  let u11 := u10.2
  let u12 := u11.2
  let u13 := u12.2
  let u14 := u13.2
  let u15 := u14.2
  let u16 := u15.2
  let u17 := u16.2
  let u18 := u17.2
  rheostatref13_Read_g K t.1 u1.1 u2.1 u3.1 u4.1 u5.1 u6.1 u7.1 u8.1 u9.1 u10.1 u11.1 u12.1 u13.1 u14.1 u15.1 u16.1 u17.1 u18.1
noncomputable def rheostatref13_Read_o (K : Nat) : FO := fnFO rheostatref13_Read_h rheostatref13_Read_r fun t => rheostatref13_Read_gu K t
theorem rheostatref13_Read_q (K : Nat) (t : rheostatref13_Read_h.T) : exFn (rheostatref13_Read_e1 K) (hdl (rheostatref13_Read_e1 K) 0) [9] Try.f9 (slVals (rheostatref13_Read_h.put t).fr.sl) ⟨⟨0, []⟩, [], (rheostatref13_Read_h.put t).mem⟩ (takeRes rheostatref13_Read_r) = rheostatref13_Read_gu K t := by kernel_rfl
theorem rheostatref13_Read_ok (K : Nat) : FOok Try.prog 9 (rheostatref13_Read_o K) :=
  fn_rule (rheostatref13_Read_t1 K) (rheostatref13_Read_i1 K) (draws (rheostatref13_Read_t1 K)) 0 Try.func9 (fnB_ok Try.func9 (by kernel_rfl)) rfl rfl (allOwn_ok false (by kernel_rfl)) rfl (allOwn_ok true (by kernel_rfl)) (fun t => rheostatref13_Read_q K t)
/-! rheostatlaw13_SampleReads -/
noncomputable def rheostatlaw13_SampleReads_e0 (K : Nat) : Env := ⟨tt, [(8, sample_Read_o K), (9, rheostatref13_Read_o K), (10, sample_Check_o K), (11, rheostatref13_Check_o K), (12, sample_Inside_o K), (13, rheostatref13_Inside_o K), (14, rheostatlaw13_works_o K)], [], [], eqs⟩
theorem rheostatlaw13_SampleReads_t0 (K : Nat) : EnvT Try.prog (rheostatlaw13_SampleReads_e0 K) := envT_of tt_ok eqs_ok ⟨sample_Read_ok K, rheostatref13_Read_ok K, sample_Check_ok K, rheostatref13_Check_ok K, sample_Inside_ok K, rheostatref13_Inside_ok K, rheostatlaw13_works_ok K, trivial⟩
theorem rheostatlaw13_SampleReads_i0 (K : Nat) : EnvI Try.prog (rheostatlaw13_SampleReads_e0 K) := envI_of (es := []) trivial trivial
noncomputable def rheostatlaw13_SampleReads_g (K : Nat) (w_0_0 : Int) (w_0_1 : Int) (w_0_2 : Int) (w_0_3 : Int) (w_0_4 : Int) (w_0_5 : Int) (w_0_6 : Int) (w_0_7 : Int) (w_0_8 : Int) (w_0_9 : Int) (w_0_10 : Int) (w_0_11 : Int) (w_0_12 : Int) (w_0_13 : Int) (w_0_14 : Int) (s_1_0 : Int) (s_1_1 : Int) (s_1_2 : Int) (s_1_3 : Int) (n_2 : Int) : Option Bool :=
  ((sample_Read_g K w_0_0 w_0_1 w_0_2 w_0_3 w_0_4 w_0_5 w_0_6 w_0_7 w_0_8 w_0_9 w_0_10 w_0_11 w_0_12 w_0_13 w_0_14 s_1_0 s_1_1 s_1_2 s_1_3).bind fun q1 => ((rheostatref13_Read_g K w_0_0 w_0_1 w_0_2 w_0_3 w_0_4 w_0_5 w_0_6 w_0_7 w_0_8 w_0_9 w_0_10 w_0_11 w_0_12 w_0_13 w_0_14 s_1_0 s_1_1 s_1_2 s_1_3).bind fun q2 => (bif ((q1.1 == q2.1) && ((q1.2.1 == q2.2.1) && ((q1.2.2.1 == q2.2.2.1) && (q1.2.2.2.1 == q2.2.2.2.1)))) then (bif (q1.2.2.2.2.1 == q2.2.2.2.2.1) then ((sample_Check_g K w_0_0 w_0_1 w_0_2 w_0_3 w_0_4 w_0_5 w_0_6 w_0_7 w_0_8 w_0_9 w_0_10 w_0_11 w_0_12 w_0_13 w_0_14).bind fun q3 => ((rheostatref13_Check_g K w_0_0 w_0_1 w_0_2 w_0_3 w_0_4 w_0_5 w_0_6 w_0_7 w_0_8 w_0_9 w_0_10 w_0_11 w_0_12 w_0_13 w_0_14).bind fun q4 => (bif (q3.1 == q4.1) then ((sample_Inside_g K w_0_9 w_0_10 n_2).bind fun q5 => ((rheostatref13_Inside_g K w_0_9 w_0_10 n_2).bind fun q6 => (bif (q5.1 == q6.1) then ((rheostatlaw13_works_g K).bind fun q7 => (some q7.1)) else (some false)))) else (some false)))) else (some false)) else (some false))))
noncomputable def rheostatlaw13_SampleReads_ps : List (Bool × List WC) := [(true, [.sc (.i .i64), .sc (.i .i64), .sc (.i .i64), .sc (.i .i64), .sc (.i .i64), .sc (.i .i64), .sc (.i .i64), .sc (.i .i64), .sc (.i .i64), .sc (.i .i64), .sc (.i .i64), .sc (.i .i64), .sc (.i .i64), .sc (.i .i64), .sc (.i .i64)]), (true, [.sc (.i .i64), .sc (.i .i64), .sc (.i .i64), .sc (.i .i64)]), (false, [.sc (.i .i64)])]
theorem rheostatlaw13_SampleReads_q (K : Nat) (t : (shOf rheostatlaw13_SampleReads_ps).T) : exFn (rheostatlaw13_SampleReads_e0 K) (hdl (rheostatlaw13_SampleReads_e0 K) 0) [3] Try.f3 (slVals ((shOf rheostatlaw13_SampleReads_ps).put t).fr.sl) ⟨⟨0, []⟩, [], ((shOf rheostatlaw13_SampleReads_ps).put t).mem⟩ outBool = rheostatlaw13_SampleReads_g K t.1 t.2.1 t.2.2.1 t.2.2.2.1 t.2.2.2.2.1 t.2.2.2.2.2.1 t.2.2.2.2.2.2.1 t.2.2.2.2.2.2.2.1 t.2.2.2.2.2.2.2.2.1 t.2.2.2.2.2.2.2.2.2.1 t.2.2.2.2.2.2.2.2.2.2.1 t.2.2.2.2.2.2.2.2.2.2.2.1 t.2.2.2.2.2.2.2.2.2.2.2.2.1 t.2.2.2.2.2.2.2.2.2.2.2.2.2.1 t.2.2.2.2.2.2.2.2.2.2.2.2.2.2.1 t.2.2.2.2.2.2.2.2.2.2.2.2.2.2.2.1 t.2.2.2.2.2.2.2.2.2.2.2.2.2.2.2.2.1 t.2.2.2.2.2.2.2.2.2.2.2.2.2.2.2.2.2.1 t.2.2.2.2.2.2.2.2.2.2.2.2.2.2.2.2.2.2.1 t.2.2.2.2.2.2.2.2.2.2.2.2.2.2.2.2.2.2.2.1 := by kernel_rfl
theorem rheostatlaw13_SampleReads_call (K : Nat) (hb : ∀ t : (shOf rheostatlaw13_SampleReads_ps).T, argsBnd rheostatlaw13_SampleReads_ps t → rheostatlaw13_SampleReads_g K t.1 t.2.1 t.2.2.1 t.2.2.2.1 t.2.2.2.2.1 t.2.2.2.2.2.1 t.2.2.2.2.2.2.1 t.2.2.2.2.2.2.2.1 t.2.2.2.2.2.2.2.2.1 t.2.2.2.2.2.2.2.2.2.1 t.2.2.2.2.2.2.2.2.2.2.1 t.2.2.2.2.2.2.2.2.2.2.2.1 t.2.2.2.2.2.2.2.2.2.2.2.2.1 t.2.2.2.2.2.2.2.2.2.2.2.2.2.1 t.2.2.2.2.2.2.2.2.2.2.2.2.2.2.1 t.2.2.2.2.2.2.2.2.2.2.2.2.2.2.2.1 t.2.2.2.2.2.2.2.2.2.2.2.2.2.2.2.2.1 t.2.2.2.2.2.2.2.2.2.2.2.2.2.2.2.2.2.1 t.2.2.2.2.2.2.2.2.2.2.2.2.2.2.2.2.2.2.1 t.2.2.2.2.2.2.2.2.2.2.2.2.2.2.2.2.2.2.2.1 = some true) {w : World} {vals : List Value} (hp : PFits w rheostatlaw13_SampleReads_ps vals) :
    Calls Try.prog 3 vals.toArray w fun e w' => e = .returned (.bool true) ∧ RowKit.Below w.heap.size w w' :=
  call_of (rheostatlaw13_SampleReads_t0 K) (rheostatlaw13_SampleReads_i0 K) (draws (rheostatlaw13_SampleReads_t0 K)) 0 Try.func3 (by kernel_rfl) (by kernel_rfl) outBool_true (fun t ht => (rheostatlaw13_SampleReads_q K t).trans (hb t ht)) hp
/-! rheostatref03_Down -/
noncomputable def rheostatref03_Down_e0 (K : Nat) : Env := ⟨tt, [], [], [], eqs⟩
theorem rheostatref03_Down_t0 (K : Nat) : EnvT Try.prog (rheostatref03_Down_e0 K) := envT_of tt_ok eqs_ok trivial
theorem rheostatref03_Down_i0 (K : Nat) : EnvI Try.prog (rheostatref03_Down_e0 K) := envI_of (es := []) trivial trivial
noncomputable def rheostatref03_Down_h : Sh := ⟨2, [(0, .sc (.i .i64)), (1, .sc (.i .i64))], [], []⟩
noncomputable def rheostatref03_Down_r : Sh := ⟨2, [(0, .sc (.i .i64)), (1, .sc (.i .i64))], [], []⟩
noncomputable def rheostatref03_Down_g (K : Nat) (a_0 : Int) (b_1 : Int) : Option (Int × Int × Unit) :=
  (bif (decide (b_1 < 1)) then (some (0, 2, ())) else (bif (b_1 == 0) then none else (bif (b_1 == 0) then none else (bif (decide ((Int.tmod a_0 b_1) < 0)) then (some ((wi64 ((wi64 (Int.tdiv a_0 b_1)) - 1)), 0, ())) else (some ((wi64 (Int.tdiv a_0 b_1)), 0, ()))))))
noncomputable def rheostatref03_Down_o (K : Nat) : FO := fnFO rheostatref03_Down_h rheostatref03_Down_r fun t => rheostatref03_Down_g K t.1 t.2.1
theorem rheostatref03_Down_q (K : Nat) (t : rheostatref03_Down_h.T) : exFn (rheostatref03_Down_e0 K) (hdl (rheostatref03_Down_e0 K) 0) [52] Try.f52 (slVals (rheostatref03_Down_h.put t).fr.sl) ⟨⟨0, []⟩, [], (rheostatref03_Down_h.put t).mem⟩ (takeRes rheostatref03_Down_r) = rheostatref03_Down_g K t.1 t.2.1 := by kernel_rfl
theorem rheostatref03_Down_ok (K : Nat) : FOok Try.prog 52 (rheostatref03_Down_o K) :=
  fn_rule (rheostatref03_Down_t0 K) (rheostatref03_Down_i0 K) (draws (rheostatref03_Down_t0 K)) 0 Try.func52 (fnB_ok Try.func52 (by kernel_rfl)) rfl rfl (allOwn_ok false (by kernel_rfl)) rfl (allOwn_ok true (by kernel_rfl)) (fun t => rheostatref03_Down_q K t)
/-! rheostatref03_Left -/
noncomputable def rheostatref03_Left_e0 (K : Nat) : Env := ⟨tt, [], [], [], eqs⟩
theorem rheostatref03_Left_t0 (K : Nat) : EnvT Try.prog (rheostatref03_Left_e0 K) := envT_of tt_ok eqs_ok trivial
theorem rheostatref03_Left_i0 (K : Nat) : EnvI Try.prog (rheostatref03_Left_e0 K) := envI_of (es := []) trivial trivial
noncomputable def rheostatref03_Left_h : Sh := ⟨2, [(0, .sc (.i .i64)), (1, .sc (.i .i64))], [], []⟩
noncomputable def rheostatref03_Left_r : Sh := ⟨2, [(0, .sc (.i .i64)), (1, .sc (.i .i64))], [], []⟩
noncomputable def rheostatref03_Left_g (K : Nat) (a_0 : Int) (b_1 : Int) : Option (Int × Int × Unit) :=
  (bif (decide (b_1 < 1)) then (some (0, 2, ())) else (bif (b_1 == 0) then none else (bif (decide ((Int.tmod a_0 b_1) < 0)) then (some ((wi64 ((Int.tmod a_0 b_1) + b_1)), 0, ())) else (some ((Int.tmod a_0 b_1), 0, ())))))
noncomputable def rheostatref03_Left_o (K : Nat) : FO := fnFO rheostatref03_Left_h rheostatref03_Left_r fun t => rheostatref03_Left_g K t.1 t.2.1
theorem rheostatref03_Left_q (K : Nat) (t : rheostatref03_Left_h.T) : exFn (rheostatref03_Left_e0 K) (hdl (rheostatref03_Left_e0 K) 0) [53] Try.f53 (slVals (rheostatref03_Left_h.put t).fr.sl) ⟨⟨0, []⟩, [], (rheostatref03_Left_h.put t).mem⟩ (takeRes rheostatref03_Left_r) = rheostatref03_Left_g K t.1 t.2.1 := by kernel_rfl
theorem rheostatref03_Left_ok (K : Nat) : FOok Try.prog 53 (rheostatref03_Left_o K) :=
  fn_rule (rheostatref03_Left_t0 K) (rheostatref03_Left_i0 K) (draws (rheostatref03_Left_t0 K)) 0 Try.func53 (fnB_ok Try.func53 (by kernel_rfl)) rfl rfl (allOwn_ok false (by kernel_rfl)) rfl (allOwn_ok true (by kernel_rfl)) (fun t => rheostatref03_Left_q K t)
/-! rheostatref03_Near -/
noncomputable def rheostatref03_Near_e0 (K : Nat) : Env := ⟨tt, [(52, rheostatref03_Down_o K), (53, rheostatref03_Left_o K)], [], [], eqs⟩
theorem rheostatref03_Near_t0 (K : Nat) : EnvT Try.prog (rheostatref03_Near_e0 K) := envT_of tt_ok eqs_ok ⟨rheostatref03_Down_ok K, rheostatref03_Left_ok K, trivial⟩
theorem rheostatref03_Near_i0 (K : Nat) : EnvI Try.prog (rheostatref03_Near_e0 K) := envI_of (es := []) trivial trivial
noncomputable def rheostatref03_Near_h : Sh := ⟨2, [(0, .sc (.i .i64)), (1, .sc (.i .i64))], [], []⟩
noncomputable def rheostatref03_Near_r : Sh := ⟨2, [(0, .sc (.i .i64)), (1, .sc (.i .i64))], [], []⟩
noncomputable def rheostatref03_Near_g (K : Nat) (a_0 : Int) (b_1 : Int) : Option (Int × Int × Unit) :=
  ((rheostatref03_Down_g K a_0 b_1).bind fun q1 => ((rheostatref03_Left_g K a_0 b_1).bind fun q2 => (bif (q1.2.1 == 0) then (bif (decide (q2.1 > (wi64 (b_1 - q2.1)))) then (some ((wi64 (q1.1 + 1)), q1.2.1, ())) else (bif (q2.1 == (wi64 (b_1 - q2.1))) then (bif (decide (a_0 > 0)) then (some ((wi64 (q1.1 + 1)), q1.2.1, ())) else (some (q1.1, q1.2.1, ()))) else (some (q1.1, q1.2.1, ())))) else (some (q1.1, q1.2.1, ())))))
noncomputable def rheostatref03_Near_o (K : Nat) : FO := fnFO rheostatref03_Near_h rheostatref03_Near_r fun t => rheostatref03_Near_g K t.1 t.2.1
theorem rheostatref03_Near_q (K : Nat) (t : rheostatref03_Near_h.T) : exFn (rheostatref03_Near_e0 K) (hdl (rheostatref03_Near_e0 K) 0) [40] Try.f40 (slVals (rheostatref03_Near_h.put t).fr.sl) ⟨⟨0, []⟩, [], (rheostatref03_Near_h.put t).mem⟩ (takeRes rheostatref03_Near_r) = rheostatref03_Near_g K t.1 t.2.1 := by kernel_rfl
theorem rheostatref03_Near_ok (K : Nat) : FOok Try.prog 40 (rheostatref03_Near_o K) :=
  fn_rule (rheostatref03_Near_t0 K) (rheostatref03_Near_i0 K) (draws (rheostatref03_Near_t0 K)) 0 Try.func40 (fnB_ok Try.func40 (by kernel_rfl)) rfl rfl (allOwn_ok false (by kernel_rfl)) rfl (allOwn_ok true (by kernel_rfl)) (fun t => rheostatref03_Near_q K t)
/-! rheostatref12_Mean -/
noncomputable def rheostatref12_Mean_e0 (K : Nat) : Env := ⟨tt, [(33, rheostatref12_raw_o K), (40, rheostatref03_Near_o K)], [], [], eqs⟩
theorem rheostatref12_Mean_t0 (K : Nat) : EnvT Try.prog (rheostatref12_Mean_e0 K) := envT_of tt_ok eqs_ok ⟨rheostatref12_raw_ok K, rheostatref03_Near_ok K, trivial⟩
theorem rheostatref12_Mean_i0 (K : Nat) : EnvI Try.prog (rheostatref12_Mean_e0 K) := envI_of (es := []) trivial trivial
noncomputable def rheostatref12_Mean_l0h : Sh := ⟨38, [(0, .sc (.slr0 0)), (4, .sc (.i .i64)), (5, .sc (.i .i64))], [(0, [])], [(false, true, [.ir .i64])]⟩
noncomputable def rheostatref12_Mean_l0x0 : Sh := ⟨38, [(0, .sc (.slr0 0)), (4, .sc (.i .i64))], [(0, [])], [(false, true, [.ir .i64])]⟩
noncomputable def rheostatref12_Mean_l0x1 : Sh := ⟨38, [(2, .sc (.i .i64)), (3, .sc (.i .i64))], [(0, [])], []⟩
noncomputable def rheostatref12_Mean_l0O : OutI ((Nat × Int × (Nat → Int) × Unit) ⊕ (Int × Int × Unit)) := (OutI.or (OutI.exit 0 rheostatref12_Mean_l0x0) (OutI.ret rheostatref12_Mean_l0x1))
noncomputable def rheostatref12_Mean_l0r (K : Nat) (rec : Nat → Int → Int → (Nat → Int) → Option ((Nat × Int × (Nat → Int) × Unit) ⊕ (Int × Int × Unit))) (counts_0n : Nat) (sum_4 : Int) (i_5 : Int) (m0_0 : (Nat → Int)) : Option ((Nat × Int × (Nat → Int) × Unit) ⊕ (Int × Int × Unit)) :=
  (bif (decide (i_5 < ((counts_0n : Nat) : Int))) then (bif ((decide (0 ≤ i_5)) && (decide (i_5 < ((counts_0n : Nat) : Int)))) then ((rheostatref12_raw_g K (m0_0 (Int.toNat i_5))).bind fun q1 => (bif (!q1.1) then (some (.inr (0, 2, ()))) else (bif ((decide (0 ≤ i_5)) && (decide (i_5 < ((counts_0n : Nat) : Int)))) then (rec counts_0n (wi64 (sum_4 + (m0_0 (Int.toNat i_5)))) (wi64 (i_5 + 1)) m0_0) else none))) else none) else (some (.inl (counts_0n, sum_4, m0_0, ()))))
noncomputable def rheostatref12_Mean_l0 (K n : Nat) : Nat → Int → Int → (Nat → Int) → Option ((Nat × Int × (Nat → Int) × Unit) ⊕ (Int × Int × Unit)) := Nat.rec (motive := fun _ => Nat → Int → Int → (Nat → Int) → Option ((Nat × Int × (Nat → Int) × Unit) ⊕ (Int × Int × Unit))) (fun _ _ _ _ => none) (fun _ ih => rheostatref12_Mean_l0r K ih) n
noncomputable def rheostatref12_Mean_l0u (K n : Nat) (t : rheostatref12_Mean_l0h.T) : Option ((Nat × Int × (Nat → Int) × Unit) ⊕ (Int × Int × Unit)) :=
  rheostatref12_Mean_l0 K n t.1 t.2.1 t.2.2.1 t.2.2.2.1
noncomputable def rheostatref12_Mean_l0o (K : Nat) : LO := loopLO rheostatref12_Mean_l0h rheostatref12_Mean_l0O fun t => rheostatref12_Mean_l0u K K t
noncomputable def rheostatref12_Mean_l0C : Code := bodyOf Try.f30
noncomputable def rheostatref12_Mean_l0B : Code := (findLoops 5 (loopsIn rheostatref12_Mean_l0C)).headD .skip
theorem rheostatref12_Mean_l0F : findLoops 5 (loopsIn rheostatref12_Mean_l0C) = [rheostatref12_Mean_l0B] := by kernel_rfl
theorem rheostatref12_Mean_l0q (K n : Nat) (t : rheostatref12_Mean_l0h.T) : exC (rheostatref12_Mean_e0 K) (hdl (rheostatref12_Mean_e0 K) 0) (30 :: []) rheostatref12_Mean_l0B (rheostatref12_Mean_l0h.put t) (fun s => (rheostatref12_Mean_l0h.take s).bind fun t => rheostatref12_Mean_l0u K n t) (fun id s => rheostatref12_Mean_l0O.get (some id) s) (fun s => rheostatref12_Mean_l0O.get none s) = rheostatref12_Mean_l0u K (n + 1) t := by kernel_rfl
noncomputable def rheostatref12_Mean_l0E (K : Nat) : LoopE Try.prog := ⟨[5, 30], rheostatref12_Mean_l0o K, Try.f30, rheostatref12_Mean_l0C, rheostatref12_Mean_l0B, ⟨5, 30, [], rfl, Try.func30, by kernel_rfl, rheostatref12_Mean_l0F⟩,
  loop_rule (F := fun n t => rheostatref12_Mean_l0u K n t) (rheostatref12_Mean_t0 K) (rheostatref12_Mean_i0 K) (draws (rheostatref12_Mean_t0 K)) 0 Try.func30 (c := rheostatref12_Mean_l0C) (by kernel_rfl) (body_in rheostatref12_Mean_l0F) (ctx' := []) (h := rheostatref12_Mean_l0h) (O := rheostatref12_Mean_l0O) (fun _ => rfl) (fun m t => rheostatref12_Mean_l0q K m t) K⟩
noncomputable def rheostatref12_Mean_e1 (K : Nat) : Env := ⟨tt, [(33, rheostatref12_raw_o K), (40, rheostatref03_Near_o K)], [], [([5, 30], rheostatref12_Mean_l0o K)], eqs⟩
theorem rheostatref12_Mean_t1 (K : Nat) : EnvT Try.prog (rheostatref12_Mean_e1 K) := envT_of tt_ok eqs_ok ⟨rheostatref12_raw_ok K, rheostatref03_Near_ok K, trivial⟩
theorem rheostatref12_Mean_i1 (K : Nat) : EnvI Try.prog (rheostatref12_Mean_e1 K) := envI_of (es := [rheostatref12_Mean_l0E K]) trivial ⟨⟨rfl, rfl⟩, trivial⟩
noncomputable def rheostatref12_Mean_h : Sh := ⟨1, [(0, .sc (.slr0 0))], [], [(false, true, [.ir .i64])]⟩
noncomputable def rheostatref12_Mean_r : Sh := ⟨2, [(0, .sc (.i .i64)), (1, .sc (.i .i64))], [], []⟩
noncomputable def rheostatref12_Mean_g (K : Nat) (counts_0n : Nat) (m0_0 : (Nat → Int)) : Option (Int × Int × Unit) :=
  (bif (decide (((counts_0n : Nat) : Int) < 1)) then (some (0, 2, ())) else (bif (decide (((counts_0n : Nat) : Int) > 256)) then (some (0, 2, ())) else ((rheostatref12_Mean_l0 K K counts_0n 0 0 m0_0).bind fun q1 => (Sum.elim (fun q2 => ((rheostatref03_Near_g K q2.2.1 ((q2.1 : Nat) : Int)).bind fun q4 => (some (q4.1, q4.2.1, ())))) (fun q3 => (some (q3.1, q3.2.1, ()))) q1))))
noncomputable def rheostatref12_Mean_o (K : Nat) : FO := fnFO rheostatref12_Mean_h rheostatref12_Mean_r fun t => rheostatref12_Mean_g K t.1 t.2.1
theorem rheostatref12_Mean_q (K : Nat) (t : rheostatref12_Mean_h.T) : exFn (rheostatref12_Mean_e1 K) (hdl (rheostatref12_Mean_e1 K) 0) [30] Try.f30 (slVals (rheostatref12_Mean_h.put t).fr.sl) ⟨⟨0, []⟩, [], (rheostatref12_Mean_h.put t).mem⟩ (takeRes rheostatref12_Mean_r) = rheostatref12_Mean_g K t.1 t.2.1 := by kernel_rfl
theorem rheostatref12_Mean_ok (K : Nat) : FOok Try.prog 30 (rheostatref12_Mean_o K) :=
  fn_rule (rheostatref12_Mean_t1 K) (rheostatref12_Mean_i1 K) (draws (rheostatref12_Mean_t1 K)) 0 Try.func30 (fnB_ok Try.func30 (by kernel_rfl)) rfl rfl (allOwn_ok false (by kernel_rfl)) rfl (allOwn_ok true (by kernel_rfl)) (fun t => rheostatref12_Mean_q K t)
/-! rheostatref13_Join -/
noncomputable def rheostatref13_Join_e0 (K : Nat) : Env := ⟨tt, [(30, rheostatref12_Mean_o K)], [], [], eqs⟩
theorem rheostatref13_Join_t0 (K : Nat) : EnvT Try.prog (rheostatref13_Join_e0 K) := envT_of tt_ok eqs_ok ⟨rheostatref12_Mean_ok K, trivial⟩
theorem rheostatref13_Join_i0 (K : Nat) : EnvI Try.prog (rheostatref13_Join_e0 K) := envI_of (es := []) trivial trivial
noncomputable def rheostatref13_Join_l0h : Sh := ⟨90, [(0, .sc (.slr0 0)), (2, .sc (.lit (.p 1 0 0 []))), (4, .sc (.lit (.p 2 0 0 []))), (5, .sc (.i .i64))], [(0, [])], [(false, true, [.ir .i64, .ir .i64, .ir .i64, .ir .i64]), (true, false, [.i .i64, .i .i64, .i .i64, .i .i64]), (true, false, [.i .i64, .i .i64, .i .i64, .i .i64])]⟩
noncomputable def rheostatref13_Join_l0x0 : Sh := ⟨90, [(0, .sc (.slr0 0)), (2, .sc (.lit (.p 1 0 0 []))), (4, .sc (.lit (.p 2 0 0 [])))], [(0, [])], [(false, true, [.ir .i64, .ir .i64, .ir .i64, .ir .i64]), (true, false, [.i .i64, .i .i64, .i .i64, .i .i64]), (true, false, [.i .i64, .i .i64, .i .i64, .i .i64])]⟩
noncomputable def rheostatref13_Join_l0x1 : Sh := ⟨90, [(2, .sc (.lit (.p 0 0 0 []))), (3, .sc (.i .i64))], [(0, [])], [(true, false, [.i .i64, .i .i64, .i .i64, .i .i64])]⟩
noncomputable def rheostatref13_Join_l0O : OutI ((Nat × (Nat → Int) × (Nat → Int) × (Nat → Int) × (Nat → Int) × Int × Int × Int × Int × Int × Int × Int × Int × Unit) ⊕ (Int × Int × Int × Int × Int × Unit)) := (OutI.or (OutI.exit 0 rheostatref13_Join_l0x0) (OutI.ret rheostatref13_Join_l0x1))
noncomputable def rheostatref13_Join_l0r (K : Nat) (rec : Nat → Int → (Nat → Int) → (Nat → Int) → (Nat → Int) → (Nat → Int) → Int → Int → Int → Int → Int → Int → Int → Int → Option ((Nat × (Nat → Int) × (Nat → Int) × (Nat → Int) × (Nat → Int) × Int × Int × Int × Int × Int × Int × Int × Int × Unit) ⊕ (Int × Int × Int × Int × Int × Unit))) (l_0n : Nat) (i_5 : Int) (m0_0 : (Nat → Int)) (m0_1 : (Nat → Int)) (m0_2 : (Nat → Int)) (m0_3 : (Nat → Int)) (m1_0 : Int) (m1_1 : Int) (m1_2 : Int) (m1_3 : Int) (m2_0 : Int) (m2_1 : Int) (m2_2 : Int) (m2_3 : Int) : Option ((Nat × (Nat → Int) × (Nat → Int) × (Nat → Int) × (Nat → Int) × Int × Int × Int × Int × Int × Int × Int × Int × Unit) ⊕ (Int × Int × Int × Int × Int × Unit)) :=
  (bif (decide (i_5 < ((l_0n : Nat) : Int))) then (bif ((decide (0 ≤ i_5)) && (decide (i_5 < ((l_0n : Nat) : Int)))) then (bif (decide ((m0_3 (Int.toNat i_5)) < 1)) then (some (.inr (2, 0, 0, 0, 0, ()))) else (bif ((decide (0 ≤ i_5)) && (decide (i_5 < ((l_0n : Nat) : Int)))) then (bif (decide ((m0_3 (Int.toNat i_5)) > 60000)) then (some (.inr (2, 0, 0, 0, 0, ()))) else (bif ((decide (0 ≤ i_5)) && (decide (i_5 < ((l_0n : Nat) : Int)))) then (rec l_0n (wi64 (i_5 + 1)) m0_0 m0_1 m0_2 m0_3 m1_0 m1_1 m1_2 m1_3 m2_0 m2_1 m2_2 (wi64 (m2_3 + (m0_3 (Int.toNat i_5))))) else none)) else none)) else none) else (some (.inl (l_0n, m0_0, m0_1, m0_2, m0_3, m1_0, m1_1, m1_2, m1_3, m2_0, m2_1, m2_2, m2_3, ()))))
noncomputable def rheostatref13_Join_l0 (K n : Nat) : Nat → Int → (Nat → Int) → (Nat → Int) → (Nat → Int) → (Nat → Int) → Int → Int → Int → Int → Int → Int → Int → Int → Option ((Nat × (Nat → Int) × (Nat → Int) × (Nat → Int) × (Nat → Int) × Int × Int × Int × Int × Int × Int × Int × Int × Unit) ⊕ (Int × Int × Int × Int × Int × Unit)) := Nat.rec (motive := fun _ => Nat → Int → (Nat → Int) → (Nat → Int) → (Nat → Int) → (Nat → Int) → Int → Int → Int → Int → Int → Int → Int → Int → Option ((Nat × (Nat → Int) × (Nat → Int) × (Nat → Int) × (Nat → Int) × Int × Int × Int × Int × Int × Int × Int × Int × Unit) ⊕ (Int × Int × Int × Int × Int × Unit))) (fun _ _ _ _ _ _ _ _ _ _ _ _ _ _ => none) (fun _ ih => rheostatref13_Join_l0r K ih) n
noncomputable def rheostatref13_Join_l0u (K n : Nat) (t : rheostatref13_Join_l0h.T) : Option ((Nat × (Nat → Int) × (Nat → Int) × (Nat → Int) × (Nat → Int) × Int × Int × Int × Int × Int × Int × Int × Int × Unit) ⊕ (Int × Int × Int × Int × Int × Unit)) :=
  let u1 := t.2
  let u2 := u1.2
  let u3 := u2.2
  let u4 := u3.2
  let u5 := u4.2
  let u6 := u5.2
  let u7 := u6.2
  let u8 := u7.2
  let u9 := u8.2
  let u10 := u9.2
  let u11 := u10.2
  let u12 := u11.2
  let u13 := u12.2
  rheostatref13_Join_l0 K n t.1 u1.1 u2.1 u3.1 u4.1 u5.1 u6.1 u7.1 u8.1 u9.1 u10.1 u11.1 u12.1 u13.1
noncomputable def rheostatref13_Join_l0o (K : Nat) : LO := loopLO rheostatref13_Join_l0h rheostatref13_Join_l0O fun t => rheostatref13_Join_l0u K K t
noncomputable def rheostatref13_Join_l0C : Code := bodyOf Try.f18
noncomputable def rheostatref13_Join_l0B : Code := (findLoops 5 (loopsIn rheostatref13_Join_l0C)).headD .skip
theorem rheostatref13_Join_l0F : findLoops 5 (loopsIn rheostatref13_Join_l0C) = [rheostatref13_Join_l0B] := by kernel_rfl
theorem rheostatref13_Join_l0q (K n : Nat) (t : rheostatref13_Join_l0h.T) : exC (rheostatref13_Join_e0 K) (hdl (rheostatref13_Join_e0 K) 0) (18 :: []) rheostatref13_Join_l0B (rheostatref13_Join_l0h.put t) (fun s => (rheostatref13_Join_l0h.take s).bind fun t => rheostatref13_Join_l0u K n t) (fun id s => rheostatref13_Join_l0O.get (some id) s) (fun s => rheostatref13_Join_l0O.get none s) = rheostatref13_Join_l0u K (n + 1) t := by kernel_rfl
noncomputable def rheostatref13_Join_l0E (K : Nat) : LoopE Try.prog := ⟨[5, 18], rheostatref13_Join_l0o K, Try.f18, rheostatref13_Join_l0C, rheostatref13_Join_l0B, ⟨5, 18, [], rfl, Try.func18, by kernel_rfl, rheostatref13_Join_l0F⟩,
  loop_rule (F := fun n t => rheostatref13_Join_l0u K n t) (rheostatref13_Join_t0 K) (rheostatref13_Join_i0 K) (draws (rheostatref13_Join_t0 K)) 0 Try.func18 (c := rheostatref13_Join_l0C) (by kernel_rfl) (body_in rheostatref13_Join_l0F) (ctx' := []) (h := rheostatref13_Join_l0h) (O := rheostatref13_Join_l0O) (fun _ => rfl) (fun m t => rheostatref13_Join_l0q K m t) K⟩
noncomputable def rheostatref13_Join_e1 (K : Nat) : Env := ⟨tt, [(30, rheostatref12_Mean_o K)], [], [([5, 18], rheostatref13_Join_l0o K)], eqs⟩
theorem rheostatref13_Join_t1 (K : Nat) : EnvT Try.prog (rheostatref13_Join_e1 K) := envT_of tt_ok eqs_ok ⟨rheostatref12_Mean_ok K, trivial⟩
theorem rheostatref13_Join_i1 (K : Nat) : EnvI Try.prog (rheostatref13_Join_e1 K) := envI_of (es := [rheostatref13_Join_l0E K]) trivial ⟨⟨rfl, rfl⟩, trivial⟩
noncomputable def rheostatref13_Join_l2h : Sh := ⟨90, [(0, .sc (.slr0 0)), (2, .sc (.lit (.p 1 0 0 []))), (4, .sc (.lit (.p 2 0 0 []))), (6, .sc (.i .i64)), (7, .sc (.slr0 3)), (8, .sc (.i .i64))], [(0, [])], [(false, true, [.ir .i64, .ir .i64, .ir .i64, .ir .i64]), (true, false, [.i .i64, .i .i64, .i .i64, .i .i64]), (true, false, [.i .i64, .i .i64, .i .i64, .i .i64]), (true, true, [.ir .i64])]⟩
noncomputable def rheostatref13_Join_l2x0 : Sh := ⟨90, [(0, .sc (.slr0 0)), (2, .sc (.lit (.p 1 0 0 []))), (4, .sc (.lit (.p 2 0 0 []))), (6, .sc (.i .i64)), (7, .sc (.slr0 3))], [(0, [])], [(false, true, [.ir .i64, .ir .i64, .ir .i64, .ir .i64]), (true, false, [.i .i64, .i .i64, .i .i64, .i .i64]), (true, false, [.i .i64, .i .i64, .i .i64, .i .i64]), (true, true, [.ir .i64])]⟩
noncomputable def rheostatref13_Join_l2O : OutI (Nat × Int × Nat × (Nat → Int) × (Nat → Int) × (Nat → Int) × (Nat → Int) × Int × Int × Int × Int × Int × Int × Int × Int × (Nat → Int) × Unit) := (OutI.exit 4 rheostatref13_Join_l2x0)
noncomputable def rheostatref13_Join_l2r (K : Nat) (rec : Nat → Int → Nat → Int → (Nat → Int) → (Nat → Int) → (Nat → Int) → (Nat → Int) → Int → Int → Int → Int → Int → Int → Int → Int → (Nat → Int) → Option (Nat × Int × Nat × (Nat → Int) × (Nat → Int) × (Nat → Int) × (Nat → Int) × Int × Int × Int × Int × Int × Int × Int × Int × (Nat → Int) × Unit)) (l_0n : Nat) (k_6 : Int) (counts_7n : Nat) (i_8 : Int) (m0_0 : (Nat → Int)) (m0_1 : (Nat → Int)) (m0_2 : (Nat → Int)) (m0_3 : (Nat → Int)) (m1_0 : Int) (m1_1 : Int) (m1_2 : Int) (m1_3 : Int) (m2_0 : Int) (m2_1 : Int) (m2_2 : Int) (m2_3 : Int) (m3_0 : (Nat → Int)) : Option (Nat × Int × Nat × (Nat → Int) × (Nat → Int) × (Nat → Int) × (Nat → Int) × Int × Int × Int × Int × Int × Int × Int × Int × (Nat → Int) × Unit) :=
  (bif (decide (i_8 < ((l_0n : Nat) : Int))) then (bif ((decide (0 ≤ i_8)) && (decide (i_8 < ((l_0n : Nat) : Int)))) then (bif ((decide (0 ≤ k_6)) && (decide (k_6 < 3))) then (bif (Nat.ble ((counts_7n + 1) * 8) 140737488355328) then (rec l_0n k_6 (counts_7n + 1) (wi64 (i_8 + 1)) m0_0 m0_1 m0_2 m0_3 m1_0 m1_1 m1_2 m1_3 m2_0 m2_1 m2_2 m2_3 (fun j => (bif (Nat.blt j counts_7n) then (m3_0 j) else (selI [(selI [(m0_0 (Int.toNat i_8)), (m0_1 (Int.toNat i_8)), (m0_2 (Int.toNat i_8))] (Int.toNat k_6))] (j - counts_7n))))) else none) else none) else none) else (some (l_0n, k_6, counts_7n, m0_0, m0_1, m0_2, m0_3, m1_0, m1_1, m1_2, m1_3, m2_0, m2_1, m2_2, m2_3, m3_0, ())))
noncomputable def rheostatref13_Join_l2 (K n : Nat) : Nat → Int → Nat → Int → (Nat → Int) → (Nat → Int) → (Nat → Int) → (Nat → Int) → Int → Int → Int → Int → Int → Int → Int → Int → (Nat → Int) → Option (Nat × Int × Nat × (Nat → Int) × (Nat → Int) × (Nat → Int) × (Nat → Int) × Int × Int × Int × Int × Int × Int × Int × Int × (Nat → Int) × Unit) := Nat.rec (motive := fun _ => Nat → Int → Nat → Int → (Nat → Int) → (Nat → Int) → (Nat → Int) → (Nat → Int) → Int → Int → Int → Int → Int → Int → Int → Int → (Nat → Int) → Option (Nat × Int × Nat × (Nat → Int) × (Nat → Int) × (Nat → Int) × (Nat → Int) × Int × Int × Int × Int × Int × Int × Int × Int × (Nat → Int) × Unit)) (fun _ _ _ _ _ _ _ _ _ _ _ _ _ _ _ _ _ => none) (fun _ ih => rheostatref13_Join_l2r K ih) n
noncomputable def rheostatref13_Join_l2u (K n : Nat) (t : rheostatref13_Join_l2h.T) : Option (Nat × Int × Nat × (Nat → Int) × (Nat → Int) × (Nat → Int) × (Nat → Int) × Int × Int × Int × Int × Int × Int × Int × Int × (Nat → Int) × Unit) :=
  let u1 := t.2
  let u2 := u1.2
  let u3 := u2.2
  let u4 := u3.2
  let u5 := u4.2
  let u6 := u5.2
  let u7 := u6.2
  let u8 := u7.2
  let u9 := u8.2
  let u10 := u9.2
  let u11 := u10.2
  let u12 := u11.2
  let u13 := u12.2
  let u14 := u13.2
  let u15 := u14.2
  let u16 := u15.2
  rheostatref13_Join_l2 K n t.1 u1.1 u2.1 u3.1 u4.1 u5.1 u6.1 u7.1 u8.1 u9.1 u10.1 u11.1 u12.1 u13.1 u14.1 u15.1 u16.1
noncomputable def rheostatref13_Join_l2o (K : Nat) : LO := loopLO rheostatref13_Join_l2h rheostatref13_Join_l2O fun t => rheostatref13_Join_l2u K K t
noncomputable def rheostatref13_Join_l2C : Code := bodyOf Try.f18
noncomputable def rheostatref13_Join_l2B : Code := (findLoops 17 (loopsIn rheostatref13_Join_l2C)).headD .skip
theorem rheostatref13_Join_l2F : findLoops 17 (loopsIn rheostatref13_Join_l2C) = [rheostatref13_Join_l2B] := by kernel_rfl
theorem rheostatref13_Join_l2q (K n : Nat) (t : rheostatref13_Join_l2h.T) : exC (rheostatref13_Join_e1 K) (hdl (rheostatref13_Join_e1 K) 0) (18 :: []) rheostatref13_Join_l2B (rheostatref13_Join_l2h.put t) (fun s => (rheostatref13_Join_l2h.take s).bind fun t => rheostatref13_Join_l2u K n t) (fun id s => rheostatref13_Join_l2O.get (some id) s) (fun s => rheostatref13_Join_l2O.get none s) = rheostatref13_Join_l2u K (n + 1) t := by kernel_rfl
noncomputable def rheostatref13_Join_l2E (K : Nat) : LoopE Try.prog := ⟨[17, 18], rheostatref13_Join_l2o K, Try.f18, rheostatref13_Join_l2C, rheostatref13_Join_l2B, ⟨17, 18, [], rfl, Try.func18, by kernel_rfl, rheostatref13_Join_l2F⟩,
  loop_rule (F := fun n t => rheostatref13_Join_l2u K n t) (rheostatref13_Join_t1 K) (rheostatref13_Join_i1 K) (draws (rheostatref13_Join_t1 K)) 0 Try.func18 (c := rheostatref13_Join_l2C) (by kernel_rfl) (body_in rheostatref13_Join_l2F) (ctx' := []) (h := rheostatref13_Join_l2h) (O := rheostatref13_Join_l2O) (fun _ => rfl) (fun m t => rheostatref13_Join_l2q K m t) K⟩
noncomputable def rheostatref13_Join_e2 (K : Nat) : Env := ⟨tt, [(30, rheostatref12_Mean_o K)], [], [([5, 18], rheostatref13_Join_l0o K), ([17, 18], rheostatref13_Join_l2o K)], eqs⟩
theorem rheostatref13_Join_t2 (K : Nat) : EnvT Try.prog (rheostatref13_Join_e2 K) := envT_of tt_ok eqs_ok ⟨rheostatref12_Mean_ok K, trivial⟩
theorem rheostatref13_Join_i2 (K : Nat) : EnvI Try.prog (rheostatref13_Join_e2 K) := envI_of (es := [rheostatref13_Join_l0E K, rheostatref13_Join_l2E K]) trivial ⟨⟨rfl, rfl⟩, ⟨rfl, rfl⟩, trivial⟩
noncomputable def rheostatref13_Join_l1h : Sh := ⟨90, [(0, .sc (.slr0 0)), (2, .sc (.lit (.p 1 0 0 []))), (4, .sc (.lit (.p 2 0 0 []))), (6, .sc (.i .i64))], [(0, [])], [(false, true, [.ir .i64, .ir .i64, .ir .i64, .ir .i64]), (true, false, [.i .i64, .i .i64, .i .i64, .i .i64]), (true, false, [.i .i64, .i .i64, .i .i64, .i .i64])]⟩
noncomputable def rheostatref13_Join_l1x0 : Sh := ⟨90, [(2, .sc (.lit (.p 0 0 0 []))), (4, .sc (.lit (.p 1 0 0 [])))], [(0, [])], [(true, false, [.i .i64, .i .i64, .i .i64, .i .i64]), (true, false, [.i .i64, .i .i64, .i .i64, .i .i64])]⟩
noncomputable def rheostatref13_Join_l1x1 : Sh := ⟨90, [(2, .sc (.lit (.p 0 0 0 []))), (3, .sc (.i .i64))], [(0, [])], [(true, false, [.i .i64, .i .i64, .i .i64, .i .i64])]⟩
noncomputable def rheostatref13_Join_l1O : OutI ((Int × Int × Int × Int × Int × Int × Int × Int × Unit) ⊕ (Int × Int × Int × Int × Int × Unit)) := (OutI.or (OutI.exit 2 rheostatref13_Join_l1x0) (OutI.ret rheostatref13_Join_l1x1))
noncomputable def rheostatref13_Join_l1r (K : Nat) (rec : Nat → Int → (Nat → Int) → (Nat → Int) → (Nat → Int) → (Nat → Int) → Int → Int → Int → Int → Int → Int → Int → Int → Option ((Int × Int × Int × Int × Int × Int × Int × Int × Unit) ⊕ (Int × Int × Int × Int × Int × Unit))) (l_0n : Nat) (k_6 : Int) (m0_0 : (Nat → Int)) (m0_1 : (Nat → Int)) (m0_2 : (Nat → Int)) (m0_3 : (Nat → Int)) (m1_0 : Int) (m1_1 : Int) (m1_2 : Int) (m1_3 : Int) (m2_0 : Int) (m2_1 : Int) (m2_2 : Int) (m2_3 : Int) : Option ((Int × Int × Int × Int × Int × Int × Int × Int × Unit) ⊕ (Int × Int × Int × Int × Int × Unit)) :=
  (bif (decide (k_6 < 3)) then ((rheostatref13_Join_l2 K K l_0n k_6 0 0 m0_0 m0_1 m0_2 m0_3 m1_0 m1_1 m1_2 m1_3 m2_0 m2_1 m2_2 m2_3 (fun _ => 0)).bind fun q1 => ((rheostatref12_Mean_g K q1.2.2.1 q1.2.2.2.2.2.2.2.2.2.2.2.2.2.2.2.1).bind fun q2 => (bif (q2.2.1 != 0) then (some (.inr (q2.2.1, 0, 0, 0, 0, ()))) else (bif ((decide (0 ≤ q1.2.1)) && (decide (q1.2.1 < 3))) then (rec q1.1 (wi64 (q1.2.1 + 1)) q1.2.2.2.1 q1.2.2.2.2.1 q1.2.2.2.2.2.1 q1.2.2.2.2.2.2.1 q1.2.2.2.2.2.2.2.1 q1.2.2.2.2.2.2.2.2.1 q1.2.2.2.2.2.2.2.2.2.1 q1.2.2.2.2.2.2.2.2.2.2.1 (bif (Nat.beq (Int.toNat q1.2.1) 0) then q2.1 else q1.2.2.2.2.2.2.2.2.2.2.2.1) (bif (Nat.beq (Int.toNat q1.2.1) 1) then q2.1 else q1.2.2.2.2.2.2.2.2.2.2.2.2.1) (bif (Nat.beq (Int.toNat q1.2.1) 2) then q2.1 else q1.2.2.2.2.2.2.2.2.2.2.2.2.2.1) q1.2.2.2.2.2.2.2.2.2.2.2.2.2.2.1) else none)))) else (some (.inl (m1_0, m1_1, m1_2, m1_3, m2_0, m2_1, m2_2, m2_3, ()))))
noncomputable def rheostatref13_Join_l1 (K n : Nat) : Nat → Int → (Nat → Int) → (Nat → Int) → (Nat → Int) → (Nat → Int) → Int → Int → Int → Int → Int → Int → Int → Int → Option ((Int × Int × Int × Int × Int × Int × Int × Int × Unit) ⊕ (Int × Int × Int × Int × Int × Unit)) := Nat.rec (motive := fun _ => Nat → Int → (Nat → Int) → (Nat → Int) → (Nat → Int) → (Nat → Int) → Int → Int → Int → Int → Int → Int → Int → Int → Option ((Int × Int × Int × Int × Int × Int × Int × Int × Unit) ⊕ (Int × Int × Int × Int × Int × Unit))) (fun _ _ _ _ _ _ _ _ _ _ _ _ _ _ => none) (fun _ ih => rheostatref13_Join_l1r K ih) n
noncomputable def rheostatref13_Join_l1u (K n : Nat) (t : rheostatref13_Join_l1h.T) : Option ((Int × Int × Int × Int × Int × Int × Int × Int × Unit) ⊕ (Int × Int × Int × Int × Int × Unit)) :=
  let u1 := t.2
  let u2 := u1.2
  let u3 := u2.2
  let u4 := u3.2
  let u5 := u4.2
  let u6 := u5.2
  let u7 := u6.2
  let u8 := u7.2
  let u9 := u8.2
  let u10 := u9.2
  let u11 := u10.2
  let u12 := u11.2
  let u13 := u12.2
  rheostatref13_Join_l1 K n t.1 u1.1 u2.1 u3.1 u4.1 u5.1 u6.1 u7.1 u8.1 u9.1 u10.1 u11.1 u12.1 u13.1
noncomputable def rheostatref13_Join_l1o (K : Nat) : LO := loopLO rheostatref13_Join_l1h rheostatref13_Join_l1O fun t => rheostatref13_Join_l1u K K t
noncomputable def rheostatref13_Join_l1C : Code := bodyOf Try.f18
noncomputable def rheostatref13_Join_l1B : Code := (findLoops 13 (loopsIn rheostatref13_Join_l1C)).headD .skip
theorem rheostatref13_Join_l1F : findLoops 13 (loopsIn rheostatref13_Join_l1C) = [rheostatref13_Join_l1B] := by kernel_rfl
theorem rheostatref13_Join_l1q (K n : Nat) (t : rheostatref13_Join_l1h.T) : exC (rheostatref13_Join_e2 K) (hdl (rheostatref13_Join_e2 K) 0) (18 :: []) rheostatref13_Join_l1B (rheostatref13_Join_l1h.put t) (fun s => (rheostatref13_Join_l1h.take s).bind fun t => rheostatref13_Join_l1u K n t) (fun id s => rheostatref13_Join_l1O.get (some id) s) (fun s => rheostatref13_Join_l1O.get none s) = rheostatref13_Join_l1u K (n + 1) t := by kernel_rfl
noncomputable def rheostatref13_Join_l1E (K : Nat) : LoopE Try.prog := ⟨[13, 18], rheostatref13_Join_l1o K, Try.f18, rheostatref13_Join_l1C, rheostatref13_Join_l1B, ⟨13, 18, [], rfl, Try.func18, by kernel_rfl, rheostatref13_Join_l1F⟩,
  loop_rule (F := fun n t => rheostatref13_Join_l1u K n t) (rheostatref13_Join_t2 K) (rheostatref13_Join_i2 K) (draws (rheostatref13_Join_t2 K)) 0 Try.func18 (c := rheostatref13_Join_l1C) (by kernel_rfl) (body_in rheostatref13_Join_l1F) (ctx' := []) (h := rheostatref13_Join_l1h) (O := rheostatref13_Join_l1O) (fun _ => rfl) (fun m t => rheostatref13_Join_l1q K m t) K⟩
noncomputable def rheostatref13_Join_e3 (K : Nat) : Env := ⟨tt, [(30, rheostatref12_Mean_o K)], [], [([5, 18], rheostatref13_Join_l0o K), ([17, 18], rheostatref13_Join_l2o K), ([13, 18], rheostatref13_Join_l1o K)], eqs⟩
theorem rheostatref13_Join_t3 (K : Nat) : EnvT Try.prog (rheostatref13_Join_e3 K) := envT_of tt_ok eqs_ok ⟨rheostatref12_Mean_ok K, trivial⟩
theorem rheostatref13_Join_i3 (K : Nat) : EnvI Try.prog (rheostatref13_Join_e3 K) := envI_of (es := [rheostatref13_Join_l0E K, rheostatref13_Join_l2E K, rheostatref13_Join_l1E K]) trivial ⟨⟨rfl, rfl⟩, ⟨rfl, rfl⟩, ⟨rfl, rfl⟩, trivial⟩
noncomputable def rheostatref13_Join_h : Sh := ⟨1, [(0, .sc (.slr0 0))], [], [(false, true, [.ir .i64, .ir .i64, .ir .i64, .ir .i64])]⟩
noncomputable def rheostatref13_Join_r : Sh := ⟨2, [(0, .ag [.i .i64, .i .i64, .i .i64, .i .i64]), (1, .sc (.i .i64))], [], []⟩
noncomputable def rheostatref13_Join_g (K : Nat) (l_0n : Nat) (m0_0 : (Nat → Int)) (m0_1 : (Nat → Int)) (m0_2 : (Nat → Int)) (m0_3 : (Nat → Int)) : Option (Int × Int × Int × Int × Int × Unit) :=
  (bif (decide (((l_0n : Nat) : Int) < 1)) then (some (0, 0, 0, 0, 2, ())) else (bif (decide (((l_0n : Nat) : Int) > 256)) then (some (0, 0, 0, 0, 2, ())) else ((rheostatref13_Join_l0 K K l_0n 0 m0_0 m0_1 m0_2 m0_3 0 0 0 0 0 0 0 0).bind fun q1 => (Sum.elim (fun q2 => (bif (decide (q2.2.2.2.2.2.2.2.2.2.2.2.2.1 > 60000)) then (some (0, 0, 0, 0, 2, ())) else ((rheostatref13_Join_l1 K K q2.1 0 q2.2.1 q2.2.2.1 q2.2.2.2.1 q2.2.2.2.2.1 q2.2.2.2.2.2.1 q2.2.2.2.2.2.2.1 q2.2.2.2.2.2.2.2.1 q2.2.2.2.2.2.2.2.2.1 q2.2.2.2.2.2.2.2.2.2.1 q2.2.2.2.2.2.2.2.2.2.2.1 q2.2.2.2.2.2.2.2.2.2.2.2.1 q2.2.2.2.2.2.2.2.2.2.2.2.2.1).bind fun q4 => (Sum.elim (fun q5 => (some (q5.2.2.2.2.1, q5.2.2.2.2.2.1, q5.2.2.2.2.2.2.1, q5.2.2.2.2.2.2.2.1, 0, ()))) (fun q6 => (some (q6.2.1, q6.2.2.1, q6.2.2.2.1, q6.2.2.2.2.1, q6.1, ()))) q4)))) (fun q3 => (some (q3.2.1, q3.2.2.1, q3.2.2.2.1, q3.2.2.2.2.1, q3.1, ()))) q1))))
noncomputable def rheostatref13_Join_gu (K : Nat) (t : rheostatref13_Join_h.T) : Option (Int × Int × Int × Int × Int × Unit) :=
  rheostatref13_Join_g K t.1 t.2.1 t.2.2.1 t.2.2.2.1 t.2.2.2.2.1
noncomputable def rheostatref13_Join_o (K : Nat) : FO := fnFO rheostatref13_Join_h rheostatref13_Join_r fun t => rheostatref13_Join_gu K t
theorem rheostatref13_Join_q (K : Nat) (t : rheostatref13_Join_h.T) : exFn (rheostatref13_Join_e3 K) (hdl (rheostatref13_Join_e3 K) 0) [18] Try.f18 (slVals (rheostatref13_Join_h.put t).fr.sl) ⟨⟨0, []⟩, [], (rheostatref13_Join_h.put t).mem⟩ (takeRes rheostatref13_Join_r) = rheostatref13_Join_gu K t := by kernel_rfl
theorem rheostatref13_Join_ok (K : Nat) : FOok Try.prog 18 (rheostatref13_Join_o K) :=
  fn_rule (rheostatref13_Join_t3 K) (rheostatref13_Join_i3 K) (draws (rheostatref13_Join_t3 K)) 0 Try.func18 (fnB_ok Try.func18 (by kernel_rfl)) rfl rfl (allOwn_ok false (by kernel_rfl)) rfl (allOwn_ok true (by kernel_rfl)) (fun t => rheostatref13_Join_q K t)
/-! rheostatref13_Worst -/
noncomputable def rheostatref13_Worst_e0 (K : Nat) : Env := ⟨tt, [], [], [], eqs⟩
theorem rheostatref13_Worst_t0 (K : Nat) : EnvT Try.prog (rheostatref13_Worst_e0 K) := envT_of tt_ok eqs_ok trivial
theorem rheostatref13_Worst_i0 (K : Nat) : EnvI Try.prog (rheostatref13_Worst_e0 K) := envI_of (es := []) trivial trivial
noncomputable def rheostatref13_Worst_h : Sh := ⟨1, [(0, .ag [.i .i64, .i .i64, .i .i64, .i .i64, .i .i64, .i .i64])], [], []⟩
noncomputable def rheostatref13_Worst_r : Sh := ⟨1, [(0, .sc (.i .i64))], [], []⟩
noncomputable def rheostatref13_Worst_g (K : Nat) (spans_0_0 : Int) (spans_0_1 : Int) (spans_0_2 : Int) (spans_0_3 : Int) (spans_0_4 : Int) (spans_0_5 : Int) : Option (Int × Unit) :=
  (bif (decide (spans_0_0 > spans_0_1)) then (some (0, ())) else (some ((wi64 ((bif (decide ((bif (decide ((wi64 (0 - (bif (decide ((bif (decide (2147483648 < spans_0_1)) then 2147483648 else spans_0_1) > (-2147483648))) then (bif (decide (2147483648 < spans_0_1)) then 2147483648 else spans_0_1) else (-2147483648)))) > (bif (decide ((bif (decide (2147483648 < spans_0_1)) then 2147483648 else spans_0_1) > (-2147483648))) then (bif (decide (2147483648 < spans_0_1)) then 2147483648 else spans_0_1) else (-2147483648)))) then (wi64 (0 - (bif (decide ((bif (decide (2147483648 < spans_0_1)) then 2147483648 else spans_0_1) > (-2147483648))) then (bif (decide (2147483648 < spans_0_1)) then 2147483648 else spans_0_1) else (-2147483648)))) else (bif (decide ((bif (decide (2147483648 < spans_0_1)) then 2147483648 else spans_0_1) > (-2147483648))) then (bif (decide (2147483648 < spans_0_1)) then 2147483648 else spans_0_1) else (-2147483648))) > (bif (decide ((wi64 (0 - (bif (decide ((bif (decide (2147483648 < spans_0_0)) then 2147483648 else spans_0_0) > (-2147483648))) then (bif (decide (2147483648 < spans_0_0)) then 2147483648 else spans_0_0) else (-2147483648)))) > (bif (decide ((bif (decide (2147483648 < spans_0_0)) then 2147483648 else spans_0_0) > (-2147483648))) then (bif (decide (2147483648 < spans_0_0)) then 2147483648 else spans_0_0) else (-2147483648)))) then (wi64 (0 - (bif (decide ((bif (decide (2147483648 < spans_0_0)) then 2147483648 else spans_0_0) > (-2147483648))) then (bif (decide (2147483648 < spans_0_0)) then 2147483648 else spans_0_0) else (-2147483648)))) else (bif (decide ((bif (decide (2147483648 < spans_0_0)) then 2147483648 else spans_0_0) > (-2147483648))) then (bif (decide (2147483648 < spans_0_0)) then 2147483648 else spans_0_0) else (-2147483648))))) then (bif (decide ((wi64 (0 - (bif (decide ((bif (decide (2147483648 < spans_0_1)) then 2147483648 else spans_0_1) > (-2147483648))) then (bif (decide (2147483648 < spans_0_1)) then 2147483648 else spans_0_1) else (-2147483648)))) > (bif (decide ((bif (decide (2147483648 < spans_0_1)) then 2147483648 else spans_0_1) > (-2147483648))) then (bif (decide (2147483648 < spans_0_1)) then 2147483648 else spans_0_1) else (-2147483648)))) then (wi64 (0 - (bif (decide ((bif (decide (2147483648 < spans_0_1)) then 2147483648 else spans_0_1) > (-2147483648))) then (bif (decide (2147483648 < spans_0_1)) then 2147483648 else spans_0_1) else (-2147483648)))) else (bif (decide ((bif (decide (2147483648 < spans_0_1)) then 2147483648 else spans_0_1) > (-2147483648))) then (bif (decide (2147483648 < spans_0_1)) then 2147483648 else spans_0_1) else (-2147483648))) else (bif (decide ((wi64 (0 - (bif (decide ((bif (decide (2147483648 < spans_0_0)) then 2147483648 else spans_0_0) > (-2147483648))) then (bif (decide (2147483648 < spans_0_0)) then 2147483648 else spans_0_0) else (-2147483648)))) > (bif (decide ((bif (decide (2147483648 < spans_0_0)) then 2147483648 else spans_0_0) > (-2147483648))) then (bif (decide (2147483648 < spans_0_0)) then 2147483648 else spans_0_0) else (-2147483648)))) then (wi64 (0 - (bif (decide ((bif (decide (2147483648 < spans_0_0)) then 2147483648 else spans_0_0) > (-2147483648))) then (bif (decide (2147483648 < spans_0_0)) then 2147483648 else spans_0_0) else (-2147483648)))) else (bif (decide ((bif (decide (2147483648 < spans_0_0)) then 2147483648 else spans_0_0) > (-2147483648))) then (bif (decide (2147483648 < spans_0_0)) then 2147483648 else spans_0_0) else (-2147483648)))) * 60000)), ())))
noncomputable def rheostatref13_Worst_gu (K : Nat) (t : rheostatref13_Worst_h.T) : Option (Int × Unit) :=
  rheostatref13_Worst_g K t.1 t.2.1 t.2.2.1 t.2.2.2.1 t.2.2.2.2.1 t.2.2.2.2.2.1
noncomputable def rheostatref13_Worst_o (K : Nat) : FO := fnFO rheostatref13_Worst_h rheostatref13_Worst_r fun t => rheostatref13_Worst_gu K t
theorem rheostatref13_Worst_q (K : Nat) (t : rheostatref13_Worst_h.T) : exFn (rheostatref13_Worst_e0 K) (hdl (rheostatref13_Worst_e0 K) 0) [19] Try.f19 (slVals (rheostatref13_Worst_h.put t).fr.sl) ⟨⟨0, []⟩, [], (rheostatref13_Worst_h.put t).mem⟩ (takeRes rheostatref13_Worst_r) = rheostatref13_Worst_gu K t := by kernel_rfl
theorem rheostatref13_Worst_ok (K : Nat) : FOok Try.prog 19 (rheostatref13_Worst_o K) :=
  fn_rule (rheostatref13_Worst_t0 K) (rheostatref13_Worst_i0 K) (draws (rheostatref13_Worst_t0 K)) 0 Try.func19 (fnB_ok Try.func19 (by kernel_rfl)) rfl rfl (allOwn_ok false (by kernel_rfl)) rfl (allOwn_ok true (by kernel_rfl)) (fun t => rheostatref13_Worst_q K t)
/-! rheostatlaw13_SampleJoins -/
noncomputable def rheostatlaw13_SampleJoins_e0 (K : Nat) : Env := ⟨tt, [(17, sample_Join_o K), (18, rheostatref13_Join_o K), (15, sample_Worst_o K), (19, rheostatref13_Worst_o K), (14, rheostatlaw13_works_o K)], [], [], eqs⟩
theorem rheostatlaw13_SampleJoins_t0 (K : Nat) : EnvT Try.prog (rheostatlaw13_SampleJoins_e0 K) := envT_of tt_ok eqs_ok ⟨sample_Join_ok K, rheostatref13_Join_ok K, sample_Worst_ok K, rheostatref13_Worst_ok K, rheostatlaw13_works_ok K, trivial⟩
theorem rheostatlaw13_SampleJoins_i0 (K : Nat) : EnvI Try.prog (rheostatlaw13_SampleJoins_e0 K) := envI_of (es := []) trivial trivial
noncomputable def rheostatlaw13_SampleJoins_g (K : Nat) (l_0n : Nat) (w_1_0 : Int) (w_1_1 : Int) (w_1_2 : Int) (w_1_3 : Int) (w_1_4 : Int) (w_1_5 : Int) (w_1_6 : Int) (w_1_7 : Int) (w_1_8 : Int) (w_1_9 : Int) (w_1_10 : Int) (w_1_11 : Int) (w_1_12 : Int) (w_1_13 : Int) (w_1_14 : Int) (m0_0 : (Nat → Int)) (m0_1 : (Nat → Int)) (m0_2 : (Nat → Int)) (m0_3 : (Nat → Int)) : Option Bool :=
  (bif ((decide (0 ≤ (bif (decide (257 < ((l_0n : Nat) : Int))) then 257 else ((l_0n : Nat) : Int)))) && (decide ((bif (decide (257 < ((l_0n : Nat) : Int))) then 257 else ((l_0n : Nat) : Int)) ≤ ((l_0n : Nat) : Int)))) then (bif (Nat.blt 0 (Int.toNat (bif (decide (257 < ((l_0n : Nat) : Int))) then 257 else ((l_0n : Nat) : Int)))) then (bif (Nat.ble ((0 + (Int.toNat (bif (decide (257 < ((l_0n : Nat) : Int))) then 257 else ((l_0n : Nat) : Int)))) * 32) 140737488355328) then ((sample_Join_g K (0 + (Int.toNat (bif (decide (257 < ((l_0n : Nat) : Int))) then 257 else ((l_0n : Nat) : Int)))) (fun j => (m0_0 j)) (fun j => (m0_1 j)) (fun j => (m0_2 j)) (fun j => (m0_3 j))).bind fun q1 => ((rheostatref13_Join_g K (Int.toNat (bif (decide (257 < ((l_0n : Nat) : Int))) then 257 else ((l_0n : Nat) : Int))) m0_0 m0_1 m0_2 m0_3).bind fun q2 => (bif ((q1.1 == q2.1) && ((q1.2.1 == q2.2.1) && ((q1.2.2.1 == q2.2.2.1) && (q1.2.2.2.1 == q2.2.2.2.1)))) then (bif (q1.2.2.2.2.1 == q2.2.2.2.2.1) then ((sample_Worst_g K w_1_9 w_1_10 w_1_11 w_1_12 w_1_13 w_1_14).bind fun q3 => ((rheostatref13_Worst_g K w_1_9 w_1_10 w_1_11 w_1_12 w_1_13 w_1_14).bind fun q4 => (bif (q3.1 == q4.1) then ((rheostatlaw13_works_g K).bind fun q5 => (some q5.1)) else (some false)))) else (some false)) else (some false)))) else none) else ((sample_Join_g K 0 (fun _ => 0) (fun _ => 0) (fun _ => 0) (fun _ => 0)).bind fun q6 => ((rheostatref13_Join_g K (Int.toNat (bif (decide (257 < ((l_0n : Nat) : Int))) then 257 else ((l_0n : Nat) : Int))) m0_0 m0_1 m0_2 m0_3).bind fun q7 => (bif ((q6.1 == q7.1) && ((q6.2.1 == q7.2.1) && ((q6.2.2.1 == q7.2.2.1) && (q6.2.2.2.1 == q7.2.2.2.1)))) then (bif (q6.2.2.2.2.1 == q7.2.2.2.2.1) then ((sample_Worst_g K w_1_9 w_1_10 w_1_11 w_1_12 w_1_13 w_1_14).bind fun q8 => ((rheostatref13_Worst_g K w_1_9 w_1_10 w_1_11 w_1_12 w_1_13 w_1_14).bind fun q9 => (bif (q8.1 == q9.1) then ((rheostatlaw13_works_g K).bind fun q10 => (some q10.1)) else (some false)))) else (some false)) else (some false))))) else none)
noncomputable def rheostatlaw13_SampleJoins_ps : List (Bool × List WC) := [(false, [.slc [.i .i64, .i .i64, .i .i64, .i .i64]]), (true, [.sc (.i .i64), .sc (.i .i64), .sc (.i .i64), .sc (.i .i64), .sc (.i .i64), .sc (.i .i64), .sc (.i .i64), .sc (.i .i64), .sc (.i .i64), .sc (.i .i64), .sc (.i .i64), .sc (.i .i64), .sc (.i .i64), .sc (.i .i64), .sc (.i .i64)])]
theorem rheostatlaw13_SampleJoins_q (K : Nat) (t : (shOf rheostatlaw13_SampleJoins_ps).T) : exFn (rheostatlaw13_SampleJoins_e0 K) (hdl (rheostatlaw13_SampleJoins_e0 K) 0) [6] Try.f6 (slVals ((shOf rheostatlaw13_SampleJoins_ps).put t).fr.sl) ⟨⟨0, []⟩, [], ((shOf rheostatlaw13_SampleJoins_ps).put t).mem⟩ outBool = rheostatlaw13_SampleJoins_g K t.1 t.2.1 t.2.2.1 t.2.2.2.1 t.2.2.2.2.1 t.2.2.2.2.2.1 t.2.2.2.2.2.2.1 t.2.2.2.2.2.2.2.1 t.2.2.2.2.2.2.2.2.1 t.2.2.2.2.2.2.2.2.2.1 t.2.2.2.2.2.2.2.2.2.2.1 t.2.2.2.2.2.2.2.2.2.2.2.1 t.2.2.2.2.2.2.2.2.2.2.2.2.1 t.2.2.2.2.2.2.2.2.2.2.2.2.2.1 t.2.2.2.2.2.2.2.2.2.2.2.2.2.2.1 t.2.2.2.2.2.2.2.2.2.2.2.2.2.2.2.1 t.2.2.2.2.2.2.2.2.2.2.2.2.2.2.2.2.1 t.2.2.2.2.2.2.2.2.2.2.2.2.2.2.2.2.2.1 t.2.2.2.2.2.2.2.2.2.2.2.2.2.2.2.2.2.2.1 t.2.2.2.2.2.2.2.2.2.2.2.2.2.2.2.2.2.2.2.1 := by kernel_rfl
theorem rheostatlaw13_SampleJoins_call (K : Nat) (hb : ∀ t : (shOf rheostatlaw13_SampleJoins_ps).T, argsBnd rheostatlaw13_SampleJoins_ps t → rheostatlaw13_SampleJoins_g K t.1 t.2.1 t.2.2.1 t.2.2.2.1 t.2.2.2.2.1 t.2.2.2.2.2.1 t.2.2.2.2.2.2.1 t.2.2.2.2.2.2.2.1 t.2.2.2.2.2.2.2.2.1 t.2.2.2.2.2.2.2.2.2.1 t.2.2.2.2.2.2.2.2.2.2.1 t.2.2.2.2.2.2.2.2.2.2.2.1 t.2.2.2.2.2.2.2.2.2.2.2.2.1 t.2.2.2.2.2.2.2.2.2.2.2.2.2.1 t.2.2.2.2.2.2.2.2.2.2.2.2.2.2.1 t.2.2.2.2.2.2.2.2.2.2.2.2.2.2.2.1 t.2.2.2.2.2.2.2.2.2.2.2.2.2.2.2.2.1 t.2.2.2.2.2.2.2.2.2.2.2.2.2.2.2.2.2.1 t.2.2.2.2.2.2.2.2.2.2.2.2.2.2.2.2.2.2.1 t.2.2.2.2.2.2.2.2.2.2.2.2.2.2.2.2.2.2.2.1 = some true) {w : World} {vals : List Value} (hp : PFits w rheostatlaw13_SampleJoins_ps vals) :
    Calls Try.prog 6 vals.toArray w fun e w' => e = .returned (.bool true) ∧ RowKit.Below w.heap.size w w' :=
  call_of (rheostatlaw13_SampleJoins_t0 K) (rheostatlaw13_SampleJoins_i0 K) (draws (rheostatlaw13_SampleJoins_t0 K)) 0 Try.func6 (by kernel_rfl) (by kernel_rfl) outBool_true (fun t ht => (rheostatlaw13_SampleJoins_q K t).trans (hb t ht)) hp
end Go.Proofs.Ytdcjkkgfimbodaa
