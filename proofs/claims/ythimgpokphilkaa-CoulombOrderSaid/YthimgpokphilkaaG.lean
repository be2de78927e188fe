/-
  The functions of law 14, as plain functions, and that the program does what they say. Printed by a program of ours.
-/
import Derived.Test.YthimgpokphilkaaChecked
import Derived.Test.YthimgpokphilkaaSyLib
import Derived.KernelRfl
namespace Go.Proofs.Ythimgpokphilkaa
open Go.Sy
set_option maxRecDepth 100000
set_option linter.unusedVariables false
noncomputable def tt : List TI := [
  ⟨0, [], .other⟩,
  ⟨0, [], .other⟩,
  ⟨0, [], .other⟩,
  ⟨1, [.i0 .i64 0], .int .i64⟩,
  ⟨1, [.b0 false], .bool⟩,
  ⟨1, [.i0 .u8 0], .int .u8⟩,
  ⟨0, [], .other⟩,
  ⟨0, [], .other⟩,
  ⟨0, [], .other⟩,
  ⟨1, [.s0 ⟨#[]⟩], .str⟩,
  ⟨0, [], .other⟩,
  ⟨0, [], .other⟩,
  ⟨0, [], .other⟩,
  ⟨0, [], .other⟩,
  ⟨0, [], .other⟩,
  ⟨0, [], .other⟩,
  ⟨0, [], .other⟩,
  ⟨0, [], .other⟩,
  ⟨0, [], .other⟩,
  ⟨0, [], .other⟩,
  ⟨0, [], .other⟩,
  ⟨0, [], .other⟩,
  ⟨0, [], .other⟩,
  ⟨0, [], .other⟩,
  ⟨1, [.i0 .i64 0], .int .i64⟩,
  ⟨0, [], .other⟩,
  ⟨0, [], .other⟩,
  ⟨20, [.i0 .i64 0, .i0 .i64 0, .i0 .i64 0, .i0 .i64 0, .i0 .i64 0, .i0 .i64 0, .i0 .i64 0, .i0 .i64 0, .i0 .i64 0, .i0 .i64 0, .i0 .i64 0, .i0 .i64 0, .i0 .i64 0, .i0 .i64 0, .i0 .i64 0, .i0 .i64 0, .i0 .i64 0, .i0 .i64 0, .i0 .i64 0, .i0 .i64 0], .arr 20 1 false⟩,
  ⟨0, [], .other⟩,
  ⟨21, [.b0 false, .i0 .i64 0, .i0 .i64 0, .i0 .i64 0, .i0 .i64 0, .i0 .i64 0, .i0 .i64 0, .i0 .i64 0, .i0 .i64 0, .i0 .i64 0, .i0 .i64 0, .i0 .i64 0, .i0 .i64 0, .i0 .i64 0, .i0 .i64 0, .i0 .i64 0, .i0 .i64 0, .i0 .i64 0, .i0 .i64 0, .i0 .i64 0, .i0 .i64 0], .st [(0, 1, false), (1, 20, true)]⟩,
  ⟨0, [], .other⟩,
  ⟨0, [], .other⟩,
  ⟨0, [], .other⟩,
  ⟨0, [], .other⟩,
  ⟨0, [], .other⟩,
  ⟨0, [], .other⟩,
  ⟨0, [], .other⟩,
  ⟨0, [], .other⟩,
  ⟨0, [], .other⟩,
  ⟨0, [], .other⟩,
  ⟨1, [.sln], .sl 2 16 true [.i0 .i64 0, .i0 .i64 0]⟩,
  ⟨0, [], .other⟩,
  ⟨0, [], .other⟩,
  ⟨0, [], .other⟩,
  ⟨0, [], .other⟩,
  ⟨2, [.i0 .i64 0, .i0 .i64 0], .st [(0, 1, false), (1, 1, false)]⟩,
  ⟨0, [], .other⟩,
  ⟨0, [], .other⟩,
  ⟨1, [.i0 .u64 0], .int .u64⟩,
  ⟨0, [], .other⟩,
  ⟨0, [], .other⟩,
  ⟨0, [], .other⟩,
  ⟨0, [], .other⟩,
  ⟨0, [], .other⟩,
  ⟨0, [], .other⟩,
  ⟨0, [], .other⟩,
  ⟨0, [], .other⟩,
  ⟨0, [], .other⟩,
  ⟨1, [.i0 .i64 0], .int .i64⟩,
  ⟨0, [], .other⟩,
  ⟨2, [.i0 .i64 0, .i0 .i64 0], .st [(0, 1, false), (1, 1, false)]⟩,
  ⟨0, [], .other⟩,
  ⟨0, [], .other⟩,
  ⟨0, [], .other⟩,
  ⟨1, [.sln], .sl 1 8 false [.i0 .i64 0]⟩,
  ⟨0, [], .other⟩,
  ⟨1, [.i0 .u64 0], .int .u64⟩,
  ⟨0, [], .other⟩,
  ⟨2, [.i0 .i64 0, .i0 .u64 0], .st [(0, 1, false), (1, 1, false)]⟩,
  ⟨0, [], .other⟩,
  ⟨0, [], .other⟩,
  ⟨0, [], .other⟩,
  ⟨0, [], .other⟩,
  ⟨0, [], .other⟩,
  ⟨0, [], .other⟩,
  ⟨0, [], .other⟩,
  ⟨0, [], .other⟩,
  ⟨0, [], .other⟩,
  ⟨0, [], .other⟩,
  ⟨0, [], .other⟩,
  ⟨0, [], .other⟩,
  ⟨0, [], .other⟩,
  ⟨0, [], .other⟩,
  ⟨0, [], .other⟩,
  ⟨0, [], .other⟩,
  ⟨0, [], .other⟩,
  ⟨0, [], .other⟩,
  ⟨0, [], .other⟩,
  ⟨0, [], .other⟩,
  ⟨0, [], .other⟩,
  ⟨0, [], .other⟩,
  ⟨0, [], .other⟩,
  ⟨0, [], .other⟩,
  ⟨0, [], .other⟩,
  ⟨0, [], .other⟩,
  ⟨0, [], .other⟩,
  ⟨0, [], .other⟩,
  ⟨0, [], .other⟩]
theorem tt_ok : tabB Try.prog 0 tt = true := by kernel_rfl
def tab0 : List UInt8 := [0, 1, 2, 2, 3, 3, 3, 3, 4, 4, 4, 4, 4, 4, 4, 4, 5, 5, 5, 5, 5, 5, 5, 5, 5, 5, 5, 5, 5, 5, 5, 5, 6, 6, 6, 6, 6, 6, 6, 6, 6, 6, 6, 6, 6, 6, 6, 6, 6, 6, 6, 6, 6, 6, 6, 6, 6, 6, 6, 6, 6, 6, 6, 6, 7, 7, 7, 7, 7, 7, 7, 7, 7, 7, 7, 7, 7, 7, 7, 7, 7, 7, 7, 7, 7, 7, 7, 7, 7, 7, 7, 7, 7, 7, 7, 7, 7, 7, 7, 7, 7, 7, 7, 7, 7, 7, 7, 7, 7, 7, 7, 7, 7, 7, 7, 7, 7, 7, 7, 7, 7, 7, 7, 7, 7, 7, 7, 7, 8, 8, 8, 8, 8, 8, 8, 8, 8, 8, 8, 8, 8, 8, 8, 8, 8, 8, 8, 8, 8, 8, 8, 8, 8, 8, 8, 8, 8, 8, 8, 8, 8, 8, 8, 8, 8, 8, 8, 8, 8, 8, 8, 8, 8, 8, 8, 8, 8, 8, 8, 8, 8, 8, 8, 8, 8, 8, 8, 8, 8, 8, 8, 8, 8, 8, 8, 8, 8, 8, 8, 8, 8, 8, 8, 8, 8, 8, 8, 8, 8, 8, 8, 8, 8, 8, 8, 8, 8, 8, 8, 8, 8, 8, 8, 8, 8, 8, 8, 8, 8, 8, 8, 8, 8, 8, 8, 8, 8, 8, 8, 8, 8, 8, 8, 8, 8, 8, 8, 8, 8, 8, 8, 8, 8, 8, 8, 8]
noncomputable def eqs : List (Nat × List EK) := [(27, [.i .i64, .i .i64, .i .i64, .i .i64, .i .i64, .i .i64, .i .i64, .i .i64, .i .i64, .i .i64, .i .i64, .i .i64, .i .i64, .i .i64, .i .i64, .i .i64, .i .i64, .i .i64, .i .i64, .i .i64])]
theorem eqs_ok : eqsB Try.prog eqs = true := by kernel_rfl
theorem draws {E : Env} (h : EnvT Try.prog E) : DrawOk Try.prog E := draw_ok (Checked.mixed Try.checked) h
/-! coulomb_residue_whole -/
noncomputable def coulomb_residue_whole_e0 (K : Nat) : Env := ⟨tt, [], [], [], eqs⟩
theorem coulomb_residue_whole_t0 (K : Nat) : EnvT Try.prog (coulomb_residue_whole_e0 K) := envT_of tt_ok eqs_ok trivial
theorem coulomb_residue_whole_i0 (K : Nat) : EnvI Try.prog (coulomb_residue_whole_e0 K) := envI_of (es := []) trivial trivial
noncomputable def coulomb_residue_whole_h : Sh := ⟨1, [(0, .sc (.i .i64))], [], []⟩
noncomputable def coulomb_residue_whole_r : Sh := ⟨2, [(0, .sc (.b)), (1, .sc (.b))], [], []⟩
noncomputable def coulomb_residue_whole_g (K : Nat) (r_0 : Int) : Option (Bool × Bool × Unit) :=
  (bif (decide (r_0 ≥ 0)) then (some ((decide (r_0 < 1000)), (r_0 == 0), ())) else (some (false, (r_0 == 0), ())))
noncomputable def coulomb_residue_whole_o (K : Nat) : FO := fnFO coulomb_residue_whole_h coulomb_residue_whole_r fun t => coulomb_residue_whole_g K t.1
theorem coulomb_residue_whole_q (K : Nat) (t : coulomb_residue_whole_h.T) : exFn (coulomb_residue_whole_e0 K) (hdl (coulomb_residue_whole_e0 K) 0) [44] Try.f44 (slVals (coulomb_residue_whole_h.put t).fr.sl) ⟨⟨0, []⟩, [], (coulomb_residue_whole_h.put t).mem⟩ (takeRes coulomb_residue_whole_r) = coulomb_residue_whole_g K t.1 := by kernel_rfl
theorem coulomb_residue_whole_ok (K : Nat) : FOok Try.prog 44 (coulomb_residue_whole_o K) :=
  fn_rule (coulomb_residue_whole_t0 K) (coulomb_residue_whole_i0 K) (draws (coulomb_residue_whole_t0 K)) 0 Try.func44 (fnB_ok Try.func44 (by kernel_rfl)) rfl rfl (allOwn_ok false (by kernel_rfl)) rfl (allOwn_ok true (by kernel_rfl)) (fun t => coulomb_residue_whole_q K t)
/-! coulomb_size -/
noncomputable def coulomb_size_e0 (K : Nat) : Env := ⟨tt, [], [], [], eqs⟩
theorem coulomb_size_t0 (K : Nat) : EnvT Try.prog (coulomb_size_e0 K) := envT_of tt_ok eqs_ok trivial
theorem coulomb_size_i0 (K : Nat) : EnvI Try.prog (coulomb_size_e0 K) := envI_of (es := []) trivial trivial
noncomputable def coulomb_size_l0h : Sh := ⟨23, [(0, .sc (.i .i64)), (7, .sc (.slr0 0)), (8, .sc (.i .i64)), (9, .sc (.i .i64))], [(0, [])], [(false, true, [.ir .i64])]⟩
noncomputable def coulomb_size_l0x0 : Sh := ⟨23, [], [(0, [])], []⟩
noncomputable def coulomb_size_l0x1 : Sh := ⟨23, [(4, .sc (.b))], [(0, [])], []⟩
noncomputable def coulomb_size_l0O : OutI ((Unit) ⊕ (Bool × Unit)) := (OutI.or (OutI.exit 0 coulomb_size_l0x0) (OutI.ret coulomb_size_l0x1))
noncomputable def coulomb_size_l0r (K : Nat) (rec : Int → Nat → Int → Int → (Nat → Int) → Option ((Unit) ⊕ (Bool × Unit))) (bound_0 : Int) (t_7n : Nat) (t_8 : Int) (t_9 : Int) (m0_0 : (Nat → Int)) : Option ((Unit) ⊕ (Bool × Unit)) :=
  (bif (decide (t_9 < t_8)) then (bif ((decide (0 ≤ t_9)) && (decide (t_9 < ((t_7n : Nat) : Int)))) then (bif (decide ((m0_0 (Int.toNat t_9)) < (wi64 (0 - bound_0)))) then (some (.inr (false, ()))) else (bif (decide ((m0_0 (Int.toNat t_9)) > bound_0)) then (some (.inr (false, ()))) else (rec bound_0 t_7n t_8 (wi64 (t_9 + 1)) m0_0))) else none) else (some (.inl (()))))
noncomputable def coulomb_size_l0 (K n : Nat) : Int → Nat → Int → Int → (Nat → Int) → Option ((Unit) ⊕ (Bool × Unit)) := Nat.rec (motive := fun _ => Int → Nat → Int → Int → (Nat → Int) → Option ((Unit) ⊕ (Bool × Unit))) (fun _ _ _ _ _ => none) (fun _ ih => coulomb_size_l0r K ih) n
noncomputable def coulomb_size_l0u (K n : Nat) (t : coulomb_size_l0h.T) : Option ((Unit) ⊕ (Bool × Unit)) := coulomb_size_l0 K n t.1 t.2.1 t.2.2.1 t.2.2.2.1 t.2.2.2.2.1
noncomputable def coulomb_size_l0o (K : Nat) : LO := loopLO coulomb_size_l0h coulomb_size_l0O fun t => coulomb_size_l0u K K t
noncomputable def coulomb_size_l0C : Code := bodyOf Try.f28
noncomputable def coulomb_size_l0B : Code := (findLoops 2 (loopsIn coulomb_size_l0C)).headD .skip
theorem coulomb_size_l0F : findLoops 2 (loopsIn coulomb_size_l0C) = [coulomb_size_l0B] := by kernel_rfl
theorem coulomb_size_l0q (K n : Nat) (t : coulomb_size_l0h.T) : exC (coulomb_size_e0 K) (hdl (coulomb_size_e0 K) 0) (28 :: []) coulomb_size_l0B (coulomb_size_l0h.put t) (fun s => (coulomb_size_l0h.take s).bind fun t => coulomb_size_l0u K n t) (fun id s => coulomb_size_l0O.get (some id) s) (fun s => coulomb_size_l0O.get none s) = coulomb_size_l0u K (n + 1) t := by kernel_rfl
noncomputable def coulomb_size_l0E (K : Nat) : LoopE Try.prog := ⟨[2, 28], coulomb_size_l0o K, Try.f28, coulomb_size_l0C, coulomb_size_l0B, ⟨2, 28, [], rfl, Try.func28, by kernel_rfl, coulomb_size_l0F⟩,
  loop_rule (F := fun n t => coulomb_size_l0u K n t) (coulomb_size_t0 K) (coulomb_size_i0 K) (draws (coulomb_size_t0 K)) 0 Try.func28 (c := coulomb_size_l0C) (by kernel_rfl) (body_in coulomb_size_l0F) (ctx' := []) (h := coulomb_size_l0h) (O := coulomb_size_l0O) (fun _ => rfl) (fun m t => coulomb_size_l0q K m t) K⟩
noncomputable def coulomb_size_e1 (K : Nat) : Env := ⟨tt, [], [], [([2, 28], coulomb_size_l0o K)], eqs⟩
theorem coulomb_size_t1 (K : Nat) : EnvT Try.prog (coulomb_size_e1 K) := envT_of tt_ok eqs_ok trivial
theorem coulomb_size_i1 (K : Nat) : EnvI Try.prog (coulomb_size_e1 K) := envI_of (es := [coulomb_size_l0E K]) trivial ⟨⟨rfl, rfl⟩, trivial⟩
noncomputable def coulomb_size_h : Sh := ⟨2, [(0, .sc (.i .i64)), (1, .sc (.slr0 0))], [], [(false, true, [.ir .i64])]⟩
noncomputable def coulomb_size_r : Sh := ⟨1, [(0, .sc (.b))], [], []⟩
noncomputable def coulomb_size_g (K : Nat) (bound_0 : Int) (l_1n : Nat) (m0_0 : (Nat → Int)) : Option (Bool × Unit) :=
  ((coulomb_size_l0 K K bound_0 l_1n ((l_1n : Nat) : Int) 0 m0_0).bind fun q1 => (Sum.elim (fun q2 => (some (true, ()))) (fun q3 => (some (q3.1, ()))) q1))
noncomputable def coulomb_size_o (K : Nat) : FO := fnFO coulomb_size_h coulomb_size_r fun t => coulomb_size_g K t.1 t.2.1 t.2.2.1
theorem coulomb_size_q (K : Nat) (t : coulomb_size_h.T) : exFn (coulomb_size_e1 K) (hdl (coulomb_size_e1 K) 0) [28] Try.f28 (slVals (coulomb_size_h.put t).fr.sl) ⟨⟨0, []⟩, [], (coulomb_size_h.put t).mem⟩ (takeRes coulomb_size_r) = coulomb_size_g K t.1 t.2.1 t.2.2.1 := by kernel_rfl
theorem coulomb_size_ok (K : Nat) : FOok Try.prog 28 (coulomb_size_o K) :=
  fn_rule (coulomb_size_t1 K) (coulomb_size_i1 K) (draws (coulomb_size_t1 K)) 0 Try.func28 (fnB_ok Try.func28 (by kernel_rfl)) rfl rfl (allOwn_ok false (by kernel_rfl)) rfl (allOwn_ok true (by kernel_rfl)) (fun t => coulomb_size_q K t)
/-! coulomb_Check -/
noncomputable def coulomb_Check_e0 (K : Nat) : Env := ⟨tt, [(44, coulomb_residue_whole_o K), (28, coulomb_size_o K)], [], [], eqs⟩
theorem coulomb_Check_t0 (K : Nat) : EnvT Try.prog (coulomb_Check_e0 K) := envT_of tt_ok eqs_ok ⟨coulomb_residue_whole_ok K, coulomb_size_ok K, trivial⟩
theorem coulomb_Check_i0 (K : Nat) : EnvI Try.prog (coulomb_Check_e0 K) := envI_of (es := []) trivial trivial
noncomputable def coulomb_Check_h : Sh := ⟨2, [(0, .sc (.i .i64)), (1, .sc (.i .i64))], [], []⟩
noncomputable def coulomb_Check_r : Sh := ⟨1, [(0, .sc (.i .i64))], [], []⟩
noncomputable def coulomb_Check_g (K : Nat) (charge_0 : Int) (left_1 : Int) : Option (Int × Unit) :=
  ((coulomb_residue_whole_g K left_1).bind fun q1 => ((coulomb_size_g K 1125899906842624 1 (fun j => (selI [charge_0] j))).bind fun q2 => (bif (!q2.1) then (some (2, ())) else (bif (!q1.1) then (some (2, ())) else (bif (charge_0 == 1125899906842624) then (bif (!q1.2.1) then (some (2, ())) else (some (0, ()))) else (some (0, ())))))))
noncomputable def coulomb_Check_o (K : Nat) : FO := fnFO coulomb_Check_h coulomb_Check_r fun t => coulomb_Check_g K t.1 t.2.1
theorem coulomb_Check_q (K : Nat) (t : coulomb_Check_h.T) : exFn (coulomb_Check_e0 K) (hdl (coulomb_Check_e0 K) 0) [23] Try.f23 (slVals (coulomb_Check_h.put t).fr.sl) ⟨⟨0, []⟩, [], (coulomb_Check_h.put t).mem⟩ (takeRes coulomb_Check_r) = coulomb_Check_g K t.1 t.2.1 := by kernel_rfl
theorem coulomb_Check_ok (K : Nat) : FOok Try.prog 23 (coulomb_Check_o K) :=
  fn_rule (coulomb_Check_t0 K) (coulomb_Check_i0 K) (draws (coulomb_Check_t0 K)) 0 Try.func23 (fnB_ok Try.func23 (by kernel_rfl)) rfl rfl (allOwn_ok false (by kernel_rfl)) rfl (allOwn_ok true (by kernel_rfl)) (fun t => coulomb_Check_q K t)
/-! coulomb_sum_total -/
noncomputable def coulomb_sum_total_e0 (K : Nat) : Env := ⟨tt, [], [], [], eqs⟩
theorem coulomb_sum_total_t0 (K : Nat) : EnvT Try.prog (coulomb_sum_total_e0 K) := envT_of tt_ok eqs_ok trivial
theorem coulomb_sum_total_i0 (K : Nat) : EnvI Try.prog (coulomb_sum_total_e0 K) := envI_of (es := []) trivial trivial
noncomputable def coulomb_sum_total_h : Sh := ⟨1, [(0, .ag [.i .i64, .i .i64])], [], []⟩
noncomputable def coulomb_sum_total_r : Sh := ⟨1, [(0, .sc (.i .i64))], [], []⟩
noncomputable def coulomb_sum_total_g (K : Nat) (s_0_0 : Int) (s_0_1 : Int) : Option (Int × Unit) :=
  (some ((wi64 ((wi64 (s_0_1 * 1000)) + s_0_0)), ()))
noncomputable def coulomb_sum_total_o (K : Nat) : FO := fnFO coulomb_sum_total_h coulomb_sum_total_r fun t => coulomb_sum_total_g K t.1 t.2.1
theorem coulomb_sum_total_q (K : Nat) (t : coulomb_sum_total_h.T) : exFn (coulomb_sum_total_e0 K) (hdl (coulomb_sum_total_e0 K) 0) [41] Try.f41 (slVals (coulomb_sum_total_h.put t).fr.sl) ⟨⟨0, []⟩, [], (coulomb_sum_total_h.put t).mem⟩ (takeRes coulomb_sum_total_r) = coulomb_sum_total_g K t.1 t.2.1 := by kernel_rfl
theorem coulomb_sum_total_ok (K : Nat) : FOok Try.prog 41 (coulomb_sum_total_o K) :=
  fn_rule (coulomb_sum_total_t0 K) (coulomb_sum_total_i0 K) (draws (coulomb_sum_total_t0 K)) 0 Try.func41 (fnB_ok Try.func41 (by kernel_rfl)) rfl rfl (allOwn_ok false (by kernel_rfl)) rfl (allOwn_ok true (by kernel_rfl)) (fun t => coulomb_sum_total_q K t)
/-! coulomb_Total -/
noncomputable def coulomb_Total_e0 (K : Nat) : Env := ⟨tt, [(23, coulomb_Check_o K), (41, coulomb_sum_total_o K)], [], [], eqs⟩
theorem coulomb_Total_t0 (K : Nat) : EnvT Try.prog (coulomb_Total_e0 K) := envT_of tt_ok eqs_ok ⟨coulomb_Check_ok K, coulomb_sum_total_ok K, trivial⟩
theorem coulomb_Total_i0 (K : Nat) : EnvI Try.prog (coulomb_Total_e0 K) := envI_of (es := []) trivial trivial
noncomputable def coulomb_Total_h : Sh := ⟨2, [(0, .sc (.i .i64)), (1, .sc (.i .i64))], [], []⟩
noncomputable def coulomb_Total_r : Sh := ⟨2, [(0, .sc (.i .i64)), (1, .sc (.i .i64))], [], []⟩
noncomputable def coulomb_Total_g (K : Nat) (charge_0 : Int) (left_1 : Int) : Option (Int × Int × Unit) :=
  ((coulomb_Check_g K charge_0 left_1).bind fun q1 => (bif (q1.1 != 0) then (some (0, q1.1, ())) else ((coulomb_sum_total_g K left_1 charge_0).bind fun q2 => (some (q2.1, 0, ())))))
noncomputable def coulomb_Total_o (K : Nat) : FO := fnFO coulomb_Total_h coulomb_Total_r fun t => coulomb_Total_g K t.1 t.2.1
theorem coulomb_Total_q (K : Nat) (t : coulomb_Total_h.T) : exFn (coulomb_Total_e0 K) (hdl (coulomb_Total_e0 K) 0) [19] Try.f19 (slVals (coulomb_Total_h.put t).fr.sl) ⟨⟨0, []⟩, [], (coulomb_Total_h.put t).mem⟩ (takeRes coulomb_Total_r) = coulomb_Total_g K t.1 t.2.1 := by kernel_rfl
theorem coulomb_Total_ok (K : Nat) : FOok Try.prog 19 (coulomb_Total_o K) :=
  fn_rule (coulomb_Total_t0 K) (coulomb_Total_i0 K) (draws (coulomb_Total_t0 K)) 0 Try.func19 (fnB_ok Try.func19 (by kernel_rfl)) rfl rfl (allOwn_ok false (by kernel_rfl)) rfl (allOwn_ok true (by kernel_rfl)) (fun t => coulomb_Total_q K t)
/-! fx_bound -/
noncomputable def fx_bound_e0 (K : Nat) : Env := ⟨tt, [], [], [], eqs⟩
theorem fx_bound_t0 (K : Nat) : EnvT Try.prog (fx_bound_e0 K) := envT_of tt_ok eqs_ok trivial
theorem fx_bound_i0 (K : Nat) : EnvI Try.prog (fx_bound_e0 K) := envI_of (es := []) trivial trivial
noncomputable def fx_bound_h : Sh := ⟨1, [(0, .sc (.i .i64))], [], []⟩
noncomputable def fx_bound_r : Sh := ⟨1, [(0, .sc (.i .i64))], [], []⟩
noncomputable def fx_bound_g (K : Nat) (b_0 : Int) : Option (Int × Unit) :=
  (bif (decide (b_0 < 1)) then (some (2, ())) else (bif (decide (b_0 > 2305843009213693952)) then (some (2, ())) else (some (0, ()))))
noncomputable def fx_bound_o (K : Nat) : FO := fnFO fx_bound_h fx_bound_r fun t => fx_bound_g K t.1
theorem fx_bound_q (K : Nat) (t : fx_bound_h.T) : exFn (fx_bound_e0 K) (hdl (fx_bound_e0 K) 0) [47] Try.f47 (slVals (fx_bound_h.put t).fr.sl) ⟨⟨0, []⟩, [], (fx_bound_h.put t).mem⟩ (takeRes fx_bound_r) = fx_bound_g K t.1 := by kernel_rfl
theorem fx_bound_ok (K : Nat) : FOok Try.prog 47 (fx_bound_o K) :=
  fn_rule (fx_bound_t0 K) (fx_bound_i0 K) (draws (fx_bound_t0 K)) 0 Try.func47 (fnB_ok Try.func47 (by kernel_rfl)) rfl rfl (allOwn_ok false (by kernel_rfl)) rfl (allOwn_ok true (by kernel_rfl)) (fun t => fx_bound_q K t)
/-! fx_Between -/
noncomputable def fx_Between_e0 (K : Nat) : Env := ⟨tt, [], [], [], eqs⟩
theorem fx_Between_t0 (K : Nat) : EnvT Try.prog (fx_Between_e0 K) := envT_of tt_ok eqs_ok trivial
theorem fx_Between_i0 (K : Nat) : EnvI Try.prog (fx_Between_e0 K) := envI_of (es := []) trivial trivial
noncomputable def fx_Between_h : Sh := ⟨3, [(0, .sc (.i .i64)), (1, .sc (.i .i64)), (2, .sc (.i .i64))], [], []⟩
noncomputable def fx_Between_r : Sh := ⟨1, [(0, .sc (.i .i64))], [], []⟩
noncomputable def fx_Between_g (K : Nat) (low_0 : Int) (high_1 : Int) (n_2 : Int) : Option (Int × Unit) :=
  (bif (decide (n_2 < low_0)) then (some (low_0, ())) else (bif (decide (n_2 > high_1)) then (some (high_1, ())) else (some (n_2, ()))))
noncomputable def fx_Between_o (K : Nat) : FO := fnFO fx_Between_h fx_Between_r fun t => fx_Between_g K t.1 t.2.1 t.2.2.1
theorem fx_Between_q (K : Nat) (t : fx_Between_h.T) : exFn (fx_Between_e0 K) (hdl (fx_Between_e0 K) 0) [31] Try.f31 (slVals (fx_Between_h.put t).fr.sl) ⟨⟨0, []⟩, [], (fx_Between_h.put t).mem⟩ (takeRes fx_Between_r) = fx_Between_g K t.1 t.2.1 t.2.2.1 := by kernel_rfl
theorem fx_Between_ok (K : Nat) : FOok Try.prog 31 (fx_Between_o K) :=
  fn_rule (fx_Between_t0 K) (fx_Between_i0 K) (draws (fx_Between_t0 K)) 0 Try.func31 (fnB_ok Try.func31 (by kernel_rfl)) rfl rfl (allOwn_ok false (by kernel_rfl)) rfl (allOwn_ok true (by kernel_rfl)) (fun t => fx_Between_q K t)
/-! fx_Sum -/
noncomputable def fx_Sum_e0 (K : Nat) : Env := ⟨tt, [(47, fx_bound_o K), (31, fx_Between_o K)], [], [], eqs⟩
theorem fx_Sum_t0 (K : Nat) : EnvT Try.prog (fx_Sum_e0 K) := envT_of tt_ok eqs_ok ⟨fx_bound_ok K, fx_Between_ok K, trivial⟩
theorem fx_Sum_i0 (K : Nat) : EnvI Try.prog (fx_Sum_e0 K) := envI_of (es := []) trivial trivial
noncomputable def fx_Sum_l0h : Sh := ⟨34, [(0, .sc (.i .i64)), (7, .sc (.i .i64)), (15, .sc (.slr0 0)), (16, .sc (.i .i64)), (17, .sc (.i .i64))], [(0, [])], [(false, true, [.ir .i64])]⟩
noncomputable def fx_Sum_l0x0 : Sh := ⟨34, [(7, .sc (.i .i64))], [(0, [])], []⟩
noncomputable def fx_Sum_l0O : OutI (Int × Unit) := (OutI.exit 0 fx_Sum_l0x0)
noncomputable def fx_Sum_l0r (K : Nat) (rec : Int → Int → Nat → Int → Int → (Nat → Int) → Option (Int × Unit)) (b_0 : Int) (n_7 : Int) (t_15n : Nat) (t_16 : Int) (t_17 : Int) (m0_0 : (Nat → Int)) : Option (Int × Unit) :=
  (bif (decide (t_17 < t_16)) then (bif ((decide (0 ≤ t_17)) && (decide (t_17 < ((t_15n : Nat) : Int)))) then ((fx_Between_g K (wi64 ((wi64 (0 - b_0)) - n_7)) (wi64 (b_0 - n_7)) (m0_0 (Int.toNat t_17))).bind fun q1 => (rec b_0 (wi64 (n_7 + q1.1)) t_15n t_16 (wi64 (t_17 + 1)) m0_0)) else none) else (some (n_7, ())))
noncomputable def fx_Sum_l0 (K n : Nat) : Int → Int → Nat → Int → Int → (Nat → Int) → Option (Int × Unit) := Nat.rec (motive := fun _ => Int → Int → Nat → Int → Int → (Nat → Int) → Option (Int × Unit)) (fun _ _ _ _ _ _ => none) (fun _ ih => fx_Sum_l0r K ih) n
noncomputable def fx_Sum_l0u (K n : Nat) (t : fx_Sum_l0h.T) : Option (Int × Unit) := fx_Sum_l0 K n t.1 t.2.1 t.2.2.1 t.2.2.2.1 t.2.2.2.2.1 t.2.2.2.2.2.1
noncomputable def fx_Sum_l0o (K : Nat) : LO := loopLO fx_Sum_l0h fx_Sum_l0O fun t => fx_Sum_l0u K K t
noncomputable def fx_Sum_l0C : Code := bodyOf Try.f52
noncomputable def fx_Sum_l0B : Code := (findLoops 6 (loopsIn fx_Sum_l0C)).headD .skip
theorem fx_Sum_l0F : findLoops 6 (loopsIn fx_Sum_l0C) = [fx_Sum_l0B] := by kernel_rfl
theorem fx_Sum_l0q (K n : Nat) (t : fx_Sum_l0h.T) : exC (fx_Sum_e0 K) (hdl (fx_Sum_e0 K) 0) (52 :: []) fx_Sum_l0B (fx_Sum_l0h.put t) (fun s => (fx_Sum_l0h.take s).bind fun t => fx_Sum_l0u K n t) (fun id s => fx_Sum_l0O.get (some id) s) (fun s => fx_Sum_l0O.get none s) = fx_Sum_l0u K (n + 1) t := by kernel_rfl
noncomputable def fx_Sum_l0E (K : Nat) : LoopE Try.prog := ⟨[6, 52], fx_Sum_l0o K, Try.f52, fx_Sum_l0C, fx_Sum_l0B, ⟨6, 52, [], rfl, Try.func52, by kernel_rfl, fx_Sum_l0F⟩,
  loop_rule (F := fun n t => fx_Sum_l0u K n t) (fx_Sum_t0 K) (fx_Sum_i0 K) (draws (fx_Sum_t0 K)) 0 Try.func52 (c := fx_Sum_l0C) (by kernel_rfl) (body_in fx_Sum_l0F) (ctx' := []) (h := fx_Sum_l0h) (O := fx_Sum_l0O) (fun _ => rfl) (fun m t => fx_Sum_l0q K m t) K⟩
noncomputable def fx_Sum_e1 (K : Nat) : Env := ⟨tt, [(47, fx_bound_o K), (31, fx_Between_o K)], [], [([6, 52], fx_Sum_l0o K)], eqs⟩
theorem fx_Sum_t1 (K : Nat) : EnvT Try.prog (fx_Sum_e1 K) := envT_of tt_ok eqs_ok ⟨fx_bound_ok K, fx_Between_ok K, trivial⟩
theorem fx_Sum_i1 (K : Nat) : EnvI Try.prog (fx_Sum_e1 K) := envI_of (es := [fx_Sum_l0E K]) trivial ⟨⟨rfl, rfl⟩, trivial⟩
noncomputable def fx_Sum_h : Sh := ⟨2, [(0, .sc (.i .i64)), (1, .sc (.slr0 0))], [], [(false, true, [.ir .i64])]⟩
noncomputable def fx_Sum_r : Sh := ⟨2, [(0, .sc (.i .i64)), (1, .sc (.i .i64))], [], []⟩
noncomputable def fx_Sum_g (K : Nat) (b_0 : Int) (l_1n : Nat) (m0_0 : (Nat → Int)) : Option (Int × Int × Unit) :=
  ((fx_bound_g K b_0).bind fun q1 => (bif (q1.1 != 0) then (some (0, q1.1, ())) else ((fx_Sum_l0 K K b_0 0 l_1n ((l_1n : Nat) : Int) 0 m0_0).bind fun q2 => (some (q2.1, 0, ())))))
noncomputable def fx_Sum_o (K : Nat) : FO := fnFO fx_Sum_h fx_Sum_r fun t => fx_Sum_g K t.1 t.2.1 t.2.2.1
theorem fx_Sum_q (K : Nat) (t : fx_Sum_h.T) : exFn (fx_Sum_e1 K) (hdl (fx_Sum_e1 K) 0) [52] Try.f52 (slVals (fx_Sum_h.put t).fr.sl) ⟨⟨0, []⟩, [], (fx_Sum_h.put t).mem⟩ (takeRes fx_Sum_r) = fx_Sum_g K t.1 t.2.1 t.2.2.1 := by kernel_rfl
theorem fx_Sum_ok (K : Nat) : FOok Try.prog 52 (fx_Sum_o K) :=
  fn_rule (fx_Sum_t1 K) (fx_Sum_i1 K) (draws (fx_Sum_t1 K)) 0 Try.func52 (fnB_ok Try.func52 (by kernel_rfl)) rfl rfl (allOwn_ok false (by kernel_rfl)) rfl (allOwn_ok true (by kernel_rfl)) (fun t => fx_Sum_q K t)
/-! fx_Down_1 -/
noncomputable def fx_Down_1_e0 (K : Nat) : Env := ⟨tt, [], [], [], eqs⟩
theorem fx_Down_1_t0 (K : Nat) : EnvT Try.prog (fx_Down_1_e0 K) := envT_of tt_ok eqs_ok trivial
theorem fx_Down_1_i0 (K : Nat) : EnvI Try.prog (fx_Down_1_e0 K) := envI_of (es := []) trivial trivial
noncomputable def fx_Down_1_h : Sh := ⟨2, [(0, .sc (.i .i64)), (1, .sc (.i .i64))], [], []⟩
noncomputable def fx_Down_1_r : Sh := ⟨1, [(0, .sc (.b))], [], []⟩
noncomputable def fx_Down_1_g (K : Nat) (q_0 : Int) (left_1 : Int) : Option (Bool × Unit) :=
  (some (false, ()))
noncomputable def fx_Down_1_o (K : Nat) : FO := fnFO fx_Down_1_h fx_Down_1_r fun t => fx_Down_1_g K t.1 t.2.1
theorem fx_Down_1_q (K : Nat) (t : fx_Down_1_h.T) : exFn (fx_Down_1_e0 K) (hdl (fx_Down_1_e0 K) 0) [61] Try.f61 (slVals (fx_Down_1_h.put t).fr.sl) ⟨⟨0, []⟩, [], (fx_Down_1_h.put t).mem⟩ (takeRes fx_Down_1_r) = fx_Down_1_g K t.1 t.2.1 := by kernel_rfl
theorem fx_Down_1_ok (K : Nat) : FOok Try.prog 61 (fx_Down_1_o K) :=
  fn_rule (fx_Down_1_t0 K) (fx_Down_1_i0 K) (draws (fx_Down_1_t0 K)) 0 Try.func61 (fnB_ok Try.func61 (by kernel_rfl)) rfl rfl (allOwn_ok false (by kernel_rfl)) rfl (allOwn_ok true (by kernel_rfl)) (fun t => fx_Down_1_q K t)
/-! fx_Down -/
noncomputable def fx_Down_e0 (K : Nat) : Env := ⟨tt, [(61, fx_Down_1_o K)], [(60, Try.f60)], [], eqs⟩
theorem fx_Down_t0 (K : Nat) : EnvT Try.prog (fx_Down_e0 K) := envT_of tt_ok eqs_ok ⟨fx_Down_1_ok K, trivial⟩
theorem fx_Down_i0 (K : Nat) : EnvI Try.prog (fx_Down_e0 K) := envI_of (es := []) ⟨⟨Try.func60, by kernel_rfl⟩, trivial⟩ trivial
noncomputable def fx_Down_h : Sh := ⟨2, [(0, .sc (.i .i64)), (1, .sc (.i .i64))], [], []⟩
noncomputable def fx_Down_r : Sh := ⟨2, [(0, .sc (.i .i64)), (1, .sc (.i .i64))], [], []⟩
noncomputable def fx_Down_g (K : Nat) (a_0 : Int) (b_1 : Int) : Option (Int × Int × Unit) :=
  (bif (decide (b_1 < 1)) then (some (0, 2, ())) else (bif (b_1 == 0) then none else (bif (b_1 == 0) then none else (bif (decide ((Int.tmod a_0 b_1) < 0)) then ((fx_Down_1_g K (wi64 ((wi64 (Int.tdiv a_0 b_1)) - 1)) (wi64 ((Int.tmod a_0 b_1) + b_1))).bind fun q1 => (bif q1.1 then (some ((wi64 ((wi64 ((wi64 (Int.tdiv a_0 b_1)) - 1)) + 1)), 0, ())) else (some ((wi64 ((wi64 (Int.tdiv a_0 b_1)) - 1)), 0, ())))) else ((fx_Down_1_g K (wi64 (Int.tdiv a_0 b_1)) (Int.tmod a_0 b_1)).bind fun q2 => (bif q2.1 then (some ((wi64 ((wi64 (Int.tdiv a_0 b_1)) + 1)), 0, ())) else (some ((wi64 (Int.tdiv a_0 b_1)), 0, ()))))))))
noncomputable def fx_Down_o (K : Nat) : FO := fnFO fx_Down_h fx_Down_r fun t => fx_Down_g K t.1 t.2.1
theorem fx_Down_q (K : Nat) (t : fx_Down_h.T) : exFn (fx_Down_e0 K) (hdl (fx_Down_e0 K) 9) [53] Try.f53 (slVals (fx_Down_h.put t).fr.sl) ⟨⟨0, []⟩, [], (fx_Down_h.put t).mem⟩ (takeRes fx_Down_r) = fx_Down_g K t.1 t.2.1 := by kernel_rfl
theorem fx_Down_ok (K : Nat) : FOok Try.prog 53 (fx_Down_o K) :=
  fn_rule (fx_Down_t0 K) (fx_Down_i0 K) (draws (fx_Down_t0 K)) 9 Try.func53 (fnB_ok Try.func53 (by kernel_rfl)) rfl rfl (allOwn_ok false (by kernel_rfl)) rfl (allOwn_ok true (by kernel_rfl)) (fun t => fx_Down_q K t)
/-! coulomb_of -/
noncomputable def coulomb_of_e0 (K : Nat) : Env := ⟨tt, [(52, fx_Sum_o K), (53, fx_Down_o K)], [], [], eqs⟩
theorem coulomb_of_t0 (K : Nat) : EnvT Try.prog (coulomb_of_e0 K) := envT_of tt_ok eqs_ok ⟨fx_Sum_ok K, fx_Down_ok K, trivial⟩
theorem coulomb_of_i0 (K : Nat) : EnvI Try.prog (coulomb_of_e0 K) := envI_of (es := []) trivial trivial
noncomputable def coulomb_of_h : Sh := ⟨1, [(0, .sc (.slr0 0))], [], [(false, true, [.ir .i64])]⟩
noncomputable def coulomb_of_r : Sh := ⟨1, [(0, .ag [.i .i64, .i .i64])], [], []⟩
noncomputable def coulomb_of_g (K : Nat) (totals_0n : Nat) (m0_0 : (Nat → Int)) : Option (Int × Int × Unit) :=
  ((fx_Sum_g K 1125899906842624000 totals_0n m0_0).bind fun q1 => ((fx_Down_g K q1.1 1000).bind fun q2 => (some ((wi64 (q1.1 - (wi64 (q2.1 * 1000)))), q2.1, ()))))
noncomputable def coulomb_of_o (K : Nat) : FO := fnFO coulomb_of_h coulomb_of_r fun t => coulomb_of_g K t.1 t.2.1
theorem coulomb_of_q (K : Nat) (t : coulomb_of_h.T) : exFn (coulomb_of_e0 K) (hdl (coulomb_of_e0 K) 0) [39] Try.f39 (slVals (coulomb_of_h.put t).fr.sl) ⟨⟨0, []⟩, [], (coulomb_of_h.put t).mem⟩ (takeRes coulomb_of_r) = coulomb_of_g K t.1 t.2.1 := by kernel_rfl
theorem coulomb_of_ok (K : Nat) : FOok Try.prog 39 (coulomb_of_o K) :=
  fn_rule (coulomb_of_t0 K) (coulomb_of_i0 K) (draws (coulomb_of_t0 K)) 0 Try.func39 (fnB_ok Try.func39 (by kernel_rfl)) rfl rfl (allOwn_ok false (by kernel_rfl)) rfl (allOwn_ok true (by kernel_rfl)) (fun t => coulomb_of_q K t)
/-! coulomb_Add -/
noncomputable def coulomb_Add_e0 (K : Nat) : Env := ⟨tt, [(19, coulomb_Total_o K), (28, coulomb_size_o K), (39, coulomb_of_o K)], [], [], eqs⟩
theorem coulomb_Add_t0 (K : Nat) : EnvT Try.prog (coulomb_Add_e0 K) := envT_of tt_ok eqs_ok ⟨coulomb_Total_ok K, coulomb_size_ok K, coulomb_of_ok K, trivial⟩
theorem coulomb_Add_i0 (K : Nat) : EnvI Try.prog (coulomb_Add_e0 K) := envI_of (es := []) trivial trivial
noncomputable def coulomb_Add_h : Sh := ⟨4, [(0, .sc (.i .i64)), (1, .sc (.i .i64)), (2, .sc (.i .i64)), (3, .sc (.i .i64))], [], []⟩
noncomputable def coulomb_Add_r : Sh := ⟨3, [(0, .sc (.i .i64)), (1, .sc (.i .i64)), (2, .sc (.i .i64))], [], []⟩
noncomputable def coulomb_Add_g (K : Nat) (charge_0 : Int) (left_1 : Int) (current_2 : Int) (ticks_3 : Int) : Option (Int × Int × Int × Unit) :=
  ((coulomb_Total_g K charge_0 left_1).bind fun q1 => (bif (q1.2.1 != 0) then (some (0, 0, 2, ())) else ((coulomb_size_g K 2147483648 1 (fun j => (selI [current_2] j))).bind fun q2 => (bif (!q2.1) then (some (0, 0, 2, ())) else (bif (decide (ticks_3 < 1)) then (some (0, 0, 2, ())) else (bif (decide (ticks_3 > 60000)) then (some (0, 0, 2, ())) else ((coulomb_of_g K 2 (fun j => (selI [q1.1, (wi64 (current_2 * ticks_3))] j))).bind fun q3 => (some (q3.2.1, q3.1, q1.2.1, ())))))))))
noncomputable def coulomb_Add_gu (K : Nat) (t : coulomb_Add_h.T) : Option (Int × Int × Int × Unit) := coulomb_Add_g K t.1 t.2.1 t.2.2.1 t.2.2.2.1
noncomputable def coulomb_Add_o (K : Nat) : FO := fnFO coulomb_Add_h coulomb_Add_r fun t => coulomb_Add_gu K t
theorem coulomb_Add_q (K : Nat) (t : coulomb_Add_h.T) : exFn (coulomb_Add_e0 K) (hdl (coulomb_Add_e0 K) 0) [17] Try.f17 (slVals (coulomb_Add_h.put t).fr.sl) ⟨⟨0, []⟩, [], (coulomb_Add_h.put t).mem⟩ (takeRes coulomb_Add_r) = coulomb_Add_gu K t := by kernel_rfl
theorem coulomb_Add_ok (K : Nat) : FOok Try.prog 17 (coulomb_Add_o K) :=
  fn_rule (coulomb_Add_t0 K) (coulomb_Add_i0 K) (draws (coulomb_Add_t0 K)) 0 Try.func17 (fnB_ok Try.func17 (by kernel_rfl)) rfl rfl (allOwn_ok false (by kernel_rfl)) rfl (allOwn_ok true (by kernel_rfl)) (fun t => coulomb_Add_q K t)
/-! rheostatref14_Check -/
noncomputable def rheostatref14_Check_e0 (K : Nat) : Env := ⟨tt, [], [], [], eqs⟩
theorem rheostatref14_Check_t0 (K : Nat) : EnvT Try.prog (rheostatref14_Check_e0 K) := envT_of tt_ok eqs_ok trivial
theorem rheostatref14_Check_i0 (K : Nat) : EnvI Try.prog (rheostatref14_Check_e0 K) := envI_of (es := []) trivial trivial
noncomputable def rheostatref14_Check_h : Sh := ⟨2, [(0, .sc (.i .i64)), (1, .sc (.i .i64))], [], []⟩
noncomputable def rheostatref14_Check_r : Sh := ⟨1, [(0, .sc (.i .i64))], [], []⟩
noncomputable def rheostatref14_Check_g (K : Nat) (charge_0 : Int) (residue_1 : Int) : Option (Int × Unit) :=
  (bif (decide (charge_0 < (-1125899906842624))) then (some (2, ())) else (bif (decide (charge_0 > 1125899906842624)) then (some (2, ())) else (bif (decide (residue_1 < 0)) then (some (2, ())) else (bif (decide (residue_1 > 999)) then (some (2, ())) else (bif (charge_0 == 1125899906842624) then (bif (decide (residue_1 > 0)) then (some (2, ())) else (some (0, ()))) else (some (0, ())))))))
noncomputable def rheostatref14_Check_o (K : Nat) : FO := fnFO rheostatref14_Check_h rheostatref14_Check_r fun t => rheostatref14_Check_g K t.1 t.2.1
theorem rheostatref14_Check_q (K : Nat) (t : rheostatref14_Check_h.T) : exFn (rheostatref14_Check_e0 K) (hdl (rheostatref14_Check_e0 K) 0) [24] Try.f24 (slVals (rheostatref14_Check_h.put t).fr.sl) ⟨⟨0, []⟩, [], (rheostatref14_Check_h.put t).mem⟩ (takeRes rheostatref14_Check_r) = rheostatref14_Check_g K t.1 t.2.1 := by kernel_rfl
theorem rheostatref14_Check_ok (K : Nat) : FOok Try.prog 24 (rheostatref14_Check_o K) :=
  fn_rule (rheostatref14_Check_t0 K) (rheostatref14_Check_i0 K) (draws (rheostatref14_Check_t0 K)) 0 Try.func24 (fnB_ok Try.func24 (by kernel_rfl)) rfl rfl (allOwn_ok false (by kernel_rfl)) rfl (allOwn_ok true (by kernel_rfl)) (fun t => rheostatref14_Check_q K t)
/-! rheostatref14_Total -/
noncomputable def rheostatref14_Total_e0 (K : Nat) : Env := ⟨tt, [(24, rheostatref14_Check_o K)], [], [], eqs⟩
theorem rheostatref14_Total_t0 (K : Nat) : EnvT Try.prog (rheostatref14_Total_e0 K) := envT_of tt_ok eqs_ok ⟨rheostatref14_Check_ok K, trivial⟩
theorem rheostatref14_Total_i0 (K : Nat) : EnvI Try.prog (rheostatref14_Total_e0 K) := envI_of (es := []) trivial trivial
noncomputable def rheostatref14_Total_h : Sh := ⟨2, [(0, .sc (.i .i64)), (1, .sc (.i .i64))], [], []⟩
noncomputable def rheostatref14_Total_r : Sh := ⟨2, [(0, .sc (.i .i64)), (1, .sc (.i .i64))], [], []⟩
noncomputable def rheostatref14_Total_g (K : Nat) (charge_0 : Int) (residue_1 : Int) : Option (Int × Int × Unit) :=
  ((rheostatref14_Check_g K charge_0 residue_1).bind fun q1 => (bif (q1.1 != 0) then (some (0, q1.1, ())) else (some ((wi64 ((wi64 (charge_0 * 1000)) + residue_1)), 0, ()))))
noncomputable def rheostatref14_Total_o (K : Nat) : FO := fnFO rheostatref14_Total_h rheostatref14_Total_r fun t => rheostatref14_Total_g K t.1 t.2.1
theorem rheostatref14_Total_q (K : Nat) (t : rheostatref14_Total_h.T) : exFn (rheostatref14_Total_e0 K) (hdl (rheostatref14_Total_e0 K) 0) [20] Try.f20 (slVals (rheostatref14_Total_h.put t).fr.sl) ⟨⟨0, []⟩, [], (rheostatref14_Total_h.put t).mem⟩ (takeRes rheostatref14_Total_r) = rheostatref14_Total_g K t.1 t.2.1 := by kernel_rfl
theorem rheostatref14_Total_ok (K : Nat) : FOok Try.prog 20 (rheostatref14_Total_o K) :=
  fn_rule (rheostatref14_Total_t0 K) (rheostatref14_Total_i0 K) (draws (rheostatref14_Total_t0 K)) 0 Try.func20 (fnB_ok Try.func20 (by kernel_rfl)) rfl rfl (allOwn_ok false (by kernel_rfl)) rfl (allOwn_ok true (by kernel_rfl)) (fun t => rheostatref14_Total_q K t)
/-! rheostatref14_unit -/
noncomputable def rheostatref14_unit_e0 (K : Nat) : Env := ⟨tt, [], [], [], eqs⟩
theorem rheostatref14_unit_t0 (K : Nat) : EnvT Try.prog (rheostatref14_unit_e0 K) := envT_of tt_ok eqs_ok trivial
theorem rheostatref14_unit_i0 (K : Nat) : EnvI Try.prog (rheostatref14_unit_e0 K) := envI_of (es := []) trivial trivial
noncomputable def rheostatref14_unit_h : Sh := ⟨1, [(0, .sc (.i .i64))], [], []⟩
noncomputable def rheostatref14_unit_r : Sh := ⟨1, [(0, .sc (.b))], [], []⟩
noncomputable def rheostatref14_unit_g (K : Nat) (n_0 : Int) : Option (Bool × Unit) :=
  (bif (decide (n_0 ≥ (-2147483648))) then (some ((decide (n_0 ≤ 2147483648)), ())) else (some (false, ())))
noncomputable def rheostatref14_unit_o (K : Nat) : FO := fnFO rheostatref14_unit_h rheostatref14_unit_r fun t => rheostatref14_unit_g K t.1
theorem rheostatref14_unit_q (K : Nat) (t : rheostatref14_unit_h.T) : exFn (rheostatref14_unit_e0 K) (hdl (rheostatref14_unit_e0 K) 0) [40] Try.f40 (slVals (rheostatref14_unit_h.put t).fr.sl) ⟨⟨0, []⟩, [], (rheostatref14_unit_h.put t).mem⟩ (takeRes rheostatref14_unit_r) = rheostatref14_unit_g K t.1 := by kernel_rfl
theorem rheostatref14_unit_ok (K : Nat) : FOok Try.prog 40 (rheostatref14_unit_o K) :=
  fn_rule (rheostatref14_unit_t0 K) (rheostatref14_unit_i0 K) (draws (rheostatref14_unit_t0 K)) 0 Try.func40 (fnB_ok Try.func40 (by kernel_rfl)) rfl rfl (allOwn_ok false (by kernel_rfl)) rfl (allOwn_ok true (by kernel_rfl)) (fun t => rheostatref14_unit_q K t)
/-! rheostatref14_Most -/
noncomputable def rheostatref14_Most_e0 (K : Nat) : Env := ⟨tt, [], [], [], eqs⟩
theorem rheostatref14_Most_t0 (K : Nat) : EnvT Try.prog (rheostatref14_Most_e0 K) := envT_of tt_ok eqs_ok trivial
theorem rheostatref14_Most_i0 (K : Nat) : EnvI Try.prog (rheostatref14_Most_e0 K) := envI_of (es := []) trivial trivial
noncomputable def rheostatref14_Most_h : Sh := ⟨0, [], [], []⟩
noncomputable def rheostatref14_Most_r : Sh := ⟨1, [(0, .sc (.i .i64))], [], []⟩
noncomputable def rheostatref14_Most_g (K : Nat)  : Option (Int × Unit) :=
  (some (1125899906842624000, ()))
noncomputable def rheostatref14_Most_o (K : Nat) : FO := fnFO rheostatref14_Most_h rheostatref14_Most_r fun t => rheostatref14_Most_g K
theorem rheostatref14_Most_q (K : Nat) (t : rheostatref14_Most_h.T) : exFn (rheostatref14_Most_e0 K) (hdl (rheostatref14_Most_e0 K) 0) [25] Try.f25 (slVals (rheostatref14_Most_h.put t).fr.sl) ⟨⟨0, []⟩, [], (rheostatref14_Most_h.put t).mem⟩ (takeRes rheostatref14_Most_r) = rheostatref14_Most_g K := by kernel_rfl
theorem rheostatref14_Most_ok (K : Nat) : FOok Try.prog 25 (rheostatref14_Most_o K) :=
  fn_rule (rheostatref14_Most_t0 K) (rheostatref14_Most_i0 K) (draws (rheostatref14_Most_t0 K)) 0 Try.func25 (fnB_ok Try.func25 (by kernel_rfl)) rfl rfl (allOwn_ok false (by kernel_rfl)) rfl (allOwn_ok true (by kernel_rfl)) (fun t => rheostatref14_Most_q K t)
/-! rheostatref03_Between -/
noncomputable def rheostatref03_Between_e0 (K : Nat) : Env := ⟨tt, [], [], [], eqs⟩
theorem rheostatref03_Between_t0 (K : Nat) : EnvT Try.prog (rheostatref03_Between_e0 K) := envT_of tt_ok eqs_ok trivial
theorem rheostatref03_Between_i0 (K : Nat) : EnvI Try.prog (rheostatref03_Between_e0 K) := envI_of (es := []) trivial trivial
noncomputable def rheostatref03_Between_h : Sh := ⟨3, [(0, .sc (.i .i64)), (1, .sc (.i .i64)), (2, .sc (.i .i64))], [], []⟩
noncomputable def rheostatref03_Between_r : Sh := ⟨1, [(0, .sc (.i .i64))], [], []⟩
noncomputable def rheostatref03_Between_g (K : Nat) (low_0 : Int) (high_1 : Int) (n_2 : Int) : Option (Int × Unit) :=
  (bif (decide (n_2 < low_0)) then (some (low_0, ())) else (bif (decide (n_2 > high_1)) then (some (high_1, ())) else (some (n_2, ()))))
noncomputable def rheostatref03_Between_o (K : Nat) : FO := fnFO rheostatref03_Between_h rheostatref03_Between_r fun t => rheostatref03_Between_g K t.1 t.2.1 t.2.2.1
theorem rheostatref03_Between_q (K : Nat) (t : rheostatref03_Between_h.T) : exFn (rheostatref03_Between_e0 K) (hdl (rheostatref03_Between_e0 K) 0) [38] Try.f38 (slVals (rheostatref03_Between_h.put t).fr.sl) ⟨⟨0, []⟩, [], (rheostatref03_Between_h.put t).mem⟩ (takeRes rheostatref03_Between_r) = rheostatref03_Between_g K t.1 t.2.1 t.2.2.1 := by kernel_rfl
theorem rheostatref03_Between_ok (K : Nat) : FOok Try.prog 38 (rheostatref03_Between_o K) :=
  fn_rule (rheostatref03_Between_t0 K) (rheostatref03_Between_i0 K) (draws (rheostatref03_Between_t0 K)) 0 Try.func38 (fnB_ok Try.func38 (by kernel_rfl)) rfl rfl (allOwn_ok false (by kernel_rfl)) rfl (allOwn_ok true (by kernel_rfl)) (fun t => rheostatref03_Between_q K t)
/-! rheostatref03_Down -/
noncomputable def rheostatref03_Down_e0 (K : Nat) : Env := ⟨tt, [], [], [], eqs⟩
theorem rheostatref03_Down_t0 (K : Nat) : EnvT Try.prog (rheostatref03_Down_e0 K) := envT_of tt_ok eqs_ok trivial
theorem rheostatref03_Down_i0 (K : Nat) : EnvI Try.prog (rheostatref03_Down_e0 K) := envI_of (es := []) trivial trivial
noncomputable def rheostatref03_Down_h : Sh := ⟨2, [(0, .sc (.i .i64)), (1, .sc (.i .i64))], [], []⟩
noncomputable def rheostatref03_Down_r : Sh := ⟨2, [(0, .sc (.i .i64)), (1, .sc (.i .i64))], [], []⟩
noncomputable def rheostatref03_Down_g (K : Nat) (a_0 : Int) (b_1 : Int) : Option (Int × Int × Unit) :=
  (bif (decide (b_1 < 1)) then (some (0, 2, ())) else (bif (b_1 == 0) then none else (bif (b_1 == 0) then none else (bif (decide ((Int.tmod a_0 b_1) < 0)) then (some ((wi64 ((wi64 (Int.tdiv a_0 b_1)) - 1)), 0, ())) else (some ((wi64 (Int.tdiv a_0 b_1)), 0, ()))))))
noncomputable def rheostatref03_Down_o (K : Nat) : FO := fnFO rheostatref03_Down_h rheostatref03_Down_r fun t => rheostatref03_Down_g K t.1 t.2.1
theorem rheostatref03_Down_q (K : Nat) (t : rheostatref03_Down_h.T) : exFn (rheostatref03_Down_e0 K) (hdl (rheostatref03_Down_e0 K) 0) [42] Try.f42 (slVals (rheostatref03_Down_h.put t).fr.sl) ⟨⟨0, []⟩, [], (rheostatref03_Down_h.put t).mem⟩ (takeRes rheostatref03_Down_r) = rheostatref03_Down_g K t.1 t.2.1 := by kernel_rfl
theorem rheostatref03_Down_ok (K : Nat) : FOok Try.prog 42 (rheostatref03_Down_o K) :=
  fn_rule (rheostatref03_Down_t0 K) (rheostatref03_Down_i0 K) (draws (rheostatref03_Down_t0 K)) 0 Try.func42 (fnB_ok Try.func42 (by kernel_rfl)) rfl rfl (allOwn_ok false (by kernel_rfl)) rfl (allOwn_ok true (by kernel_rfl)) (fun t => rheostatref03_Down_q K t)
/-! rheostatref03_Left -/
noncomputable def rheostatref03_Left_e0 (K : Nat) : Env := ⟨tt, [], [], [], eqs⟩
theorem rheostatref03_Left_t0 (K : Nat) : EnvT Try.prog (rheostatref03_Left_e0 K) := envT_of tt_ok eqs_ok trivial
theorem rheostatref03_Left_i0 (K : Nat) : EnvI Try.prog (rheostatref03_Left_e0 K) := envI_of (es := []) trivial trivial
noncomputable def rheostatref03_Left_h : Sh := ⟨2, [(0, .sc (.i .i64)), (1, .sc (.i .i64))], [], []⟩
noncomputable def rheostatref03_Left_r : Sh := ⟨2, [(0, .sc (.i .i64)), (1, .sc (.i .i64))], [], []⟩
noncomputable def rheostatref03_Left_g (K : Nat) (a_0 : Int) (b_1 : Int) : Option (Int × Int × Unit) :=
  (bif (decide (b_1 < 1)) then (some (0, 2, ())) else (bif (b_1 == 0) then none else (bif (decide ((Int.tmod a_0 b_1) < 0)) then (some ((wi64 ((Int.tmod a_0 b_1) + b_1)), 0, ())) else (some ((Int.tmod a_0 b_1), 0, ())))))
noncomputable def rheostatref03_Left_o (K : Nat) : FO := fnFO rheostatref03_Left_h rheostatref03_Left_r fun t => rheostatref03_Left_g K t.1 t.2.1
theorem rheostatref03_Left_q (K : Nat) (t : rheostatref03_Left_h.T) : exFn (rheostatref03_Left_e0 K) (hdl (rheostatref03_Left_e0 K) 0) [43] Try.f43 (slVals (rheostatref03_Left_h.put t).fr.sl) ⟨⟨0, []⟩, [], (rheostatref03_Left_h.put t).mem⟩ (takeRes rheostatref03_Left_r) = rheostatref03_Left_g K t.1 t.2.1 := by kernel_rfl
theorem rheostatref03_Left_ok (K : Nat) : FOok Try.prog 43 (rheostatref03_Left_o K) :=
  fn_rule (rheostatref03_Left_t0 K) (rheostatref03_Left_i0 K) (draws (rheostatref03_Left_t0 K)) 0 Try.func43 (fnB_ok Try.func43 (by kernel_rfl)) rfl rfl (allOwn_ok false (by kernel_rfl)) rfl (allOwn_ok true (by kernel_rfl)) (fun t => rheostatref03_Left_q K t)
/-! rheostatref14_Of -/
noncomputable def rheostatref14_Of_e0 (K : Nat) : Env := ⟨tt, [(25, rheostatref14_Most_o K), (42, rheostatref03_Down_o K), (43, rheostatref03_Left_o K)], [], [], eqs⟩
theorem rheostatref14_Of_t0 (K : Nat) : EnvT Try.prog (rheostatref14_Of_e0 K) := envT_of tt_ok eqs_ok ⟨rheostatref14_Most_ok K, rheostatref03_Down_ok K, rheostatref03_Left_ok K, trivial⟩
theorem rheostatref14_Of_i0 (K : Nat) : EnvI Try.prog (rheostatref14_Of_e0 K) := envI_of (es := []) trivial trivial
noncomputable def rheostatref14_Of_h : Sh := ⟨1, [(0, .sc (.i .i64))], [], []⟩
noncomputable def rheostatref14_Of_r : Sh := ⟨3, [(0, .sc (.i .i64)), (1, .sc (.i .i64)), (2, .sc (.i .i64))], [], []⟩
noncomputable def rheostatref14_Of_g (K : Nat) (total_0 : Int) : Option (Int × Int × Int × Unit) :=
  ((rheostatref14_Most_g K).bind fun q1 => (bif (decide (total_0 < (wi64 (0 - q1.1)))) then (some (0, 0, 2, ())) else ((rheostatref14_Most_g K).bind fun q2 => (bif (decide (total_0 > q2.1)) then (some (0, 0, 2, ())) else ((rheostatref03_Down_g K total_0 1000).bind fun q3 => ((rheostatref03_Left_g K total_0 1000).bind fun q4 => (some (q3.1, q4.1, 0, ()))))))))
noncomputable def rheostatref14_Of_o (K : Nat) : FO := fnFO rheostatref14_Of_h rheostatref14_Of_r fun t => rheostatref14_Of_g K t.1
theorem rheostatref14_Of_q (K : Nat) (t : rheostatref14_Of_h.T) : exFn (rheostatref14_Of_e0 K) (hdl (rheostatref14_Of_e0 K) 0) [22] Try.f22 (slVals (rheostatref14_Of_h.put t).fr.sl) ⟨⟨0, []⟩, [], (rheostatref14_Of_h.put t).mem⟩ (takeRes rheostatref14_Of_r) = rheostatref14_Of_g K t.1 := by kernel_rfl
theorem rheostatref14_Of_ok (K : Nat) : FOok Try.prog 22 (rheostatref14_Of_o K) :=
  fn_rule (rheostatref14_Of_t0 K) (rheostatref14_Of_i0 K) (draws (rheostatref14_Of_t0 K)) 0 Try.func22 (fnB_ok Try.func22 (by kernel_rfl)) rfl rfl (allOwn_ok false (by kernel_rfl)) rfl (allOwn_ok true (by kernel_rfl)) (fun t => rheostatref14_Of_q K t)
/-! rheostatref14_Add -/
noncomputable def rheostatref14_Add_e0 (K : Nat) : Env := ⟨tt, [(20, rheostatref14_Total_o K), (40, rheostatref14_unit_o K), (25, rheostatref14_Most_o K), (38, rheostatref03_Between_o K), (22, rheostatref14_Of_o K)], [], [], eqs⟩
theorem rheostatref14_Add_t0 (K : Nat) : EnvT Try.prog (rheostatref14_Add_e0 K) := envT_of tt_ok eqs_ok ⟨rheostatref14_Total_ok K, rheostatref14_unit_ok K, rheostatref14_Most_ok K, rheostatref03_Between_ok K, rheostatref14_Of_ok K, trivial⟩
theorem rheostatref14_Add_i0 (K : Nat) : EnvI Try.prog (rheostatref14_Add_e0 K) := envI_of (es := []) trivial trivial
noncomputable def rheostatref14_Add_h : Sh := ⟨4, [(0, .sc (.i .i64)), (1, .sc (.i .i64)), (2, .sc (.i .i64)), (3, .sc (.i .i64))], [], []⟩
noncomputable def rheostatref14_Add_r : Sh := ⟨3, [(0, .sc (.i .i64)), (1, .sc (.i .i64)), (2, .sc (.i .i64))], [], []⟩
noncomputable def rheostatref14_Add_g (K : Nat) (charge_0 : Int) (residue_1 : Int) (current_2 : Int) (ticks_3 : Int) : Option (Int × Int × Int × Unit) :=
  ((rheostatref14_Total_g K charge_0 residue_1).bind fun q1 => (bif (q1.2.1 != 0) then (some (0, 0, 2, ())) else ((rheostatref14_unit_g K current_2).bind fun q2 => (bif (!q2.1) then (some (0, 0, 2, ())) else (bif (decide (ticks_3 < 1)) then (some (0, 0, 2, ())) else (bif (decide (ticks_3 > 60000)) then (some (0, 0, 2, ())) else ((rheostatref14_Most_g K).bind fun q3 => ((rheostatref14_Most_g K).bind fun q4 => ((rheostatref03_Between_g K (wi64 (0 - q3.1)) q4.1 (wi64 (q1.1 + (wi64 (current_2 * ticks_3))))).bind fun q5 => ((rheostatref14_Of_g K q5.1).bind fun q6 => (some (q6.1, q6.2.1, q6.2.2.1, ()))))))))))))
noncomputable def rheostatref14_Add_gu (K : Nat) (t : rheostatref14_Add_h.T) : Option (Int × Int × Int × Unit) := rheostatref14_Add_g K t.1 t.2.1 t.2.2.1 t.2.2.2.1
noncomputable def rheostatref14_Add_o (K : Nat) : FO := fnFO rheostatref14_Add_h rheostatref14_Add_r fun t => rheostatref14_Add_gu K t
theorem rheostatref14_Add_q (K : Nat) (t : rheostatref14_Add_h.T) : exFn (rheostatref14_Add_e0 K) (hdl (rheostatref14_Add_e0 K) 0) [18] Try.f18 (slVals (rheostatref14_Add_h.put t).fr.sl) ⟨⟨0, []⟩, [], (rheostatref14_Add_h.put t).mem⟩ (takeRes rheostatref14_Add_r) = rheostatref14_Add_gu K t := by kernel_rfl
theorem rheostatref14_Add_ok (K : Nat) : FOok Try.prog 18 (rheostatref14_Add_o K) :=
  fn_rule (rheostatref14_Add_t0 K) (rheostatref14_Add_i0 K) (draws (rheostatref14_Add_t0 K)) 0 Try.func18 (fnB_ok Try.func18 (by kernel_rfl)) rfl rfl (allOwn_ok false (by kernel_rfl)) rfl (allOwn_ok true (by kernel_rfl)) (fun t => rheostatref14_Add_q K t)
/-! coulomb_Of -/
noncomputable def coulomb_Of_e0 (K : Nat) : Env := ⟨tt, [(28, coulomb_size_o K), (39, coulomb_of_o K)], [], [], eqs⟩
theorem coulomb_Of_t0 (K : Nat) : EnvT Try.prog (coulomb_Of_e0 K) := envT_of tt_ok eqs_ok ⟨coulomb_size_ok K, coulomb_of_ok K, trivial⟩
theorem coulomb_Of_i0 (K : Nat) : EnvI Try.prog (coulomb_Of_e0 K) := envI_of (es := []) trivial trivial
noncomputable def coulomb_Of_h : Sh := ⟨1, [(0, .sc (.i .i64))], [], []⟩
noncomputable def coulomb_Of_r : Sh := ⟨3, [(0, .sc (.i .i64)), (1, .sc (.i .i64)), (2, .sc (.i .i64))], [], []⟩
noncomputable def coulomb_Of_g (K : Nat) (total_0 : Int) : Option (Int × Int × Int × Unit) :=
  ((coulomb_size_g K 1125899906842624000 1 (fun j => (selI [total_0] j))).bind fun q1 => (bif (!q1.1) then (some (0, 0, 2, ())) else ((coulomb_of_g K 1 (fun j => (selI [total_0] j))).bind fun q2 => (some (q2.2.1, q2.1, 0, ())))))
noncomputable def coulomb_Of_o (K : Nat) : FO := fnFO coulomb_Of_h coulomb_Of_r fun t => coulomb_Of_g K t.1
theorem coulomb_Of_q (K : Nat) (t : coulomb_Of_h.T) : exFn (coulomb_Of_e0 K) (hdl (coulomb_Of_e0 K) 0) [21] Try.f21 (slVals (coulomb_Of_h.put t).fr.sl) ⟨⟨0, []⟩, [], (coulomb_Of_h.put t).mem⟩ (takeRes coulomb_Of_r) = coulomb_Of_g K t.1 := by kernel_rfl
theorem coulomb_Of_ok (K : Nat) : FOok Try.prog 21 (coulomb_Of_o K) :=
  fn_rule (coulomb_Of_t0 K) (coulomb_Of_i0 K) (draws (coulomb_Of_t0 K)) 0 Try.func21 (fnB_ok Try.func21 (by kernel_rfl)) rfl rfl (allOwn_ok false (by kernel_rfl)) rfl (allOwn_ok true (by kernel_rfl)) (fun t => coulomb_Of_q K t)
/-! coulomb_may -/
noncomputable def coulomb_may_e0 (K : Nat) : Env := ⟨tt, [], [], [], eqs⟩
theorem coulomb_may_t0 (K : Nat) : EnvT Try.prog (coulomb_may_e0 K) := envT_of tt_ok eqs_ok trivial
theorem coulomb_may_i0 (K : Nat) : EnvI Try.prog (coulomb_may_e0 K) := envI_of (es := []) trivial trivial
noncomputable def coulomb_may_h : Sh := ⟨2, [(0, .sc (.i .i64)), (1, .sc (.i .i64))], [], []⟩
noncomputable def coulomb_may_r : Sh := ⟨1, [(0, .sc (.b))], [], []⟩
noncomputable def coulomb_may_g (K : Nat) (soc_0 : Int) (capacity_1 : Int) : Option (Bool × Unit) :=
  (bif (decide (soc_0 ≥ 0)) then (bif (decide (soc_0 ≤ 10000)) then (bif (decide (capacity_1 ≥ 1)) then (some ((decide (capacity_1 ≤ 1125899906842624)), ())) else (some (false, ()))) else (some (false, ()))) else (some (false, ())))
noncomputable def coulomb_may_o (K : Nat) : FO := fnFO coulomb_may_h coulomb_may_r fun t => coulomb_may_g K t.1 t.2.1
theorem coulomb_may_q (K : Nat) (t : coulomb_may_h.T) : exFn (coulomb_may_e0 K) (hdl (coulomb_may_e0 K) 0) [27] Try.f27 (slVals (coulomb_may_h.put t).fr.sl) ⟨⟨0, []⟩, [], (coulomb_may_h.put t).mem⟩ (takeRes coulomb_may_r) = coulomb_may_g K t.1 t.2.1 := by kernel_rfl
theorem coulomb_may_ok (K : Nat) : FOok Try.prog 27 (coulomb_may_o K) :=
  fn_rule (coulomb_may_t0 K) (coulomb_may_i0 K) (draws (coulomb_may_t0 K)) 0 Try.func27 (fnB_ok Try.func27 (by kernel_rfl)) rfl rfl (allOwn_ok false (by kernel_rfl)) rfl (allOwn_ok true (by kernel_rfl)) (fun t => coulomb_may_q K t)
/-! wide_size -/
noncomputable def wide_size_e0 (K : Nat) : Env := ⟨tt, [], [], [], eqs⟩
theorem wide_size_t0 (K : Nat) : EnvT Try.prog (wide_size_e0 K) := envT_of tt_ok eqs_ok trivial
theorem wide_size_i0 (K : Nat) : EnvI Try.prog (wide_size_e0 K) := envI_of (es := []) trivial trivial
noncomputable def wide_size_h : Sh := ⟨1, [(0, .sc (.i .i64))], [], []⟩
noncomputable def wide_size_r : Sh := ⟨1, [(0, .sc (.i .u64))], [], []⟩
noncomputable def wide_size_g (K : Nat) (a_0 : Int) : Option (Int × Unit) :=
  (bif (decide (a_0 < 0)) then (some ((wu64 (0 - (wu64 (a_0)))), ())) else (some ((wu64 (a_0)), ())))
noncomputable def wide_size_o (K : Nat) : FO := fnFO wide_size_h wide_size_r fun t => wide_size_g K t.1
theorem wide_size_q (K : Nat) (t : wide_size_h.T) : exFn (wide_size_e0 K) (hdl (wide_size_e0 K) 0) [57] Try.f57 (slVals (wide_size_h.put t).fr.sl) ⟨⟨0, []⟩, [], (wide_size_h.put t).mem⟩ (takeRes wide_size_r) = wide_size_g K t.1 := by kernel_rfl
theorem wide_size_ok (K : Nat) : FOok Try.prog 57 (wide_size_o K) :=
  fn_rule (wide_size_t0 K) (wide_size_i0 K) (draws (wide_size_t0 K)) 0 Try.func57 (fnB_ok Try.func57 (by kernel_rfl)) rfl rfl (allOwn_ok false (by kernel_rfl)) rfl (allOwn_ok true (by kernel_rfl)) (fun t => wide_size_q K t)
/-! math_bits_Mul64 -/
noncomputable def math_bits_Mul64_e0 (K : Nat) : Env := ⟨tt, [], [], [], eqs⟩
theorem math_bits_Mul64_t0 (K : Nat) : EnvT Try.prog (math_bits_Mul64_e0 K) := envT_of tt_ok eqs_ok trivial
theorem math_bits_Mul64_i0 (K : Nat) : EnvI Try.prog (math_bits_Mul64_e0 K) := envI_of (es := []) trivial trivial
noncomputable def math_bits_Mul64_h : Sh := ⟨2, [(0, .sc (.i .u64)), (1, .sc (.i .u64))], [], []⟩
noncomputable def math_bits_Mul64_r : Sh := ⟨2, [(0, .sc (.i .u64)), (1, .sc (.i .u64))], [], []⟩
noncomputable def math_bits_Mul64_g (K : Nat) (x_0 : Int) (y_1 : Int) : Option (Int × Int × Unit) :=
  (some ((wu64 ((wu64 ((wu64 ((shR .u64 x_0 32) * (shR .u64 y_1 32))) + (shR .u64 (wu64 ((wu64 ((shR .u64 x_0 32) * (bitAnd .u64 y_1 4294967295))) + (shR .u64 (wu64 ((bitAnd .u64 x_0 4294967295) * (bitAnd .u64 y_1 4294967295))) 32))) 32))) + (shR .u64 (wu64 ((bitAnd .u64 (wu64 ((wu64 ((shR .u64 x_0 32) * (bitAnd .u64 y_1 4294967295))) + (shR .u64 (wu64 ((bitAnd .u64 x_0 4294967295) * (bitAnd .u64 y_1 4294967295))) 32))) 4294967295) + (wu64 ((bitAnd .u64 x_0 4294967295) * (shR .u64 y_1 32))))) 32))), (wu64 (x_0 * y_1)), ()))
noncomputable def math_bits_Mul64_o (K : Nat) : FO := fnFO math_bits_Mul64_h math_bits_Mul64_r fun t => math_bits_Mul64_g K t.1 t.2.1
theorem math_bits_Mul64_q (K : Nat) (t : math_bits_Mul64_h.T) : exFn (math_bits_Mul64_e0 K) (hdl (math_bits_Mul64_e0 K) 0) [65] Try.f65 (slVals (math_bits_Mul64_h.put t).fr.sl) ⟨⟨0, []⟩, [], (math_bits_Mul64_h.put t).mem⟩ (takeRes math_bits_Mul64_r) = math_bits_Mul64_g K t.1 t.2.1 := by kernel_rfl
theorem math_bits_Mul64_ok (K : Nat) : FOok Try.prog 65 (math_bits_Mul64_o K) :=
  fn_rule (math_bits_Mul64_t0 K) (math_bits_Mul64_i0 K) (draws (math_bits_Mul64_t0 K)) 0 Try.func65 (fnB_ok Try.func65 (by kernel_rfl)) rfl rfl (allOwn_ok false (by kernel_rfl)) rfl (allOwn_ok true (by kernel_rfl)) (fun t => math_bits_Mul64_q K t)
/-! math_bits_Mul -/
noncomputable def math_bits_Mul_e0 (K : Nat) : Env := ⟨tt, [(65, math_bits_Mul64_o K)], [], [], eqs⟩
theorem math_bits_Mul_t0 (K : Nat) : EnvT Try.prog (math_bits_Mul_e0 K) := envT_of tt_ok eqs_ok ⟨math_bits_Mul64_ok K, trivial⟩
theorem math_bits_Mul_i0 (K : Nat) : EnvI Try.prog (math_bits_Mul_e0 K) := envI_of (es := []) trivial trivial
noncomputable def math_bits_Mul_h : Sh := ⟨2, [(0, .sc (.i .u64)), (1, .sc (.i .u64))], [], []⟩
noncomputable def math_bits_Mul_r : Sh := ⟨2, [(0, .sc (.i .u64)), (1, .sc (.i .u64))], [], []⟩
noncomputable def math_bits_Mul_g (K : Nat) (x_0 : Int) (y_1 : Int) : Option (Int × Int × Unit) :=
  ((math_bits_Mul64_g K x_0 y_1).bind fun q1 => (some (q1.1, q1.2.1, ())))
noncomputable def math_bits_Mul_o (K : Nat) : FO := fnFO math_bits_Mul_h math_bits_Mul_r fun t => math_bits_Mul_g K t.1 t.2.1
theorem math_bits_Mul_q (K : Nat) (t : math_bits_Mul_h.T) : exFn (math_bits_Mul_e0 K) (hdl (math_bits_Mul_e0 K) 0) [56] Try.f56 (slVals (math_bits_Mul_h.put t).fr.sl) ⟨⟨0, []⟩, [], (math_bits_Mul_h.put t).mem⟩ (takeRes math_bits_Mul_r) = math_bits_Mul_g K t.1 t.2.1 := by kernel_rfl
theorem math_bits_Mul_ok (K : Nat) : FOok Try.prog 56 (math_bits_Mul_o K) :=
  fn_rule (math_bits_Mul_t0 K) (math_bits_Mul_i0 K) (draws (math_bits_Mul_t0 K)) 0 Try.func56 (fnB_ok Try.func56 (by kernel_rfl)) rfl rfl (allOwn_ok false (by kernel_rfl)) rfl (allOwn_ok true (by kernel_rfl)) (fun t => math_bits_Mul_q K t)
/-! math_bits_Sub64 -/
theorem math_bits_Sub64_x : ExtOk Try.prog 69 subRow := ⟨Try.f69, Try.func69, by kernel_rfl, by kernel_rfl, by kernel_rfl, by kernel_rfl⟩
noncomputable def math_bits_Sub64_o (K : Nat) : FO := extFO subV
theorem math_bits_Sub64_ok (K : Nat) : FOok Try.prog 69 (math_bits_Sub64_o K) := sub_ok math_bits_Sub64_x
/-! math_bits_Sub -/
noncomputable def math_bits_Sub_e0 (K : Nat) : Env := ⟨tt, [(69, math_bits_Sub64_o K)], [], [], eqs⟩
theorem math_bits_Sub_t0 (K : Nat) : EnvT Try.prog (math_bits_Sub_e0 K) := envT_of tt_ok eqs_ok ⟨math_bits_Sub64_ok K, trivial⟩
theorem math_bits_Sub_i0 (K : Nat) : EnvI Try.prog (math_bits_Sub_e0 K) := envI_of (es := []) trivial trivial
noncomputable def math_bits_Sub_h : Sh := ⟨3, [(0, .sc (.i .u64)), (1, .sc (.i .u64)), (2, .sc (.i .u64))], [], []⟩
noncomputable def math_bits_Sub_r : Sh := ⟨2, [(0, .sc (.i .u64)), (1, .sc (.i .u64))], [], []⟩
noncomputable def math_bits_Sub_g (K : Nat) (x_0 : Int) (y_1 : Int) (borrow_2 : Int) : Option (Int × Int × Unit) :=
  (bif (decide (borrow_2 ≤ 1)) then (some ((Int.ofNat (((Int.toNat x_0) + 18446744073709551616 - (Int.toNat y_1) - (Int.toNat borrow_2)) % 18446744073709551616)), (Int.ofNat (bif Nat.blt (Int.toNat x_0) ((Int.toNat y_1) + (Int.toNat borrow_2)) then 1 else 0)), ())) else none)
noncomputable def math_bits_Sub_o (K : Nat) : FO := fnFO math_bits_Sub_h math_bits_Sub_r fun t => math_bits_Sub_g K t.1 t.2.1 t.2.2.1
theorem math_bits_Sub_q (K : Nat) (t : math_bits_Sub_h.T) : exFn (math_bits_Sub_e0 K) (hdl (math_bits_Sub_e0 K) 0) [66] Try.f66 (slVals (math_bits_Sub_h.put t).fr.sl) ⟨⟨0, []⟩, [], (math_bits_Sub_h.put t).mem⟩ (takeRes math_bits_Sub_r) = math_bits_Sub_g K t.1 t.2.1 t.2.2.1 := by kernel_rfl
theorem math_bits_Sub_ok (K : Nat) : FOok Try.prog 66 (math_bits_Sub_o K) :=
  fn_rule (math_bits_Sub_t0 K) (math_bits_Sub_i0 K) (draws (math_bits_Sub_t0 K)) 0 Try.func66 (fnB_ok Try.func66 (by kernel_rfl)) rfl rfl (allOwn_ok false (by kernel_rfl)) rfl (allOwn_ok true (by kernel_rfl)) (fun t => math_bits_Sub_q K t)
/-! wide_Number_minus -/
noncomputable def wide_Number_minus_e0 (K : Nat) : Env := ⟨tt, [(66, math_bits_Sub_o K)], [], [], eqs⟩
theorem wide_Number_minus_t0 (K : Nat) : EnvT Try.prog (wide_Number_minus_e0 K) := envT_of tt_ok eqs_ok ⟨math_bits_Sub_ok K, trivial⟩
theorem wide_Number_minus_i0 (K : Nat) : EnvI Try.prog (wide_Number_minus_e0 K) := envI_of (es := []) trivial trivial
noncomputable def wide_Number_minus_h : Sh := ⟨1, [(0, .ag [.i .i64, .i .u64])], [], []⟩
noncomputable def wide_Number_minus_r : Sh := ⟨1, [(0, .ag [.i .i64, .i .u64])], [], []⟩
noncomputable def wide_Number_minus_g (K : Nat) (n_0_0 : Int) (n_0_1 : Int) : Option (Int × Int × Unit) :=
  ((math_bits_Sub_g K 0 n_0_1 0).bind fun q1 => ((math_bits_Sub_g K 0 (wu64 (n_0_0)) q1.2.1).bind fun q2 => (some ((wi64 (q2.1)), q1.1, ()))))
noncomputable def wide_Number_minus_o (K : Nat) : FO := fnFO wide_Number_minus_h wide_Number_minus_r fun t => wide_Number_minus_g K t.1 t.2.1
theorem wide_Number_minus_q (K : Nat) (t : wide_Number_minus_h.T) : exFn (wide_Number_minus_e0 K) (hdl (wide_Number_minus_e0 K) 0) [58] Try.f58 (slVals (wide_Number_minus_h.put t).fr.sl) ⟨⟨0, []⟩, [], (wide_Number_minus_h.put t).mem⟩ (takeRes wide_Number_minus_r) = wide_Number_minus_g K t.1 t.2.1 := by kernel_rfl
theorem wide_Number_minus_ok (K : Nat) : FOok Try.prog 58 (wide_Number_minus_o K) :=
  fn_rule (wide_Number_minus_t0 K) (wide_Number_minus_i0 K) (draws (wide_Number_minus_t0 K)) 0 Try.func58 (fnB_ok Try.func58 (by kernel_rfl)) rfl rfl (allOwn_ok false (by kernel_rfl)) rfl (allOwn_ok true (by kernel_rfl)) (fun t => wide_Number_minus_q K t)
/-! wide_Mul -/
noncomputable def wide_Mul_e0 (K : Nat) : Env := ⟨tt, [(57, wide_size_o K), (56, math_bits_Mul_o K), (58, wide_Number_minus_o K)], [], [], eqs⟩
theorem wide_Mul_t0 (K : Nat) : EnvT Try.prog (wide_Mul_e0 K) := envT_of tt_ok eqs_ok ⟨wide_size_ok K, math_bits_Mul_ok K, wide_Number_minus_ok K, trivial⟩
theorem wide_Mul_i0 (K : Nat) : EnvI Try.prog (wide_Mul_e0 K) := envI_of (es := []) trivial trivial
noncomputable def wide_Mul_h : Sh := ⟨2, [(0, .sc (.i .i64)), (1, .sc (.i .i64))], [], []⟩
noncomputable def wide_Mul_r : Sh := ⟨1, [(0, .ag [.i .i64, .i .u64])], [], []⟩
noncomputable def wide_Mul_g (K : Nat) (a_0 : Int) (b_1 : Int) : Option (Int × Int × Unit) :=
  ((wide_size_g K a_0).bind fun q1 => ((wide_size_g K b_1).bind fun q2 => ((math_bits_Mul_g K q1.1 q2.1).bind fun q3 => (bif (!((decide (a_0 < 0)) == (decide (b_1 < 0)))) then ((wide_Number_minus_g K (wi64 (q3.1)) q3.2.1).bind fun q4 => (some (q4.1, q4.2.1, ()))) else (some ((wi64 (q3.1)), q3.2.1, ()))))))
noncomputable def wide_Mul_o (K : Nat) : FO := fnFO wide_Mul_h wide_Mul_r fun t => wide_Mul_g K t.1 t.2.1
theorem wide_Mul_q (K : Nat) (t : wide_Mul_h.T) : exFn (wide_Mul_e0 K) (hdl (wide_Mul_e0 K) 0) [46] Try.f46 (slVals (wide_Mul_h.put t).fr.sl) ⟨⟨0, []⟩, [], (wide_Mul_h.put t).mem⟩ (takeRes wide_Mul_r) = wide_Mul_g K t.1 t.2.1 := by kernel_rfl
theorem wide_Mul_ok (K : Nat) : FOok Try.prog 46 (wide_Mul_o K) :=
  fn_rule (wide_Mul_t0 K) (wide_Mul_i0 K) (draws (wide_Mul_t0 K)) 0 Try.func46 (fnB_ok Try.func46 (by kernel_rfl)) rfl rfl (allOwn_ok false (by kernel_rfl)) rfl (allOwn_ok true (by kernel_rfl)) (fun t => wide_Mul_q K t)
/-! math_bits_Len64 -/
noncomputable def math_bits_Len64_e0 (K : Nat) : Env := ⟨tt, [], [], [], eqs⟩
theorem math_bits_Len64_t0 (K : Nat) : EnvT Try.prog (math_bits_Len64_e0 K) := envT_of tt_ok eqs_ok trivial
theorem math_bits_Len64_i0 (K : Nat) : EnvI Try.prog (math_bits_Len64_e0 K) := envI_of (es := []) trivial trivial
noncomputable def math_bits_Len64_h : Sh := ⟨1, [(0, .sc (.i .u64))], [], []⟩
noncomputable def math_bits_Len64_r : Sh := ⟨1, [(0, .sc (.i .i64))], [], []⟩
noncomputable def math_bits_Len64_g (K : Nat) (x_0 : Int) : Option (Int × Unit) :=
  (bif (decide (x_0 ≥ 4294967296)) then (bif (decide ((shR .u64 x_0 32) ≥ 65536)) then (bif (decide ((shR .u64 (shR .u64 x_0 32) 16) ≥ 256)) then (bif ((decide (0 ≤ (wu8 ((shR .u64 (shR .u64 (shR .u64 x_0 32) 16) 8))))) && (decide ((wu8 ((shR .u64 (shR .u64 (shR .u64 x_0 32) 16) 8))) < 256))) then (some ((wi64 (56 + (wi64 ((((tab0.getD (Int.toNat (wu8 ((shR .u64 (shR .u64 (shR .u64 x_0 32) 16) 8)))) 0).toNat : Nat) : Int))))), ())) else none) else (bif ((decide (0 ≤ (wu8 ((shR .u64 (shR .u64 x_0 32) 16))))) && (decide ((wu8 ((shR .u64 (shR .u64 x_0 32) 16))) < 256))) then (some ((wi64 (48 + (wi64 ((((tab0.getD (Int.toNat (wu8 ((shR .u64 (shR .u64 x_0 32) 16)))) 0).toNat : Nat) : Int))))), ())) else none)) else (bif (decide ((shR .u64 x_0 32) ≥ 256)) then (bif ((decide (0 ≤ (wu8 ((shR .u64 (shR .u64 x_0 32) 8))))) && (decide ((wu8 ((shR .u64 (shR .u64 x_0 32) 8))) < 256))) then (some ((wi64 (40 + (wi64 ((((tab0.getD (Int.toNat (wu8 ((shR .u64 (shR .u64 x_0 32) 8)))) 0).toNat : Nat) : Int))))), ())) else none) else (bif ((decide (0 ≤ (wu8 ((shR .u64 x_0 32))))) && (decide ((wu8 ((shR .u64 x_0 32))) < 256))) then (some ((wi64 (32 + (wi64 ((((tab0.getD (Int.toNat (wu8 ((shR .u64 x_0 32)))) 0).toNat : Nat) : Int))))), ())) else none))) else (bif (decide (x_0 ≥ 65536)) then (bif (decide ((shR .u64 x_0 16) ≥ 256)) then (bif ((decide (0 ≤ (wu8 ((shR .u64 (shR .u64 x_0 16) 8))))) && (decide ((wu8 ((shR .u64 (shR .u64 x_0 16) 8))) < 256))) then (some ((wi64 (24 + (wi64 ((((tab0.getD (Int.toNat (wu8 ((shR .u64 (shR .u64 x_0 16) 8)))) 0).toNat : Nat) : Int))))), ())) else none) else (bif ((decide (0 ≤ (wu8 ((shR .u64 x_0 16))))) && (decide ((wu8 ((shR .u64 x_0 16))) < 256))) then (some ((wi64 (16 + (wi64 ((((tab0.getD (Int.toNat (wu8 ((shR .u64 x_0 16)))) 0).toNat : Nat) : Int))))), ())) else none)) else (bif (decide (x_0 ≥ 256)) then (bif ((decide (0 ≤ (wu8 ((shR .u64 x_0 8))))) && (decide ((wu8 ((shR .u64 x_0 8))) < 256))) then (some ((wi64 (8 + (wi64 ((((tab0.getD (Int.toNat (wu8 ((shR .u64 x_0 8)))) 0).toNat : Nat) : Int))))), ())) else none) else (bif ((decide (0 ≤ (wu8 (x_0)))) && (decide ((wu8 (x_0)) < 256))) then (some ((wi64 (0 + (wi64 ((((tab0.getD (Int.toNat (wu8 (x_0))) 0).toNat : Nat) : Int))))), ())) else none))))
noncomputable def math_bits_Len64_o (K : Nat) : FO := fnFO math_bits_Len64_h math_bits_Len64_r fun t => math_bits_Len64_g K t.1
theorem math_bits_Len64_q (K : Nat) (t : math_bits_Len64_h.T) : exFn (math_bits_Len64_e0 K) (hdl (math_bits_Len64_e0 K) 0) [73] Try.f73 (slVals (math_bits_Len64_h.put t).fr.sl) ⟨⟨0, []⟩, [], (math_bits_Len64_h.put t).mem⟩ (takeRes math_bits_Len64_r) = math_bits_Len64_g K t.1 := by kernel_rfl
theorem math_bits_Len64_ok (K : Nat) : FOok Try.prog 73 (math_bits_Len64_o K) :=
  fn_rule (math_bits_Len64_t0 K) (math_bits_Len64_i0 K) (draws (math_bits_Len64_t0 K)) 0 Try.func73 (fnB_ok Try.func73 (by kernel_rfl)) rfl rfl (allOwn_ok false (by kernel_rfl)) rfl (allOwn_ok true (by kernel_rfl)) (fun t => math_bits_Len64_q K t)
/-! math_bits_LeadingZeros64 -/
noncomputable def math_bits_LeadingZeros64_e0 (K : Nat) : Env := ⟨tt, [(73, math_bits_Len64_o K)], [], [], eqs⟩
theorem math_bits_LeadingZeros64_t0 (K : Nat) : EnvT Try.prog (math_bits_LeadingZeros64_e0 K) := envT_of tt_ok eqs_ok ⟨math_bits_Len64_ok K, trivial⟩
theorem math_bits_LeadingZeros64_i0 (K : Nat) : EnvI Try.prog (math_bits_LeadingZeros64_e0 K) := envI_of (es := []) trivial trivial
noncomputable def math_bits_LeadingZeros64_h : Sh := ⟨1, [(0, .sc (.i .u64))], [], []⟩
noncomputable def math_bits_LeadingZeros64_r : Sh := ⟨1, [(0, .sc (.i .i64))], [], []⟩
noncomputable def math_bits_LeadingZeros64_g (K : Nat) (x_0 : Int) : Option (Int × Unit) :=
  ((math_bits_Len64_g K x_0).bind fun q1 => (some ((wi64 (64 - q1.1)), ())))
noncomputable def math_bits_LeadingZeros64_o (K : Nat) : FO := fnFO math_bits_LeadingZeros64_h math_bits_LeadingZeros64_r fun t => math_bits_LeadingZeros64_g K t.1
theorem math_bits_LeadingZeros64_q (K : Nat) (t : math_bits_LeadingZeros64_h.T) : exFn (math_bits_LeadingZeros64_e0 K) (hdl (math_bits_LeadingZeros64_e0 K) 0) [72] Try.f72 (slVals (math_bits_LeadingZeros64_h.put t).fr.sl) ⟨⟨0, []⟩, [], (math_bits_LeadingZeros64_h.put t).mem⟩ (takeRes math_bits_LeadingZeros64_r) = math_bits_LeadingZeros64_g K t.1 := by kernel_rfl
theorem math_bits_LeadingZeros64_ok (K : Nat) : FOok Try.prog 72 (math_bits_LeadingZeros64_o K) :=
  fn_rule (math_bits_LeadingZeros64_t0 K) (math_bits_LeadingZeros64_i0 K) (draws (math_bits_LeadingZeros64_t0 K)) 0 Try.func72 (fnB_ok Try.func72 (by kernel_rfl)) rfl rfl (allOwn_ok false (by kernel_rfl)) rfl (allOwn_ok true (by kernel_rfl)) (fun t => math_bits_LeadingZeros64_q K t)
/-! math_bits_Div64 -/
noncomputable def math_bits_Div64_e0 (K : Nat) : Env := ⟨tt, [(72, math_bits_LeadingZeros64_o K)], [], [], eqs⟩
theorem math_bits_Div64_t0 (K : Nat) : EnvT Try.prog (math_bits_Div64_e0 K) := envT_of tt_ok eqs_ok ⟨math_bits_LeadingZeros64_ok K, trivial⟩
theorem math_bits_Div64_i0 (K : Nat) : EnvI Try.prog (math_bits_Div64_e0 K) := envI_of (es := []) trivial trivial
noncomputable def math_bits_Div64_l0h : Sh := ⟨135, [(2, .sc (.i .u64)), (8, .sc (.i .u64)), (9, .sc (.i .u64)), (10, .sc (.i .u64)), (11, .sc (.i .u64)), (13, .sc (.i .u64)), (14, .sc (.i .u64)), (15, .sc (.i .u64)), (16, .sc (.i .u64))], [(0, [])], []⟩
noncomputable def math_bits_Div64_l0x0 : Sh := ⟨135, [(2, .sc (.i .u64)), (8, .sc (.i .u64)), (9, .sc (.i .u64)), (10, .sc (.i .u64)), (11, .sc (.i .u64)), (13, .sc (.i .u64)), (14, .sc (.i .u64)), (15, .sc (.i .u64))], [(0, [])], []⟩
noncomputable def math_bits_Div64_l0O : OutI (Int × Int × Int × Int × Int × Int × Int × Int × Unit) := (OutI.exit 0 math_bits_Div64_l0x0)
noncomputable def math_bits_Div64_l0r (K : Nat) (rec : Int → Int → Int → Int → Int → Int → Int → Int → Int → Option (Int × Int × Int × Int × Int × Int × Int × Int × Unit)) (y_2 : Int) (s_8 : Int) (yn1_9 : Int) (yn0_10 : Int) (un32_11 : Int) (un1_13 : Int) (un0_14 : Int) (q1_15 : Int) (rhat_16 : Int) : Option (Int × Int × Int × Int × Int × Int × Int × Int × Unit) :=
  (bif (decide (q1_15 ≥ 4294967296)) then (bif (decide ((wu64 (rhat_16 + yn1_9)) ≥ 4294967296)) then (some (y_2, s_8, yn1_9, yn0_10, un32_11, un1_13, un0_14, (wu64 (q1_15 - 1)), ())) else (rec y_2 s_8 yn1_9 yn0_10 un32_11 un1_13 un0_14 (wu64 (q1_15 - 1)) (wu64 (rhat_16 + yn1_9)))) else (bif (decide ((wu64 (q1_15 * yn0_10)) > (wu64 ((wu64 (4294967296 * rhat_16)) + un1_13)))) then (bif (decide ((wu64 (rhat_16 + yn1_9)) ≥ 4294967296)) then (some (y_2, s_8, yn1_9, yn0_10, un32_11, un1_13, un0_14, (wu64 (q1_15 - 1)), ())) else (rec y_2 s_8 yn1_9 yn0_10 un32_11 un1_13 un0_14 (wu64 (q1_15 - 1)) (wu64 (rhat_16 + yn1_9)))) else (some (y_2, s_8, yn1_9, yn0_10, un32_11, un1_13, un0_14, q1_15, ()))))
noncomputable def math_bits_Div64_l0 (K n : Nat) : Int → Int → Int → Int → Int → Int → Int → Int → Int → Option (Int × Int × Int × Int × Int × Int × Int × Int × Unit) := Nat.rec (motive := fun _ => Int → Int → Int → Int → Int → Int → Int → Int → Int → Option (Int × Int × Int × Int × Int × Int × Int × Int × Unit)) (fun _ _ _ _ _ _ _ _ _ => none) (fun _ ih => math_bits_Div64_l0r K ih) n
noncomputable def math_bits_Div64_l0u (K n : Nat) (t : math_bits_Div64_l0h.T) : Option (Int × Int × Int × Int × Int × Int × Int × Int × Unit) := math_bits_Div64_l0 K n t.1 t.2.1 t.2.2.1 t.2.2.2.1 t.2.2.2.2.1 t.2.2.2.2.2.1 t.2.2.2.2.2.2.1 t.2.2.2.2.2.2.2.1 t.2.2.2.2.2.2.2.2.1
noncomputable def math_bits_Div64_l0o (K : Nat) : LO := loopLO math_bits_Div64_l0h math_bits_Div64_l0O fun t => math_bits_Div64_l0u K K t
noncomputable def math_bits_Div64_l0C : Code := bodyOf Try.f71
noncomputable def math_bits_Div64_l0B : Code := (findLoops 17 (loopsIn math_bits_Div64_l0C)).headD .skip
theorem math_bits_Div64_l0F : findLoops 17 (loopsIn math_bits_Div64_l0C) = [math_bits_Div64_l0B] := by kernel_rfl
theorem math_bits_Div64_l0q (K n : Nat) (t : math_bits_Div64_l0h.T) : exC (math_bits_Div64_e0 K) (hdl (math_bits_Div64_e0 K) 0) (71 :: []) math_bits_Div64_l0B (math_bits_Div64_l0h.put t) (fun s => (math_bits_Div64_l0h.take s).bind fun t => math_bits_Div64_l0u K n t) (fun id s => math_bits_Div64_l0O.get (some id) s) (fun s => math_bits_Div64_l0O.get none s) = math_bits_Div64_l0u K (n + 1) t := by kernel_rfl
noncomputable def math_bits_Div64_l0E (K : Nat) : LoopE Try.prog := ⟨[17, 71], math_bits_Div64_l0o K, Try.f71, math_bits_Div64_l0C, math_bits_Div64_l0B, ⟨17, 71, [], rfl, Try.func71, by kernel_rfl, math_bits_Div64_l0F⟩,
  loop_rule (F := fun n t => math_bits_Div64_l0u K n t) (math_bits_Div64_t0 K) (math_bits_Div64_i0 K) (draws (math_bits_Div64_t0 K)) 0 Try.func71 (c := math_bits_Div64_l0C) (by kernel_rfl) (body_in math_bits_Div64_l0F) (ctx' := []) (h := math_bits_Div64_l0h) (O := math_bits_Div64_l0O) (fun _ => rfl) (fun m t => math_bits_Div64_l0q K m t) K⟩
noncomputable def math_bits_Div64_e1 (K : Nat) : Env := ⟨tt, [(72, math_bits_LeadingZeros64_o K)], [], [([17, 71], math_bits_Div64_l0o K)], eqs⟩
theorem math_bits_Div64_t1 (K : Nat) : EnvT Try.prog (math_bits_Div64_e1 K) := envT_of tt_ok eqs_ok ⟨math_bits_LeadingZeros64_ok K, trivial⟩
theorem math_bits_Div64_i1 (K : Nat) : EnvI Try.prog (math_bits_Div64_e1 K) := envI_of (es := [math_bits_Div64_l0E K]) trivial ⟨⟨rfl, rfl⟩, trivial⟩
noncomputable def math_bits_Div64_l1h : Sh := ⟨135, [(2, .sc (.i .u64)), (8, .sc (.i .u64)), (9, .sc (.i .u64)), (10, .sc (.i .u64)), (14, .sc (.i .u64)), (15, .sc (.i .u64)), (16, .sc (.i .u64)), (17, .sc (.i .u64)), (18, .sc (.i .u64))], [(0, [])], []⟩
noncomputable def math_bits_Div64_l1x0 : Sh := ⟨135, [(2, .sc (.i .u64)), (8, .sc (.i .u64)), (14, .sc (.i .u64)), (15, .sc (.i .u64)), (17, .sc (.i .u64)), (18, .sc (.i .u64))], [(0, [])], []⟩
noncomputable def math_bits_Div64_l1O : OutI (Int × Int × Int × Int × Int × Int × Unit) := (OutI.exit 2 math_bits_Div64_l1x0)
noncomputable def math_bits_Div64_l1r (K : Nat) (rec : Int → Int → Int → Int → Int → Int → Int → Int → Int → Option (Int × Int × Int × Int × Int × Int × Unit)) (y_2 : Int) (s_8 : Int) (yn1_9 : Int) (yn0_10 : Int) (un0_14 : Int) (q1_15 : Int) (rhat_16 : Int) (un21_17 : Int) (q0_18 : Int) : Option (Int × Int × Int × Int × Int × Int × Unit) :=
  (bif (decide (q0_18 ≥ 4294967296)) then (bif (decide ((wu64 (rhat_16 + yn1_9)) ≥ 4294967296)) then (some (y_2, s_8, un0_14, q1_15, un21_17, (wu64 (q0_18 - 1)), ())) else (rec y_2 s_8 yn1_9 yn0_10 un0_14 q1_15 (wu64 (rhat_16 + yn1_9)) un21_17 (wu64 (q0_18 - 1)))) else (bif (decide ((wu64 (q0_18 * yn0_10)) > (wu64 ((wu64 (4294967296 * rhat_16)) + un0_14)))) then (bif (decide ((wu64 (rhat_16 + yn1_9)) ≥ 4294967296)) then (some (y_2, s_8, un0_14, q1_15, un21_17, (wu64 (q0_18 - 1)), ())) else (rec y_2 s_8 yn1_9 yn0_10 un0_14 q1_15 (wu64 (rhat_16 + yn1_9)) un21_17 (wu64 (q0_18 - 1)))) else (some (y_2, s_8, un0_14, q1_15, un21_17, q0_18, ()))))
noncomputable def math_bits_Div64_l1 (K n : Nat) : Int → Int → Int → Int → Int → Int → Int → Int → Int → Option (Int × Int × Int × Int × Int × Int × Unit) := Nat.rec (motive := fun _ => Int → Int → Int → Int → Int → Int → Int → Int → Int → Option (Int × Int × Int × Int × Int × Int × Unit)) (fun _ _ _ _ _ _ _ _ _ => none) (fun _ ih => math_bits_Div64_l1r K ih) n
noncomputable def math_bits_Div64_l1u (K n : Nat) (t : math_bits_Div64_l1h.T) : Option (Int × Int × Int × Int × Int × Int × Unit) := math_bits_Div64_l1 K n t.1 t.2.1 t.2.2.1 t.2.2.2.1 t.2.2.2.2.1 t.2.2.2.2.2.1 t.2.2.2.2.2.2.1 t.2.2.2.2.2.2.2.1 t.2.2.2.2.2.2.2.2.1
noncomputable def math_bits_Div64_l1o (K : Nat) : LO := loopLO math_bits_Div64_l1h math_bits_Div64_l1O fun t => math_bits_Div64_l1u K K t
noncomputable def math_bits_Div64_l1C : Code := bodyOf Try.f71
noncomputable def math_bits_Div64_l1B : Code := (findLoops 24 (loopsIn math_bits_Div64_l1C)).headD .skip
theorem math_bits_Div64_l1F : findLoops 24 (loopsIn math_bits_Div64_l1C) = [math_bits_Div64_l1B] := by kernel_rfl
theorem math_bits_Div64_l1q (K n : Nat) (t : math_bits_Div64_l1h.T) : exC (math_bits_Div64_e1 K) (hdl (math_bits_Div64_e1 K) 0) (71 :: []) math_bits_Div64_l1B (math_bits_Div64_l1h.put t) (fun s => (math_bits_Div64_l1h.take s).bind fun t => math_bits_Div64_l1u K n t) (fun id s => math_bits_Div64_l1O.get (some id) s) (fun s => math_bits_Div64_l1O.get none s) = math_bits_Div64_l1u K (n + 1) t := by kernel_rfl
noncomputable def math_bits_Div64_l1E (K : Nat) : LoopE Try.prog := ⟨[24, 71], math_bits_Div64_l1o K, Try.f71, math_bits_Div64_l1C, math_bits_Div64_l1B, ⟨24, 71, [], rfl, Try.func71, by kernel_rfl, math_bits_Div64_l1F⟩,
  loop_rule (F := fun n t => math_bits_Div64_l1u K n t) (math_bits_Div64_t1 K) (math_bits_Div64_i1 K) (draws (math_bits_Div64_t1 K)) 0 Try.func71 (c := math_bits_Div64_l1C) (by kernel_rfl) (body_in math_bits_Div64_l1F) (ctx' := []) (h := math_bits_Div64_l1h) (O := math_bits_Div64_l1O) (fun _ => rfl) (fun m t => math_bits_Div64_l1q K m t) K⟩
noncomputable def math_bits_Div64_e2 (K : Nat) : Env := ⟨tt, [(72, math_bits_LeadingZeros64_o K)], [], [([17, 71], math_bits_Div64_l0o K), ([24, 71], math_bits_Div64_l1o K)], eqs⟩
theorem math_bits_Div64_t2 (K : Nat) : EnvT Try.prog (math_bits_Div64_e2 K) := envT_of tt_ok eqs_ok ⟨math_bits_LeadingZeros64_ok K, trivial⟩
theorem math_bits_Div64_i2 (K : Nat) : EnvI Try.prog (math_bits_Div64_e2 K) := envI_of (es := [math_bits_Div64_l0E K, math_bits_Div64_l1E K]) trivial ⟨⟨rfl, rfl⟩, ⟨rfl, rfl⟩, trivial⟩
noncomputable def math_bits_Div64_h : Sh := ⟨3, [(0, .sc (.i .u64)), (1, .sc (.i .u64)), (2, .sc (.i .u64))], [], []⟩
noncomputable def math_bits_Div64_r : Sh := ⟨2, [(0, .sc (.i .u64)), (1, .sc (.i .u64))], [], []⟩
noncomputable def math_bits_Div64_g (K : Nat) (hi_0 : Int) (lo_1 : Int) (y_2 : Int) : Option (Int × Int × Unit) :=
  (bif (y_2 == 0) then none else (bif (decide (y_2 ≤ hi_0)) then none else (bif (hi_0 == 0) then (bif (y_2 == 0) then none else (bif (y_2 == 0) then none else (some ((wu64 (Int.tdiv lo_1 y_2)), (Int.tmod lo_1 y_2), ())))) else ((math_bits_LeadingZeros64_g K y_2).bind fun q1 => (bif (decide ((wu64 (q1.1)) < 0)) then none else (bif (decide ((wu64 (q1.1)) < 0)) then none else (bif (decide ((wu64 (64 - (wu64 (q1.1)))) < 0)) then none else (bif (decide ((wu64 (q1.1)) < 0)) then none else (bif ((shR .u64 (shL .u64 y_2 (wu64 (q1.1))) 32) == 0) then none else ((math_bits_Div64_l0 K K (shL .u64 y_2 (wu64 (q1.1))) (wu64 (q1.1)) (shR .u64 (shL .u64 y_2 (wu64 (q1.1))) 32) (bitAnd .u64 (shL .u64 y_2 (wu64 (q1.1))) 4294967295) (bitOr .u64 (shL .u64 hi_0 (wu64 (q1.1))) (shR .u64 lo_1 (wu64 (64 - (wu64 (q1.1)))))) (shR .u64 (shL .u64 lo_1 (wu64 (q1.1))) 32) (bitAnd .u64 (shL .u64 lo_1 (wu64 (q1.1))) 4294967295) (wu64 (Int.tdiv (bitOr .u64 (shL .u64 hi_0 (wu64 (q1.1))) (shR .u64 lo_1 (wu64 (64 - (wu64 (q1.1)))))) (shR .u64 (shL .u64 y_2 (wu64 (q1.1))) 32))) (wu64 ((bitOr .u64 (shL .u64 hi_0 (wu64 (q1.1))) (shR .u64 lo_1 (wu64 (64 - (wu64 (q1.1)))))) - (wu64 ((wu64 (Int.tdiv (bitOr .u64 (shL .u64 hi_0 (wu64 (q1.1))) (shR .u64 lo_1 (wu64 (64 - (wu64 (q1.1)))))) (shR .u64 (shL .u64 y_2 (wu64 (q1.1))) 32))) * (shR .u64 (shL .u64 y_2 (wu64 (q1.1))) 32)))))).bind fun q2 => (bif (q2.2.2.1 == 0) then none else ((math_bits_Div64_l1 K K q2.1 q2.2.1 q2.2.2.1 q2.2.2.2.1 q2.2.2.2.2.2.2.1 q2.2.2.2.2.2.2.2.1 (wu64 ((wu64 ((wu64 ((wu64 (q2.2.2.2.2.1 * 4294967296)) + q2.2.2.2.2.2.1)) - (wu64 (q2.2.2.2.2.2.2.2.1 * q2.1)))) - (wu64 ((wu64 (Int.tdiv (wu64 ((wu64 ((wu64 (q2.2.2.2.2.1 * 4294967296)) + q2.2.2.2.2.2.1)) - (wu64 (q2.2.2.2.2.2.2.2.1 * q2.1)))) q2.2.2.1)) * q2.2.2.1)))) (wu64 ((wu64 ((wu64 (q2.2.2.2.2.1 * 4294967296)) + q2.2.2.2.2.2.1)) - (wu64 (q2.2.2.2.2.2.2.2.1 * q2.1)))) (wu64 (Int.tdiv (wu64 ((wu64 ((wu64 (q2.2.2.2.2.1 * 4294967296)) + q2.2.2.2.2.2.1)) - (wu64 (q2.2.2.2.2.2.2.2.1 * q2.1)))) q2.2.2.1))).bind fun q3 => (bif (decide (q3.2.1 < 0)) then none else (some ((wu64 ((wu64 (q3.2.2.2.1 * 4294967296)) + q3.2.2.2.2.2.1)), (shR .u64 (wu64 ((wu64 ((wu64 (q3.2.2.2.2.1 * 4294967296)) + q3.2.2.1)) - (wu64 (q3.2.2.2.2.2.1 * q3.1)))) q3.2.1), ())))))))))))))))
noncomputable def math_bits_Div64_o (K : Nat) : FO := fnFO math_bits_Div64_h math_bits_Div64_r fun t => math_bits_Div64_g K t.1 t.2.1 t.2.2.1
theorem math_bits_Div64_q (K : Nat) (t : math_bits_Div64_h.T) : exFn (math_bits_Div64_e2 K) (hdl (math_bits_Div64_e2 K) 0) [71] Try.f71 (slVals (math_bits_Div64_h.put t).fr.sl) ⟨⟨0, []⟩, [], (math_bits_Div64_h.put t).mem⟩ (takeRes math_bits_Div64_r) = math_bits_Div64_g K t.1 t.2.1 t.2.2.1 := by kernel_rfl
theorem math_bits_Div64_ok (K : Nat) : FOok Try.prog 71 (math_bits_Div64_o K) :=
  fn_rule (math_bits_Div64_t2 K) (math_bits_Div64_i2 K) (draws (math_bits_Div64_t2 K)) 0 Try.func71 (fnB_ok Try.func71 (by kernel_rfl)) rfl rfl (allOwn_ok false (by kernel_rfl)) rfl (allOwn_ok true (by kernel_rfl)) (fun t => math_bits_Div64_q K t)
/-! math_bits_Div -/
noncomputable def math_bits_Div_e0 (K : Nat) : Env := ⟨tt, [(71, math_bits_Div64_o K)], [], [], eqs⟩
theorem math_bits_Div_t0 (K : Nat) : EnvT Try.prog (math_bits_Div_e0 K) := envT_of tt_ok eqs_ok ⟨math_bits_Div64_ok K, trivial⟩
theorem math_bits_Div_i0 (K : Nat) : EnvI Try.prog (math_bits_Div_e0 K) := envI_of (es := []) trivial trivial
noncomputable def math_bits_Div_h : Sh := ⟨3, [(0, .sc (.i .u64)), (1, .sc (.i .u64)), (2, .sc (.i .u64))], [], []⟩
noncomputable def math_bits_Div_r : Sh := ⟨2, [(0, .sc (.i .u64)), (1, .sc (.i .u64))], [], []⟩
noncomputable def math_bits_Div_g (K : Nat) (hi_0 : Int) (lo_1 : Int) (y_2 : Int) : Option (Int × Int × Unit) :=
  ((math_bits_Div64_g K hi_0 lo_1 y_2).bind fun q1 => (some (q1.1, q1.2.1, ())))
noncomputable def math_bits_Div_o (K : Nat) : FO := fnFO math_bits_Div_h math_bits_Div_r fun t => math_bits_Div_g K t.1 t.2.1 t.2.2.1
theorem math_bits_Div_q (K : Nat) (t : math_bits_Div_h.T) : exFn (math_bits_Div_e0 K) (hdl (math_bits_Div_e0 K) 0) [67] Try.f67 (slVals (math_bits_Div_h.put t).fr.sl) ⟨⟨0, []⟩, [], (math_bits_Div_h.put t).mem⟩ (takeRes math_bits_Div_r) = math_bits_Div_g K t.1 t.2.1 t.2.2.1 := by kernel_rfl
theorem math_bits_Div_ok (K : Nat) : FOok Try.prog 67 (math_bits_Div_o K) :=
  fn_rule (math_bits_Div_t0 K) (math_bits_Div_i0 K) (draws (math_bits_Div_t0 K)) 0 Try.func67 (fnB_ok Try.func67 (by kernel_rfl)) rfl rfl (allOwn_ok false (by kernel_rfl)) rfl (allOwn_ok true (by kernel_rfl)) (fun t => math_bits_Div_q K t)
/-! wide_Number_by -/
noncomputable def wide_Number_by_e0 (K : Nat) : Env := ⟨tt, [(58, wide_Number_minus_o K), (67, math_bits_Div_o K)], [], [], eqs⟩
theorem wide_Number_by_t0 (K : Nat) : EnvT Try.prog (wide_Number_by_e0 K) := envT_of tt_ok eqs_ok ⟨wide_Number_minus_ok K, math_bits_Div_ok K, trivial⟩
theorem wide_Number_by_i0 (K : Nat) : EnvI Try.prog (wide_Number_by_e0 K) := envI_of (es := []) trivial trivial
noncomputable def wide_Number_by_h : Sh := ⟨2, [(0, .ag [.i .i64, .i .u64]), (1, .sc (.i .u64))], [], []⟩
noncomputable def wide_Number_by_r : Sh := ⟨3, [(0, .sc (.i .u64)), (1, .sc (.i .u64)), (2, .sc (.b))], [], []⟩
noncomputable def wide_Number_by_g (K : Nat) (n_0_0 : Int) (n_0_1 : Int) (c_1 : Int) : Option (Int × Int × Bool × Unit) :=
  (bif (decide (n_0_0 < 0)) then ((wide_Number_minus_g K n_0_0 n_0_1).bind fun q1 => (bif (decide ((wu64 (q1.1)) ≥ c_1)) then (some (0, 0, false, ())) else ((math_bits_Div_g K (wu64 (q1.1)) q1.2.1 c_1).bind fun q2 => (some (q2.1, q2.2.1, true, ()))))) else (bif (decide ((wu64 (n_0_0)) ≥ c_1)) then (some (0, 0, false, ())) else ((math_bits_Div_g K (wu64 (n_0_0)) n_0_1 c_1).bind fun q3 => (some (q3.1, q3.2.1, true, ())))))
noncomputable def wide_Number_by_o (K : Nat) : FO := fnFO wide_Number_by_h wide_Number_by_r fun t => wide_Number_by_g K t.1 t.2.1 t.2.2.1
theorem wide_Number_by_q (K : Nat) (t : wide_Number_by_h.T) : exFn (wide_Number_by_e0 K) (hdl (wide_Number_by_e0 K) 0) [62] Try.f62 (slVals (wide_Number_by_h.put t).fr.sl) ⟨⟨0, []⟩, [], (wide_Number_by_h.put t).mem⟩ (takeRes wide_Number_by_r) = wide_Number_by_g K t.1 t.2.1 t.2.2.1 := by kernel_rfl
theorem wide_Number_by_ok (K : Nat) : FOok Try.prog 62 (wide_Number_by_o K) :=
  fn_rule (wide_Number_by_t0 K) (wide_Number_by_i0 K) (draws (wide_Number_by_t0 K)) 0 Try.func62 (fnB_ok Try.func62 (by kernel_rfl)) rfl rfl (allOwn_ok false (by kernel_rfl)) rfl (allOwn_ok true (by kernel_rfl)) (fun t => wide_Number_by_q K t)
/-! wide_signed -/
noncomputable def wide_signed_e0 (K : Nat) : Env := ⟨tt, [], [], [], eqs⟩
theorem wide_signed_t0 (K : Nat) : EnvT Try.prog (wide_signed_e0 K) := envT_of tt_ok eqs_ok trivial
theorem wide_signed_i0 (K : Nat) : EnvI Try.prog (wide_signed_e0 K) := envI_of (es := []) trivial trivial
noncomputable def wide_signed_h : Sh := ⟨2, [(0, .sc (.i .u64)), (1, .sc (.b))], [], []⟩
noncomputable def wide_signed_r : Sh := ⟨2, [(0, .sc (.i .i64)), (1, .sc (.b))], [], []⟩
noncomputable def wide_signed_g (K : Nat) (q_0 : Int) (below_1 : Bool) : Option (Int × Bool × Unit) :=
  (bif below_1 then (some ((wi64 ((wu64 (0 - q_0)))), (decide (q_0 ≤ 9223372036854775808)), ())) else (some ((wi64 (q_0)), (decide (q_0 < 9223372036854775808)), ())))
noncomputable def wide_signed_o (K : Nat) : FO := fnFO wide_signed_h wide_signed_r fun t => wide_signed_g K t.1 t.2.1
theorem wide_signed_q (K : Nat) (t : wide_signed_h.T) : exFn (wide_signed_e0 K) (hdl (wide_signed_e0 K) 0) [63] Try.f63 (slVals (wide_signed_h.put t).fr.sl) ⟨⟨0, []⟩, [], (wide_signed_h.put t).mem⟩ (takeRes wide_signed_r) = wide_signed_g K t.1 t.2.1 := by kernel_rfl
theorem wide_signed_ok (K : Nat) : FOok Try.prog 63 (wide_signed_o K) :=
  fn_rule (wide_signed_t0 K) (wide_signed_i0 K) (draws (wide_signed_t0 K)) 0 Try.func63 (fnB_ok Try.func63 (by kernel_rfl)) rfl rfl (allOwn_ok false (by kernel_rfl)) rfl (allOwn_ok true (by kernel_rfl)) (fun t => wide_signed_q K t)
/-! wide_Near -/
noncomputable def wide_Near_e0 (K : Nat) : Env := ⟨tt, [(62, wide_Number_by_o K), (63, wide_signed_o K)], [(54, Try.f54), (55, Try.f55)], [], eqs⟩
theorem wide_Near_t0 (K : Nat) : EnvT Try.prog (wide_Near_e0 K) := envT_of tt_ok eqs_ok ⟨wide_Number_by_ok K, wide_signed_ok K, trivial⟩
theorem wide_Near_i0 (K : Nat) : EnvI Try.prog (wide_Near_e0 K) := envI_of (es := []) ⟨⟨Try.func54, by kernel_rfl⟩, ⟨Try.func55, by kernel_rfl⟩, trivial⟩ trivial
noncomputable def wide_Near_h : Sh := ⟨2, [(0, .ag [.i .i64, .i .u64]), (1, .sc (.i .i64))], [], []⟩
noncomputable def wide_Near_r : Sh := ⟨2, [(0, .sc (.i .i64)), (1, .sc (.i .i64))], [], []⟩
noncomputable def wide_Near_g (K : Nat) (n_0_0 : Int) (n_0_1 : Int) (c_1 : Int) : Option (Int × Int × Unit) :=
  (bif (decide (c_1 < 1)) then (some (0, 2, ())) else ((wide_Number_by_g K n_0_0 n_0_1 (wu64 (c_1))).bind fun q1 => (bif (!q1.2.2.1) then (some (0, 3, ())) else (bif (decide (q1.1 > 9223372036854775808)) then (some (0, 3, ())) else (bif (decide (q1.2.1 ≥ (wu64 ((wu64 (c_1)) - q1.2.1)))) then ((wide_signed_g K (wu64 (q1.1 + 1)) (decide (n_0_0 < 0))).bind fun q2 => (bif (!q2.2.1) then (some (0, 3, ())) else (some (q2.1, 0, ())))) else ((wide_signed_g K q1.1 (decide (n_0_0 < 0))).bind fun q3 => (bif (!q3.2.1) then (some (0, 3, ())) else (some (q3.1, 0, ())))))))))
noncomputable def wide_Near_o (K : Nat) : FO := fnFO wide_Near_h wide_Near_r fun t => wide_Near_g K t.1 t.2.1 t.2.2.1
theorem wide_Near_q (K : Nat) (t : wide_Near_h.T) : exFn (wide_Near_e0 K) (hdl (wide_Near_e0 K) 9) [45] Try.f45 (slVals (wide_Near_h.put t).fr.sl) ⟨⟨0, []⟩, [], (wide_Near_h.put t).mem⟩ (takeRes wide_Near_r) = wide_Near_g K t.1 t.2.1 t.2.2.1 := by kernel_rfl
theorem wide_Near_ok (K : Nat) : FOok Try.prog 45 (wide_Near_o K) :=
  fn_rule (wide_Near_t0 K) (wide_Near_i0 K) (draws (wide_Near_t0 K)) 9 Try.func45 (fnB_ok Try.func45 (by kernel_rfl)) rfl rfl (allOwn_ok false (by kernel_rfl)) rfl (allOwn_ok true (by kernel_rfl)) (fun t => wide_Near_q K t)
/-! wide_MulNear -/
noncomputable def wide_MulNear_e0 (K : Nat) : Env := ⟨tt, [(46, wide_Mul_o K), (45, wide_Near_o K)], [], [], eqs⟩
theorem wide_MulNear_t0 (K : Nat) : EnvT Try.prog (wide_MulNear_e0 K) := envT_of tt_ok eqs_ok ⟨wide_Mul_ok K, wide_Near_ok K, trivial⟩
theorem wide_MulNear_i0 (K : Nat) : EnvI Try.prog (wide_MulNear_e0 K) := envI_of (es := []) trivial trivial
noncomputable def wide_MulNear_h : Sh := ⟨3, [(0, .sc (.i .i64)), (1, .sc (.i .i64)), (2, .sc (.i .i64))], [], []⟩
noncomputable def wide_MulNear_r : Sh := ⟨2, [(0, .sc (.i .i64)), (1, .sc (.i .i64))], [], []⟩
noncomputable def wide_MulNear_g (K : Nat) (a_0 : Int) (b_1 : Int) (c_2 : Int) : Option (Int × Int × Unit) :=
  ((wide_Mul_g K a_0 b_1).bind fun q1 => ((wide_Near_g K q1.1 q1.2.1 c_2).bind fun q2 => (some (q2.1, q2.2.1, ()))))
noncomputable def wide_MulNear_o (K : Nat) : FO := fnFO wide_MulNear_h wide_MulNear_r fun t => wide_MulNear_g K t.1 t.2.1 t.2.2.1
theorem wide_MulNear_q (K : Nat) (t : wide_MulNear_h.T) : exFn (wide_MulNear_e0 K) (hdl (wide_MulNear_e0 K) 0) [29] Try.f29 (slVals (wide_MulNear_h.put t).fr.sl) ⟨⟨0, []⟩, [], (wide_MulNear_h.put t).mem⟩ (takeRes wide_MulNear_r) = wide_MulNear_g K t.1 t.2.1 t.2.2.1 := by kernel_rfl
theorem wide_MulNear_ok (K : Nat) : FOok Try.prog 29 (wide_MulNear_o K) :=
  fn_rule (wide_MulNear_t0 K) (wide_MulNear_i0 K) (draws (wide_MulNear_t0 K)) 0 Try.func29 (fnB_ok Try.func29 (by kernel_rfl)) rfl rfl (allOwn_ok false (by kernel_rfl)) rfl (allOwn_ok true (by kernel_rfl)) (fun t => wide_MulNear_q K t)
/-! fx_Clamp -/
noncomputable def fx_Clamp_e0 (K : Nat) : Env := ⟨tt, [(47, fx_bound_o K), (31, fx_Between_o K)], [], [], eqs⟩
theorem fx_Clamp_t0 (K : Nat) : EnvT Try.prog (fx_Clamp_e0 K) := envT_of tt_ok eqs_ok ⟨fx_bound_ok K, fx_Between_ok K, trivial⟩
theorem fx_Clamp_i0 (K : Nat) : EnvI Try.prog (fx_Clamp_e0 K) := envI_of (es := []) trivial trivial
noncomputable def fx_Clamp_h : Sh := ⟨2, [(0, .sc (.i .i64)), (1, .sc (.i .i64))], [], []⟩
noncomputable def fx_Clamp_r : Sh := ⟨2, [(0, .sc (.i .i64)), (1, .sc (.i .i64))], [], []⟩
noncomputable def fx_Clamp_g (K : Nat) (b_0 : Int) (n_1 : Int) : Option (Int × Int × Unit) :=
  ((fx_bound_g K b_0).bind fun q1 => (bif (q1.1 != 0) then (some (0, q1.1, ())) else ((fx_Between_g K (wi64 (0 - b_0)) b_0 n_1).bind fun q2 => (some (q2.1, 0, ())))))
noncomputable def fx_Clamp_o (K : Nat) : FO := fnFO fx_Clamp_h fx_Clamp_r fun t => fx_Clamp_g K t.1 t.2.1
theorem fx_Clamp_q (K : Nat) (t : fx_Clamp_h.T) : exFn (fx_Clamp_e0 K) (hdl (fx_Clamp_e0 K) 0) [30] Try.f30 (slVals (fx_Clamp_h.put t).fr.sl) ⟨⟨0, []⟩, [], (fx_Clamp_h.put t).mem⟩ (takeRes fx_Clamp_r) = fx_Clamp_g K t.1 t.2.1 := by kernel_rfl
theorem fx_Clamp_ok (K : Nat) : FOok Try.prog 30 (fx_Clamp_o K) :=
  fn_rule (fx_Clamp_t0 K) (fx_Clamp_i0 K) (draws (fx_Clamp_t0 K)) 0 Try.func30 (fnB_ok Try.func30 (by kernel_rfl)) rfl rfl (allOwn_ok false (by kernel_rfl)) rfl (allOwn_ok true (by kernel_rfl)) (fun t => fx_Clamp_q K t)
/-! coulomb_Shown -/
noncomputable def coulomb_Shown_e0 (K : Nat) : Env := ⟨tt, [(27, coulomb_may_o K), (28, coulomb_size_o K), (29, wide_MulNear_o K), (30, fx_Clamp_o K), (31, fx_Between_o K)], [], [], eqs⟩
theorem coulomb_Shown_t0 (K : Nat) : EnvT Try.prog (coulomb_Shown_e0 K) := envT_of tt_ok eqs_ok ⟨coulomb_may_ok K, coulomb_size_ok K, wide_MulNear_ok K, fx_Clamp_ok K, fx_Between_ok K, trivial⟩
theorem coulomb_Shown_i0 (K : Nat) : EnvI Try.prog (coulomb_Shown_e0 K) := envI_of (es := []) trivial trivial
noncomputable def coulomb_Shown_h : Sh := ⟨4, [(0, .sc (.i .i64)), (1, .sc (.i .i64)), (2, .sc (.i .i64)), (3, .sc (.i .i64))], [], []⟩
noncomputable def coulomb_Shown_r : Sh := ⟨2, [(0, .sc (.i .i64)), (1, .sc (.i .i64))], [], []⟩
noncomputable def coulomb_Shown_g (K : Nat) (soc_0 : Int) (base_1 : Int) (charge_2 : Int) (capacity_3 : Int) : Option (Int × Int × Unit) :=
  ((coulomb_may_g K soc_0 capacity_3).bind fun q1 => (bif (!q1.1) then (some (0, 2, ())) else ((coulomb_size_g K 1125899906842624 2 (fun j => (selI [base_1, charge_2] j))).bind fun q2 => (bif (!q2.1) then (some (0, 2, ())) else ((wide_MulNear_g K 10000 (wi64 (charge_2 - base_1)) capacity_3).bind fun q3 => (bif (q3.2.1 != 0) then ((fx_Clamp_g K 10000 (wi64 (charge_2 - base_1))).bind fun q4 => ((fx_Between_g K 0 10000 (wi64 (soc_0 + q4.1))).bind fun q5 => (some (q5.1, 0, ())))) else ((fx_Clamp_g K 10000 q3.1).bind fun q6 => ((fx_Between_g K 0 10000 (wi64 (soc_0 + q6.1))).bind fun q7 => (some (q7.1, 0, ()))))))))))
noncomputable def coulomb_Shown_gu (K : Nat) (t : coulomb_Shown_h.T) : Option (Int × Int × Unit) := coulomb_Shown_g K t.1 t.2.1 t.2.2.1 t.2.2.2.1
noncomputable def coulomb_Shown_o (K : Nat) : FO := fnFO coulomb_Shown_h coulomb_Shown_r fun t => coulomb_Shown_gu K t
theorem coulomb_Shown_q (K : Nat) (t : coulomb_Shown_h.T) : exFn (coulomb_Shown_e0 K) (hdl (coulomb_Shown_e0 K) 0) [11] Try.f11 (slVals (coulomb_Shown_h.put t).fr.sl) ⟨⟨0, []⟩, [], (coulomb_Shown_h.put t).mem⟩ (takeRes coulomb_Shown_r) = coulomb_Shown_gu K t := by kernel_rfl
theorem coulomb_Shown_ok (K : Nat) : FOok Try.prog 11 (coulomb_Shown_o K) :=
  fn_rule (coulomb_Shown_t0 K) (coulomb_Shown_i0 K) (draws (coulomb_Shown_t0 K)) 0 Try.func11 (fnB_ok Try.func11 (by kernel_rfl)) rfl rfl (allOwn_ok false (by kernel_rfl)) rfl (allOwn_ok true (by kernel_rfl)) (fun t => coulomb_Shown_q K t)
/-! rheostatlaw14_works -/
noncomputable def rheostatlaw14_works_e0 (K : Nat) : Env := ⟨tt, [(17, coulomb_Add_o K), (11, coulomb_Shown_o K), (19, coulomb_Total_o K)], [], [], eqs⟩
theorem rheostatlaw14_works_t0 (K : Nat) : EnvT Try.prog (rheostatlaw14_works_e0 K) := envT_of tt_ok eqs_ok ⟨coulomb_Add_ok K, coulomb_Shown_ok K, coulomb_Total_ok K, trivial⟩
theorem rheostatlaw14_works_i0 (K : Nat) : EnvI Try.prog (rheostatlaw14_works_e0 K) := envI_of (es := []) trivial trivial
noncomputable def rheostatlaw14_works_h : Sh := ⟨0, [], [], []⟩
noncomputable def rheostatlaw14_works_r : Sh := ⟨1, [(0, .sc (.b))], [], []⟩
noncomputable def rheostatlaw14_works_g (K : Nat)  : Option (Bool × Unit) :=
  ((coulomb_Add_g K 0 0 (-7) 100).bind fun q1 => ((coulomb_Shown_g K 5000 0 10 100).bind fun q2 => ((coulomb_Total_g K (-1) 300).bind fun q3 => (bif (q1.1 == (-1)) then (bif (q1.2.1 == 300) then (bif (q1.2.2.1 == 0) then (bif (q2.1 == 6000) then (bif (q2.2.1 == 0) then (bif (q3.1 == (-700)) then (some ((q3.2.1 == 0), ())) else (some (false, ()))) else (some (false, ()))) else (some (false, ()))) else (some (false, ()))) else (some (false, ()))) else (some (false, ()))))))
noncomputable def rheostatlaw14_works_o (K : Nat) : FO := fnFO rheostatlaw14_works_h rheostatlaw14_works_r fun t => rheostatlaw14_works_g K
theorem rheostatlaw14_works_q (K : Nat) (t : rheostatlaw14_works_h.T) : exFn (rheostatlaw14_works_e0 K) (hdl (rheostatlaw14_works_e0 K) 0) [9] Try.f9 (slVals (rheostatlaw14_works_h.put t).fr.sl) ⟨⟨0, []⟩, [], (rheostatlaw14_works_h.put t).mem⟩ (takeRes rheostatlaw14_works_r) = rheostatlaw14_works_g K := by kernel_rfl
theorem rheostatlaw14_works_ok (K : Nat) : FOok Try.prog 9 (rheostatlaw14_works_o K) :=
  fn_rule (rheostatlaw14_works_t0 K) (rheostatlaw14_works_i0 K) (draws (rheostatlaw14_works_t0 K)) 0 Try.func9 (fnB_ok Try.func9 (by kernel_rfl)) rfl rfl (allOwn_ok false (by kernel_rfl)) rfl (allOwn_ok true (by kernel_rfl)) (fun t => rheostatlaw14_works_q K t)
/-! rheostatlaw14_CoulombAdds -/
noncomputable def rheostatlaw14_CoulombAdds_e0 (K : Nat) : Env := ⟨tt, [(17, coulomb_Add_o K), (18, rheostatref14_Add_o K), (19, coulomb_Total_o K), (20, rheostatref14_Total_o K), (21, coulomb_Of_o K), (22, rheostatref14_Of_o K), (23, coulomb_Check_o K), (24, rheostatref14_Check_o K), (9, rheostatlaw14_works_o K)], [], [], eqs⟩
theorem rheostatlaw14_CoulombAdds_t0 (K : Nat) : EnvT Try.prog (rheostatlaw14_CoulombAdds_e0 K) := envT_of tt_ok eqs_ok ⟨coulomb_Add_ok K, rheostatref14_Add_ok K, coulomb_Total_ok K, rheostatref14_Total_ok K, coulomb_Of_ok K, rheostatref14_Of_ok K, coulomb_Check_ok K, rheostatref14_Check_ok K, rheostatlaw14_works_ok K, trivial⟩
theorem rheostatlaw14_CoulombAdds_i0 (K : Nat) : EnvI Try.prog (rheostatlaw14_CoulombAdds_e0 K) := envI_of (es := []) trivial trivial
noncomputable def rheostatlaw14_CoulombAdds_g (K : Nat) (charge_0 : Int) (residue_1 : Int) (current_2 : Int) (ticks_3 : Int) (total_4 : Int) : Option Bool :=
  ((coulomb_Add_g K charge_0 residue_1 current_2 ticks_3).bind fun q1 => ((rheostatref14_Add_g K charge_0 residue_1 current_2 ticks_3).bind fun q2 => ((coulomb_Total_g K charge_0 residue_1).bind fun q3 => ((rheostatref14_Total_g K charge_0 residue_1).bind fun q4 => ((coulomb_Of_g K total_4).bind fun q5 => ((rheostatref14_Of_g K total_4).bind fun q6 => (bif (q1.1 == q2.1) then (bif (q1.2.1 == q2.2.1) then (bif (q1.2.2.1 == q2.2.2.1) then (bif (q3.1 == q4.1) then (bif (q3.2.1 == q4.2.1) then (bif (q5.1 == q6.1) then (bif (q5.2.1 == q6.2.1) then (bif (q5.2.2.1 == q6.2.2.1) then ((coulomb_Check_g K charge_0 residue_1).bind fun q7 => ((rheostatref14_Check_g K charge_0 residue_1).bind fun q8 => (bif (q7.1 == q8.1) then ((rheostatlaw14_works_g K).bind fun q9 => (some q9.1)) else (some false)))) else (some false)) else (some false)) else (some false)) else (some false)) else (some false)) else (some false)) else (some false)) else (some false))))))))
noncomputable def rheostatlaw14_CoulombAdds_ps : List (Bool × List WC) := [(false, [.sc (.i .i64)]), (false, [.sc (.i .i64)]), (false, [.sc (.i .i64)]), (false, [.sc (.i .i64)]), (false, [.sc (.i .i64)])]
theorem rheostatlaw14_CoulombAdds_q (K : Nat) (t : (shOf rheostatlaw14_CoulombAdds_ps).T) : exFn (rheostatlaw14_CoulombAdds_e0 K) (hdl (rheostatlaw14_CoulombAdds_e0 K) 0) [6] Try.f6 (slVals ((shOf rheostatlaw14_CoulombAdds_ps).put t).fr.sl) ⟨⟨0, []⟩, [], ((shOf rheostatlaw14_CoulombAdds_ps).put t).mem⟩ outBool = rheostatlaw14_CoulombAdds_g K t.1 t.2.1 t.2.2.1 t.2.2.2.1 t.2.2.2.2.1 := by kernel_rfl
theorem rheostatlaw14_CoulombAdds_call (K : Nat) (hb : ∀ t : (shOf rheostatlaw14_CoulombAdds_ps).T, argsBnd rheostatlaw14_CoulombAdds_ps t → rheostatlaw14_CoulombAdds_g K t.1 t.2.1 t.2.2.1 t.2.2.2.1 t.2.2.2.2.1 = some true) {w : World} {vals : List Value} (hp : PFits w rheostatlaw14_CoulombAdds_ps vals) :
    Calls Try.prog 6 vals.toArray w fun e w' => e = .returned (.bool true) ∧ RowKit.Below w.heap.size w w' :=
  call_of (rheostatlaw14_CoulombAdds_t0 K) (rheostatlaw14_CoulombAdds_i0 K) (draws (rheostatlaw14_CoulombAdds_t0 K)) 0 Try.func6 (by kernel_rfl) (by kernel_rfl) outBool_true (fun t ht => (rheostatlaw14_CoulombAdds_q K t).trans (hb t ht)) hp
/-! rheostatbase_Among -/
noncomputable def rheostatbase_Among_e0 (K : Nat) : Env := ⟨tt, [], [], [], eqs⟩
theorem rheostatbase_Among_t0 (K : Nat) : EnvT Try.prog (rheostatbase_Among_e0 K) := envT_of tt_ok eqs_ok trivial
theorem rheostatbase_Among_i0 (K : Nat) : EnvI Try.prog (rheostatbase_Among_e0 K) := envI_of (es := []) trivial trivial
noncomputable def rheostatbase_Among_h : Sh := ⟨2, [(0, .sc (.i .i64)), (1, .sc (.i .i64))], [], []⟩
noncomputable def rheostatbase_Among_r : Sh := ⟨1, [(0, .sc (.i .i64))], [], []⟩
noncomputable def rheostatbase_Among_g (K : Nat) (x_0 : Int) (n_1 : Int) : Option (Int × Unit) :=
  (bif (decide (n_1 < 1)) then (some (0, ())) else (bif ((wu64 (n_1)) == 0) then none else (some ((wi64 ((Int.tmod (wu64 (x_0)) (wu64 (n_1))))), ()))))
noncomputable def rheostatbase_Among_o (K : Nat) : FO := fnFO rheostatbase_Among_h rheostatbase_Among_r fun t => rheostatbase_Among_g K t.1 t.2.1
theorem rheostatbase_Among_q (K : Nat) (t : rheostatbase_Among_h.T) : exFn (rheostatbase_Among_e0 K) (hdl (rheostatbase_Among_e0 K) 0) [10] Try.f10 (slVals (rheostatbase_Among_h.put t).fr.sl) ⟨⟨0, []⟩, [], (rheostatbase_Among_h.put t).mem⟩ (takeRes rheostatbase_Among_r) = rheostatbase_Among_g K t.1 t.2.1 := by kernel_rfl
theorem rheostatbase_Among_ok (K : Nat) : FOok Try.prog 10 (rheostatbase_Among_o K) :=
  fn_rule (rheostatbase_Among_t0 K) (rheostatbase_Among_i0 K) (draws (rheostatbase_Among_t0 K)) 0 Try.func10 (fnB_ok Try.func10 (by kernel_rfl)) rfl rfl (allOwn_ok false (by kernel_rfl)) rfl (allOwn_ok true (by kernel_rfl)) (fun t => rheostatbase_Among_q K t)
/-! rheostatlaw14_right -/
noncomputable def rheostatlaw14_right_e0 (K : Nat) : Env := ⟨tt, [(10, rheostatbase_Among_o K), (25, rheostatref14_Most_o K)], [], [], eqs⟩
theorem rheostatlaw14_right_t0 (K : Nat) : EnvT Try.prog (rheostatlaw14_right_e0 K) := envT_of tt_ok eqs_ok ⟨rheostatbase_Among_ok K, rheostatref14_Most_ok K, trivial⟩
theorem rheostatlaw14_right_i0 (K : Nat) : EnvI Try.prog (rheostatlaw14_right_e0 K) := envI_of (es := []) trivial trivial
noncomputable def rheostatlaw14_right_l0h : Sh := ⟨61, [(0, .sc (.i .i64)), (1, .sc (.slr0 0)), (7, .sc (.slr0 1)), (8, .sc (.i .i64)), (9, .sc (.i .i64))], [(0, [])], [(false, true, [.ir .i64, .ir .i64]), (true, true, [.ir .i64, .ir .i64])]⟩
noncomputable def rheostatlaw14_right_l0x0 : Sh := ⟨61, [(0, .sc (.i .i64)), (7, .sc (.slr0 0)), (8, .sc (.i .i64))], [(0, [])], [(true, true, [.ir .i64, .ir .i64])]⟩
noncomputable def rheostatlaw14_right_l0O : OutI (Int × Nat × Int × (Nat → Int) × (Nat → Int) × Unit) := (OutI.exit 0 rheostatlaw14_right_l0x0)
noncomputable def rheostatlaw14_right_l0r (K : Nat) (rec : Int → Nat → Nat → Int → Int → (Nat → Int) → (Nat → Int) → (Nat → Int) → (Nat → Int) → Option (Int × Nat × Int × (Nat → Int) × (Nat → Int) × Unit)) (total_0 : Int) (l_1n : Nat) (out_7n : Nat) (sum_8 : Int) (i_9 : Int) (m0_0 : (Nat → Int)) (m0_1 : (Nat → Int)) (m1_0 : (Nat → Int)) (m1_1 : (Nat → Int)) : Option (Int × Nat × Int × (Nat → Int) × (Nat → Int) × Unit) :=
  (bif (decide (i_9 < ((l_1n : Nat) : Int))) then (bif (decide (i_9 < 200)) then (bif ((decide (0 ≤ i_9)) && (decide (i_9 < ((l_1n : Nat) : Int)))) then ((rheostatbase_Among_g K (m0_0 (Int.toNat i_9)) 4294967297).bind fun q1 => (bif ((decide (0 ≤ i_9)) && (decide (i_9 < ((l_1n : Nat) : Int)))) then ((rheostatbase_Among_g K (m0_1 (Int.toNat i_9)) 60000).bind fun q2 => (bif (Nat.ble ((out_7n + 1) * 16) 140737488355328) then (rec total_0 l_1n (out_7n + 1) (wi64 (sum_8 + (wi64 ((wi64 (q1.1 - 2147483648)) * (wi64 (1 + q2.1)))))) (wi64 (i_9 + 1)) m0_0 m0_1 (fun j => (bif (Nat.blt j out_7n) then (m1_0 j) else (selI [(wi64 (q1.1 - 2147483648))] (j - out_7n)))) (fun j => (bif (Nat.blt j out_7n) then (m1_1 j) else (selI [(wi64 (1 + q2.1))] (j - out_7n))))) else none)) else none)) else none) else (some (total_0, out_7n, sum_8, m1_0, m1_1, ()))) else (some (total_0, out_7n, sum_8, m1_0, m1_1, ())))
noncomputable def rheostatlaw14_right_l0 (K n : Nat) : Int → Nat → Nat → Int → Int → (Nat → Int) → (Nat → Int) → (Nat → Int) → (Nat → Int) → Option (Int × Nat × Int × (Nat → Int) × (Nat → Int) × Unit) := Nat.rec (motive := fun _ => Int → Nat → Nat → Int → Int → (Nat → Int) → (Nat → Int) → (Nat → Int) → (Nat → Int) → Option (Int × Nat × Int × (Nat → Int) × (Nat → Int) × Unit)) (fun _ _ _ _ _ _ _ _ _ => none) (fun _ ih => rheostatlaw14_right_l0r K ih) n
noncomputable def rheostatlaw14_right_l0u (K n : Nat) (t : rheostatlaw14_right_l0h.T) : Option (Int × Nat × Int × (Nat → Int) × (Nat → Int) × Unit) := rheostatlaw14_right_l0 K n t.1 t.2.1 t.2.2.1 t.2.2.2.1 t.2.2.2.2.1 t.2.2.2.2.2.1 t.2.2.2.2.2.2.1 t.2.2.2.2.2.2.2.1 t.2.2.2.2.2.2.2.2.1
noncomputable def rheostatlaw14_right_l0o (K : Nat) : LO := loopLO rheostatlaw14_right_l0h rheostatlaw14_right_l0O fun t => rheostatlaw14_right_l0u K K t
noncomputable def rheostatlaw14_right_l0C : Code := bodyOf Try.f26
noncomputable def rheostatlaw14_right_l0B : Code := (findLoops 4 (loopsIn rheostatlaw14_right_l0C)).headD .skip
theorem rheostatlaw14_right_l0F : findLoops 4 (loopsIn rheostatlaw14_right_l0C) = [rheostatlaw14_right_l0B] := by kernel_rfl
theorem rheostatlaw14_right_l0q (K n : Nat) (t : rheostatlaw14_right_l0h.T) : exC (rheostatlaw14_right_e0 K) (hdl (rheostatlaw14_right_e0 K) 0) (26 :: []) rheostatlaw14_right_l0B (rheostatlaw14_right_l0h.put t) (fun s => (rheostatlaw14_right_l0h.take s).bind fun t => rheostatlaw14_right_l0u K n t) (fun id s => rheostatlaw14_right_l0O.get (some id) s) (fun s => rheostatlaw14_right_l0O.get none s) = rheostatlaw14_right_l0u K (n + 1) t := by kernel_rfl
noncomputable def rheostatlaw14_right_l0E (K : Nat) : LoopE Try.prog := ⟨[4, 26], rheostatlaw14_right_l0o K, Try.f26, rheostatlaw14_right_l0C, rheostatlaw14_right_l0B, ⟨4, 26, [], rfl, Try.func26, by kernel_rfl, rheostatlaw14_right_l0F⟩,
  loop_rule (F := fun n t => rheostatlaw14_right_l0u K n t) (rheostatlaw14_right_t0 K) (rheostatlaw14_right_i0 K) (draws (rheostatlaw14_right_t0 K)) 0 Try.func26 (c := rheostatlaw14_right_l0C) (by kernel_rfl) (body_in rheostatlaw14_right_l0F) (ctx' := []) (h := rheostatlaw14_right_l0h) (O := rheostatlaw14_right_l0O) (fun _ => rfl) (fun m t => rheostatlaw14_right_l0q K m t) K⟩
noncomputable def rheostatlaw14_right_e1 (K : Nat) : Env := ⟨tt, [(10, rheostatbase_Among_o K), (25, rheostatref14_Most_o K)], [], [([4, 26], rheostatlaw14_right_l0o K)], eqs⟩
theorem rheostatlaw14_right_t1 (K : Nat) : EnvT Try.prog (rheostatlaw14_right_e1 K) := envT_of tt_ok eqs_ok ⟨rheostatbase_Among_ok K, rheostatref14_Most_ok K, trivial⟩
theorem rheostatlaw14_right_i1 (K : Nat) : EnvI Try.prog (rheostatlaw14_right_e1 K) := envI_of (es := [rheostatlaw14_right_l0E K]) trivial ⟨⟨rfl, rfl⟩, trivial⟩
noncomputable def rheostatlaw14_right_h : Sh := ⟨2, [(0, .sc (.i .i64)), (1, .sc (.slr0 0))], [], [(false, true, [.ir .i64, .ir .i64])]⟩
noncomputable def rheostatlaw14_right_r : Sh := ⟨3, [(0, .sc (.slr0 0)), (1, .sc (.i .i64)), (2, .sc (.b))], [], [(true, true, [.ir .i64, .ir .i64])]⟩
noncomputable def rheostatlaw14_right_g (K : Nat) (total_0 : Int) (l_1n : Nat) (m0_0 : (Nat → Int)) (m0_1 : (Nat → Int)) : Option (Nat × Int × Bool × (Nat → Int) × (Nat → Int) × Unit) :=
  ((rheostatlaw14_right_l0 K K total_0 l_1n 0 0 0 m0_0 m0_1 (fun _ => 0) (fun _ => 0)).bind fun q1 => ((rheostatref14_Most_g K).bind fun q2 => (bif (decide (q1.1 ≥ (wi64 ((wi64 (0 - q2.1)) + 36028797018963968)))) then ((rheostatref14_Most_g K).bind fun q3 => (some (q1.2.1, q1.2.2.1, (decide (q1.1 ≤ (wi64 (q3.1 - 36028797018963968)))), q1.2.2.2.1, q1.2.2.2.2.1, ()))) else (some (q1.2.1, q1.2.2.1, false, q1.2.2.2.1, q1.2.2.2.2.1, ())))))
noncomputable def rheostatlaw14_right_gu (K : Nat) (t : rheostatlaw14_right_h.T) : Option (Nat × Int × Bool × (Nat → Int) × (Nat → Int) × Unit) := rheostatlaw14_right_g K t.1 t.2.1 t.2.2.1 t.2.2.2.1
noncomputable def rheostatlaw14_right_o (K : Nat) : FO := fnFO rheostatlaw14_right_h rheostatlaw14_right_r fun t => rheostatlaw14_right_gu K t
theorem rheostatlaw14_right_q (K : Nat) (t : rheostatlaw14_right_h.T) : exFn (rheostatlaw14_right_e1 K) (hdl (rheostatlaw14_right_e1 K) 0) [26] Try.f26 (slVals (rheostatlaw14_right_h.put t).fr.sl) ⟨⟨0, []⟩, [], (rheostatlaw14_right_h.put t).mem⟩ (takeRes rheostatlaw14_right_r) = rheostatlaw14_right_gu K t := by kernel_rfl
theorem rheostatlaw14_right_ok (K : Nat) : FOok Try.prog 26 (rheostatlaw14_right_o K) :=
  fn_rule (rheostatlaw14_right_t1 K) (rheostatlaw14_right_i1 K) (draws (rheostatlaw14_right_t1 K)) 0 Try.func26 (fnB_ok Try.func26 (by kernel_rfl)) rfl rfl (allOwn_ok false (by kernel_rfl)) rfl (allOwn_ok true (by kernel_rfl)) (fun t => rheostatlaw14_right_q K t)
/-! rheostatlaw14_CoulombExact -/
noncomputable def rheostatlaw14_CoulombExact_e0 (K : Nat) : Env := ⟨tt, [(9, rheostatlaw14_works_o K), (25, rheostatref14_Most_o K), (26, rheostatlaw14_right_o K), (21, coulomb_Of_o K), (17, coulomb_Add_o K), (23, coulomb_Check_o K), (19, coulomb_Total_o K)], [], [], eqs⟩
theorem rheostatlaw14_CoulombExact_t0 (K : Nat) : EnvT Try.prog (rheostatlaw14_CoulombExact_e0 K) := envT_of tt_ok eqs_ok ⟨rheostatlaw14_works_ok K, rheostatref14_Most_ok K, rheostatlaw14_right_ok K, coulomb_Of_ok K, coulomb_Add_ok K, coulomb_Check_ok K, coulomb_Total_ok K, trivial⟩
theorem rheostatlaw14_CoulombExact_i0 (K : Nat) : EnvI Try.prog (rheostatlaw14_CoulombExact_e0 K) := envI_of (es := []) trivial trivial
noncomputable def rheostatlaw14_CoulombExact_l0h : Sh := ⟨84, [(0, .sc (.i .i64)), (5, .sc (.slr0 0)), (6, .sc (.i .i64)), (7, .sc (.b)), (8, .sc (.i .i64)), (9, .sc (.i .i64)), (11, .sc (.i .i64))], [(0, [])], [(true, true, [.ir .i64, .ir .i64])]⟩
noncomputable def rheostatlaw14_CoulombExact_l0x0 : Sh := ⟨84, [(0, .sc (.i .i64)), (6, .sc (.i .i64)), (7, .sc (.b)), (8, .sc (.i .i64)), (9, .sc (.i .i64))], [(0, [])], []⟩
noncomputable def rheostatlaw14_CoulombExact_l0x1 : Sh := ⟨84, [(4, .sc (.b))], [(0, [])], []⟩
noncomputable def rheostatlaw14_CoulombExact_l0O : OutI ((Int × Int × Bool × Int × Int × Unit) ⊕ (Bool × Unit)) := (OutI.or (OutI.exit 0 rheostatlaw14_CoulombExact_l0x0) (OutI.ret rheostatlaw14_CoulombExact_l0x1))
noncomputable def rheostatlaw14_CoulombExact_l0r (K : Nat) (rec : Int → Nat → Int → Bool → Int → Int → Int → (Nat → Int) → (Nat → Int) → Option ((Int × Int × Bool × Int × Int × Unit) ⊕ (Bool × Unit))) (total_0 : Int) (parts_5n : Nat) (sum_6 : Int) (free_7 : Bool) (c_8 : Int) (r_9 : Int) (i_11 : Int) (m0_0 : (Nat → Int)) (m0_1 : (Nat → Int)) : Option ((Int × Int × Bool × Int × Int × Unit) ⊕ (Bool × Unit)) :=
  (bif (decide (i_11 < ((parts_5n : Nat) : Int))) then (bif ((decide (0 ≤ i_11)) && (decide (i_11 < ((parts_5n : Nat) : Int)))) then (bif ((decide (0 ≤ i_11)) && (decide (i_11 < ((parts_5n : Nat) : Int)))) then ((coulomb_Add_g K c_8 r_9 (m0_0 (Int.toNat i_11)) (m0_1 (Int.toNat i_11))).bind fun q1 => (bif (q1.2.2.1 != 0) then (some (.inr (false, ()))) else ((coulomb_Check_g K q1.1 q1.2.1).bind fun q2 => (bif (q2.1 != 0) then (some (.inr (false, ()))) else (rec total_0 parts_5n sum_6 free_7 q1.1 q1.2.1 (wi64 (i_11 + 1)) m0_0 m0_1))))) else none) else none) else (some (.inl (total_0, sum_6, free_7, c_8, r_9, ()))))
noncomputable def rheostatlaw14_CoulombExact_l0 (K n : Nat) : Int → Nat → Int → Bool → Int → Int → Int → (Nat → Int) → (Nat → Int) → Option ((Int × Int × Bool × Int × Int × Unit) ⊕ (Bool × Unit)) := Nat.rec (motive := fun _ => Int → Nat → Int → Bool → Int → Int → Int → (Nat → Int) → (Nat → Int) → Option ((Int × Int × Bool × Int × Int × Unit) ⊕ (Bool × Unit))) (fun _ _ _ _ _ _ _ _ _ => none) (fun _ ih => rheostatlaw14_CoulombExact_l0r K ih) n
noncomputable def rheostatlaw14_CoulombExact_l0u (K n : Nat) (t : rheostatlaw14_CoulombExact_l0h.T) : Option ((Int × Int × Bool × Int × Int × Unit) ⊕ (Bool × Unit)) := rheostatlaw14_CoulombExact_l0 K n t.1 t.2.1 t.2.2.1 t.2.2.2.1 t.2.2.2.2.1 t.2.2.2.2.2.1 t.2.2.2.2.2.2.1 t.2.2.2.2.2.2.2.1 t.2.2.2.2.2.2.2.2.1
noncomputable def rheostatlaw14_CoulombExact_l0o (K : Nat) : LO := loopLO rheostatlaw14_CoulombExact_l0h rheostatlaw14_CoulombExact_l0O fun t => rheostatlaw14_CoulombExact_l0u K K t
noncomputable def rheostatlaw14_CoulombExact_l0C : Code := bodyOf Try.f7
noncomputable def rheostatlaw14_CoulombExact_l0B : Code := (findLoops 9 (loopsIn rheostatlaw14_CoulombExact_l0C)).headD .skip
theorem rheostatlaw14_CoulombExact_l0F : findLoops 9 (loopsIn rheostatlaw14_CoulombExact_l0C) = [rheostatlaw14_CoulombExact_l0B] := by kernel_rfl
theorem rheostatlaw14_CoulombExact_l0q (K n : Nat) (t : rheostatlaw14_CoulombExact_l0h.T) : exC (rheostatlaw14_CoulombExact_e0 K) (hdl (rheostatlaw14_CoulombExact_e0 K) 0) (7 :: []) rheostatlaw14_CoulombExact_l0B (rheostatlaw14_CoulombExact_l0h.put t) (fun s => (rheostatlaw14_CoulombExact_l0h.take s).bind fun t => rheostatlaw14_CoulombExact_l0u K n t) (fun id s => rheostatlaw14_CoulombExact_l0O.get (some id) s) (fun s => rheostatlaw14_CoulombExact_l0O.get none s) = rheostatlaw14_CoulombExact_l0u K (n + 1) t := by kernel_rfl
noncomputable def rheostatlaw14_CoulombExact_l0E (K : Nat) : LoopE Try.prog := ⟨[9, 7], rheostatlaw14_CoulombExact_l0o K, Try.f7, rheostatlaw14_CoulombExact_l0C, rheostatlaw14_CoulombExact_l0B, ⟨9, 7, [], rfl, Try.func7, by kernel_rfl, rheostatlaw14_CoulombExact_l0F⟩,
  loop_rule (F := fun n t => rheostatlaw14_CoulombExact_l0u K n t) (rheostatlaw14_CoulombExact_t0 K) (rheostatlaw14_CoulombExact_i0 K) (draws (rheostatlaw14_CoulombExact_t0 K)) 0 Try.func7 (c := rheostatlaw14_CoulombExact_l0C) (by kernel_rfl) (body_in rheostatlaw14_CoulombExact_l0F) (ctx' := []) (h := rheostatlaw14_CoulombExact_l0h) (O := rheostatlaw14_CoulombExact_l0O) (fun _ => rfl) (fun m t => rheostatlaw14_CoulombExact_l0q K m t) K⟩
noncomputable def rheostatlaw14_CoulombExact_e1 (K : Nat) : Env := ⟨tt, [(9, rheostatlaw14_works_o K), (25, rheostatref14_Most_o K), (26, rheostatlaw14_right_o K), (21, coulomb_Of_o K), (17, coulomb_Add_o K), (23, coulomb_Check_o K), (19, coulomb_Total_o K)], [], [([9, 7], rheostatlaw14_CoulombExact_l0o K)], eqs⟩
theorem rheostatlaw14_CoulombExact_t1 (K : Nat) : EnvT Try.prog (rheostatlaw14_CoulombExact_e1 K) := envT_of tt_ok eqs_ok ⟨rheostatlaw14_works_ok K, rheostatref14_Most_ok K, rheostatlaw14_right_ok K, coulomb_Of_ok K, coulomb_Add_ok K, coulomb_Check_ok K, coulomb_Total_ok K, trivial⟩
theorem rheostatlaw14_CoulombExact_i1 (K : Nat) : EnvI Try.prog (rheostatlaw14_CoulombExact_e1 K) := envI_of (es := [rheostatlaw14_CoulombExact_l0E K]) trivial ⟨⟨rfl, rfl⟩, trivial⟩
noncomputable def rheostatlaw14_CoulombExact_g (K : Nat) (total_0 : Int) (l_1n : Nat) (m0_0 : (Nat → Int)) (m0_1 : (Nat → Int)) : Option Bool :=
  ((rheostatlaw14_works_g K).bind fun q1 => (bif (!q1.1) then (some false) else ((rheostatref14_Most_g K).bind fun q2 => (bif (q2.1 == 0) then none else ((rheostatlaw14_right_g K (Int.tmod total_0 q2.1) l_1n m0_0 m0_1).bind fun q3 => ((coulomb_Of_g K (Int.tmod total_0 q2.1)).bind fun q4 => (bif (q4.2.2.1 != 0) then (some false) else ((rheostatlaw14_CoulombExact_l0 K K (Int.tmod total_0 q2.1) q3.1 q3.2.1 q3.2.2.1 q4.1 q4.2.1 0 q3.2.2.2.1 q3.2.2.2.2.1).bind fun q5 => (Sum.elim (fun q6 => ((coulomb_Total_g K q6.2.2.2.1 q6.2.2.2.2.1).bind fun q8 => (bif (q8.2.1 == 0) then (bif (!q6.2.2.1) then (some true) else (some (q8.1 == (wi64 (q6.1 + q6.2.1))))) else (some false)))) (fun q7 => (some q7.1)) q5)))))))))
noncomputable def rheostatlaw14_CoulombExact_ps : List (Bool × List WC) := [(false, [.sc (.i .i64)]), (false, [.slc [.i .i64, .i .i64]])]
theorem rheostatlaw14_CoulombExact_q (K : Nat) (t : (shOf rheostatlaw14_CoulombExact_ps).T) : exFn (rheostatlaw14_CoulombExact_e1 K) (hdl (rheostatlaw14_CoulombExact_e1 K) 0) [7] Try.f7 (slVals ((shOf rheostatlaw14_CoulombExact_ps).put t).fr.sl) ⟨⟨0, []⟩, [], ((shOf rheostatlaw14_CoulombExact_ps).put t).mem⟩ outBool = rheostatlaw14_CoulombExact_g K t.1 t.2.1 t.2.2.1 t.2.2.2.1 := by kernel_rfl
theorem rheostatlaw14_CoulombExact_call (K : Nat) (hb : ∀ t : (shOf rheostatlaw14_CoulombExact_ps).T, argsBnd rheostatlaw14_CoulombExact_ps t → rheostatlaw14_CoulombExact_g K t.1 t.2.1 t.2.2.1 t.2.2.2.1 = some true) {w : World} {vals : List Value} (hp : PFits w rheostatlaw14_CoulombExact_ps vals) :
    Calls Try.prog 7 vals.toArray w fun e w' => e = .returned (.bool true) ∧ RowKit.Below w.heap.size w w' :=
  call_of (rheostatlaw14_CoulombExact_t1 K) (rheostatlaw14_CoulombExact_i1 K) (draws (rheostatlaw14_CoulombExact_t1 K)) 0 Try.func7 (by kernel_rfl) (by kernel_rfl) outBool_true (fun t ht => (rheostatlaw14_CoulombExact_q K t).trans (hb t ht)) hp
/-! coulomb_Drawn -/
noncomputable def coulomb_Drawn_e0 (K : Nat) : Env := ⟨tt, [(27, coulomb_may_o K), (29, wide_MulNear_o K)], [], [], eqs⟩
theorem coulomb_Drawn_t0 (K : Nat) : EnvT Try.prog (coulomb_Drawn_e0 K) := envT_of tt_ok eqs_ok ⟨coulomb_may_ok K, wide_MulNear_ok K, trivial⟩
theorem coulomb_Drawn_i0 (K : Nat) : EnvI Try.prog (coulomb_Drawn_e0 K) := envI_of (es := []) trivial trivial
noncomputable def coulomb_Drawn_h : Sh := ⟨2, [(0, .sc (.i .i64)), (1, .sc (.i .i64))], [], []⟩
noncomputable def coulomb_Drawn_r : Sh := ⟨2, [(0, .sc (.i .i64)), (1, .sc (.i .i64))], [], []⟩
noncomputable def coulomb_Drawn_g (K : Nat) (soc_0 : Int) (capacity_1 : Int) : Option (Int × Int × Unit) :=
  ((coulomb_may_g K soc_0 capacity_1).bind fun q1 => (bif (!q1.1) then (some (0, 2, ())) else ((wide_MulNear_g K capacity_1 soc_0 10000).bind fun q2 => (some (q2.1, q2.2.1, ())))))
noncomputable def coulomb_Drawn_o (K : Nat) : FO := fnFO coulomb_Drawn_h coulomb_Drawn_r fun t => coulomb_Drawn_g K t.1 t.2.1
theorem coulomb_Drawn_q (K : Nat) (t : coulomb_Drawn_h.T) : exFn (coulomb_Drawn_e0 K) (hdl (coulomb_Drawn_e0 K) 0) [15] Try.f15 (slVals (coulomb_Drawn_h.put t).fr.sl) ⟨⟨0, []⟩, [], (coulomb_Drawn_h.put t).mem⟩ (takeRes coulomb_Drawn_r) = coulomb_Drawn_g K t.1 t.2.1 := by kernel_rfl
theorem coulomb_Drawn_ok (K : Nat) : FOok Try.prog 15 (coulomb_Drawn_o K) :=
  fn_rule (coulomb_Drawn_t0 K) (coulomb_Drawn_i0 K) (draws (coulomb_Drawn_t0 K)) 0 Try.func15 (fnB_ok Try.func15 (by kernel_rfl)) rfl rfl (allOwn_ok false (by kernel_rfl)) rfl (allOwn_ok true (by kernel_rfl)) (fun t => coulomb_Drawn_q K t)
/-! rheostatlaw14_CoulombDrawn -/
noncomputable def rheostatlaw14_CoulombDrawn_e0 (K : Nat) : Env := ⟨tt, [(9, rheostatlaw14_works_o K), (10, rheostatbase_Among_o K), (15, coulomb_Drawn_o K)], [], [], eqs⟩
theorem rheostatlaw14_CoulombDrawn_t0 (K : Nat) : EnvT Try.prog (rheostatlaw14_CoulombDrawn_e0 K) := envT_of tt_ok eqs_ok ⟨rheostatlaw14_works_ok K, rheostatbase_Among_ok K, coulomb_Drawn_ok K, trivial⟩
theorem rheostatlaw14_CoulombDrawn_i0 (K : Nat) : EnvI Try.prog (rheostatlaw14_CoulombDrawn_e0 K) := envI_of (es := []) trivial trivial
noncomputable def rheostatlaw14_CoulombDrawn_g (K : Nat) (a_0 : Int) (b_1 : Int) (capacity_2 : Int) : Option Bool :=
  ((rheostatlaw14_works_g K).bind fun q1 => (bif (!q1.1) then (some false) else ((rheostatbase_Among_g K a_0 10001).bind fun q2 => ((rheostatbase_Among_g K b_1 10001).bind fun q3 => ((rheostatbase_Among_g K capacity_2 1125899906842624).bind fun q4 => ((coulomb_Drawn_g K (bif (decide (q3.1 < q2.1)) then q3.1 else q2.1) (wi64 (1 + q4.1))).bind fun q5 => ((coulomb_Drawn_g K (bif (decide (q3.1 > q2.1)) then q3.1 else q2.1) (wi64 (1 + q4.1))).bind fun q6 => ((coulomb_Drawn_g K 0 (wi64 (1 + q4.1))).bind fun q7 => ((coulomb_Drawn_g K 10000 (wi64 (1 + q4.1))).bind fun q8 => (bif (q5.2.1 == 0) then (bif (q6.2.1 == 0) then (bif (q7.2.1 == 0) then (bif (q8.2.1 == 0) then (bif (decide (q5.1 ≤ q6.1)) then (bif (q7.1 == 0) then (bif (q8.1 == (wi64 (1 + q4.1))) then (some (decide (q5.1 ≥ 0))) else (some false)) else (some false)) else (some false)) else (some false)) else (some false)) else (some false)) else (some false)))))))))))
noncomputable def rheostatlaw14_CoulombDrawn_ps : List (Bool × List WC) := [(false, [.sc (.i .i64)]), (false, [.sc (.i .i64)]), (false, [.sc (.i .i64)])]
theorem rheostatlaw14_CoulombDrawn_q (K : Nat) (t : (shOf rheostatlaw14_CoulombDrawn_ps).T) : exFn (rheostatlaw14_CoulombDrawn_e0 K) (hdl (rheostatlaw14_CoulombDrawn_e0 K) 0) [5] Try.f5 (slVals ((shOf rheostatlaw14_CoulombDrawn_ps).put t).fr.sl) ⟨⟨0, []⟩, [], ((shOf rheostatlaw14_CoulombDrawn_ps).put t).mem⟩ outBool = rheostatlaw14_CoulombDrawn_g K t.1 t.2.1 t.2.2.1 := by kernel_rfl
theorem rheostatlaw14_CoulombDrawn_call (K : Nat) (hb : ∀ t : (shOf rheostatlaw14_CoulombDrawn_ps).T, argsBnd rheostatlaw14_CoulombDrawn_ps t → rheostatlaw14_CoulombDrawn_g K t.1 t.2.1 t.2.2.1 = some true) {w : World} {vals : List Value} (hp : PFits w rheostatlaw14_CoulombDrawn_ps vals) :
    Calls Try.prog 5 vals.toArray w fun e w' => e = .returned (.bool true) ∧ RowKit.Below w.heap.size w w' :=
  call_of (rheostatlaw14_CoulombDrawn_t0 K) (rheostatlaw14_CoulombDrawn_i0 K) (draws (rheostatlaw14_CoulombDrawn_t0 K)) 0 Try.func5 (by kernel_rfl) (by kernel_rfl) outBool_true (fun t ht => (rheostatlaw14_CoulombDrawn_q K t).trans (hb t ht)) hp
end Go.Proofs.Ythimgpokphilkaa
