/-
  The functions of law 17, as plain functions, and that the program does what they say. Printed by a program of ours.
-/
import Derived.Test.YtffmgpdbpfehkaaChecked
import Derived.Test.YtffmgpdbpfehkaaSyLib
import Derived.KernelRfl
namespace Go.Proofs.Ytffmgpdbpfehkaa
open Go.Sy
set_option maxRecDepth 100000
set_option linter.unusedVariables false
noncomputable def tt : List TI := [
  ⟨0, [], .other⟩,
  ⟨0, [], .other⟩,
  ⟨0, [], .other⟩,
  ⟨1, [.i0 .i64 0], .int .i64⟩,
  ⟨1, [.b0 false], .bool⟩,
  ⟨1, [.i0 .u8 0], .int .u8⟩,
  ⟨0, [], .other⟩,
  ⟨0, [], .other⟩,
  ⟨0, [], .other⟩,
  ⟨1, [.s0 ⟨#[]⟩], .str⟩,
  ⟨0, [], .other⟩,
  ⟨0, [], .other⟩,
  ⟨0, [], .other⟩,
  ⟨0, [], .other⟩,
  ⟨0, [], .other⟩,
  ⟨0, [], .other⟩,
  ⟨0, [], .other⟩,
  ⟨0, [], .other⟩,
  ⟨0, [], .other⟩,
  ⟨0, [], .other⟩,
  ⟨0, [], .other⟩,
  ⟨0, [], .other⟩,
  ⟨0, [], .other⟩,
  ⟨0, [], .other⟩,
  ⟨1, [.i0 .i64 0], .int .i64⟩,
  ⟨0, [], .other⟩,
  ⟨0, [], .other⟩,
  ⟨0, [], .other⟩,
  ⟨0, [], .other⟩,
  ⟨0, [], .other⟩,
  ⟨23, [.i0 .i64 0, .i0 .i64 0, .i0 .i64 0, .i0 .i64 0, .i0 .i64 0, .i0 .i64 0, .i0 .i64 0, .i0 .i64 0, .i0 .i64 0, .i0 .i64 0, .i0 .i64 0, .i0 .i64 0, .i0 .i64 0, .i0 .i64 0, .i0 .i64 0, .i0 .i64 0, .i0 .i64 0, .i0 .i64 0, .i0 .i64 0, .i0 .i64 0, .i0 .i64 0, .i0 .i64 0, .i0 .i64 0], .st [(0, 1, false), (1, 1, false), (2, 1, false), (3, 1, false), (4, 1, false), (5, 1, false), (6, 1, false), (7, 1, false), (8, 1, false), (9, 1, false), (10, 1, false), (11, 1, false), (12, 1, false), (13, 1, false), (14, 1, false), (15, 6, true), (21, 1, false), (22, 1, false)]⟩,
  ⟨0, [], .other⟩,
  ⟨0, [], .other⟩,
  ⟨0, [], .other⟩,
  ⟨0, [], .other⟩,
  ⟨1, [.sln], .sl 1 8 false [.i0 .i64 0]⟩,
  ⟨0, [], .other⟩,
  ⟨3, [.sln, .sln, .sln], .st [(0, 1, false), (1, 1, false), (2, 1, false)]⟩,
  ⟨0, [], .other⟩,
  ⟨0, [], .other⟩,
  ⟨0, [], .other⟩,
  ⟨0, [], .other⟩,
  ⟨0, [], .other⟩,
  ⟨1, [.i0 .u64 0], .int .u64⟩,
  ⟨0, [], .other⟩,
  ⟨1, [.i0 .u64 0], .int .u64⟩,
  ⟨0, [], .other⟩,
  ⟨2, [.i0 .i64 0, .i0 .u64 0], .st [(0, 1, false), (1, 1, false)]⟩,
  ⟨0, [], .other⟩,
  ⟨0, [], .other⟩,
  ⟨0, [], .other⟩,
  ⟨0, [], .other⟩,
  ⟨0, [], .other⟩,
  ⟨23, [.i0 .i64 0, .i0 .i64 0, .i0 .i64 0, .i0 .i64 0, .i0 .i64 0, .i0 .i64 0, .i0 .i64 0, .i0 .i64 0, .i0 .i64 0, .i0 .i64 0, .i0 .i64 0, .i0 .i64 0, .i0 .i64 0, .i0 .i64 0, .i0 .i64 0, .i0 .i64 0, .i0 .i64 0, .i0 .i64 0, .i0 .i64 0, .i0 .i64 0, .i0 .i64 0, .i0 .i64 0, .i0 .i64 0], .st [(0, 23, true)]⟩,
  ⟨0, [], .other⟩,
  ⟨0, [], .other⟩,
  ⟨0, [], .other⟩,
  ⟨0, [], .other⟩,
  ⟨0, [], .other⟩,
  ⟨0, [], .other⟩,
  ⟨1, [.sln], .sl 2 16 true [.i0 .i64 0, .i0 .i64 0]⟩,
  ⟨0, [], .other⟩,
  ⟨0, [], .other⟩,
  ⟨0, [], .other⟩,
  ⟨0, [], .other⟩,
  ⟨0, [], .other⟩,
  ⟨0, [], .other⟩,
  ⟨0, [], .other⟩,
  ⟨0, [], .other⟩,
  ⟨0, [], .other⟩,
  ⟨0, [], .other⟩,
  ⟨0, [], .other⟩,
  ⟨0, [], .other⟩,
  ⟨4, [.i0 .i64 0, .i0 .i64 0, .i0 .i64 0, .i0 .i64 0], .st [(0, 1, false), (1, 1, false), (2, 1, false), (3, 1, false)]⟩,
  ⟨0, [], .other⟩,
  ⟨5, [.i0 .i64 0, .i0 .i64 0, .i0 .i64 0, .i0 .i64 0, .sln], .st [(0, 4, true), (4, 1, false)]⟩,
  ⟨0, [], .other⟩,
  ⟨0, [], .other⟩,
  ⟨2, [.i0 .i64 0, .i0 .i64 0], .st [(0, 1, false), (1, 1, false)]⟩,
  ⟨0, [], .other⟩,
  ⟨0, [], .other⟩,
  ⟨0, [], .other⟩,
  ⟨0, [], .other⟩,
  ⟨0, [], .other⟩,
  ⟨0, [], .other⟩,
  ⟨0, [], .other⟩,
  ⟨0, [], .other⟩,
  ⟨0, [], .other⟩,
  ⟨0, [], .other⟩,
  ⟨4, [.i0 .i64 0, .i0 .i64 0, .i0 .i64 0, .i0 .i64 0], .st [(0, 2, true), (2, 2, true)]⟩,
  ⟨0, [], .other⟩,
  ⟨20, [.i0 .i64 0, .i0 .i64 0, .i0 .i64 0, .i0 .i64 0, .i0 .i64 0, .i0 .i64 0, .i0 .i64 0, .i0 .i64 0, .i0 .i64 0, .i0 .i64 0, .i0 .i64 0, .i0 .i64 0, .i0 .i64 0, .i0 .i64 0, .i0 .i64 0, .i0 .i64 0, .i0 .i64 0, .i0 .i64 0, .i0 .i64 0, .i0 .i64 0], .arr 20 1 false⟩,
  ⟨0, [], .other⟩,
  ⟨21, [.b0 false, .i0 .i64 0, .i0 .i64 0, .i0 .i64 0, .i0 .i64 0, .i0 .i64 0, .i0 .i64 0, .i0 .i64 0, .i0 .i64 0, .i0 .i64 0, .i0 .i64 0, .i0 .i64 0, .i0 .i64 0, .i0 .i64 0, .i0 .i64 0, .i0 .i64 0, .i0 .i64 0, .i0 .i64 0, .i0 .i64 0, .i0 .i64 0, .i0 .i64 0], .st [(0, 1, false), (1, 20, true)]⟩,
  ⟨0, [], .other⟩,
  ⟨0, [], .other⟩,
  ⟨0, [], .other⟩,
  ⟨0, [], .other⟩,
  ⟨0, [], .other⟩,
  ⟨0, [], .other⟩,
  ⟨0, [], .other⟩,
  ⟨0, [], .other⟩,
  ⟨0, [], .other⟩,
  ⟨0, [], .other⟩,
  ⟨0, [], .other⟩,
  ⟨0, [], .other⟩,
  ⟨0, [], .other⟩,
  ⟨0, [], .other⟩,
  ⟨0, [], .other⟩,
  ⟨0, [], .other⟩,
  ⟨0, [], .other⟩,
  ⟨0, [], .other⟩]
theorem tt_ok : tabB Try.prog 0 tt = true := by kernel_rfl
def tab0 : List UInt8 := [0, 1, 2, 2, 3, 3, 3, 3, 4, 4, 4, 4, 4, 4, 4, 4, 5, 5, 5, 5, 5, 5, 5, 5, 5, 5, 5, 5, 5, 5, 5, 5, 6, 6, 6, 6, 6, 6, 6, 6, 6, 6, 6, 6, 6, 6, 6, 6, 6, 6, 6, 6, 6, 6, 6, 6, 6, 6, 6, 6, 6, 6, 6, 6, 7, 7, 7, 7, 7, 7, 7, 7, 7, 7, 7, 7, 7, 7, 7, 7, 7, 7, 7, 7, 7, 7, 7, 7, 7, 7, 7, 7, 7, 7, 7, 7, 7, 7, 7, 7, 7, 7, 7, 7, 7, 7, 7, 7, 7, 7, 7, 7, 7, 7, 7, 7, 7, 7, 7, 7, 7, 7, 7, 7, 7, 7, 7, 7, 8, 8, 8, 8, 8, 8, 8, 8, 8, 8, 8, 8, 8, 8, 8, 8, 8, 8, 8, 8, 8, 8, 8, 8, 8, 8, 8, 8, 8, 8, 8, 8, 8, 8, 8, 8, 8, 8, 8, 8, 8, 8, 8, 8, 8, 8, 8, 8, 8, 8, 8, 8, 8, 8, 8, 8, 8, 8, 8, 8, 8, 8, 8, 8, 8, 8, 8, 8, 8, 8, 8, 8, 8, 8, 8, 8, 8, 8, 8, 8, 8, 8, 8, 8, 8, 8, 8, 8, 8, 8, 8, 8, 8, 8, 8, 8, 8, 8, 8, 8, 8, 8, 8, 8, 8, 8, 8, 8, 8, 8, 8, 8, 8, 8, 8, 8, 8, 8, 8, 8, 8, 8, 8, 8, 8, 8, 8, 8]
noncomputable def eqs : List (Nat × List EK) := [(30, [.i .i64, .i .i64, .i .i64, .i .i64, .i .i64, .i .i64, .i .i64, .i .i64, .i .i64, .i .i64, .i .i64, .i .i64, .i .i64, .i .i64, .i .i64, .i .i64, .i .i64, .i .i64, .i .i64, .i .i64, .i .i64, .i .i64, .i .i64])]
theorem eqs_ok : eqsB Try.prog eqs = true := by kernel_rfl
theorem draws {E : Env} (h : EnvT Try.prog E) : DrawOk Try.prog E := draw_ok (Checked.mixed Try.checked) h
/-! fuse_right -/
noncomputable def fuse_right_e0 (K : Nat) : Env := ⟨tt, [], [], [], eqs⟩
theorem fuse_right_t0 (K : Nat) : EnvT Try.prog (fuse_right_e0 K) := envT_of tt_ok eqs_ok trivial
theorem fuse_right_i0 (K : Nat) : EnvI Try.prog (fuse_right_e0 K) := envI_of (es := []) trivial trivial
noncomputable def fuse_right_l0h : Sh := ⟨18, [(5, .sc (.slr0 0)), (6, .sc (.i .i64)), (7, .sc (.i .i64))], [(0, [])], [(false, true, [.ir .i64])]⟩
noncomputable def fuse_right_l0x0 : Sh := ⟨18, [], [(0, [])], []⟩
noncomputable def fuse_right_l0x1 : Sh := ⟨18, [(2, .sc (.b))], [(0, [])], []⟩
noncomputable def fuse_right_l0O : OutI ((Unit) ⊕ (Bool × Unit)) := (OutI.or (OutI.exit 0 fuse_right_l0x0) (OutI.ret fuse_right_l0x1))
noncomputable def fuse_right_l0r (K : Nat) (rec : Nat → Int → Int → (Nat → Int) → Option ((Unit) ⊕ (Bool × Unit))) (t_5n : Nat) (t_6 : Int) (t_7 : Int) (m0_0 : (Nat → Int)) : Option ((Unit) ⊕ (Bool × Unit)) :=
  (bif (decide (t_7 < t_6)) then (bif ((decide (0 ≤ t_7)) && (decide (t_7 < ((t_5n : Nat) : Int)))) then (bif (decide ((m0_0 (Int.toNat t_7)) < 0)) then (some (.inr (false, ()))) else (bif (decide ((m0_0 (Int.toNat t_7)) > 10000)) then (some (.inr (false, ()))) else (rec t_5n t_6 (wi64 (t_7 + 1)) m0_0))) else none) else (some (.inl (()))))
noncomputable def fuse_right_l0 (K n : Nat) : Nat → Int → Int → (Nat → Int) → Option ((Unit) ⊕ (Bool × Unit)) := Nat.rec (motive := fun _ => Nat → Int → Int → (Nat → Int) → Option ((Unit) ⊕ (Bool × Unit))) (fun _ _ _ _ => none) (fun _ ih => fuse_right_l0r K ih) n
noncomputable def fuse_right_l0u (K n : Nat) (t : fuse_right_l0h.T) : Option ((Unit) ⊕ (Bool × Unit)) := fuse_right_l0 K n t.1 t.2.1 t.2.2.1 t.2.2.2.1
noncomputable def fuse_right_l0o (K : Nat) : LO := loopLO fuse_right_l0h fuse_right_l0O fun t => fuse_right_l0u K K t
noncomputable def fuse_right_l0C : Code := bodyOf Try.f23
noncomputable def fuse_right_l0B : Code := (findLoops 2 (loopsIn fuse_right_l0C)).headD .skip
theorem fuse_right_l0F : findLoops 2 (loopsIn fuse_right_l0C) = [fuse_right_l0B] := by kernel_rfl
theorem fuse_right_l0q (K n : Nat) (t : fuse_right_l0h.T) : exC (fuse_right_e0 K) (hdl (fuse_right_e0 K) 0) (23 :: []) fuse_right_l0B (fuse_right_l0h.put t) (fun s => (fuse_right_l0h.take s).bind fun t => fuse_right_l0u K n t) (fun id s => fuse_right_l0O.get (some id) s) (fun s => fuse_right_l0O.get none s) = fuse_right_l0u K (n + 1) t := by kernel_rfl
noncomputable def fuse_right_l0E (K : Nat) : LoopE Try.prog := ⟨[2, 23], fuse_right_l0o K, Try.f23, fuse_right_l0C, fuse_right_l0B, ⟨2, 23, [], rfl, Try.func23, by kernel_rfl, fuse_right_l0F⟩,
  loop_rule (F := fun n t => fuse_right_l0u K n t) (fuse_right_t0 K) (fuse_right_i0 K) (draws (fuse_right_t0 K)) 0 Try.func23 (c := fuse_right_l0C) (by kernel_rfl) (body_in fuse_right_l0F) (ctx' := []) (h := fuse_right_l0h) (O := fuse_right_l0O) (fun _ => rfl) (fun m t => fuse_right_l0q K m t) K⟩
noncomputable def fuse_right_e1 (K : Nat) : Env := ⟨tt, [], [], [([2, 23], fuse_right_l0o K)], eqs⟩
theorem fuse_right_t1 (K : Nat) : EnvT Try.prog (fuse_right_e1 K) := envT_of tt_ok eqs_ok trivial
theorem fuse_right_i1 (K : Nat) : EnvI Try.prog (fuse_right_e1 K) := envI_of (es := [fuse_right_l0E K]) trivial ⟨⟨rfl, rfl⟩, trivial⟩
noncomputable def fuse_right_h : Sh := ⟨1, [(0, .sc (.slr0 0))], [], [(false, true, [.ir .i64])]⟩
noncomputable def fuse_right_r : Sh := ⟨1, [(0, .sc (.b))], [], []⟩
noncomputable def fuse_right_g (K : Nat) (l_0n : Nat) (m0_0 : (Nat → Int)) : Option (Bool × Unit) :=
  ((fuse_right_l0 K K l_0n ((l_0n : Nat) : Int) 0 m0_0).bind fun q1 => (Sum.elim (fun q2 => (some (true, ()))) (fun q3 => (some (q3.1, ()))) q1))
noncomputable def fuse_right_o (K : Nat) : FO := fnFO fuse_right_h fuse_right_r fun t => fuse_right_g K t.1 t.2.1
theorem fuse_right_q (K : Nat) (t : fuse_right_h.T) : exFn (fuse_right_e1 K) (hdl (fuse_right_e1 K) 0) [23] Try.f23 (slVals (fuse_right_h.put t).fr.sl) ⟨⟨0, []⟩, [], (fuse_right_h.put t).mem⟩ (takeRes fuse_right_r) = fuse_right_g K t.1 t.2.1 := by kernel_rfl
theorem fuse_right_ok (K : Nat) : FOok Try.prog 23 (fuse_right_o K) :=
  fn_rule (fuse_right_t1 K) (fuse_right_i1 K) (draws (fuse_right_t1 K)) 0 Try.func23 (fnB_ok Try.func23 (by kernel_rfl)) rfl rfl (allOwn_ok false (by kernel_rfl)) rfl (allOwn_ok true (by kernel_rfl)) (fun t => fuse_right_q K t)
/-! fx_Toward -/
noncomputable def fx_Toward_e0 (K : Nat) : Env := ⟨tt, [], [], [], eqs⟩
theorem fx_Toward_t0 (K : Nat) : EnvT Try.prog (fx_Toward_e0 K) := envT_of tt_ok eqs_ok trivial
theorem fx_Toward_i0 (K : Nat) : EnvI Try.prog (fx_Toward_e0 K) := envI_of (es := []) trivial trivial
noncomputable def fx_Toward_h : Sh := ⟨3, [(0, .sc (.i .i64)), (1, .sc (.i .i64)), (2, .sc (.i .i64))], [], []⟩
noncomputable def fx_Toward_r : Sh := ⟨1, [(0, .sc (.i .i64))], [], []⟩
noncomputable def fx_Toward_g (K : Nat) (from_0 : Int) (to_1 : Int) (step_2 : Int) : Option (Int × Unit) :=
  (bif (decide (step_2 < 1)) then (some (from_0, ())) else (bif (decide (from_0 ≤ to_1)) then (bif (decide ((wu64 ((wi64 (to_1 - from_0)))) ≤ (wu64 (step_2)))) then (bif (decide ((wu64 ((wi64 (to_1 - from_0)))) ≤ (wu64 (step_2)))) then (some (to_1, ())) else (bif (decide (from_0 < to_1)) then (some ((wi64 (from_0 + step_2)), ())) else (some ((wi64 (from_0 - step_2)), ())))) else (bif (decide (from_0 > to_1)) then (bif (decide ((wu64 ((wi64 (from_0 - to_1)))) ≤ (wu64 (step_2)))) then (some (to_1, ())) else (bif (decide (from_0 < to_1)) then (some ((wi64 (from_0 + step_2)), ())) else (some ((wi64 (from_0 - step_2)), ())))) else (bif (decide (from_0 < to_1)) then (some ((wi64 (from_0 + step_2)), ())) else (some ((wi64 (from_0 - step_2)), ()))))) else (bif (decide (from_0 > to_1)) then (bif (decide ((wu64 ((wi64 (from_0 - to_1)))) ≤ (wu64 (step_2)))) then (some (to_1, ())) else (bif (decide (from_0 < to_1)) then (some ((wi64 (from_0 + step_2)), ())) else (some ((wi64 (from_0 - step_2)), ())))) else (bif (decide (from_0 < to_1)) then (some ((wi64 (from_0 + step_2)), ())) else (some ((wi64 (from_0 - step_2)), ()))))))
noncomputable def fx_Toward_o (K : Nat) : FO := fnFO fx_Toward_h fx_Toward_r fun t => fx_Toward_g K t.1 t.2.1 t.2.2.1
theorem fx_Toward_q (K : Nat) (t : fx_Toward_h.T) : exFn (fx_Toward_e0 K) (hdl (fx_Toward_e0 K) 0) [24] Try.f24 (slVals (fx_Toward_h.put t).fr.sl) ⟨⟨0, []⟩, [], (fx_Toward_h.put t).mem⟩ (takeRes fx_Toward_r) = fx_Toward_g K t.1 t.2.1 t.2.2.1 := by kernel_rfl
theorem fx_Toward_ok (K : Nat) : FOok Try.prog 24 (fx_Toward_o K) :=
  fn_rule (fx_Toward_t0 K) (fx_Toward_i0 K) (draws (fx_Toward_t0 K)) 0 Try.func24 (fnB_ok Try.func24 (by kernel_rfl)) rfl rfl (allOwn_ok false (by kernel_rfl)) rfl (allOwn_ok true (by kernel_rfl)) (fun t => fx_Toward_q K t)
/-! fuse_Correct -/
noncomputable def fuse_Correct_e0 (K : Nat) : Env := ⟨tt, [(23, fuse_right_o K), (24, fx_Toward_o K)], [], [], eqs⟩
theorem fuse_Correct_t0 (K : Nat) : EnvT Try.prog (fuse_Correct_e0 K) := envT_of tt_ok eqs_ok ⟨fuse_right_ok K, fx_Toward_ok K, trivial⟩
theorem fuse_Correct_i0 (K : Nat) : EnvI Try.prog (fuse_Correct_e0 K) := envI_of (es := []) trivial trivial
noncomputable def fuse_Correct_h : Sh := ⟨3, [(0, .sc (.i .i64)), (1, .sc (.i .i64)), (2, .sc (.i .i64))], [], []⟩
noncomputable def fuse_Correct_r : Sh := ⟨2, [(0, .sc (.i .i64)), (1, .sc (.i .i64))], [], []⟩
noncomputable def fuse_Correct_g (K : Nat) (soc_0 : Int) (told_1 : Int) (slew_2 : Int) : Option (Int × Int × Unit) :=
  ((fuse_right_g K 3 (fun j => (selI [soc_0, told_1, slew_2] j))).bind fun q1 => (bif (!q1.1) then (some (0, 2, ())) else (bif (slew_2 == 0) then (some (0, 2, ())) else ((fx_Toward_g K soc_0 told_1 slew_2).bind fun q2 => (some (q2.1, 0, ()))))))
noncomputable def fuse_Correct_o (K : Nat) : FO := fnFO fuse_Correct_h fuse_Correct_r fun t => fuse_Correct_g K t.1 t.2.1 t.2.2.1
theorem fuse_Correct_q (K : Nat) (t : fuse_Correct_h.T) : exFn (fuse_Correct_e0 K) (hdl (fuse_Correct_e0 K) 0) [10] Try.f10 (slVals (fuse_Correct_h.put t).fr.sl) ⟨⟨0, []⟩, [], (fuse_Correct_h.put t).mem⟩ (takeRes fuse_Correct_r) = fuse_Correct_g K t.1 t.2.1 t.2.2.1 := by kernel_rfl
theorem fuse_Correct_ok (K : Nat) : FOok Try.prog 10 (fuse_Correct_o K) :=
  fn_rule (fuse_Correct_t0 K) (fuse_Correct_i0 K) (draws (fuse_Correct_t0 K)) 0 Try.func10 (fnB_ok Try.func10 (by kernel_rfl)) rfl rfl (allOwn_ok false (by kernel_rfl)) rfl (allOwn_ok true (by kernel_rfl)) (fun t => fuse_Correct_q K t)
/-! fx_Size -/
noncomputable def fx_Size_e0 (K : Nat) : Env := ⟨tt, [], [], [], eqs⟩
theorem fx_Size_t0 (K : Nat) : EnvT Try.prog (fx_Size_e0 K) := envT_of tt_ok eqs_ok trivial
theorem fx_Size_i0 (K : Nat) : EnvI Try.prog (fx_Size_e0 K) := envI_of (es := []) trivial trivial
noncomputable def fx_Size_h : Sh := ⟨1, [(0, .sc (.i .i64))], [], []⟩
noncomputable def fx_Size_r : Sh := ⟨1, [(0, .sc (.i .i64))], [], []⟩
noncomputable def fx_Size_g (K : Nat) (n_0 : Int) : Option (Int × Unit) :=
  (bif (decide (n_0 < 0)) then (bif (decide ((wi64 (0 - n_0)) < 0)) then (some ((wi64 ((wi64 (0 - n_0)) - 1)), ())) else (some ((wi64 (0 - n_0)), ()))) else (some (n_0, ())))
noncomputable def fx_Size_o (K : Nat) : FO := fnFO fx_Size_h fx_Size_r fun t => fx_Size_g K t.1
theorem fx_Size_q (K : Nat) (t : fx_Size_h.T) : exFn (fx_Size_e0 K) (hdl (fx_Size_e0 K) 0) [22] Try.f22 (slVals (fx_Size_h.put t).fr.sl) ⟨⟨0, []⟩, [], (fx_Size_h.put t).mem⟩ (takeRes fx_Size_r) = fx_Size_g K t.1 := by kernel_rfl
theorem fx_Size_ok (K : Nat) : FOok Try.prog 22 (fx_Size_o K) :=
  fn_rule (fx_Size_t0 K) (fx_Size_i0 K) (draws (fx_Size_t0 K)) 0 Try.func22 (fnB_ok Try.func22 (by kernel_rfl)) rfl rfl (allOwn_ok false (by kernel_rfl)) rfl (allOwn_ok true (by kernel_rfl)) (fun t => fx_Size_q K t)
/-! wide_Of -/
noncomputable def wide_Of_e0 (K : Nat) : Env := ⟨tt, [], [], [], eqs⟩
theorem wide_Of_t0 (K : Nat) : EnvT Try.prog (wide_Of_e0 K) := envT_of tt_ok eqs_ok trivial
theorem wide_Of_i0 (K : Nat) : EnvI Try.prog (wide_Of_e0 K) := envI_of (es := []) trivial trivial
noncomputable def wide_Of_h : Sh := ⟨1, [(0, .sc (.i .i64))], [], []⟩
noncomputable def wide_Of_r : Sh := ⟨1, [(0, .ag [.i .i64, .i .u64])], [], []⟩
noncomputable def wide_Of_g (K : Nat) (a_0 : Int) : Option (Int × Int × Unit) :=
  (some ((shR .i64 a_0 63), (wu64 (a_0)), ()))
noncomputable def wide_Of_o (K : Nat) : FO := fnFO wide_Of_h wide_Of_r fun t => wide_Of_g K t.1
theorem wide_Of_q (K : Nat) (t : wide_Of_h.T) : exFn (wide_Of_e0 K) (hdl (wide_Of_e0 K) 0) [21] Try.f21 (slVals (wide_Of_h.put t).fr.sl) ⟨⟨0, []⟩, [], (wide_Of_h.put t).mem⟩ (takeRes wide_Of_r) = wide_Of_g K t.1 := by kernel_rfl
theorem wide_Of_ok (K : Nat) : FOok Try.prog 21 (wide_Of_o K) :=
  fn_rule (wide_Of_t0 K) (wide_Of_i0 K) (draws (wide_Of_t0 K)) 0 Try.func21 (fnB_ok Try.func21 (by kernel_rfl)) rfl rfl (allOwn_ok false (by kernel_rfl)) rfl (allOwn_ok true (by kernel_rfl)) (fun t => wide_Of_q K t)
/-! math_bits_Sub64 -/
theorem math_bits_Sub64_x : ExtOk Try.prog 85 subRow := ⟨Try.f85, Try.func85, by kernel_rfl, by kernel_rfl, by kernel_rfl, by kernel_rfl⟩
noncomputable def math_bits_Sub64_o (K : Nat) : FO := extFO subV
theorem math_bits_Sub64_ok (K : Nat) : FOok Try.prog 85 (math_bits_Sub64_o K) := sub_ok math_bits_Sub64_x
/-! math_bits_Sub -/
noncomputable def math_bits_Sub_e0 (K : Nat) : Env := ⟨tt, [(85, math_bits_Sub64_o K)], [], [], eqs⟩
theorem math_bits_Sub_t0 (K : Nat) : EnvT Try.prog (math_bits_Sub_e0 K) := envT_of tt_ok eqs_ok ⟨math_bits_Sub64_ok K, trivial⟩
theorem math_bits_Sub_i0 (K : Nat) : EnvI Try.prog (math_bits_Sub_e0 K) := envI_of (es := []) trivial trivial
noncomputable def math_bits_Sub_h : Sh := ⟨3, [(0, .sc (.i .u64)), (1, .sc (.i .u64)), (2, .sc (.i .u64))], [], []⟩
noncomputable def math_bits_Sub_r : Sh := ⟨2, [(0, .sc (.i .u64)), (1, .sc (.i .u64))], [], []⟩
noncomputable def math_bits_Sub_g (K : Nat) (x_0 : Int) (y_1 : Int) (borrow_2 : Int) : Option (Int × Int × Unit) :=
  (bif (decide (borrow_2 ≤ 1)) then (some ((Int.ofNat (((Int.toNat x_0) + 18446744073709551616 - (Int.toNat y_1) - (Int.toNat borrow_2)) % 18446744073709551616)), (Int.ofNat (bif Nat.blt (Int.toNat x_0) ((Int.toNat y_1) + (Int.toNat borrow_2)) then 1 else 0)), ())) else none)
noncomputable def math_bits_Sub_o (K : Nat) : FO := fnFO math_bits_Sub_h math_bits_Sub_r fun t => math_bits_Sub_g K t.1 t.2.1 t.2.2.1
theorem math_bits_Sub_q (K : Nat) (t : math_bits_Sub_h.T) : exFn (math_bits_Sub_e0 K) (hdl (math_bits_Sub_e0 K) 0) [70] Try.f70 (slVals (math_bits_Sub_h.put t).fr.sl) ⟨⟨0, []⟩, [], (math_bits_Sub_h.put t).mem⟩ (takeRes math_bits_Sub_r) = math_bits_Sub_g K t.1 t.2.1 t.2.2.1 := by kernel_rfl
theorem math_bits_Sub_ok (K : Nat) : FOok Try.prog 70 (math_bits_Sub_o K) :=
  fn_rule (math_bits_Sub_t0 K) (math_bits_Sub_i0 K) (draws (math_bits_Sub_t0 K)) 0 Try.func70 (fnB_ok Try.func70 (by kernel_rfl)) rfl rfl (allOwn_ok false (by kernel_rfl)) rfl (allOwn_ok true (by kernel_rfl)) (fun t => math_bits_Sub_q K t)
/-! wide_Number_minus -/
noncomputable def wide_Number_minus_e0 (K : Nat) : Env := ⟨tt, [(70, math_bits_Sub_o K)], [], [], eqs⟩
theorem wide_Number_minus_t0 (K : Nat) : EnvT Try.prog (wide_Number_minus_e0 K) := envT_of tt_ok eqs_ok ⟨math_bits_Sub_ok K, trivial⟩
theorem wide_Number_minus_i0 (K : Nat) : EnvI Try.prog (wide_Number_minus_e0 K) := envI_of (es := []) trivial trivial
noncomputable def wide_Number_minus_h : Sh := ⟨1, [(0, .ag [.i .i64, .i .u64])], [], []⟩
noncomputable def wide_Number_minus_r : Sh := ⟨1, [(0, .ag [.i .i64, .i .u64])], [], []⟩
noncomputable def wide_Number_minus_g (K : Nat) (n_0_0 : Int) (n_0_1 : Int) : Option (Int × Int × Unit) :=
  ((math_bits_Sub_g K 0 n_0_1 0).bind fun q1 => ((math_bits_Sub_g K 0 (wu64 (n_0_0)) q1.2.1).bind fun q2 => (some ((wi64 (q2.1)), q1.1, ()))))
noncomputable def wide_Number_minus_o (K : Nat) : FO := fnFO wide_Number_minus_h wide_Number_minus_r fun t => wide_Number_minus_g K t.1 t.2.1
theorem wide_Number_minus_q (K : Nat) (t : wide_Number_minus_h.T) : exFn (wide_Number_minus_e0 K) (hdl (wide_Number_minus_e0 K) 0) [57] Try.f57 (slVals (wide_Number_minus_h.put t).fr.sl) ⟨⟨0, []⟩, [], (wide_Number_minus_h.put t).mem⟩ (takeRes wide_Number_minus_r) = wide_Number_minus_g K t.1 t.2.1 := by kernel_rfl
theorem wide_Number_minus_ok (K : Nat) : FOok Try.prog 57 (wide_Number_minus_o K) :=
  fn_rule (wide_Number_minus_t0 K) (wide_Number_minus_i0 K) (draws (wide_Number_minus_t0 K)) 0 Try.func57 (fnB_ok Try.func57 (by kernel_rfl)) rfl rfl (allOwn_ok false (by kernel_rfl)) rfl (allOwn_ok true (by kernel_rfl)) (fun t => wide_Number_minus_q K t)
/-! math_bits_Len64 -/
noncomputable def math_bits_Len64_e0 (K : Nat) : Env := ⟨tt, [], [], [], eqs⟩
theorem math_bits_Len64_t0 (K : Nat) : EnvT Try.prog (math_bits_Len64_e0 K) := envT_of tt_ok eqs_ok trivial
theorem math_bits_Len64_i0 (K : Nat) : EnvI Try.prog (math_bits_Len64_e0 K) := envI_of (es := []) trivial trivial
noncomputable def math_bits_Len64_h : Sh := ⟨1, [(0, .sc (.i .u64))], [], []⟩
noncomputable def math_bits_Len64_r : Sh := ⟨1, [(0, .sc (.i .i64))], [], []⟩
noncomputable def math_bits_Len64_g (K : Nat) (x_0 : Int) : Option (Int × Unit) :=
  (bif (decide (x_0 ≥ 4294967296)) then (bif (decide ((shR .u64 x_0 32) ≥ 65536)) then (bif (decide ((shR .u64 (shR .u64 x_0 32) 16) ≥ 256)) then (bif ((decide (0 ≤ (wu8 ((shR .u64 (shR .u64 (shR .u64 x_0 32) 16) 8))))) && (decide ((wu8 ((shR .u64 (shR .u64 (shR .u64 x_0 32) 16) 8))) < 256))) then (some ((wi64 (56 + (wi64 ((((tab0.getD (Int.toNat (wu8 ((shR .u64 (shR .u64 (shR .u64 x_0 32) 16) 8)))) 0).toNat : Nat) : Int))))), ())) else none) else (bif ((decide (0 ≤ (wu8 ((shR .u64 (shR .u64 x_0 32) 16))))) && (decide ((wu8 ((shR .u64 (shR .u64 x_0 32) 16))) < 256))) then (some ((wi64 (48 + (wi64 ((((tab0.getD (Int.toNat (wu8 ((shR .u64 (shR .u64 x_0 32) 16)))) 0).toNat : Nat) : Int))))), ())) else none)) else (bif (decide ((shR .u64 x_0 32) ≥ 256)) then (bif ((decide (0 ≤ (wu8 ((shR .u64 (shR .u64 x_0 32) 8))))) && (decide ((wu8 ((shR .u64 (shR .u64 x_0 32) 8))) < 256))) then (some ((wi64 (40 + (wi64 ((((tab0.getD (Int.toNat (wu8 ((shR .u64 (shR .u64 x_0 32) 8)))) 0).toNat : Nat) : Int))))), ())) else none) else (bif ((decide (0 ≤ (wu8 ((shR .u64 x_0 32))))) && (decide ((wu8 ((shR .u64 x_0 32))) < 256))) then (some ((wi64 (32 + (wi64 ((((tab0.getD (Int.toNat (wu8 ((shR .u64 x_0 32)))) 0).toNat : Nat) : Int))))), ())) else none))) else (bif (decide (x_0 ≥ 65536)) then (bif (decide ((shR .u64 x_0 16) ≥ 256)) then (bif ((decide (0 ≤ (wu8 ((shR .u64 (shR .u64 x_0 16) 8))))) && (decide ((wu8 ((shR .u64 (shR .u64 x_0 16) 8))) < 256))) then (some ((wi64 (24 + (wi64 ((((tab0.getD (Int.toNat (wu8 ((shR .u64 (shR .u64 x_0 16) 8)))) 0).toNat : Nat) : Int))))), ())) else none) else (bif ((decide (0 ≤ (wu8 ((shR .u64 x_0 16))))) && (decide ((wu8 ((shR .u64 x_0 16))) < 256))) then (some ((wi64 (16 + (wi64 ((((tab0.getD (Int.toNat (wu8 ((shR .u64 x_0 16)))) 0).toNat : Nat) : Int))))), ())) else none)) else (bif (decide (x_0 ≥ 256)) then (bif ((decide (0 ≤ (wu8 ((shR .u64 x_0 8))))) && (decide ((wu8 ((shR .u64 x_0 8))) < 256))) then (some ((wi64 (8 + (wi64 ((((tab0.getD (Int.toNat (wu8 ((shR .u64 x_0 8)))) 0).toNat : Nat) : Int))))), ())) else none) else (bif ((decide (0 ≤ (wu8 (x_0)))) && (decide ((wu8 (x_0)) < 256))) then (some ((wi64 (0 + (wi64 ((((tab0.getD (Int.toNat (wu8 (x_0))) 0).toNat : Nat) : Int))))), ())) else none))))
noncomputable def math_bits_Len64_o (K : Nat) : FO := fnFO math_bits_Len64_h math_bits_Len64_r fun t => math_bits_Len64_g K t.1
theorem math_bits_Len64_q (K : Nat) (t : math_bits_Len64_h.T) : exFn (math_bits_Len64_e0 K) (hdl (math_bits_Len64_e0 K) 0) [91] Try.f91 (slVals (math_bits_Len64_h.put t).fr.sl) ⟨⟨0, []⟩, [], (math_bits_Len64_h.put t).mem⟩ (takeRes math_bits_Len64_r) = math_bits_Len64_g K t.1 := by kernel_rfl
theorem math_bits_Len64_ok (K : Nat) : FOok Try.prog 91 (math_bits_Len64_o K) :=
  fn_rule (math_bits_Len64_t0 K) (math_bits_Len64_i0 K) (draws (math_bits_Len64_t0 K)) 0 Try.func91 (fnB_ok Try.func91 (by kernel_rfl)) rfl rfl (allOwn_ok false (by kernel_rfl)) rfl (allOwn_ok true (by kernel_rfl)) (fun t => math_bits_Len64_q K t)
/-! math_bits_LeadingZeros64 -/
noncomputable def math_bits_LeadingZeros64_e0 (K : Nat) : Env := ⟨tt, [(91, math_bits_Len64_o K)], [], [], eqs⟩
theorem math_bits_LeadingZeros64_t0 (K : Nat) : EnvT Try.prog (math_bits_LeadingZeros64_e0 K) := envT_of tt_ok eqs_ok ⟨math_bits_Len64_ok K, trivial⟩
theorem math_bits_LeadingZeros64_i0 (K : Nat) : EnvI Try.prog (math_bits_LeadingZeros64_e0 K) := envI_of (es := []) trivial trivial
noncomputable def math_bits_LeadingZeros64_h : Sh := ⟨1, [(0, .sc (.i .u64))], [], []⟩
noncomputable def math_bits_LeadingZeros64_r : Sh := ⟨1, [(0, .sc (.i .i64))], [], []⟩
noncomputable def math_bits_LeadingZeros64_g (K : Nat) (x_0 : Int) : Option (Int × Unit) :=
  ((math_bits_Len64_g K x_0).bind fun q1 => (some ((wi64 (64 - q1.1)), ())))
noncomputable def math_bits_LeadingZeros64_o (K : Nat) : FO := fnFO math_bits_LeadingZeros64_h math_bits_LeadingZeros64_r fun t => math_bits_LeadingZeros64_g K t.1
theorem math_bits_LeadingZeros64_q (K : Nat) (t : math_bits_LeadingZeros64_h.T) : exFn (math_bits_LeadingZeros64_e0 K) (hdl (math_bits_LeadingZeros64_e0 K) 0) [86] Try.f86 (slVals (math_bits_LeadingZeros64_h.put t).fr.sl) ⟨⟨0, []⟩, [], (math_bits_LeadingZeros64_h.put t).mem⟩ (takeRes math_bits_LeadingZeros64_r) = math_bits_LeadingZeros64_g K t.1 := by kernel_rfl
theorem math_bits_LeadingZeros64_ok (K : Nat) : FOok Try.prog 86 (math_bits_LeadingZeros64_o K) :=
  fn_rule (math_bits_LeadingZeros64_t0 K) (math_bits_LeadingZeros64_i0 K) (draws (math_bits_LeadingZeros64_t0 K)) 0 Try.func86 (fnB_ok Try.func86 (by kernel_rfl)) rfl rfl (allOwn_ok false (by kernel_rfl)) rfl (allOwn_ok true (by kernel_rfl)) (fun t => math_bits_LeadingZeros64_q K t)
/-! math_bits_Div64 -/
noncomputable def math_bits_Div64_e0 (K : Nat) : Env := ⟨tt, [(86, math_bits_LeadingZeros64_o K)], [], [], eqs⟩
theorem math_bits_Div64_t0 (K : Nat) : EnvT Try.prog (math_bits_Div64_e0 K) := envT_of tt_ok eqs_ok ⟨math_bits_LeadingZeros64_ok K, trivial⟩
theorem math_bits_Div64_i0 (K : Nat) : EnvI Try.prog (math_bits_Div64_e0 K) := envI_of (es := []) trivial trivial
noncomputable def math_bits_Div64_l0h : Sh := ⟨135, [(2, .sc (.i .u64)), (8, .sc (.i .u64)), (9, .sc (.i .u64)), (10, .sc (.i .u64)), (11, .sc (.i .u64)), (13, .sc (.i .u64)), (14, .sc (.i .u64)), (15, .sc (.i .u64)), (16, .sc (.i .u64))], [(0, [])], []⟩
noncomputable def math_bits_Div64_l0x0 : Sh := ⟨135, [(2, .sc (.i .u64)), (8, .sc (.i .u64)), (9, .sc (.i .u64)), (10, .sc (.i .u64)), (11, .sc (.i .u64)), (13, .sc (.i .u64)), (14, .sc (.i .u64)), (15, .sc (.i .u64))], [(0, [])], []⟩
noncomputable def math_bits_Div64_l0O : OutI (Int × Int × Int × Int × Int × Int × Int × Int × Unit) := (OutI.exit 0 math_bits_Div64_l0x0)
noncomputable def math_bits_Div64_l0r (K : Nat) (rec : Int → Int → Int → Int → Int → Int → Int → Int → Int → Option (Int × Int × Int × Int × Int × Int × Int × Int × Unit)) (y_2 : Int) (s_8 : Int) (yn1_9 : Int) (yn0_10 : Int) (un32_11 : Int) (un1_13 : Int) (un0_14 : Int) (q1_15 : Int) (rhat_16 : Int) : Option (Int × Int × Int × Int × Int × Int × Int × Int × Unit) :=
  (bif (decide (q1_15 ≥ 4294967296)) then (bif (decide ((wu64 (rhat_16 + yn1_9)) ≥ 4294967296)) then (some (y_2, s_8, yn1_9, yn0_10, un32_11, un1_13, un0_14, (wu64 (q1_15 - 1)), ())) else (rec y_2 s_8 yn1_9 yn0_10 un32_11 un1_13 un0_14 (wu64 (q1_15 - 1)) (wu64 (rhat_16 + yn1_9)))) else (bif (decide ((wu64 (q1_15 * yn0_10)) > (wu64 ((wu64 (4294967296 * rhat_16)) + un1_13)))) then (bif (decide ((wu64 (rhat_16 + yn1_9)) ≥ 4294967296)) then (some (y_2, s_8, yn1_9, yn0_10, un32_11, un1_13, un0_14, (wu64 (q1_15 - 1)), ())) else (rec y_2 s_8 yn1_9 yn0_10 un32_11 un1_13 un0_14 (wu64 (q1_15 - 1)) (wu64 (rhat_16 + yn1_9)))) else (some (y_2, s_8, yn1_9, yn0_10, un32_11, un1_13, un0_14, q1_15, ()))))
noncomputable def math_bits_Div64_l0 (K n : Nat) : Int → Int → Int → Int → Int → Int → Int → Int → Int → Option (Int × Int × Int × Int × Int × Int × Int × Int × Unit) := Nat.rec (motive := fun _ => Int → Int → Int → Int → Int → Int → Int → Int → Int → Option (Int × Int × Int × Int × Int × Int × Int × Int × Unit)) (fun _ _ _ _ _ _ _ _ _ => none) (fun _ ih => math_bits_Div64_l0r K ih) n
noncomputable def math_bits_Div64_l0u (K n : Nat) (t : math_bits_Div64_l0h.T) : Option (Int × Int × Int × Int × Int × Int × Int × Int × Unit) := math_bits_Div64_l0 K n t.1 t.2.1 t.2.2.1 t.2.2.2.1 t.2.2.2.2.1 t.2.2.2.2.2.1 t.2.2.2.2.2.2.1 t.2.2.2.2.2.2.2.1 t.2.2.2.2.2.2.2.2.1
noncomputable def math_bits_Div64_l0o (K : Nat) : LO := loopLO math_bits_Div64_l0h math_bits_Div64_l0O fun t => math_bits_Div64_l0u K K t
noncomputable def math_bits_Div64_l0C : Code := bodyOf Try.f72
noncomputable def math_bits_Div64_l0B : Code := (findLoops 17 (loopsIn math_bits_Div64_l0C)).headD .skip
theorem math_bits_Div64_l0F : findLoops 17 (loopsIn math_bits_Div64_l0C) = [math_bits_Div64_l0B] := by kernel_rfl
theorem math_bits_Div64_l0q (K n : Nat) (t : math_bits_Div64_l0h.T) : exC (math_bits_Div64_e0 K) (hdl (math_bits_Div64_e0 K) 0) (72 :: []) math_bits_Div64_l0B (math_bits_Div64_l0h.put t) (fun s => (math_bits_Div64_l0h.take s).bind fun t => math_bits_Div64_l0u K n t) (fun id s => math_bits_Div64_l0O.get (some id) s) (fun s => math_bits_Div64_l0O.get none s) = math_bits_Div64_l0u K (n + 1) t := by kernel_rfl
noncomputable def math_bits_Div64_l0E (K : Nat) : LoopE Try.prog := ⟨[17, 72], math_bits_Div64_l0o K, Try.f72, math_bits_Div64_l0C, math_bits_Div64_l0B, ⟨17, 72, [], rfl, Try.func72, by kernel_rfl, math_bits_Div64_l0F⟩,
  loop_rule (F := fun n t => math_bits_Div64_l0u K n t) (math_bits_Div64_t0 K) (math_bits_Div64_i0 K) (draws (math_bits_Div64_t0 K)) 0 Try.func72 (c := math_bits_Div64_l0C) (by kernel_rfl) (body_in math_bits_Div64_l0F) (ctx' := []) (h := math_bits_Div64_l0h) (O := math_bits_Div64_l0O) (fun _ => rfl) (fun m t => math_bits_Div64_l0q K m t) K⟩
noncomputable def math_bits_Div64_e1 (K : Nat) : Env := ⟨tt, [(86, math_bits_LeadingZeros64_o K)], [], [([17, 72], math_bits_Div64_l0o K)], eqs⟩
theorem math_bits_Div64_t1 (K : Nat) : EnvT Try.prog (math_bits_Div64_e1 K) := envT_of tt_ok eqs_ok ⟨math_bits_LeadingZeros64_ok K, trivial⟩
theorem math_bits_Div64_i1 (K : Nat) : EnvI Try.prog (math_bits_Div64_e1 K) := envI_of (es := [math_bits_Div64_l0E K]) trivial ⟨⟨rfl, rfl⟩, trivial⟩
noncomputable def math_bits_Div64_l1h : Sh := ⟨135, [(2, .sc (.i .u64)), (8, .sc (.i .u64)), (9, .sc (.i .u64)), (10, .sc (.i .u64)), (14, .sc (.i .u64)), (15, .sc (.i .u64)), (16, .sc (.i .u64)), (17, .sc (.i .u64)), (18, .sc (.i .u64))], [(0, [])], []⟩
noncomputable def math_bits_Div64_l1x0 : Sh := ⟨135, [(2, .sc (.i .u64)), (8, .sc (.i .u64)), (14, .sc (.i .u64)), (15, .sc (.i .u64)), (17, .sc (.i .u64)), (18, .sc (.i .u64))], [(0, [])], []⟩
noncomputable def math_bits_Div64_l1O : OutI (Int × Int × Int × Int × Int × Int × Unit) := (OutI.exit 2 math_bits_Div64_l1x0)
noncomputable def math_bits_Div64_l1r (K : Nat) (rec : Int → Int → Int → Int → Int → Int → Int → Int → Int → Option (Int × Int × Int × Int × Int × Int × Unit)) (y_2 : Int) (s_8 : Int) (yn1_9 : Int) (yn0_10 : Int) (un0_14 : Int) (q1_15 : Int) (rhat_16 : Int) (un21_17 : Int) (q0_18 : Int) : Option (Int × Int × Int × Int × Int × Int × Unit) :=
  (bif (decide (q0_18 ≥ 4294967296)) then (bif (decide ((wu64 (rhat_16 + yn1_9)) ≥ 4294967296)) then (some (y_2, s_8, un0_14, q1_15, un21_17, (wu64 (q0_18 - 1)), ())) else (rec y_2 s_8 yn1_9 yn0_10 un0_14 q1_15 (wu64 (rhat_16 + yn1_9)) un21_17 (wu64 (q0_18 - 1)))) else (bif (decide ((wu64 (q0_18 * yn0_10)) > (wu64 ((wu64 (4294967296 * rhat_16)) + un0_14)))) then (bif (decide ((wu64 (rhat_16 + yn1_9)) ≥ 4294967296)) then (some (y_2, s_8, un0_14, q1_15, un21_17, (wu64 (q0_18 - 1)), ())) else (rec y_2 s_8 yn1_9 yn0_10 un0_14 q1_15 (wu64 (rhat_16 + yn1_9)) un21_17 (wu64 (q0_18 - 1)))) else (some (y_2, s_8, un0_14, q1_15, un21_17, q0_18, ()))))
noncomputable def math_bits_Div64_l1 (K n : Nat) : Int → Int → Int → Int → Int → Int → Int → Int → Int → Option (Int × Int × Int × Int × Int × Int × Unit) := Nat.rec (motive := fun _ => Int → Int → Int → Int → Int → Int → Int → Int → Int → Option (Int × Int × Int × Int × Int × Int × Unit)) (fun _ _ _ _ _ _ _ _ _ => none) (fun _ ih => math_bits_Div64_l1r K ih) n
noncomputable def math_bits_Div64_l1u (K n : Nat) (t : math_bits_Div64_l1h.T) : Option (Int × Int × Int × Int × Int × Int × Unit) := math_bits_Div64_l1 K n t.1 t.2.1 t.2.2.1 t.2.2.2.1 t.2.2.2.2.1 t.2.2.2.2.2.1 t.2.2.2.2.2.2.1 t.2.2.2.2.2.2.2.1 t.2.2.2.2.2.2.2.2.1
noncomputable def math_bits_Div64_l1o (K : Nat) : LO := loopLO math_bits_Div64_l1h math_bits_Div64_l1O fun t => math_bits_Div64_l1u K K t
noncomputable def math_bits_Div64_l1C : Code := bodyOf Try.f72
noncomputable def math_bits_Div64_l1B : Code := (findLoops 24 (loopsIn math_bits_Div64_l1C)).headD .skip
theorem math_bits_Div64_l1F : findLoops 24 (loopsIn math_bits_Div64_l1C) = [math_bits_Div64_l1B] := by kernel_rfl
theorem math_bits_Div64_l1q (K n : Nat) (t : math_bits_Div64_l1h.T) : exC (math_bits_Div64_e1 K) (hdl (math_bits_Div64_e1 K) 0) (72 :: []) math_bits_Div64_l1B (math_bits_Div64_l1h.put t) (fun s => (math_bits_Div64_l1h.take s).bind fun t => math_bits_Div64_l1u K n t) (fun id s => math_bits_Div64_l1O.get (some id) s) (fun s => math_bits_Div64_l1O.get none s) = math_bits_Div64_l1u K (n + 1) t := by kernel_rfl
noncomputable def math_bits_Div64_l1E (K : Nat) : LoopE Try.prog := ⟨[24, 72], math_bits_Div64_l1o K, Try.f72, math_bits_Div64_l1C, math_bits_Div64_l1B, ⟨24, 72, [], rfl, Try.func72, by kernel_rfl, math_bits_Div64_l1F⟩,
  loop_rule (F := fun n t => math_bits_Div64_l1u K n t) (math_bits_Div64_t1 K) (math_bits_Div64_i1 K) (draws (math_bits_Div64_t1 K)) 0 Try.func72 (c := math_bits_Div64_l1C) (by kernel_rfl) (body_in math_bits_Div64_l1F) (ctx' := []) (h := math_bits_Div64_l1h) (O := math_bits_Div64_l1O) (fun _ => rfl) (fun m t => math_bits_Div64_l1q K m t) K⟩
noncomputable def math_bits_Div64_e2 (K : Nat) : Env := ⟨tt, [(86, math_bits_LeadingZeros64_o K)], [], [([17, 72], math_bits_Div64_l0o K), ([24, 72], math_bits_Div64_l1o K)], eqs⟩
theorem math_bits_Div64_t2 (K : Nat) : EnvT Try.prog (math_bits_Div64_e2 K) := envT_of tt_ok eqs_ok ⟨math_bits_LeadingZeros64_ok K, trivial⟩
theorem math_bits_Div64_i2 (K : Nat) : EnvI Try.prog (math_bits_Div64_e2 K) := envI_of (es := [math_bits_Div64_l0E K, math_bits_Div64_l1E K]) trivial ⟨⟨rfl, rfl⟩, ⟨rfl, rfl⟩, trivial⟩
noncomputable def math_bits_Div64_h : Sh := ⟨3, [(0, .sc (.i .u64)), (1, .sc (.i .u64)), (2, .sc (.i .u64))], [], []⟩
noncomputable def math_bits_Div64_r : Sh := ⟨2, [(0, .sc (.i .u64)), (1, .sc (.i .u64))], [], []⟩
noncomputable def math_bits_Div64_g (K : Nat) (hi_0 : Int) (lo_1 : Int) (y_2 : Int) : Option (Int × Int × Unit) :=
  (bif (y_2 == 0) then none else (bif (decide (y_2 ≤ hi_0)) then none else (bif (hi_0 == 0) then (bif (y_2 == 0) then none else (bif (y_2 == 0) then none else (some ((wu64 (Int.tdiv lo_1 y_2)), (Int.tmod lo_1 y_2), ())))) else ((math_bits_LeadingZeros64_g K y_2).bind fun q1 => (bif (decide ((wu64 (q1.1)) < 0)) then none else (bif (decide ((wu64 (q1.1)) < 0)) then none else (bif (decide ((wu64 (64 - (wu64 (q1.1)))) < 0)) then none else (bif (decide ((wu64 (q1.1)) < 0)) then none else (bif ((shR .u64 (shL .u64 y_2 (wu64 (q1.1))) 32) == 0) then none else ((math_bits_Div64_l0 K K (shL .u64 y_2 (wu64 (q1.1))) (wu64 (q1.1)) (shR .u64 (shL .u64 y_2 (wu64 (q1.1))) 32) (bitAnd .u64 (shL .u64 y_2 (wu64 (q1.1))) 4294967295) (bitOr .u64 (shL .u64 hi_0 (wu64 (q1.1))) (shR .u64 lo_1 (wu64 (64 - (wu64 (q1.1)))))) (shR .u64 (shL .u64 lo_1 (wu64 (q1.1))) 32) (bitAnd .u64 (shL .u64 lo_1 (wu64 (q1.1))) 4294967295) (wu64 (Int.tdiv (bitOr .u64 (shL .u64 hi_0 (wu64 (q1.1))) (shR .u64 lo_1 (wu64 (64 - (wu64 (q1.1)))))) (shR .u64 (shL .u64 y_2 (wu64 (q1.1))) 32))) (wu64 ((bitOr .u64 (shL .u64 hi_0 (wu64 (q1.1))) (shR .u64 lo_1 (wu64 (64 - (wu64 (q1.1)))))) - (wu64 ((wu64 (Int.tdiv (bitOr .u64 (shL .u64 hi_0 (wu64 (q1.1))) (shR .u64 lo_1 (wu64 (64 - (wu64 (q1.1)))))) (shR .u64 (shL .u64 y_2 (wu64 (q1.1))) 32))) * (shR .u64 (shL .u64 y_2 (wu64 (q1.1))) 32)))))).bind fun q2 => (bif (q2.2.2.1 == 0) then none else ((math_bits_Div64_l1 K K q2.1 q2.2.1 q2.2.2.1 q2.2.2.2.1 q2.2.2.2.2.2.2.1 q2.2.2.2.2.2.2.2.1 (wu64 ((wu64 ((wu64 ((wu64 (q2.2.2.2.2.1 * 4294967296)) + q2.2.2.2.2.2.1)) - (wu64 (q2.2.2.2.2.2.2.2.1 * q2.1)))) - (wu64 ((wu64 (Int.tdiv (wu64 ((wu64 ((wu64 (q2.2.2.2.2.1 * 4294967296)) + q2.2.2.2.2.2.1)) - (wu64 (q2.2.2.2.2.2.2.2.1 * q2.1)))) q2.2.2.1)) * q2.2.2.1)))) (wu64 ((wu64 ((wu64 (q2.2.2.2.2.1 * 4294967296)) + q2.2.2.2.2.2.1)) - (wu64 (q2.2.2.2.2.2.2.2.1 * q2.1)))) (wu64 (Int.tdiv (wu64 ((wu64 ((wu64 (q2.2.2.2.2.1 * 4294967296)) + q2.2.2.2.2.2.1)) - (wu64 (q2.2.2.2.2.2.2.2.1 * q2.1)))) q2.2.2.1))).bind fun q3 => (bif (decide (q3.2.1 < 0)) then none else (some ((wu64 ((wu64 (q3.2.2.2.1 * 4294967296)) + q3.2.2.2.2.2.1)), (shR .u64 (wu64 ((wu64 ((wu64 (q3.2.2.2.2.1 * 4294967296)) + q3.2.2.1)) - (wu64 (q3.2.2.2.2.2.1 * q3.1)))) q3.2.1), ())))))))))))))))
noncomputable def math_bits_Div64_o (K : Nat) : FO := fnFO math_bits_Div64_h math_bits_Div64_r fun t => math_bits_Div64_g K t.1 t.2.1 t.2.2.1
theorem math_bits_Div64_q (K : Nat) (t : math_bits_Div64_h.T) : exFn (math_bits_Div64_e2 K) (hdl (math_bits_Div64_e2 K) 0) [72] Try.f72 (slVals (math_bits_Div64_h.put t).fr.sl) ⟨⟨0, []⟩, [], (math_bits_Div64_h.put t).mem⟩ (takeRes math_bits_Div64_r) = math_bits_Div64_g K t.1 t.2.1 t.2.2.1 := by kernel_rfl
theorem math_bits_Div64_ok (K : Nat) : FOok Try.prog 72 (math_bits_Div64_o K) :=
  fn_rule (math_bits_Div64_t2 K) (math_bits_Div64_i2 K) (draws (math_bits_Div64_t2 K)) 0 Try.func72 (fnB_ok Try.func72 (by kernel_rfl)) rfl rfl (allOwn_ok false (by kernel_rfl)) rfl (allOwn_ok true (by kernel_rfl)) (fun t => math_bits_Div64_q K t)
/-! math_bits_Div -/
noncomputable def math_bits_Div_e0 (K : Nat) : Env := ⟨tt, [(72, math_bits_Div64_o K)], [], [], eqs⟩
theorem math_bits_Div_t0 (K : Nat) : EnvT Try.prog (math_bits_Div_e0 K) := envT_of tt_ok eqs_ok ⟨math_bits_Div64_ok K, trivial⟩
theorem math_bits_Div_i0 (K : Nat) : EnvI Try.prog (math_bits_Div_e0 K) := envI_of (es := []) trivial trivial
noncomputable def math_bits_Div_h : Sh := ⟨3, [(0, .sc (.i .u64)), (1, .sc (.i .u64)), (2, .sc (.i .u64))], [], []⟩
noncomputable def math_bits_Div_r : Sh := ⟨2, [(0, .sc (.i .u64)), (1, .sc (.i .u64))], [], []⟩
noncomputable def math_bits_Div_g (K : Nat) (hi_0 : Int) (lo_1 : Int) (y_2 : Int) : Option (Int × Int × Unit) :=
  ((math_bits_Div64_g K hi_0 lo_1 y_2).bind fun q1 => (some (q1.1, q1.2.1, ())))
noncomputable def math_bits_Div_o (K : Nat) : FO := fnFO math_bits_Div_h math_bits_Div_r fun t => math_bits_Div_g K t.1 t.2.1 t.2.2.1
theorem math_bits_Div_q (K : Nat) (t : math_bits_Div_h.T) : exFn (math_bits_Div_e0 K) (hdl (math_bits_Div_e0 K) 0) [58] Try.f58 (slVals (math_bits_Div_h.put t).fr.sl) ⟨⟨0, []⟩, [], (math_bits_Div_h.put t).mem⟩ (takeRes math_bits_Div_r) = math_bits_Div_g K t.1 t.2.1 t.2.2.1 := by kernel_rfl
theorem math_bits_Div_ok (K : Nat) : FOok Try.prog 58 (math_bits_Div_o K) :=
  fn_rule (math_bits_Div_t0 K) (math_bits_Div_i0 K) (draws (math_bits_Div_t0 K)) 0 Try.func58 (fnB_ok Try.func58 (by kernel_rfl)) rfl rfl (allOwn_ok false (by kernel_rfl)) rfl (allOwn_ok true (by kernel_rfl)) (fun t => math_bits_Div_q K t)
/-! wide_Number_by -/
noncomputable def wide_Number_by_e0 (K : Nat) : Env := ⟨tt, [(57, wide_Number_minus_o K), (58, math_bits_Div_o K)], [], [], eqs⟩
theorem wide_Number_by_t0 (K : Nat) : EnvT Try.prog (wide_Number_by_e0 K) := envT_of tt_ok eqs_ok ⟨wide_Number_minus_ok K, math_bits_Div_ok K, trivial⟩
theorem wide_Number_by_i0 (K : Nat) : EnvI Try.prog (wide_Number_by_e0 K) := envI_of (es := []) trivial trivial
noncomputable def wide_Number_by_h : Sh := ⟨2, [(0, .ag [.i .i64, .i .u64]), (1, .sc (.i .u64))], [], []⟩
noncomputable def wide_Number_by_r : Sh := ⟨3, [(0, .sc (.i .u64)), (1, .sc (.i .u64)), (2, .sc (.b))], [], []⟩
noncomputable def wide_Number_by_g (K : Nat) (n_0_0 : Int) (n_0_1 : Int) (c_1 : Int) : Option (Int × Int × Bool × Unit) :=
  (bif (decide (n_0_0 < 0)) then ((wide_Number_minus_g K n_0_0 n_0_1).bind fun q1 => (bif (decide ((wu64 (q1.1)) ≥ c_1)) then (some (0, 0, false, ())) else ((math_bits_Div_g K (wu64 (q1.1)) q1.2.1 c_1).bind fun q2 => (some (q2.1, q2.2.1, true, ()))))) else (bif (decide ((wu64 (n_0_0)) ≥ c_1)) then (some (0, 0, false, ())) else ((math_bits_Div_g K (wu64 (n_0_0)) n_0_1 c_1).bind fun q3 => (some (q3.1, q3.2.1, true, ())))))
noncomputable def wide_Number_by_o (K : Nat) : FO := fnFO wide_Number_by_h wide_Number_by_r fun t => wide_Number_by_g K t.1 t.2.1 t.2.2.1
theorem wide_Number_by_q (K : Nat) (t : wide_Number_by_h.T) : exFn (wide_Number_by_e0 K) (hdl (wide_Number_by_e0 K) 0) [42] Try.f42 (slVals (wide_Number_by_h.put t).fr.sl) ⟨⟨0, []⟩, [], (wide_Number_by_h.put t).mem⟩ (takeRes wide_Number_by_r) = wide_Number_by_g K t.1 t.2.1 t.2.2.1 := by kernel_rfl
theorem wide_Number_by_ok (K : Nat) : FOok Try.prog 42 (wide_Number_by_o K) :=
  fn_rule (wide_Number_by_t0 K) (wide_Number_by_i0 K) (draws (wide_Number_by_t0 K)) 0 Try.func42 (fnB_ok Try.func42 (by kernel_rfl)) rfl rfl (allOwn_ok false (by kernel_rfl)) rfl (allOwn_ok true (by kernel_rfl)) (fun t => wide_Number_by_q K t)
/-! wide_signed -/
noncomputable def wide_signed_e0 (K : Nat) : Env := ⟨tt, [], [], [], eqs⟩
theorem wide_signed_t0 (K : Nat) : EnvT Try.prog (wide_signed_e0 K) := envT_of tt_ok eqs_ok trivial
theorem wide_signed_i0 (K : Nat) : EnvI Try.prog (wide_signed_e0 K) := envI_of (es := []) trivial trivial
noncomputable def wide_signed_h : Sh := ⟨2, [(0, .sc (.i .u64)), (1, .sc (.b))], [], []⟩
noncomputable def wide_signed_r : Sh := ⟨2, [(0, .sc (.i .i64)), (1, .sc (.b))], [], []⟩
noncomputable def wide_signed_g (K : Nat) (q_0 : Int) (below_1 : Bool) : Option (Int × Bool × Unit) :=
  (bif below_1 then (some ((wi64 ((wu64 (0 - q_0)))), (decide (q_0 ≤ 9223372036854775808)), ())) else (some ((wi64 (q_0)), (decide (q_0 < 9223372036854775808)), ())))
noncomputable def wide_signed_o (K : Nat) : FO := fnFO wide_signed_h wide_signed_r fun t => wide_signed_g K t.1 t.2.1
theorem wide_signed_q (K : Nat) (t : wide_signed_h.T) : exFn (wide_signed_e0 K) (hdl (wide_signed_e0 K) 0) [43] Try.f43 (slVals (wide_signed_h.put t).fr.sl) ⟨⟨0, []⟩, [], (wide_signed_h.put t).mem⟩ (takeRes wide_signed_r) = wide_signed_g K t.1 t.2.1 := by kernel_rfl
theorem wide_signed_ok (K : Nat) : FOok Try.prog 43 (wide_signed_o K) :=
  fn_rule (wide_signed_t0 K) (wide_signed_i0 K) (draws (wide_signed_t0 K)) 0 Try.func43 (fnB_ok Try.func43 (by kernel_rfl)) rfl rfl (allOwn_ok false (by kernel_rfl)) rfl (allOwn_ok true (by kernel_rfl)) (fun t => wide_signed_q K t)
/-! wide_Down -/
noncomputable def wide_Down_e0 (K : Nat) : Env := ⟨tt, [(42, wide_Number_by_o K), (43, wide_signed_o K)], [(35, Try.f35), (36, Try.f36)], [], eqs⟩
theorem wide_Down_t0 (K : Nat) : EnvT Try.prog (wide_Down_e0 K) := envT_of tt_ok eqs_ok ⟨wide_Number_by_ok K, wide_signed_ok K, trivial⟩
theorem wide_Down_i0 (K : Nat) : EnvI Try.prog (wide_Down_e0 K) := envI_of (es := []) ⟨⟨Try.func35, by kernel_rfl⟩, ⟨Try.func36, by kernel_rfl⟩, trivial⟩ trivial
noncomputable def wide_Down_h : Sh := ⟨2, [(0, .ag [.i .i64, .i .u64]), (1, .sc (.i .i64))], [], []⟩
noncomputable def wide_Down_r : Sh := ⟨2, [(0, .sc (.i .i64)), (1, .sc (.i .i64))], [], []⟩
noncomputable def wide_Down_g (K : Nat) (n_0_0 : Int) (n_0_1 : Int) (c_1 : Int) : Option (Int × Int × Unit) :=
  (bif (decide (c_1 < 1)) then (some (0, 2, ())) else ((wide_Number_by_g K n_0_0 n_0_1 (wu64 (c_1))).bind fun q1 => (bif (!q1.2.2.1) then (some (0, 3, ())) else (bif (decide (q1.1 > 9223372036854775808)) then (some (0, 3, ())) else (bif (decide (n_0_0 < 0)) then (bif (decide (q1.2.1 > 0)) then ((wide_signed_g K (wu64 (q1.1 + 1)) (decide (n_0_0 < 0))).bind fun q2 => (bif (!q2.2.1) then (some (0, 3, ())) else (some (q2.1, 0, ())))) else ((wide_signed_g K q1.1 (decide (n_0_0 < 0))).bind fun q3 => (bif (!q3.2.1) then (some (0, 3, ())) else (some (q3.1, 0, ()))))) else ((wide_signed_g K q1.1 (decide (n_0_0 < 0))).bind fun q4 => (bif (!q4.2.1) then (some (0, 3, ())) else (some (q4.1, 0, ())))))))))
noncomputable def wide_Down_o (K : Nat) : FO := fnFO wide_Down_h wide_Down_r fun t => wide_Down_g K t.1 t.2.1 t.2.2.1
theorem wide_Down_q (K : Nat) (t : wide_Down_h.T) : exFn (wide_Down_e0 K) (hdl (wide_Down_e0 K) 9) [20] Try.f20 (slVals (wide_Down_h.put t).fr.sl) ⟨⟨0, []⟩, [], (wide_Down_h.put t).mem⟩ (takeRes wide_Down_r) = wide_Down_g K t.1 t.2.1 t.2.2.1 := by kernel_rfl
theorem wide_Down_ok (K : Nat) : FOok Try.prog 20 (wide_Down_o K) :=
  fn_rule (wide_Down_t0 K) (wide_Down_i0 K) (draws (wide_Down_t0 K)) 9 Try.func20 (fnB_ok Try.func20 (by kernel_rfl)) rfl rfl (allOwn_ok false (by kernel_rfl)) rfl (allOwn_ok true (by kernel_rfl)) (fun t => wide_Down_q K t)
/-! fuse_Far -/
noncomputable def fuse_Far_e0 (K : Nat) : Env := ⟨tt, [(10, fuse_Correct_o K), (22, fx_Size_o K), (21, wide_Of_o K), (20, wide_Down_o K)], [], [], eqs⟩
theorem fuse_Far_t0 (K : Nat) : EnvT Try.prog (fuse_Far_e0 K) := envT_of tt_ok eqs_ok ⟨fuse_Correct_ok K, fx_Size_ok K, wide_Of_ok K, wide_Down_ok K, trivial⟩
theorem fuse_Far_i0 (K : Nat) : EnvI Try.prog (fuse_Far_e0 K) := envI_of (es := []) trivial trivial
noncomputable def fuse_Far_h : Sh := ⟨3, [(0, .sc (.i .i64)), (1, .sc (.i .i64)), (2, .sc (.i .i64))], [], []⟩
noncomputable def fuse_Far_r : Sh := ⟨2, [(0, .sc (.i .i64)), (1, .sc (.i .i64))], [], []⟩
noncomputable def fuse_Far_g (K : Nat) (soc_0 : Int) (told_1 : Int) (slew_2 : Int) : Option (Int × Int × Unit) :=
  ((fuse_Correct_g K soc_0 told_1 slew_2).bind fun q1 => (bif (q1.2.1 != 0) then (some (0, q1.2.1, ())) else ((fx_Size_g K (wi64 (soc_0 - told_1))).bind fun q2 => ((wide_Of_g K (wi64 (0 - q2.1))).bind fun q3 => ((wide_Down_g K q3.1 q3.2.1 slew_2).bind fun q4 => (some ((wi64 (0 - q4.1)), q4.2.1, ())))))))
noncomputable def fuse_Far_o (K : Nat) : FO := fnFO fuse_Far_h fuse_Far_r fun t => fuse_Far_g K t.1 t.2.1 t.2.2.1
theorem fuse_Far_q (K : Nat) (t : fuse_Far_h.T) : exFn (fuse_Far_e0 K) (hdl (fuse_Far_e0 K) 0) [9] Try.f9 (slVals (fuse_Far_h.put t).fr.sl) ⟨⟨0, []⟩, [], (fuse_Far_h.put t).mem⟩ (takeRes fuse_Far_r) = fuse_Far_g K t.1 t.2.1 t.2.2.1 := by kernel_rfl
theorem fuse_Far_ok (K : Nat) : FOok Try.prog 9 (fuse_Far_o K) :=
  fn_rule (fuse_Far_t0 K) (fuse_Far_i0 K) (draws (fuse_Far_t0 K)) 0 Try.func9 (fnB_ok Try.func9 (by kernel_rfl)) rfl rfl (allOwn_ok false (by kernel_rfl)) rfl (allOwn_ok true (by kernel_rfl)) (fun t => fuse_Far_q K t)
/-! coulomb_may -/
noncomputable def coulomb_may_e0 (K : Nat) : Env := ⟨tt, [], [], [], eqs⟩
theorem coulomb_may_t0 (K : Nat) : EnvT Try.prog (coulomb_may_e0 K) := envT_of tt_ok eqs_ok trivial
theorem coulomb_may_i0 (K : Nat) : EnvI Try.prog (coulomb_may_e0 K) := envI_of (es := []) trivial trivial
noncomputable def coulomb_may_h : Sh := ⟨2, [(0, .sc (.i .i64)), (1, .sc (.i .i64))], [], []⟩
noncomputable def coulomb_may_r : Sh := ⟨1, [(0, .sc (.b))], [], []⟩
noncomputable def coulomb_may_g (K : Nat) (soc_0 : Int) (capacity_1 : Int) : Option (Bool × Unit) :=
  (bif (decide (soc_0 ≥ 0)) then (bif (decide (soc_0 ≤ 10000)) then (bif (decide (capacity_1 ≥ 1)) then (some ((decide (capacity_1 ≤ 1125899906842624)), ())) else (some (false, ()))) else (some (false, ()))) else (some (false, ())))
noncomputable def coulomb_may_o (K : Nat) : FO := fnFO coulomb_may_h coulomb_may_r fun t => coulomb_may_g K t.1 t.2.1
theorem coulomb_may_q (K : Nat) (t : coulomb_may_h.T) : exFn (coulomb_may_e0 K) (hdl (coulomb_may_e0 K) 0) [44] Try.f44 (slVals (coulomb_may_h.put t).fr.sl) ⟨⟨0, []⟩, [], (coulomb_may_h.put t).mem⟩ (takeRes coulomb_may_r) = coulomb_may_g K t.1 t.2.1 := by kernel_rfl
theorem coulomb_may_ok (K : Nat) : FOok Try.prog 44 (coulomb_may_o K) :=
  fn_rule (coulomb_may_t0 K) (coulomb_may_i0 K) (draws (coulomb_may_t0 K)) 0 Try.func44 (fnB_ok Try.func44 (by kernel_rfl)) rfl rfl (allOwn_ok false (by kernel_rfl)) rfl (allOwn_ok true (by kernel_rfl)) (fun t => coulomb_may_q K t)
/-! coulomb_size -/
noncomputable def coulomb_size_e0 (K : Nat) : Env := ⟨tt, [], [], [], eqs⟩
theorem coulomb_size_t0 (K : Nat) : EnvT Try.prog (coulomb_size_e0 K) := envT_of tt_ok eqs_ok trivial
theorem coulomb_size_i0 (K : Nat) : EnvI Try.prog (coulomb_size_e0 K) := envI_of (es := []) trivial trivial
noncomputable def coulomb_size_l0h : Sh := ⟨23, [(0, .sc (.i .i64)), (7, .sc (.slr0 0)), (8, .sc (.i .i64)), (9, .sc (.i .i64))], [(0, [])], [(false, true, [.ir .i64])]⟩
noncomputable def coulomb_size_l0x0 : Sh := ⟨23, [], [(0, [])], []⟩
noncomputable def coulomb_size_l0x1 : Sh := ⟨23, [(4, .sc (.b))], [(0, [])], []⟩
noncomputable def coulomb_size_l0O : OutI ((Unit) ⊕ (Bool × Unit)) := (OutI.or (OutI.exit 0 coulomb_size_l0x0) (OutI.ret coulomb_size_l0x1))
noncomputable def coulomb_size_l0r (K : Nat) (rec : Int → Nat → Int → Int → (Nat → Int) → Option ((Unit) ⊕ (Bool × Unit))) (bound_0 : Int) (t_7n : Nat) (t_8 : Int) (t_9 : Int) (m0_0 : (Nat → Int)) : Option ((Unit) ⊕ (Bool × Unit)) :=
  (bif (decide (t_9 < t_8)) then (bif ((decide (0 ≤ t_9)) && (decide (t_9 < ((t_7n : Nat) : Int)))) then (bif (decide ((m0_0 (Int.toNat t_9)) < (wi64 (0 - bound_0)))) then (some (.inr (false, ()))) else (bif (decide ((m0_0 (Int.toNat t_9)) > bound_0)) then (some (.inr (false, ()))) else (rec bound_0 t_7n t_8 (wi64 (t_9 + 1)) m0_0))) else none) else (some (.inl (()))))
noncomputable def coulomb_size_l0 (K n : Nat) : Int → Nat → Int → Int → (Nat → Int) → Option ((Unit) ⊕ (Bool × Unit)) := Nat.rec (motive := fun _ => Int → Nat → Int → Int → (Nat → Int) → Option ((Unit) ⊕ (Bool × Unit))) (fun _ _ _ _ _ => none) (fun _ ih => coulomb_size_l0r K ih) n
noncomputable def coulomb_size_l0u (K n : Nat) (t : coulomb_size_l0h.T) : Option ((Unit) ⊕ (Bool × Unit)) := coulomb_size_l0 K n t.1 t.2.1 t.2.2.1 t.2.2.2.1 t.2.2.2.2.1
noncomputable def coulomb_size_l0o (K : Nat) : LO := loopLO coulomb_size_l0h coulomb_size_l0O fun t => coulomb_size_l0u K K t
noncomputable def coulomb_size_l0C : Code := bodyOf Try.f45
noncomputable def coulomb_size_l0B : Code := (findLoops 2 (loopsIn coulomb_size_l0C)).headD .skip
theorem coulomb_size_l0F : findLoops 2 (loopsIn coulomb_size_l0C) = [coulomb_size_l0B] := by kernel_rfl
theorem coulomb_size_l0q (K n : Nat) (t : coulomb_size_l0h.T) : exC (coulomb_size_e0 K) (hdl (coulomb_size_e0 K) 0) (45 :: []) coulomb_size_l0B (coulomb_size_l0h.put t) (fun s => (coulomb_size_l0h.take s).bind fun t => coulomb_size_l0u K n t) (fun id s => coulomb_size_l0O.get (some id) s) (fun s => coulomb_size_l0O.get none s) = coulomb_size_l0u K (n + 1) t := by kernel_rfl
noncomputable def coulomb_size_l0E (K : Nat) : LoopE Try.prog := ⟨[2, 45], coulomb_size_l0o K, Try.f45, coulomb_size_l0C, coulomb_size_l0B, ⟨2, 45, [], rfl, Try.func45, by kernel_rfl, coulomb_size_l0F⟩,
  loop_rule (F := fun n t => coulomb_size_l0u K n t) (coulomb_size_t0 K) (coulomb_size_i0 K) (draws (coulomb_size_t0 K)) 0 Try.func45 (c := coulomb_size_l0C) (by kernel_rfl) (body_in coulomb_size_l0F) (ctx' := []) (h := coulomb_size_l0h) (O := coulomb_size_l0O) (fun _ => rfl) (fun m t => coulomb_size_l0q K m t) K⟩
noncomputable def coulomb_size_e1 (K : Nat) : Env := ⟨tt, [], [], [([2, 45], coulomb_size_l0o K)], eqs⟩
theorem coulomb_size_t1 (K : Nat) : EnvT Try.prog (coulomb_size_e1 K) := envT_of tt_ok eqs_ok trivial
theorem coulomb_size_i1 (K : Nat) : EnvI Try.prog (coulomb_size_e1 K) := envI_of (es := [coulomb_size_l0E K]) trivial ⟨⟨rfl, rfl⟩, trivial⟩
noncomputable def coulomb_size_h : Sh := ⟨2, [(0, .sc (.i .i64)), (1, .sc (.slr0 0))], [], [(false, true, [.ir .i64])]⟩
noncomputable def coulomb_size_r : Sh := ⟨1, [(0, .sc (.b))], [], []⟩
noncomputable def coulomb_size_g (K : Nat) (bound_0 : Int) (l_1n : Nat) (m0_0 : (Nat → Int)) : Option (Bool × Unit) :=
  ((coulomb_size_l0 K K bound_0 l_1n ((l_1n : Nat) : Int) 0 m0_0).bind fun q1 => (Sum.elim (fun q2 => (some (true, ()))) (fun q3 => (some (q3.1, ()))) q1))
noncomputable def coulomb_size_o (K : Nat) : FO := fnFO coulomb_size_h coulomb_size_r fun t => coulomb_size_g K t.1 t.2.1 t.2.2.1
theorem coulomb_size_q (K : Nat) (t : coulomb_size_h.T) : exFn (coulomb_size_e1 K) (hdl (coulomb_size_e1 K) 0) [45] Try.f45 (slVals (coulomb_size_h.put t).fr.sl) ⟨⟨0, []⟩, [], (coulomb_size_h.put t).mem⟩ (takeRes coulomb_size_r) = coulomb_size_g K t.1 t.2.1 t.2.2.1 := by kernel_rfl
theorem coulomb_size_ok (K : Nat) : FOok Try.prog 45 (coulomb_size_o K) :=
  fn_rule (coulomb_size_t1 K) (coulomb_size_i1 K) (draws (coulomb_size_t1 K)) 0 Try.func45 (fnB_ok Try.func45 (by kernel_rfl)) rfl rfl (allOwn_ok false (by kernel_rfl)) rfl (allOwn_ok true (by kernel_rfl)) (fun t => coulomb_size_q K t)
/-! wide_size -/
noncomputable def wide_size_e0 (K : Nat) : Env := ⟨tt, [], [], [], eqs⟩
theorem wide_size_t0 (K : Nat) : EnvT Try.prog (wide_size_e0 K) := envT_of tt_ok eqs_ok trivial
theorem wide_size_i0 (K : Nat) : EnvI Try.prog (wide_size_e0 K) := envI_of (es := []) trivial trivial
noncomputable def wide_size_h : Sh := ⟨1, [(0, .sc (.i .i64))], [], []⟩
noncomputable def wide_size_r : Sh := ⟨1, [(0, .sc (.i .u64))], [], []⟩
noncomputable def wide_size_g (K : Nat) (a_0 : Int) : Option (Int × Unit) :=
  (bif (decide (a_0 < 0)) then (some ((wu64 (0 - (wu64 (a_0)))), ())) else (some ((wu64 (a_0)), ())))
noncomputable def wide_size_o (K : Nat) : FO := fnFO wide_size_h wide_size_r fun t => wide_size_g K t.1
theorem wide_size_q (K : Nat) (t : wide_size_h.T) : exFn (wide_size_e0 K) (hdl (wide_size_e0 K) 0) [75] Try.f75 (slVals (wide_size_h.put t).fr.sl) ⟨⟨0, []⟩, [], (wide_size_h.put t).mem⟩ (takeRes wide_size_r) = wide_size_g K t.1 := by kernel_rfl
theorem wide_size_ok (K : Nat) : FOok Try.prog 75 (wide_size_o K) :=
  fn_rule (wide_size_t0 K) (wide_size_i0 K) (draws (wide_size_t0 K)) 0 Try.func75 (fnB_ok Try.func75 (by kernel_rfl)) rfl rfl (allOwn_ok false (by kernel_rfl)) rfl (allOwn_ok true (by kernel_rfl)) (fun t => wide_size_q K t)
/-! math_bits_Mul64 -/
noncomputable def math_bits_Mul64_e0 (K : Nat) : Env := ⟨tt, [], [], [], eqs⟩
theorem math_bits_Mul64_t0 (K : Nat) : EnvT Try.prog (math_bits_Mul64_e0 K) := envT_of tt_ok eqs_ok trivial
theorem math_bits_Mul64_i0 (K : Nat) : EnvI Try.prog (math_bits_Mul64_e0 K) := envI_of (es := []) trivial trivial
noncomputable def math_bits_Mul64_h : Sh := ⟨2, [(0, .sc (.i .u64)), (1, .sc (.i .u64))], [], []⟩
noncomputable def math_bits_Mul64_r : Sh := ⟨2, [(0, .sc (.i .u64)), (1, .sc (.i .u64))], [], []⟩
noncomputable def math_bits_Mul64_g (K : Nat) (x_0 : Int) (y_1 : Int) : Option (Int × Int × Unit) :=
  (some ((wu64 ((wu64 ((wu64 ((shR .u64 x_0 32) * (shR .u64 y_1 32))) + (shR .u64 (wu64 ((wu64 ((shR .u64 x_0 32) * (bitAnd .u64 y_1 4294967295))) + (shR .u64 (wu64 ((bitAnd .u64 x_0 4294967295) * (bitAnd .u64 y_1 4294967295))) 32))) 32))) + (shR .u64 (wu64 ((bitAnd .u64 (wu64 ((wu64 ((shR .u64 x_0 32) * (bitAnd .u64 y_1 4294967295))) + (shR .u64 (wu64 ((bitAnd .u64 x_0 4294967295) * (bitAnd .u64 y_1 4294967295))) 32))) 4294967295) + (wu64 ((bitAnd .u64 x_0 4294967295) * (shR .u64 y_1 32))))) 32))), (wu64 (x_0 * y_1)), ()))
noncomputable def math_bits_Mul64_o (K : Nat) : FO := fnFO math_bits_Mul64_h math_bits_Mul64_r fun t => math_bits_Mul64_g K t.1 t.2.1
theorem math_bits_Mul64_q (K : Nat) (t : math_bits_Mul64_h.T) : exFn (math_bits_Mul64_e0 K) (hdl (math_bits_Mul64_e0 K) 0) [88] Try.f88 (slVals (math_bits_Mul64_h.put t).fr.sl) ⟨⟨0, []⟩, [], (math_bits_Mul64_h.put t).mem⟩ (takeRes math_bits_Mul64_r) = math_bits_Mul64_g K t.1 t.2.1 := by kernel_rfl
theorem math_bits_Mul64_ok (K : Nat) : FOok Try.prog 88 (math_bits_Mul64_o K) :=
  fn_rule (math_bits_Mul64_t0 K) (math_bits_Mul64_i0 K) (draws (math_bits_Mul64_t0 K)) 0 Try.func88 (fnB_ok Try.func88 (by kernel_rfl)) rfl rfl (allOwn_ok false (by kernel_rfl)) rfl (allOwn_ok true (by kernel_rfl)) (fun t => math_bits_Mul64_q K t)
/-! math_bits_Mul -/
noncomputable def math_bits_Mul_e0 (K : Nat) : Env := ⟨tt, [(88, math_bits_Mul64_o K)], [], [], eqs⟩
theorem math_bits_Mul_t0 (K : Nat) : EnvT Try.prog (math_bits_Mul_e0 K) := envT_of tt_ok eqs_ok ⟨math_bits_Mul64_ok K, trivial⟩
theorem math_bits_Mul_i0 (K : Nat) : EnvI Try.prog (math_bits_Mul_e0 K) := envI_of (es := []) trivial trivial
noncomputable def math_bits_Mul_h : Sh := ⟨2, [(0, .sc (.i .u64)), (1, .sc (.i .u64))], [], []⟩
noncomputable def math_bits_Mul_r : Sh := ⟨2, [(0, .sc (.i .u64)), (1, .sc (.i .u64))], [], []⟩
noncomputable def math_bits_Mul_g (K : Nat) (x_0 : Int) (y_1 : Int) : Option (Int × Int × Unit) :=
  ((math_bits_Mul64_g K x_0 y_1).bind fun q1 => (some (q1.1, q1.2.1, ())))
noncomputable def math_bits_Mul_o (K : Nat) : FO := fnFO math_bits_Mul_h math_bits_Mul_r fun t => math_bits_Mul_g K t.1 t.2.1
theorem math_bits_Mul_q (K : Nat) (t : math_bits_Mul_h.T) : exFn (math_bits_Mul_e0 K) (hdl (math_bits_Mul_e0 K) 0) [74] Try.f74 (slVals (math_bits_Mul_h.put t).fr.sl) ⟨⟨0, []⟩, [], (math_bits_Mul_h.put t).mem⟩ (takeRes math_bits_Mul_r) = math_bits_Mul_g K t.1 t.2.1 := by kernel_rfl
theorem math_bits_Mul_ok (K : Nat) : FOok Try.prog 74 (math_bits_Mul_o K) :=
  fn_rule (math_bits_Mul_t0 K) (math_bits_Mul_i0 K) (draws (math_bits_Mul_t0 K)) 0 Try.func74 (fnB_ok Try.func74 (by kernel_rfl)) rfl rfl (allOwn_ok false (by kernel_rfl)) rfl (allOwn_ok true (by kernel_rfl)) (fun t => math_bits_Mul_q K t)
/-! wide_Mul -/
noncomputable def wide_Mul_e0 (K : Nat) : Env := ⟨tt, [(75, wide_size_o K), (74, math_bits_Mul_o K), (57, wide_Number_minus_o K)], [], [], eqs⟩
theorem wide_Mul_t0 (K : Nat) : EnvT Try.prog (wide_Mul_e0 K) := envT_of tt_ok eqs_ok ⟨wide_size_ok K, math_bits_Mul_ok K, wide_Number_minus_ok K, trivial⟩
theorem wide_Mul_i0 (K : Nat) : EnvI Try.prog (wide_Mul_e0 K) := envI_of (es := []) trivial trivial
noncomputable def wide_Mul_h : Sh := ⟨2, [(0, .sc (.i .i64)), (1, .sc (.i .i64))], [], []⟩
noncomputable def wide_Mul_r : Sh := ⟨1, [(0, .ag [.i .i64, .i .u64])], [], []⟩
noncomputable def wide_Mul_g (K : Nat) (a_0 : Int) (b_1 : Int) : Option (Int × Int × Unit) :=
  ((wide_size_g K a_0).bind fun q1 => ((wide_size_g K b_1).bind fun q2 => ((math_bits_Mul_g K q1.1 q2.1).bind fun q3 => (bif (!((decide (a_0 < 0)) == (decide (b_1 < 0)))) then ((wide_Number_minus_g K (wi64 (q3.1)) q3.2.1).bind fun q4 => (some (q4.1, q4.2.1, ()))) else (some ((wi64 (q3.1)), q3.2.1, ()))))))
noncomputable def wide_Mul_o (K : Nat) : FO := fnFO wide_Mul_h wide_Mul_r fun t => wide_Mul_g K t.1 t.2.1
theorem wide_Mul_q (K : Nat) (t : wide_Mul_h.T) : exFn (wide_Mul_e0 K) (hdl (wide_Mul_e0 K) 0) [60] Try.f60 (slVals (wide_Mul_h.put t).fr.sl) ⟨⟨0, []⟩, [], (wide_Mul_h.put t).mem⟩ (takeRes wide_Mul_r) = wide_Mul_g K t.1 t.2.1 := by kernel_rfl
theorem wide_Mul_ok (K : Nat) : FOok Try.prog 60 (wide_Mul_o K) :=
  fn_rule (wide_Mul_t0 K) (wide_Mul_i0 K) (draws (wide_Mul_t0 K)) 0 Try.func60 (fnB_ok Try.func60 (by kernel_rfl)) rfl rfl (allOwn_ok false (by kernel_rfl)) rfl (allOwn_ok true (by kernel_rfl)) (fun t => wide_Mul_q K t)
/-! wide_Near -/
noncomputable def wide_Near_e0 (K : Nat) : Env := ⟨tt, [(42, wide_Number_by_o K), (43, wide_signed_o K)], [(35, Try.f35), (73, Try.f73)], [], eqs⟩
theorem wide_Near_t0 (K : Nat) : EnvT Try.prog (wide_Near_e0 K) := envT_of tt_ok eqs_ok ⟨wide_Number_by_ok K, wide_signed_ok K, trivial⟩
theorem wide_Near_i0 (K : Nat) : EnvI Try.prog (wide_Near_e0 K) := envI_of (es := []) ⟨⟨Try.func35, by kernel_rfl⟩, ⟨Try.func73, by kernel_rfl⟩, trivial⟩ trivial
noncomputable def wide_Near_h : Sh := ⟨2, [(0, .ag [.i .i64, .i .u64]), (1, .sc (.i .i64))], [], []⟩
noncomputable def wide_Near_r : Sh := ⟨2, [(0, .sc (.i .i64)), (1, .sc (.i .i64))], [], []⟩
noncomputable def wide_Near_g (K : Nat) (n_0_0 : Int) (n_0_1 : Int) (c_1 : Int) : Option (Int × Int × Unit) :=
  (bif (decide (c_1 < 1)) then (some (0, 2, ())) else ((wide_Number_by_g K n_0_0 n_0_1 (wu64 (c_1))).bind fun q1 => (bif (!q1.2.2.1) then (some (0, 3, ())) else (bif (decide (q1.1 > 9223372036854775808)) then (some (0, 3, ())) else (bif (decide (q1.2.1 ≥ (wu64 ((wu64 (c_1)) - q1.2.1)))) then ((wide_signed_g K (wu64 (q1.1 + 1)) (decide (n_0_0 < 0))).bind fun q2 => (bif (!q2.2.1) then (some (0, 3, ())) else (some (q2.1, 0, ())))) else ((wide_signed_g K q1.1 (decide (n_0_0 < 0))).bind fun q3 => (bif (!q3.2.1) then (some (0, 3, ())) else (some (q3.1, 0, ())))))))))
noncomputable def wide_Near_o (K : Nat) : FO := fnFO wide_Near_h wide_Near_r fun t => wide_Near_g K t.1 t.2.1 t.2.2.1
theorem wide_Near_q (K : Nat) (t : wide_Near_h.T) : exFn (wide_Near_e0 K) (hdl (wide_Near_e0 K) 9) [59] Try.f59 (slVals (wide_Near_h.put t).fr.sl) ⟨⟨0, []⟩, [], (wide_Near_h.put t).mem⟩ (takeRes wide_Near_r) = wide_Near_g K t.1 t.2.1 t.2.2.1 := by kernel_rfl
theorem wide_Near_ok (K : Nat) : FOok Try.prog 59 (wide_Near_o K) :=
  fn_rule (wide_Near_t0 K) (wide_Near_i0 K) (draws (wide_Near_t0 K)) 9 Try.func59 (fnB_ok Try.func59 (by kernel_rfl)) rfl rfl (allOwn_ok false (by kernel_rfl)) rfl (allOwn_ok true (by kernel_rfl)) (fun t => wide_Near_q K t)
/-! wide_MulNear -/
noncomputable def wide_MulNear_e0 (K : Nat) : Env := ⟨tt, [(60, wide_Mul_o K), (59, wide_Near_o K)], [], [], eqs⟩
theorem wide_MulNear_t0 (K : Nat) : EnvT Try.prog (wide_MulNear_e0 K) := envT_of tt_ok eqs_ok ⟨wide_Mul_ok K, wide_Near_ok K, trivial⟩
theorem wide_MulNear_i0 (K : Nat) : EnvI Try.prog (wide_MulNear_e0 K) := envI_of (es := []) trivial trivial
noncomputable def wide_MulNear_h : Sh := ⟨3, [(0, .sc (.i .i64)), (1, .sc (.i .i64)), (2, .sc (.i .i64))], [], []⟩
noncomputable def wide_MulNear_r : Sh := ⟨2, [(0, .sc (.i .i64)), (1, .sc (.i .i64))], [], []⟩
noncomputable def wide_MulNear_g (K : Nat) (a_0 : Int) (b_1 : Int) (c_2 : Int) : Option (Int × Int × Unit) :=
  ((wide_Mul_g K a_0 b_1).bind fun q1 => ((wide_Near_g K q1.1 q1.2.1 c_2).bind fun q2 => (some (q2.1, q2.2.1, ()))))
noncomputable def wide_MulNear_o (K : Nat) : FO := fnFO wide_MulNear_h wide_MulNear_r fun t => wide_MulNear_g K t.1 t.2.1 t.2.2.1
theorem wide_MulNear_q (K : Nat) (t : wide_MulNear_h.T) : exFn (wide_MulNear_e0 K) (hdl (wide_MulNear_e0 K) 0) [46] Try.f46 (slVals (wide_MulNear_h.put t).fr.sl) ⟨⟨0, []⟩, [], (wide_MulNear_h.put t).mem⟩ (takeRes wide_MulNear_r) = wide_MulNear_g K t.1 t.2.1 t.2.2.1 := by kernel_rfl
theorem wide_MulNear_ok (K : Nat) : FOok Try.prog 46 (wide_MulNear_o K) :=
  fn_rule (wide_MulNear_t0 K) (wide_MulNear_i0 K) (draws (wide_MulNear_t0 K)) 0 Try.func46 (fnB_ok Try.func46 (by kernel_rfl)) rfl rfl (allOwn_ok false (by kernel_rfl)) rfl (allOwn_ok true (by kernel_rfl)) (fun t => wide_MulNear_q K t)
/-! fx_bound -/
noncomputable def fx_bound_e0 (K : Nat) : Env := ⟨tt, [], [], [], eqs⟩
theorem fx_bound_t0 (K : Nat) : EnvT Try.prog (fx_bound_e0 K) := envT_of tt_ok eqs_ok trivial
theorem fx_bound_i0 (K : Nat) : EnvI Try.prog (fx_bound_e0 K) := envI_of (es := []) trivial trivial
noncomputable def fx_bound_h : Sh := ⟨1, [(0, .sc (.i .i64))], [], []⟩
noncomputable def fx_bound_r : Sh := ⟨1, [(0, .sc (.i .i64))], [], []⟩
noncomputable def fx_bound_g (K : Nat) (b_0 : Int) : Option (Int × Unit) :=
  (bif (decide (b_0 < 1)) then (some (2, ())) else (bif (decide (b_0 > 2305843009213693952)) then (some (2, ())) else (some (0, ()))))
noncomputable def fx_bound_o (K : Nat) : FO := fnFO fx_bound_h fx_bound_r fun t => fx_bound_g K t.1
theorem fx_bound_q (K : Nat) (t : fx_bound_h.T) : exFn (fx_bound_e0 K) (hdl (fx_bound_e0 K) 0) [61] Try.f61 (slVals (fx_bound_h.put t).fr.sl) ⟨⟨0, []⟩, [], (fx_bound_h.put t).mem⟩ (takeRes fx_bound_r) = fx_bound_g K t.1 := by kernel_rfl
theorem fx_bound_ok (K : Nat) : FOok Try.prog 61 (fx_bound_o K) :=
  fn_rule (fx_bound_t0 K) (fx_bound_i0 K) (draws (fx_bound_t0 K)) 0 Try.func61 (fnB_ok Try.func61 (by kernel_rfl)) rfl rfl (allOwn_ok false (by kernel_rfl)) rfl (allOwn_ok true (by kernel_rfl)) (fun t => fx_bound_q K t)
/-! fx_Between -/
noncomputable def fx_Between_e0 (K : Nat) : Env := ⟨tt, [], [], [], eqs⟩
theorem fx_Between_t0 (K : Nat) : EnvT Try.prog (fx_Between_e0 K) := envT_of tt_ok eqs_ok trivial
theorem fx_Between_i0 (K : Nat) : EnvI Try.prog (fx_Between_e0 K) := envI_of (es := []) trivial trivial
noncomputable def fx_Between_h : Sh := ⟨3, [(0, .sc (.i .i64)), (1, .sc (.i .i64)), (2, .sc (.i .i64))], [], []⟩
noncomputable def fx_Between_r : Sh := ⟨1, [(0, .sc (.i .i64))], [], []⟩
noncomputable def fx_Between_g (K : Nat) (low_0 : Int) (high_1 : Int) (n_2 : Int) : Option (Int × Unit) :=
  (bif (decide (n_2 < low_0)) then (some (low_0, ())) else (bif (decide (n_2 > high_1)) then (some (high_1, ())) else (some (n_2, ()))))
noncomputable def fx_Between_o (K : Nat) : FO := fnFO fx_Between_h fx_Between_r fun t => fx_Between_g K t.1 t.2.1 t.2.2.1
theorem fx_Between_q (K : Nat) (t : fx_Between_h.T) : exFn (fx_Between_e0 K) (hdl (fx_Between_e0 K) 0) [27] Try.f27 (slVals (fx_Between_h.put t).fr.sl) ⟨⟨0, []⟩, [], (fx_Between_h.put t).mem⟩ (takeRes fx_Between_r) = fx_Between_g K t.1 t.2.1 t.2.2.1 := by kernel_rfl
theorem fx_Between_ok (K : Nat) : FOok Try.prog 27 (fx_Between_o K) :=
  fn_rule (fx_Between_t0 K) (fx_Between_i0 K) (draws (fx_Between_t0 K)) 0 Try.func27 (fnB_ok Try.func27 (by kernel_rfl)) rfl rfl (allOwn_ok false (by kernel_rfl)) rfl (allOwn_ok true (by kernel_rfl)) (fun t => fx_Between_q K t)
/-! fx_Clamp -/
noncomputable def fx_Clamp_e0 (K : Nat) : Env := ⟨tt, [(61, fx_bound_o K), (27, fx_Between_o K)], [], [], eqs⟩
theorem fx_Clamp_t0 (K : Nat) : EnvT Try.prog (fx_Clamp_e0 K) := envT_of tt_ok eqs_ok ⟨fx_bound_ok K, fx_Between_ok K, trivial⟩
theorem fx_Clamp_i0 (K : Nat) : EnvI Try.prog (fx_Clamp_e0 K) := envI_of (es := []) trivial trivial
noncomputable def fx_Clamp_h : Sh := ⟨2, [(0, .sc (.i .i64)), (1, .sc (.i .i64))], [], []⟩
noncomputable def fx_Clamp_r : Sh := ⟨2, [(0, .sc (.i .i64)), (1, .sc (.i .i64))], [], []⟩
noncomputable def fx_Clamp_g (K : Nat) (b_0 : Int) (n_1 : Int) : Option (Int × Int × Unit) :=
  ((fx_bound_g K b_0).bind fun q1 => (bif (q1.1 != 0) then (some (0, q1.1, ())) else ((fx_Between_g K (wi64 (0 - b_0)) b_0 n_1).bind fun q2 => (some (q2.1, 0, ())))))
noncomputable def fx_Clamp_o (K : Nat) : FO := fnFO fx_Clamp_h fx_Clamp_r fun t => fx_Clamp_g K t.1 t.2.1
theorem fx_Clamp_q (K : Nat) (t : fx_Clamp_h.T) : exFn (fx_Clamp_e0 K) (hdl (fx_Clamp_e0 K) 0) [47] Try.f47 (slVals (fx_Clamp_h.put t).fr.sl) ⟨⟨0, []⟩, [], (fx_Clamp_h.put t).mem⟩ (takeRes fx_Clamp_r) = fx_Clamp_g K t.1 t.2.1 := by kernel_rfl
theorem fx_Clamp_ok (K : Nat) : FOok Try.prog 47 (fx_Clamp_o K) :=
  fn_rule (fx_Clamp_t0 K) (fx_Clamp_i0 K) (draws (fx_Clamp_t0 K)) 0 Try.func47 (fnB_ok Try.func47 (by kernel_rfl)) rfl rfl (allOwn_ok false (by kernel_rfl)) rfl (allOwn_ok true (by kernel_rfl)) (fun t => fx_Clamp_q K t)
/-! coulomb_Shown -/
noncomputable def coulomb_Shown_e0 (K : Nat) : Env := ⟨tt, [(44, coulomb_may_o K), (45, coulomb_size_o K), (46, wide_MulNear_o K), (47, fx_Clamp_o K), (27, fx_Between_o K)], [], [], eqs⟩
theorem coulomb_Shown_t0 (K : Nat) : EnvT Try.prog (coulomb_Shown_e0 K) := envT_of tt_ok eqs_ok ⟨coulomb_may_ok K, coulomb_size_ok K, wide_MulNear_ok K, fx_Clamp_ok K, fx_Between_ok K, trivial⟩
theorem coulomb_Shown_i0 (K : Nat) : EnvI Try.prog (coulomb_Shown_e0 K) := envI_of (es := []) trivial trivial
noncomputable def coulomb_Shown_h : Sh := ⟨4, [(0, .sc (.i .i64)), (1, .sc (.i .i64)), (2, .sc (.i .i64)), (3, .sc (.i .i64))], [], []⟩
noncomputable def coulomb_Shown_r : Sh := ⟨2, [(0, .sc (.i .i64)), (1, .sc (.i .i64))], [], []⟩
noncomputable def coulomb_Shown_g (K : Nat) (soc_0 : Int) (base_1 : Int) (charge_2 : Int) (capacity_3 : Int) : Option (Int × Int × Unit) :=
  ((coulomb_may_g K soc_0 capacity_3).bind fun q1 => (bif (!q1.1) then (some (0, 2, ())) else ((coulomb_size_g K 1125899906842624 2 (fun j => (selI [base_1, charge_2] j))).bind fun q2 => (bif (!q2.1) then (some (0, 2, ())) else ((wide_MulNear_g K 10000 (wi64 (charge_2 - base_1)) capacity_3).bind fun q3 => (bif (q3.2.1 != 0) then ((fx_Clamp_g K 10000 (wi64 (charge_2 - base_1))).bind fun q4 => ((fx_Between_g K 0 10000 (wi64 (soc_0 + q4.1))).bind fun q5 => (some (q5.1, 0, ())))) else ((fx_Clamp_g K 10000 q3.1).bind fun q6 => ((fx_Between_g K 0 10000 (wi64 (soc_0 + q6.1))).bind fun q7 => (some (q7.1, 0, ()))))))))))
noncomputable def coulomb_Shown_gu (K : Nat) (t : coulomb_Shown_h.T) : Option (Int × Int × Unit) := coulomb_Shown_g K t.1 t.2.1 t.2.2.1 t.2.2.2.1
noncomputable def coulomb_Shown_o (K : Nat) : FO := fnFO coulomb_Shown_h coulomb_Shown_r fun t => coulomb_Shown_gu K t
theorem coulomb_Shown_q (K : Nat) (t : coulomb_Shown_h.T) : exFn (coulomb_Shown_e0 K) (hdl (coulomb_Shown_e0 K) 0) [37] Try.f37 (slVals (coulomb_Shown_h.put t).fr.sl) ⟨⟨0, []⟩, [], (coulomb_Shown_h.put t).mem⟩ (takeRes coulomb_Shown_r) = coulomb_Shown_gu K t := by kernel_rfl
theorem coulomb_Shown_ok (K : Nat) : FOok Try.prog 37 (coulomb_Shown_o K) :=
  fn_rule (coulomb_Shown_t0 K) (coulomb_Shown_i0 K) (draws (coulomb_Shown_t0 K)) 0 Try.func37 (fnB_ok Try.func37 (by kernel_rfl)) rfl rfl (allOwn_ok false (by kernel_rfl)) rfl (allOwn_ok true (by kernel_rfl)) (fun t => coulomb_Shown_q K t)
/-! fuse_gone_shown -/
noncomputable def fuse_gone_shown_e0 (K : Nat) : Env := ⟨tt, [(37, coulomb_Shown_o K)], [], [], eqs⟩
theorem fuse_gone_shown_t0 (K : Nat) : EnvT Try.prog (fuse_gone_shown_e0 K) := envT_of tt_ok eqs_ok ⟨coulomb_Shown_ok K, trivial⟩
theorem fuse_gone_shown_i0 (K : Nat) : EnvI Try.prog (fuse_gone_shown_e0 K) := envI_of (es := []) trivial trivial
noncomputable def fuse_gone_shown_h : Sh := ⟨1, [(0, .ag [.i .i64, .i .i64, .i .i64, .i .i64, .i .i64, .i .i64, .i .i64, .i .i64, .i .i64, .i .i64, .i .i64, .i .i64, .i .i64, .i .i64, .i .i64, .i .i64, .i .i64, .i .i64, .i .i64, .i .i64, .i .i64, .i .i64, .i .i64])], [], []⟩
noncomputable def fuse_gone_shown_r : Sh := ⟨2, [(0, .sc (.i .i64)), (1, .sc (.i .i64))], [], []⟩
noncomputable def fuse_gone_shown_g (K : Nat) (g_0_0 : Int) (g_0_1 : Int) (g_0_2 : Int) (g_0_3 : Int) (g_0_4 : Int) (g_0_5 : Int) (g_0_6 : Int) (g_0_7 : Int) (g_0_8 : Int) (g_0_9 : Int) (g_0_10 : Int) (g_0_11 : Int) (g_0_12 : Int) (g_0_13 : Int) (g_0_14 : Int) (g_0_15 : Int) (g_0_16 : Int) (g_0_17 : Int) (g_0_18 : Int) (g_0_19 : Int) (g_0_20 : Int) (g_0_21 : Int) (g_0_22 : Int) : Option (Int × Int × Unit) :=
  ((coulomb_Shown_g K g_0_3 g_0_4 g_0_0 g_0_8).bind fun q1 => (some (q1.1, q1.2.1, ())))
noncomputable def fuse_gone_shown_gu (K : Nat) (t : fuse_gone_shown_h.T) : Option (Int × Int × Unit) := fuse_gone_shown_g K t.1 t.2.1 t.2.2.1 t.2.2.2.1 t.2.2.2.2.1 t.2.2.2.2.2.1 t.2.2.2.2.2.2.1 t.2.2.2.2.2.2.2.1 t.2.2.2.2.2.2.2.2.1 t.2.2.2.2.2.2.2.2.2.1 t.2.2.2.2.2.2.2.2.2.2.1 t.2.2.2.2.2.2.2.2.2.2.2.1 t.2.2.2.2.2.2.2.2.2.2.2.2.1 t.2.2.2.2.2.2.2.2.2.2.2.2.2.1 t.2.2.2.2.2.2.2.2.2.2.2.2.2.2.1 t.2.2.2.2.2.2.2.2.2.2.2.2.2.2.2.1 t.2.2.2.2.2.2.2.2.2.2.2.2.2.2.2.2.1 t.2.2.2.2.2.2.2.2.2.2.2.2.2.2.2.2.2.1 t.2.2.2.2.2.2.2.2.2.2.2.2.2.2.2.2.2.2.1 t.2.2.2.2.2.2.2.2.2.2.2.2.2.2.2.2.2.2.2.1 t.2.2.2.2.2.2.2.2.2.2.2.2.2.2.2.2.2.2.2.2.1 t.2.2.2.2.2.2.2.2.2.2.2.2.2.2.2.2.2.2.2.2.2.1 t.2.2.2.2.2.2.2.2.2.2.2.2.2.2.2.2.2.2.2.2.2.2.1
noncomputable def fuse_gone_shown_o (K : Nat) : FO := fnFO fuse_gone_shown_h fuse_gone_shown_r fun t => fuse_gone_shown_gu K t
theorem fuse_gone_shown_q (K : Nat) (t : fuse_gone_shown_h.T) : exFn (fuse_gone_shown_e0 K) (hdl (fuse_gone_shown_e0 K) 0) [25] Try.f25 (slVals (fuse_gone_shown_h.put t).fr.sl) ⟨⟨0, []⟩, [], (fuse_gone_shown_h.put t).mem⟩ (takeRes fuse_gone_shown_r) = fuse_gone_shown_gu K t := by kernel_rfl
theorem fuse_gone_shown_ok (K : Nat) : FOok Try.prog 25 (fuse_gone_shown_o K) :=
  fn_rule (fuse_gone_shown_t0 K) (fuse_gone_shown_i0 K) (draws (fuse_gone_shown_t0 K)) 0 Try.func25 (fnB_ok Try.func25 (by kernel_rfl)) rfl rfl (allOwn_ok false (by kernel_rfl)) rfl (allOwn_ok true (by kernel_rfl)) (fun t => fuse_gone_shown_q K t)
/-! fuse_Go -/
noncomputable def fuse_Go_e0 (K : Nat) : Env := ⟨tt, [(25, fuse_gone_shown_o K)], [], [], eqs⟩
theorem fuse_Go_t0 (K : Nat) : EnvT Try.prog (fuse_Go_e0 K) := envT_of tt_ok eqs_ok ⟨fuse_gone_shown_ok K, trivial⟩
theorem fuse_Go_i0 (K : Nat) : EnvI Try.prog (fuse_Go_e0 K) := envI_of (es := []) trivial trivial
noncomputable def fuse_Go_h : Sh := ⟨1, [(0, .ag [.i .i64, .i .i64, .i .i64, .i .i64, .i .i64, .i .i64, .i .i64, .i .i64, .i .i64, .i .i64, .i .i64, .i .i64, .i .i64, .i .i64, .i .i64, .i .i64, .i .i64, .i .i64, .i .i64, .i .i64, .i .i64, .i .i64, .i .i64])], [], []⟩
noncomputable def fuse_Go_r : Sh := ⟨2, [(0, .ag [.i .i64, .i .i64, .i .i64, .i .i64, .i .i64, .i .i64, .i .i64, .i .i64, .i .i64, .i .i64, .i .i64, .i .i64, .i .i64, .i .i64, .i .i64, .i .i64, .i .i64, .i .i64, .i .i64, .i .i64, .i .i64, .i .i64, .i .i64]), (1, .sc (.i .i64))], [], []⟩
noncomputable def fuse_Go_g (K : Nat) (s_0_0 : Int) (s_0_1 : Int) (s_0_2 : Int) (s_0_3 : Int) (s_0_4 : Int) (s_0_5 : Int) (s_0_6 : Int) (s_0_7 : Int) (s_0_8 : Int) (s_0_9 : Int) (s_0_10 : Int) (s_0_11 : Int) (s_0_12 : Int) (s_0_13 : Int) (s_0_14 : Int) (s_0_15 : Int) (s_0_16 : Int) (s_0_17 : Int) (s_0_18 : Int) (s_0_19 : Int) (s_0_20 : Int) (s_0_21 : Int) (s_0_22 : Int) : Option (Int × Int × Int × Int × Int × Int × Int × Int × Int × Int × Int × Int × Int × Int × Int × Int × Int × Int × Int × Int × Int × Int × Int × Int × Unit) :=
  ((fuse_gone_shown_g K s_0_0 s_0_1 s_0_2 s_0_3 s_0_4 s_0_5 s_0_6 s_0_7 s_0_8 s_0_9 s_0_10 s_0_11 s_0_12 s_0_13 s_0_14 s_0_15 s_0_16 s_0_17 s_0_18 s_0_19 s_0_20 s_0_21 s_0_22).bind fun q1 => (bif (q1.2.1 != 0) then (some (0, 0, 0, 0, 0, 0, 0, 0, 0, 0, 0, 0, 0, 0, 0, 0, 0, 0, 0, 0, 0, 0, 0, q1.2.1, ())) else (some (s_0_0, s_0_1, q1.1, s_0_3, s_0_4, s_0_5, s_0_6, s_0_7, s_0_8, s_0_9, s_0_10, s_0_11, s_0_12, s_0_13, s_0_14, s_0_15, s_0_16, s_0_17, s_0_18, s_0_19, s_0_20, s_0_21, s_0_22, q1.2.1, ()))))
noncomputable def fuse_Go_gu (K : Nat) (t : fuse_Go_h.T) : Option (Int × Int × Int × Int × Int × Int × Int × Int × Int × Int × Int × Int × Int × Int × Int × Int × Int × Int × Int × Int × Int × Int × Int × Int × Unit) := fuse_Go_g K t.1 t.2.1 t.2.2.1 t.2.2.2.1 t.2.2.2.2.1 t.2.2.2.2.2.1 t.2.2.2.2.2.2.1 t.2.2.2.2.2.2.2.1 t.2.2.2.2.2.2.2.2.1 t.2.2.2.2.2.2.2.2.2.1 t.2.2.2.2.2.2.2.2.2.2.1 t.2.2.2.2.2.2.2.2.2.2.2.1 t.2.2.2.2.2.2.2.2.2.2.2.2.1 t.2.2.2.2.2.2.2.2.2.2.2.2.2.1 t.2.2.2.2.2.2.2.2.2.2.2.2.2.2.1 t.2.2.2.2.2.2.2.2.2.2.2.2.2.2.2.1 t.2.2.2.2.2.2.2.2.2.2.2.2.2.2.2.2.1 t.2.2.2.2.2.2.2.2.2.2.2.2.2.2.2.2.2.1 t.2.2.2.2.2.2.2.2.2.2.2.2.2.2.2.2.2.2.1 t.2.2.2.2.2.2.2.2.2.2.2.2.2.2.2.2.2.2.2.1 t.2.2.2.2.2.2.2.2.2.2.2.2.2.2.2.2.2.2.2.2.1 t.2.2.2.2.2.2.2.2.2.2.2.2.2.2.2.2.2.2.2.2.2.1 t.2.2.2.2.2.2.2.2.2.2.2.2.2.2.2.2.2.2.2.2.2.2.1
noncomputable def fuse_Go_o (K : Nat) : FO := fnFO fuse_Go_h fuse_Go_r fun t => fuse_Go_gu K t
theorem fuse_Go_q (K : Nat) (t : fuse_Go_h.T) : exFn (fuse_Go_e0 K) (hdl (fuse_Go_e0 K) 0) [11] Try.f11 (slVals (fuse_Go_h.put t).fr.sl) ⟨⟨0, []⟩, [], (fuse_Go_h.put t).mem⟩ (takeRes fuse_Go_r) = fuse_Go_gu K t := by kernel_rfl
theorem fuse_Go_ok (K : Nat) : FOok Try.prog 11 (fuse_Go_o K) :=
  fn_rule (fuse_Go_t0 K) (fuse_Go_i0 K) (draws (fuse_Go_t0 K)) 0 Try.func11 (fnB_ok Try.func11 (by kernel_rfl)) rfl rfl (allOwn_ok false (by kernel_rfl)) rfl (allOwn_ok true (by kernel_rfl)) (fun t => fuse_Go_q K t)
/-! fuse_Rest -/
noncomputable def fuse_Rest_e0 (K : Nat) : Env := ⟨tt, [(11, fuse_Go_o K), (10, fuse_Correct_o K)], [], [], eqs⟩
theorem fuse_Rest_t0 (K : Nat) : EnvT Try.prog (fuse_Rest_e0 K) := envT_of tt_ok eqs_ok ⟨fuse_Go_ok K, fuse_Correct_ok K, trivial⟩
theorem fuse_Rest_i0 (K : Nat) : EnvI Try.prog (fuse_Rest_e0 K) := envI_of (es := []) trivial trivial
noncomputable def fuse_Rest_h : Sh := ⟨3, [(0, .ag [.i .i64, .i .i64, .i .i64, .i .i64, .i .i64, .i .i64, .i .i64, .i .i64, .i .i64, .i .i64, .i .i64, .i .i64, .i .i64, .i .i64, .i .i64, .i .i64, .i .i64, .i .i64, .i .i64, .i .i64, .i .i64, .i .i64, .i .i64]), (1, .sc (.i .i64)), (2, .sc (.i .i64))], [], []⟩
noncomputable def fuse_Rest_r : Sh := ⟨2, [(0, .ag [.i .i64, .i .i64, .i .i64, .i .i64, .i .i64, .i .i64, .i .i64, .i .i64, .i .i64, .i .i64, .i .i64, .i .i64, .i .i64, .i .i64, .i .i64, .i .i64, .i .i64, .i .i64, .i .i64, .i .i64, .i .i64, .i .i64, .i .i64]), (1, .sc (.i .i64))], [], []⟩
noncomputable def fuse_Rest_g (K : Nat) (s_0_0 : Int) (s_0_1 : Int) (s_0_2 : Int) (s_0_3 : Int) (s_0_4 : Int) (s_0_5 : Int) (s_0_6 : Int) (s_0_7 : Int) (s_0_8 : Int) (s_0_9 : Int) (s_0_10 : Int) (s_0_11 : Int) (s_0_12 : Int) (s_0_13 : Int) (s_0_14 : Int) (s_0_15 : Int) (s_0_16 : Int) (s_0_17 : Int) (s_0_18 : Int) (s_0_19 : Int) (s_0_20 : Int) (s_0_21 : Int) (s_0_22 : Int) (told_1 : Int) (slew_2 : Int) : Option (Int × Int × Int × Int × Int × Int × Int × Int × Int × Int × Int × Int × Int × Int × Int × Int × Int × Int × Int × Int × Int × Int × Int × Int × Unit) :=
  ((fuse_Go_g K s_0_0 s_0_1 s_0_2 s_0_3 s_0_4 s_0_5 s_0_6 s_0_7 s_0_8 s_0_9 s_0_10 s_0_11 s_0_12 s_0_13 s_0_14 s_0_15 s_0_16 s_0_17 s_0_18 s_0_19 s_0_20 s_0_21 s_0_22).bind fun q1 => (bif (q1.2.2.2.2.2.2.2.2.2.2.2.2.2.2.2.2.2.2.2.2.2.2.2.1 == 0) then ((fuse_Correct_g K q1.2.2.1 told_1 slew_2).bind fun q2 => (bif (q2.2.1 != 0) then (some (0, 0, 0, 0, 0, 0, 0, 0, 0, 0, 0, 0, 0, 0, 0, 0, 0, 0, 0, 0, 0, 0, 0, q2.2.1, ())) else (some (q1.1, q1.2.1, q2.1, q2.1, q1.1, q1.2.2.2.2.2.1, q1.2.2.2.2.2.2.1, q1.2.2.2.2.2.2.2.1, q1.2.2.2.2.2.2.2.2.1, q1.2.2.2.2.2.2.2.2.2.1, q1.2.2.2.2.2.2.2.2.2.2.1, q1.2.2.2.2.2.2.2.2.2.2.2.1, q1.2.2.2.2.2.2.2.2.2.2.2.2.1, q1.2.2.2.2.2.2.2.2.2.2.2.2.2.1, q1.2.2.2.2.2.2.2.2.2.2.2.2.2.2.1, q1.2.2.2.2.2.2.2.2.2.2.2.2.2.2.2.1, q1.2.2.2.2.2.2.2.2.2.2.2.2.2.2.2.2.1, q1.2.2.2.2.2.2.2.2.2.2.2.2.2.2.2.2.2.1, q1.2.2.2.2.2.2.2.2.2.2.2.2.2.2.2.2.2.2.1, q1.2.2.2.2.2.2.2.2.2.2.2.2.2.2.2.2.2.2.2.1, q1.2.2.2.2.2.2.2.2.2.2.2.2.2.2.2.2.2.2.2.2.1, q1.2.2.2.2.2.2.2.2.2.2.2.2.2.2.2.2.2.2.2.2.2.1, q1.2.2.2.2.2.2.2.2.2.2.2.2.2.2.2.2.2.2.2.2.2.2.1, q2.2.1, ())))) else (bif (q1.2.2.2.2.2.2.2.2.2.2.2.2.2.2.2.2.2.2.2.2.2.2.2.1 != 0) then (some (0, 0, 0, 0, 0, 0, 0, 0, 0, 0, 0, 0, 0, 0, 0, 0, 0, 0, 0, 0, 0, 0, 0, q1.2.2.2.2.2.2.2.2.2.2.2.2.2.2.2.2.2.2.2.2.2.2.2.1, ())) else (some (q1.1, q1.2.1, 0, 0, q1.1, q1.2.2.2.2.2.1, q1.2.2.2.2.2.2.1, q1.2.2.2.2.2.2.2.1, q1.2.2.2.2.2.2.2.2.1, q1.2.2.2.2.2.2.2.2.2.1, q1.2.2.2.2.2.2.2.2.2.2.1, q1.2.2.2.2.2.2.2.2.2.2.2.1, q1.2.2.2.2.2.2.2.2.2.2.2.2.1, q1.2.2.2.2.2.2.2.2.2.2.2.2.2.1, q1.2.2.2.2.2.2.2.2.2.2.2.2.2.2.1, q1.2.2.2.2.2.2.2.2.2.2.2.2.2.2.2.1, q1.2.2.2.2.2.2.2.2.2.2.2.2.2.2.2.2.1, q1.2.2.2.2.2.2.2.2.2.2.2.2.2.2.2.2.2.1, q1.2.2.2.2.2.2.2.2.2.2.2.2.2.2.2.2.2.2.1, q1.2.2.2.2.2.2.2.2.2.2.2.2.2.2.2.2.2.2.2.1, q1.2.2.2.2.2.2.2.2.2.2.2.2.2.2.2.2.2.2.2.2.1, q1.2.2.2.2.2.2.2.2.2.2.2.2.2.2.2.2.2.2.2.2.2.1, q1.2.2.2.2.2.2.2.2.2.2.2.2.2.2.2.2.2.2.2.2.2.2.1, q1.2.2.2.2.2.2.2.2.2.2.2.2.2.2.2.2.2.2.2.2.2.2.2.1, ())))))
noncomputable def fuse_Rest_gu (K : Nat) (t : fuse_Rest_h.T) : Option (Int × Int × Int × Int × Int × Int × Int × Int × Int × Int × Int × Int × Int × Int × Int × Int × Int × Int × Int × Int × Int × Int × Int × Int × Unit) := fuse_Rest_g K t.1 t.2.1 t.2.2.1 t.2.2.2.1 t.2.2.2.2.1 t.2.2.2.2.2.1 t.2.2.2.2.2.2.1 t.2.2.2.2.2.2.2.1 t.2.2.2.2.2.2.2.2.1 t.2.2.2.2.2.2.2.2.2.1 t.2.2.2.2.2.2.2.2.2.2.1 t.2.2.2.2.2.2.2.2.2.2.2.1 t.2.2.2.2.2.2.2.2.2.2.2.2.1 t.2.2.2.2.2.2.2.2.2.2.2.2.2.1 t.2.2.2.2.2.2.2.2.2.2.2.2.2.2.1 t.2.2.2.2.2.2.2.2.2.2.2.2.2.2.2.1 t.2.2.2.2.2.2.2.2.2.2.2.2.2.2.2.2.1 t.2.2.2.2.2.2.2.2.2.2.2.2.2.2.2.2.2.1 t.2.2.2.2.2.2.2.2.2.2.2.2.2.2.2.2.2.2.1 t.2.2.2.2.2.2.2.2.2.2.2.2.2.2.2.2.2.2.2.1 t.2.2.2.2.2.2.2.2.2.2.2.2.2.2.2.2.2.2.2.2.1 t.2.2.2.2.2.2.2.2.2.2.2.2.2.2.2.2.2.2.2.2.2.1 t.2.2.2.2.2.2.2.2.2.2.2.2.2.2.2.2.2.2.2.2.2.2.1 t.2.2.2.2.2.2.2.2.2.2.2.2.2.2.2.2.2.2.2.2.2.2.2.1 t.2.2.2.2.2.2.2.2.2.2.2.2.2.2.2.2.2.2.2.2.2.2.2.2.1
noncomputable def fuse_Rest_o (K : Nat) : FO := fnFO fuse_Rest_h fuse_Rest_r fun t => fuse_Rest_gu K t
theorem fuse_Rest_q (K : Nat) (t : fuse_Rest_h.T) : exFn (fuse_Rest_e0 K) (hdl (fuse_Rest_e0 K) 0) [12] Try.f12 (slVals (fuse_Rest_h.put t).fr.sl) ⟨⟨0, []⟩, [], (fuse_Rest_h.put t).mem⟩ (takeRes fuse_Rest_r) = fuse_Rest_gu K t := by kernel_rfl
theorem fuse_Rest_ok (K : Nat) : FOok Try.prog 12 (fuse_Rest_o K) :=
  fn_rule (fuse_Rest_t0 K) (fuse_Rest_i0 K) (draws (fuse_Rest_t0 K)) 0 Try.func12 (fnB_ok Try.func12 (by kernel_rfl)) rfl rfl (allOwn_ok false (by kernel_rfl)) rfl (allOwn_ok true (by kernel_rfl)) (fun t => fuse_Rest_q K t)
/-! rheostatlaw17_works -/
noncomputable def rheostatlaw17_works_e0 (K : Nat) : Env := ⟨tt, [(10, fuse_Correct_o K), (9, fuse_Far_o K), (12, fuse_Rest_o K)], [], [], eqs⟩
theorem rheostatlaw17_works_t0 (K : Nat) : EnvT Try.prog (rheostatlaw17_works_e0 K) := envT_of tt_ok eqs_ok ⟨fuse_Correct_ok K, fuse_Far_ok K, fuse_Rest_ok K, trivial⟩
theorem rheostatlaw17_works_i0 (K : Nat) : EnvI Try.prog (rheostatlaw17_works_e0 K) := envI_of (es := []) trivial trivial
noncomputable def rheostatlaw17_works_h : Sh := ⟨0, [], [], []⟩
noncomputable def rheostatlaw17_works_r : Sh := ⟨1, [(0, .sc (.b))], [], []⟩
noncomputable def rheostatlaw17_works_g (K : Nat)  : Option (Bool × Unit) :=
  ((fuse_Correct_g K 5000 7000 500).bind fun q1 => ((fuse_Far_g K 5000 7000 500).bind fun q2 => ((fuse_Rest_g K 10 0 0 5000 0 0 0 0 100 0 0 0 0 0 0 0 0 0 0 0 0 0 0 10000 300).bind fun q3 => (bif (q1.1 == 5500) then (bif (q1.2.1 == 0) then (bif (q2.1 == 4) then (bif (q2.2.1 == 0) then (bif (q3.2.2.2.2.2.2.2.2.2.2.2.2.2.2.2.2.2.2.2.2.2.2.2.1 == 0) then (bif (q3.2.2.1 == 6300) then (bif (q3.2.2.2.1 == 6300) then (some ((q3.2.2.2.2.1 == 10), ())) else (some (false, ()))) else (some (false, ()))) else (some (false, ()))) else (some (false, ()))) else (some (false, ()))) else (some (false, ()))) else (some (false, ()))))))
noncomputable def rheostatlaw17_works_o (K : Nat) : FO := fnFO rheostatlaw17_works_h rheostatlaw17_works_r fun t => rheostatlaw17_works_g K
theorem rheostatlaw17_works_q (K : Nat) (t : rheostatlaw17_works_h.T) : exFn (rheostatlaw17_works_e0 K) (hdl (rheostatlaw17_works_e0 K) 0) [7] Try.f7 (slVals (rheostatlaw17_works_h.put t).fr.sl) ⟨⟨0, []⟩, [], (rheostatlaw17_works_h.put t).mem⟩ (takeRes rheostatlaw17_works_r) = rheostatlaw17_works_g K := by kernel_rfl
theorem rheostatlaw17_works_ok (K : Nat) : FOok Try.prog 7 (rheostatlaw17_works_o K) :=
  fn_rule (rheostatlaw17_works_t0 K) (rheostatlaw17_works_i0 K) (draws (rheostatlaw17_works_t0 K)) 0 Try.func7 (fnB_ok Try.func7 (by kernel_rfl)) rfl rfl (allOwn_ok false (by kernel_rfl)) rfl (allOwn_ok true (by kernel_rfl)) (fun t => rheostatlaw17_works_q K t)
/-! rheostatbase_Among -/
noncomputable def rheostatbase_Among_e0 (K : Nat) : Env := ⟨tt, [], [], [], eqs⟩
theorem rheostatbase_Among_t0 (K : Nat) : EnvT Try.prog (rheostatbase_Among_e0 K) := envT_of tt_ok eqs_ok trivial
theorem rheostatbase_Among_i0 (K : Nat) : EnvI Try.prog (rheostatbase_Among_e0 K) := envI_of (es := []) trivial trivial
noncomputable def rheostatbase_Among_h : Sh := ⟨2, [(0, .sc (.i .i64)), (1, .sc (.i .i64))], [], []⟩
noncomputable def rheostatbase_Among_r : Sh := ⟨1, [(0, .sc (.i .i64))], [], []⟩
noncomputable def rheostatbase_Among_g (K : Nat) (x_0 : Int) (n_1 : Int) : Option (Int × Unit) :=
  (bif (decide (n_1 < 1)) then (some (0, ())) else (bif ((wu64 (n_1)) == 0) then none else (some ((wi64 ((Int.tmod (wu64 (x_0)) (wu64 (n_1))))), ()))))
noncomputable def rheostatbase_Among_o (K : Nat) : FO := fnFO rheostatbase_Among_h rheostatbase_Among_r fun t => rheostatbase_Among_g K t.1 t.2.1
theorem rheostatbase_Among_q (K : Nat) (t : rheostatbase_Among_h.T) : exFn (rheostatbase_Among_e0 K) (hdl (rheostatbase_Among_e0 K) 0) [8] Try.f8 (slVals (rheostatbase_Among_h.put t).fr.sl) ⟨⟨0, []⟩, [], (rheostatbase_Among_h.put t).mem⟩ (takeRes rheostatbase_Among_r) = rheostatbase_Among_g K t.1 t.2.1 := by kernel_rfl
theorem rheostatbase_Among_ok (K : Nat) : FOok Try.prog 8 (rheostatbase_Among_o K) :=
  fn_rule (rheostatbase_Among_t0 K) (rheostatbase_Among_i0 K) (draws (rheostatbase_Among_t0 K)) 0 Try.func8 (fnB_ok Try.func8 (by kernel_rfl)) rfl rfl (allOwn_ok false (by kernel_rfl)) rfl (allOwn_ok true (by kernel_rfl)) (fun t => rheostatbase_Among_q K t)
/-! rheostatlaw17_FuseBounds -/
noncomputable def rheostatlaw17_FuseBounds_e0 (K : Nat) : Env := ⟨tt, [(7, rheostatlaw17_works_o K), (8, rheostatbase_Among_o K), (9, fuse_Far_o K), (10, fuse_Correct_o K)], [], [], eqs⟩
theorem rheostatlaw17_FuseBounds_t0 (K : Nat) : EnvT Try.prog (rheostatlaw17_FuseBounds_e0 K) := envT_of tt_ok eqs_ok ⟨rheostatlaw17_works_ok K, rheostatbase_Among_ok K, fuse_Far_ok K, fuse_Correct_ok K, trivial⟩
theorem rheostatlaw17_FuseBounds_i0 (K : Nat) : EnvI Try.prog (rheostatlaw17_FuseBounds_e0 K) := envI_of (es := []) trivial trivial
noncomputable def rheostatlaw17_FuseBounds_l0h : Sh := ⟨84, [(1, .sc (.i .i64)), (2, .sc (.i .i64)), (7, .sc (.i .i64)), (9, .sc (.i .i64)), (10, .sc (.i .i64))], [(0, [])], []⟩
noncomputable def rheostatlaw17_FuseBounds_l0x0 : Sh := ⟨84, [(7, .sc (.i .i64)), (9, .sc (.i .i64))], [(0, [])], []⟩
noncomputable def rheostatlaw17_FuseBounds_l0x1 : Sh := ⟨84, [(6, .sc (.b))], [(0, [])], []⟩
noncomputable def rheostatlaw17_FuseBounds_l0O : OutI ((Int × Int × Unit) ⊕ (Bool × Unit)) := (OutI.or (OutI.exit 0 rheostatlaw17_FuseBounds_l0x0) (OutI.ret rheostatlaw17_FuseBounds_l0x1))
noncomputable def rheostatlaw17_FuseBounds_l0r (K : Nat) (rec : Int → Int → Int → Int → Int → Option ((Int × Int × Unit) ⊕ (Bool × Unit))) (told_1 : Int) (slew_2 : Int) (n_7 : Int) (k_9 : Int) (x_10 : Int) : Option ((Int × Int × Unit) ⊕ (Bool × Unit)) :=
  (bif (x_10 != told_1) then ((fuse_Correct_g K x_10 told_1 slew_2).bind fun q1 => (bif (q1.2.1 != 0) then (some (.inr (false, ()))) else (bif (decide ((bif (decide ((wi64 (x_10 - q1.1)) > (wi64 (q1.1 - x_10)))) then (wi64 (x_10 - q1.1)) else (wi64 (q1.1 - x_10))) > slew_2)) then (some (.inr (false, ()))) else (bif (decide (q1.1 < (bif (decide (told_1 < x_10)) then told_1 else x_10))) then (some (.inr (false, ()))) else (bif (decide (q1.1 > (bif (decide (told_1 > x_10)) then told_1 else x_10))) then (some (.inr (false, ()))) else (bif (decide (k_9 > n_7)) then (some (.inr (false, ()))) else (rec told_1 slew_2 n_7 (wi64 (k_9 + 1)) q1.1))))))) else (some (.inl (n_7, k_9, ()))))
noncomputable def rheostatlaw17_FuseBounds_l0 (K n : Nat) : Int → Int → Int → Int → Int → Option ((Int × Int × Unit) ⊕ (Bool × Unit)) := Nat.rec (motive := fun _ => Int → Int → Int → Int → Int → Option ((Int × Int × Unit) ⊕ (Bool × Unit))) (fun _ _ _ _ _ => none) (fun _ ih => rheostatlaw17_FuseBounds_l0r K ih) n
noncomputable def rheostatlaw17_FuseBounds_l0u (K n : Nat) (t : rheostatlaw17_FuseBounds_l0h.T) : Option ((Int × Int × Unit) ⊕ (Bool × Unit)) := rheostatlaw17_FuseBounds_l0 K n t.1 t.2.1 t.2.2.1 t.2.2.2.1 t.2.2.2.2.1
noncomputable def rheostatlaw17_FuseBounds_l0o (K : Nat) : LO := loopLO rheostatlaw17_FuseBounds_l0h rheostatlaw17_FuseBounds_l0O fun t => rheostatlaw17_FuseBounds_l0u K K t
noncomputable def rheostatlaw17_FuseBounds_l0C : Code := bodyOf Try.f3
noncomputable def rheostatlaw17_FuseBounds_l0B : Code := (findLoops 9 (loopsIn rheostatlaw17_FuseBounds_l0C)).headD .skip
theorem rheostatlaw17_FuseBounds_l0F : findLoops 9 (loopsIn rheostatlaw17_FuseBounds_l0C) = [rheostatlaw17_FuseBounds_l0B] := by kernel_rfl
theorem rheostatlaw17_FuseBounds_l0q (K n : Nat) (t : rheostatlaw17_FuseBounds_l0h.T) : exC (rheostatlaw17_FuseBounds_e0 K) (hdl (rheostatlaw17_FuseBounds_e0 K) 0) (3 :: []) rheostatlaw17_FuseBounds_l0B (rheostatlaw17_FuseBounds_l0h.put t) (fun s => (rheostatlaw17_FuseBounds_l0h.take s).bind fun t => rheostatlaw17_FuseBounds_l0u K n t) (fun id s => rheostatlaw17_FuseBounds_l0O.get (some id) s) (fun s => rheostatlaw17_FuseBounds_l0O.get none s) = rheostatlaw17_FuseBounds_l0u K (n + 1) t := by kernel_rfl
noncomputable def rheostatlaw17_FuseBounds_l0E (K : Nat) : LoopE Try.prog := ⟨[9, 3], rheostatlaw17_FuseBounds_l0o K, Try.f3, rheostatlaw17_FuseBounds_l0C, rheostatlaw17_FuseBounds_l0B, ⟨9, 3, [], rfl, Try.func3, by kernel_rfl, rheostatlaw17_FuseBounds_l0F⟩,
  loop_rule (F := fun n t => rheostatlaw17_FuseBounds_l0u K n t) (rheostatlaw17_FuseBounds_t0 K) (rheostatlaw17_FuseBounds_i0 K) (draws (rheostatlaw17_FuseBounds_t0 K)) 0 Try.func3 (c := rheostatlaw17_FuseBounds_l0C) (by kernel_rfl) (body_in rheostatlaw17_FuseBounds_l0F) (ctx' := []) (h := rheostatlaw17_FuseBounds_l0h) (O := rheostatlaw17_FuseBounds_l0O) (fun _ => rfl) (fun m t => rheostatlaw17_FuseBounds_l0q K m t) K⟩
noncomputable def rheostatlaw17_FuseBounds_e1 (K : Nat) : Env := ⟨tt, [(7, rheostatlaw17_works_o K), (8, rheostatbase_Among_o K), (9, fuse_Far_o K), (10, fuse_Correct_o K)], [], [([9, 3], rheostatlaw17_FuseBounds_l0o K)], eqs⟩
theorem rheostatlaw17_FuseBounds_t1 (K : Nat) : EnvT Try.prog (rheostatlaw17_FuseBounds_e1 K) := envT_of tt_ok eqs_ok ⟨rheostatlaw17_works_ok K, rheostatbase_Among_ok K, fuse_Far_ok K, fuse_Correct_ok K, trivial⟩
theorem rheostatlaw17_FuseBounds_i1 (K : Nat) : EnvI Try.prog (rheostatlaw17_FuseBounds_e1 K) := envI_of (es := [rheostatlaw17_FuseBounds_l0E K]) trivial ⟨⟨rfl, rfl⟩, trivial⟩
noncomputable def rheostatlaw17_FuseBounds_g (K : Nat) (soc_0 : Int) (told_1 : Int) (slew_2 : Int) : Option Bool :=
  ((rheostatlaw17_works_g K).bind fun q1 => (bif (!q1.1) then (some false) else ((rheostatbase_Among_g K soc_0 10001).bind fun q2 => ((rheostatbase_Among_g K told_1 10001).bind fun q3 => ((rheostatbase_Among_g K slew_2 10000).bind fun q4 => ((fuse_Far_g K q2.1 q3.1 (wi64 (1 + q4.1))).bind fun q5 => (bif (q5.2.1 != 0) then (some false) else (bif (decide (q5.1 > 10000)) then (some false) else ((rheostatlaw17_FuseBounds_l0 K K q3.1 (wi64 (1 + q4.1)) q5.1 0 q2.1).bind fun q6 => (Sum.elim (fun q7 => (some (q7.2.1 == q7.1))) (fun q8 => (some q8.1)) q6))))))))))
noncomputable def rheostatlaw17_FuseBounds_ps : List (Bool × List WC) := [(false, [.sc (.i .i64)]), (false, [.sc (.i .i64)]), (false, [.sc (.i .i64)])]
theorem rheostatlaw17_FuseBounds_q (K : Nat) (t : (shOf rheostatlaw17_FuseBounds_ps).T) : exFn (rheostatlaw17_FuseBounds_e1 K) (hdl (rheostatlaw17_FuseBounds_e1 K) 0) [3] Try.f3 (slVals ((shOf rheostatlaw17_FuseBounds_ps).put t).fr.sl) ⟨⟨0, []⟩, [], ((shOf rheostatlaw17_FuseBounds_ps).put t).mem⟩ outBool = rheostatlaw17_FuseBounds_g K t.1 t.2.1 t.2.2.1 := by kernel_rfl
theorem rheostatlaw17_FuseBounds_call (K : Nat) (hb : ∀ t : (shOf rheostatlaw17_FuseBounds_ps).T, argsBnd rheostatlaw17_FuseBounds_ps t → rheostatlaw17_FuseBounds_g K t.1 t.2.1 t.2.2.1 = some true) {w : World} {vals : List Value} (hp : PFits w rheostatlaw17_FuseBounds_ps vals) :
    Calls Try.prog 3 vals.toArray w fun e w' => e = .returned (.bool true) ∧ RowKit.Below w.heap.size w w' :=
  call_of (rheostatlaw17_FuseBounds_t1 K) (rheostatlaw17_FuseBounds_i1 K) (draws (rheostatlaw17_FuseBounds_t1 K)) 0 Try.func3 (by kernel_rfl) (by kernel_rfl) outBool_true (fun t ht => (rheostatlaw17_FuseBounds_q K t).trans (hb t ht)) hp
/-! rheostatlaw17_FuseKeeps -/
noncomputable def rheostatlaw17_FuseKeeps_e0 (K : Nat) : Env := ⟨tt, [(7, rheostatlaw17_works_o K), (11, fuse_Go_o K), (12, fuse_Rest_o K)], [], [], eqs⟩
theorem rheostatlaw17_FuseKeeps_t0 (K : Nat) : EnvT Try.prog (rheostatlaw17_FuseKeeps_e0 K) := envT_of tt_ok eqs_ok ⟨rheostatlaw17_works_ok K, fuse_Go_ok K, fuse_Rest_ok K, trivial⟩
theorem rheostatlaw17_FuseKeeps_i0 (K : Nat) : EnvI Try.prog (rheostatlaw17_FuseKeeps_e0 K) := envI_of (es := []) trivial trivial
noncomputable def rheostatlaw17_FuseKeeps_g (K : Nat) (s_0_0 : Int) (s_0_1 : Int) (s_0_2 : Int) (s_0_3 : Int) (s_0_4 : Int) (s_0_5 : Int) (s_0_6 : Int) (s_0_7 : Int) (s_0_8 : Int) (s_0_9 : Int) (s_0_10 : Int) (s_0_11 : Int) (s_0_12 : Int) (s_0_13 : Int) (s_0_14 : Int) (s_0_15 : Int) (s_0_16 : Int) (s_0_17 : Int) (s_0_18 : Int) (s_0_19 : Int) (s_0_20 : Int) (s_0_21 : Int) (s_0_22 : Int) (told_1 : Int) (slew_2 : Int) : Option Bool :=
  ((rheostatlaw17_works_g K).bind fun q1 => (bif (!q1.1) then (some false) else ((fuse_Go_g K s_0_0 s_0_1 s_0_2 s_0_3 s_0_4 s_0_5 s_0_6 s_0_7 s_0_8 s_0_9 s_0_10 s_0_11 s_0_12 s_0_13 s_0_14 s_0_15 s_0_16 s_0_17 s_0_18 s_0_19 s_0_20 s_0_21 s_0_22).bind fun q2 => (bif (q2.2.2.2.2.2.2.2.2.2.2.2.2.2.2.2.2.2.2.2.2.2.2.2.1 != 0) then (some ((q2.1 == 0) && ((q2.2.1 == 0) && ((q2.2.2.1 == 0) && ((q2.2.2.2.1 == 0) && ((q2.2.2.2.2.1 == 0) && ((q2.2.2.2.2.2.1 == 0) && ((q2.2.2.2.2.2.2.1 == 0) && ((q2.2.2.2.2.2.2.2.1 == 0) && ((q2.2.2.2.2.2.2.2.2.1 == 0) && ((q2.2.2.2.2.2.2.2.2.2.1 == 0) && ((q2.2.2.2.2.2.2.2.2.2.2.1 == 0) && ((q2.2.2.2.2.2.2.2.2.2.2.2.1 == 0) && ((q2.2.2.2.2.2.2.2.2.2.2.2.2.1 == 0) && ((q2.2.2.2.2.2.2.2.2.2.2.2.2.2.1 == 0) && ((q2.2.2.2.2.2.2.2.2.2.2.2.2.2.2.1 == 0) && ((q2.2.2.2.2.2.2.2.2.2.2.2.2.2.2.2.1 == 0) && ((q2.2.2.2.2.2.2.2.2.2.2.2.2.2.2.2.2.1 == 0) && ((q2.2.2.2.2.2.2.2.2.2.2.2.2.2.2.2.2.2.1 == 0) && ((q2.2.2.2.2.2.2.2.2.2.2.2.2.2.2.2.2.2.2.1 == 0) && ((q2.2.2.2.2.2.2.2.2.2.2.2.2.2.2.2.2.2.2.2.1 == 0) && ((q2.2.2.2.2.2.2.2.2.2.2.2.2.2.2.2.2.2.2.2.2.1 == 0) && ((q2.2.2.2.2.2.2.2.2.2.2.2.2.2.2.2.2.2.2.2.2.2.1 == 0) && (q2.2.2.2.2.2.2.2.2.2.2.2.2.2.2.2.2.2.2.2.2.2.2.1 == 0)))))))))))))))))))))))) else ((fuse_Go_g K q2.1 q2.2.1 q2.2.2.1 q2.2.2.2.1 q2.2.2.2.2.1 q2.2.2.2.2.2.1 q2.2.2.2.2.2.2.1 q2.2.2.2.2.2.2.2.1 q2.2.2.2.2.2.2.2.2.1 q2.2.2.2.2.2.2.2.2.2.1 q2.2.2.2.2.2.2.2.2.2.2.1 q2.2.2.2.2.2.2.2.2.2.2.2.1 q2.2.2.2.2.2.2.2.2.2.2.2.2.1 q2.2.2.2.2.2.2.2.2.2.2.2.2.2.1 q2.2.2.2.2.2.2.2.2.2.2.2.2.2.2.1 q2.2.2.2.2.2.2.2.2.2.2.2.2.2.2.2.1 q2.2.2.2.2.2.2.2.2.2.2.2.2.2.2.2.2.1 q2.2.2.2.2.2.2.2.2.2.2.2.2.2.2.2.2.2.1 q2.2.2.2.2.2.2.2.2.2.2.2.2.2.2.2.2.2.2.1 q2.2.2.2.2.2.2.2.2.2.2.2.2.2.2.2.2.2.2.2.1 q2.2.2.2.2.2.2.2.2.2.2.2.2.2.2.2.2.2.2.2.2.1 q2.2.2.2.2.2.2.2.2.2.2.2.2.2.2.2.2.2.2.2.2.2.1 q2.2.2.2.2.2.2.2.2.2.2.2.2.2.2.2.2.2.2.2.2.2.2.1).bind fun q3 => ((fuse_Rest_g K s_0_0 s_0_1 s_0_2 s_0_3 s_0_4 s_0_5 s_0_6 s_0_7 s_0_8 s_0_9 s_0_10 s_0_11 s_0_12 s_0_13 s_0_14 s_0_15 s_0_16 s_0_17 s_0_18 s_0_19 s_0_20 s_0_21 s_0_22 told_1 slew_2).bind fun q4 => (bif (!((q2.1 == q3.1) && ((q2.2.1 == q3.2.1) && ((q2.2.2.1 == q3.2.2.1) && ((q2.2.2.2.1 == q3.2.2.2.1) && ((q2.2.2.2.2.1 == q3.2.2.2.2.1) && ((q2.2.2.2.2.2.1 == q3.2.2.2.2.2.1) && ((q2.2.2.2.2.2.2.1 == q3.2.2.2.2.2.2.1) && ((q2.2.2.2.2.2.2.2.1 == q3.2.2.2.2.2.2.2.1) && ((q2.2.2.2.2.2.2.2.2.1 == q3.2.2.2.2.2.2.2.2.1) && ((q2.2.2.2.2.2.2.2.2.2.1 == q3.2.2.2.2.2.2.2.2.2.1) && ((q2.2.2.2.2.2.2.2.2.2.2.1 == q3.2.2.2.2.2.2.2.2.2.2.1) && ((q2.2.2.2.2.2.2.2.2.2.2.2.1 == q3.2.2.2.2.2.2.2.2.2.2.2.1) && ((q2.2.2.2.2.2.2.2.2.2.2.2.2.1 == q3.2.2.2.2.2.2.2.2.2.2.2.2.1) && ((q2.2.2.2.2.2.2.2.2.2.2.2.2.2.1 == q3.2.2.2.2.2.2.2.2.2.2.2.2.2.1) && ((q2.2.2.2.2.2.2.2.2.2.2.2.2.2.2.1 == q3.2.2.2.2.2.2.2.2.2.2.2.2.2.2.1) && ((q2.2.2.2.2.2.2.2.2.2.2.2.2.2.2.2.1 == q3.2.2.2.2.2.2.2.2.2.2.2.2.2.2.2.1) && ((q2.2.2.2.2.2.2.2.2.2.2.2.2.2.2.2.2.1 == q3.2.2.2.2.2.2.2.2.2.2.2.2.2.2.2.2.1) && ((q2.2.2.2.2.2.2.2.2.2.2.2.2.2.2.2.2.2.1 == q3.2.2.2.2.2.2.2.2.2.2.2.2.2.2.2.2.2.1) && ((q2.2.2.2.2.2.2.2.2.2.2.2.2.2.2.2.2.2.2.1 == q3.2.2.2.2.2.2.2.2.2.2.2.2.2.2.2.2.2.2.1) && ((q2.2.2.2.2.2.2.2.2.2.2.2.2.2.2.2.2.2.2.2.1 == q3.2.2.2.2.2.2.2.2.2.2.2.2.2.2.2.2.2.2.2.1) && ((q2.2.2.2.2.2.2.2.2.2.2.2.2.2.2.2.2.2.2.2.2.1 == q3.2.2.2.2.2.2.2.2.2.2.2.2.2.2.2.2.2.2.2.2.1) && ((q2.2.2.2.2.2.2.2.2.2.2.2.2.2.2.2.2.2.2.2.2.2.1 == q3.2.2.2.2.2.2.2.2.2.2.2.2.2.2.2.2.2.2.2.2.2.1) && (q2.2.2.2.2.2.2.2.2.2.2.2.2.2.2.2.2.2.2.2.2.2.2.1 == q3.2.2.2.2.2.2.2.2.2.2.2.2.2.2.2.2.2.2.2.2.2.2.1)))))))))))))))))))))))) then (some false) else (bif (!((q2.1 == s_0_0) && ((q2.2.1 == s_0_1) && ((s_0_2 == s_0_2) && ((q2.2.2.2.1 == s_0_3) && ((q2.2.2.2.2.1 == s_0_4) && ((q2.2.2.2.2.2.1 == s_0_5) && ((q2.2.2.2.2.2.2.1 == s_0_6) && ((q2.2.2.2.2.2.2.2.1 == s_0_7) && ((q2.2.2.2.2.2.2.2.2.1 == s_0_8) && ((q2.2.2.2.2.2.2.2.2.2.1 == s_0_9) && ((q2.2.2.2.2.2.2.2.2.2.2.1 == s_0_10) && ((q2.2.2.2.2.2.2.2.2.2.2.2.1 == s_0_11) && ((q2.2.2.2.2.2.2.2.2.2.2.2.2.1 == s_0_12) && ((q2.2.2.2.2.2.2.2.2.2.2.2.2.2.1 == s_0_13) && ((q2.2.2.2.2.2.2.2.2.2.2.2.2.2.2.1 == s_0_14) && ((q2.2.2.2.2.2.2.2.2.2.2.2.2.2.2.2.1 == s_0_15) && ((q2.2.2.2.2.2.2.2.2.2.2.2.2.2.2.2.2.1 == s_0_16) && ((q2.2.2.2.2.2.2.2.2.2.2.2.2.2.2.2.2.2.1 == s_0_17) && ((q2.2.2.2.2.2.2.2.2.2.2.2.2.2.2.2.2.2.2.1 == s_0_18) && ((q2.2.2.2.2.2.2.2.2.2.2.2.2.2.2.2.2.2.2.2.1 == s_0_19) && ((q2.2.2.2.2.2.2.2.2.2.2.2.2.2.2.2.2.2.2.2.2.1 == s_0_20) && ((q2.2.2.2.2.2.2.2.2.2.2.2.2.2.2.2.2.2.2.2.2.2.1 == s_0_21) && (q2.2.2.2.2.2.2.2.2.2.2.2.2.2.2.2.2.2.2.2.2.2.2.1 == s_0_22)))))))))))))))))))))))) then (some false) else (bif (q4.2.2.2.2.2.2.2.2.2.2.2.2.2.2.2.2.2.2.2.2.2.2.2.1 != 0) then (some ((q4.1 == 0) && ((q4.2.1 == 0) && ((q4.2.2.1 == 0) && ((q4.2.2.2.1 == 0) && ((q4.2.2.2.2.1 == 0) && ((q4.2.2.2.2.2.1 == 0) && ((q4.2.2.2.2.2.2.1 == 0) && ((q4.2.2.2.2.2.2.2.1 == 0) && ((q4.2.2.2.2.2.2.2.2.1 == 0) && ((q4.2.2.2.2.2.2.2.2.2.1 == 0) && ((q4.2.2.2.2.2.2.2.2.2.2.1 == 0) && ((q4.2.2.2.2.2.2.2.2.2.2.2.1 == 0) && ((q4.2.2.2.2.2.2.2.2.2.2.2.2.1 == 0) && ((q4.2.2.2.2.2.2.2.2.2.2.2.2.2.1 == 0) && ((q4.2.2.2.2.2.2.2.2.2.2.2.2.2.2.1 == 0) && ((q4.2.2.2.2.2.2.2.2.2.2.2.2.2.2.2.1 == 0) && ((q4.2.2.2.2.2.2.2.2.2.2.2.2.2.2.2.2.1 == 0) && ((q4.2.2.2.2.2.2.2.2.2.2.2.2.2.2.2.2.2.1 == 0) && ((q4.2.2.2.2.2.2.2.2.2.2.2.2.2.2.2.2.2.2.1 == 0) && ((q4.2.2.2.2.2.2.2.2.2.2.2.2.2.2.2.2.2.2.2.1 == 0) && ((q4.2.2.2.2.2.2.2.2.2.2.2.2.2.2.2.2.2.2.2.2.1 == 0) && ((q4.2.2.2.2.2.2.2.2.2.2.2.2.2.2.2.2.2.2.2.2.2.1 == 0) && (q4.2.2.2.2.2.2.2.2.2.2.2.2.2.2.2.2.2.2.2.2.2.2.1 == 0)))))))))))))))))))))))) else ((fuse_Go_g K q4.1 q4.2.1 q4.2.2.1 q4.2.2.2.1 q4.2.2.2.2.1 q4.2.2.2.2.2.1 q4.2.2.2.2.2.2.1 q4.2.2.2.2.2.2.2.1 q4.2.2.2.2.2.2.2.2.1 q4.2.2.2.2.2.2.2.2.2.1 q4.2.2.2.2.2.2.2.2.2.2.1 q4.2.2.2.2.2.2.2.2.2.2.2.1 q4.2.2.2.2.2.2.2.2.2.2.2.2.1 q4.2.2.2.2.2.2.2.2.2.2.2.2.2.1 q4.2.2.2.2.2.2.2.2.2.2.2.2.2.2.1 q4.2.2.2.2.2.2.2.2.2.2.2.2.2.2.2.1 q4.2.2.2.2.2.2.2.2.2.2.2.2.2.2.2.2.1 q4.2.2.2.2.2.2.2.2.2.2.2.2.2.2.2.2.2.1 q4.2.2.2.2.2.2.2.2.2.2.2.2.2.2.2.2.2.2.1 q4.2.2.2.2.2.2.2.2.2.2.2.2.2.2.2.2.2.2.2.1 q4.2.2.2.2.2.2.2.2.2.2.2.2.2.2.2.2.2.2.2.2.1 q4.2.2.2.2.2.2.2.2.2.2.2.2.2.2.2.2.2.2.2.2.2.1 q4.2.2.2.2.2.2.2.2.2.2.2.2.2.2.2.2.2.2.2.2.2.2.1).bind fun q5 => (bif (q5.2.2.2.2.2.2.2.2.2.2.2.2.2.2.2.2.2.2.2.2.2.2.2.1 == 0) then (bif ((q5.1 == q4.1) && ((q5.2.1 == q4.2.1) && ((q5.2.2.1 == q4.2.2.1) && ((q5.2.2.2.1 == q4.2.2.2.1) && ((q5.2.2.2.2.1 == q4.2.2.2.2.1) && ((q5.2.2.2.2.2.1 == q4.2.2.2.2.2.1) && ((q5.2.2.2.2.2.2.1 == q4.2.2.2.2.2.2.1) && ((q5.2.2.2.2.2.2.2.1 == q4.2.2.2.2.2.2.2.1) && ((q5.2.2.2.2.2.2.2.2.1 == q4.2.2.2.2.2.2.2.2.1) && ((q5.2.2.2.2.2.2.2.2.2.1 == q4.2.2.2.2.2.2.2.2.2.1) && ((q5.2.2.2.2.2.2.2.2.2.2.1 == q4.2.2.2.2.2.2.2.2.2.2.1) && ((q5.2.2.2.2.2.2.2.2.2.2.2.1 == q4.2.2.2.2.2.2.2.2.2.2.2.1) && ((q5.2.2.2.2.2.2.2.2.2.2.2.2.1 == q4.2.2.2.2.2.2.2.2.2.2.2.2.1) && ((q5.2.2.2.2.2.2.2.2.2.2.2.2.2.1 == q4.2.2.2.2.2.2.2.2.2.2.2.2.2.1) && ((q5.2.2.2.2.2.2.2.2.2.2.2.2.2.2.1 == q4.2.2.2.2.2.2.2.2.2.2.2.2.2.2.1) && ((q5.2.2.2.2.2.2.2.2.2.2.2.2.2.2.2.1 == q4.2.2.2.2.2.2.2.2.2.2.2.2.2.2.2.1) && ((q5.2.2.2.2.2.2.2.2.2.2.2.2.2.2.2.2.1 == q4.2.2.2.2.2.2.2.2.2.2.2.2.2.2.2.2.1) && ((q5.2.2.2.2.2.2.2.2.2.2.2.2.2.2.2.2.2.1 == q4.2.2.2.2.2.2.2.2.2.2.2.2.2.2.2.2.2.1) && ((q5.2.2.2.2.2.2.2.2.2.2.2.2.2.2.2.2.2.2.1 == q4.2.2.2.2.2.2.2.2.2.2.2.2.2.2.2.2.2.2.1) && ((q5.2.2.2.2.2.2.2.2.2.2.2.2.2.2.2.2.2.2.2.1 == q4.2.2.2.2.2.2.2.2.2.2.2.2.2.2.2.2.2.2.2.1) && ((q5.2.2.2.2.2.2.2.2.2.2.2.2.2.2.2.2.2.2.2.2.1 == q4.2.2.2.2.2.2.2.2.2.2.2.2.2.2.2.2.2.2.2.2.1) && ((q5.2.2.2.2.2.2.2.2.2.2.2.2.2.2.2.2.2.2.2.2.2.1 == q4.2.2.2.2.2.2.2.2.2.2.2.2.2.2.2.2.2.2.2.2.2.1) && (q5.2.2.2.2.2.2.2.2.2.2.2.2.2.2.2.2.2.2.2.2.2.2.1 == q4.2.2.2.2.2.2.2.2.2.2.2.2.2.2.2.2.2.2.2.2.2.2.1))))))))))))))))))))))) then (bif ((q4.1 == s_0_0) && ((q4.2.1 == s_0_1) && ((s_0_2 == s_0_2) && ((s_0_3 == s_0_3) && ((s_0_4 == s_0_4) && ((q4.2.2.2.2.2.1 == s_0_5) && ((q4.2.2.2.2.2.2.1 == s_0_6) && ((q4.2.2.2.2.2.2.2.1 == s_0_7) && ((q4.2.2.2.2.2.2.2.2.1 == s_0_8) && ((q4.2.2.2.2.2.2.2.2.2.1 == s_0_9) && ((q4.2.2.2.2.2.2.2.2.2.2.1 == s_0_10) && ((q4.2.2.2.2.2.2.2.2.2.2.2.1 == s_0_11) && ((q4.2.2.2.2.2.2.2.2.2.2.2.2.1 == s_0_12) && ((q4.2.2.2.2.2.2.2.2.2.2.2.2.2.1 == s_0_13) && ((q4.2.2.2.2.2.2.2.2.2.2.2.2.2.2.1 == s_0_14) && ((q4.2.2.2.2.2.2.2.2.2.2.2.2.2.2.2.1 == s_0_15) && ((q4.2.2.2.2.2.2.2.2.2.2.2.2.2.2.2.2.1 == s_0_16) && ((q4.2.2.2.2.2.2.2.2.2.2.2.2.2.2.2.2.2.1 == s_0_17) && ((q4.2.2.2.2.2.2.2.2.2.2.2.2.2.2.2.2.2.2.1 == s_0_18) && ((q4.2.2.2.2.2.2.2.2.2.2.2.2.2.2.2.2.2.2.2.1 == s_0_19) && ((q4.2.2.2.2.2.2.2.2.2.2.2.2.2.2.2.2.2.2.2.2.1 == s_0_20) && ((q4.2.2.2.2.2.2.2.2.2.2.2.2.2.2.2.2.2.2.2.2.2.1 == s_0_21) && (q4.2.2.2.2.2.2.2.2.2.2.2.2.2.2.2.2.2.2.2.2.2.2.1 == s_0_22))))))))))))))))))))))) then (bif (q4.2.2.2.1 == q4.2.2.1) then (bif (q4.2.2.2.2.1 == s_0_0) then (bif (decide (q4.2.2.1 ≥ 0)) then (some (decide (q4.2.2.1 ≤ 10000))) else (some false)) else (some false)) else (some false)) else (some false)) else (some false)) else (some false))))))))))))
noncomputable def rheostatlaw17_FuseKeeps_ps : List (Bool × List WC) := [(true, [.sc (.i .i64), .sc (.i .i64), .sc (.i .i64), .sc (.i .i64), .sc (.i .i64), .sc (.i .i64), .sc (.i .i64), .sc (.i .i64), .sc (.i .i64), .sc (.i .i64), .sc (.i .i64), .sc (.i .i64), .sc (.i .i64), .sc (.i .i64), .sc (.i .i64), .sc (.i .i64), .sc (.i .i64), .sc (.i .i64), .sc (.i .i64), .sc (.i .i64), .sc (.i .i64), .sc (.i .i64), .sc (.i .i64)]), (false, [.sc (.i .i64)]), (false, [.sc (.i .i64)])]
theorem rheostatlaw17_FuseKeeps_q (K : Nat) (t : (shOf rheostatlaw17_FuseKeeps_ps).T) : exFn (rheostatlaw17_FuseKeeps_e0 K) (hdl (rheostatlaw17_FuseKeeps_e0 K) 0) [4] Try.f4 (slVals ((shOf rheostatlaw17_FuseKeeps_ps).put t).fr.sl) ⟨⟨0, []⟩, [], ((shOf rheostatlaw17_FuseKeeps_ps).put t).mem⟩ outBool = rheostatlaw17_FuseKeeps_g K t.1 t.2.1 t.2.2.1 t.2.2.2.1 t.2.2.2.2.1 t.2.2.2.2.2.1 t.2.2.2.2.2.2.1 t.2.2.2.2.2.2.2.1 t.2.2.2.2.2.2.2.2.1 t.2.2.2.2.2.2.2.2.2.1 t.2.2.2.2.2.2.2.2.2.2.1 t.2.2.2.2.2.2.2.2.2.2.2.1 t.2.2.2.2.2.2.2.2.2.2.2.2.1 t.2.2.2.2.2.2.2.2.2.2.2.2.2.1 t.2.2.2.2.2.2.2.2.2.2.2.2.2.2.1 t.2.2.2.2.2.2.2.2.2.2.2.2.2.2.2.1 t.2.2.2.2.2.2.2.2.2.2.2.2.2.2.2.2.1 t.2.2.2.2.2.2.2.2.2.2.2.2.2.2.2.2.2.1 t.2.2.2.2.2.2.2.2.2.2.2.2.2.2.2.2.2.2.1 t.2.2.2.2.2.2.2.2.2.2.2.2.2.2.2.2.2.2.2.1 t.2.2.2.2.2.2.2.2.2.2.2.2.2.2.2.2.2.2.2.2.1 t.2.2.2.2.2.2.2.2.2.2.2.2.2.2.2.2.2.2.2.2.2.1 t.2.2.2.2.2.2.2.2.2.2.2.2.2.2.2.2.2.2.2.2.2.2.1 t.2.2.2.2.2.2.2.2.2.2.2.2.2.2.2.2.2.2.2.2.2.2.2.1 t.2.2.2.2.2.2.2.2.2.2.2.2.2.2.2.2.2.2.2.2.2.2.2.2.1 := by kernel_rfl
theorem rheostatlaw17_FuseKeeps_call (K : Nat) (hb : ∀ t : (shOf rheostatlaw17_FuseKeeps_ps).T, argsBnd rheostatlaw17_FuseKeeps_ps t → rheostatlaw17_FuseKeeps_g K t.1 t.2.1 t.2.2.1 t.2.2.2.1 t.2.2.2.2.1 t.2.2.2.2.2.1 t.2.2.2.2.2.2.1 t.2.2.2.2.2.2.2.1 t.2.2.2.2.2.2.2.2.1 t.2.2.2.2.2.2.2.2.2.1 t.2.2.2.2.2.2.2.2.2.2.1 t.2.2.2.2.2.2.2.2.2.2.2.1 t.2.2.2.2.2.2.2.2.2.2.2.2.1 t.2.2.2.2.2.2.2.2.2.2.2.2.2.1 t.2.2.2.2.2.2.2.2.2.2.2.2.2.2.1 t.2.2.2.2.2.2.2.2.2.2.2.2.2.2.2.1 t.2.2.2.2.2.2.2.2.2.2.2.2.2.2.2.2.1 t.2.2.2.2.2.2.2.2.2.2.2.2.2.2.2.2.2.1 t.2.2.2.2.2.2.2.2.2.2.2.2.2.2.2.2.2.2.1 t.2.2.2.2.2.2.2.2.2.2.2.2.2.2.2.2.2.2.2.1 t.2.2.2.2.2.2.2.2.2.2.2.2.2.2.2.2.2.2.2.2.1 t.2.2.2.2.2.2.2.2.2.2.2.2.2.2.2.2.2.2.2.2.2.1 t.2.2.2.2.2.2.2.2.2.2.2.2.2.2.2.2.2.2.2.2.2.2.1 t.2.2.2.2.2.2.2.2.2.2.2.2.2.2.2.2.2.2.2.2.2.2.2.1 t.2.2.2.2.2.2.2.2.2.2.2.2.2.2.2.2.2.2.2.2.2.2.2.2.1 = some true) {w : World} {vals : List Value} (hp : PFits w rheostatlaw17_FuseKeeps_ps vals) :
    Calls Try.prog 4 vals.toArray w fun e w' => e = .returned (.bool true) ∧ RowKit.Below w.heap.size w w' :=
  call_of (rheostatlaw17_FuseKeeps_t0 K) (rheostatlaw17_FuseKeeps_i0 K) (draws (rheostatlaw17_FuseKeeps_t0 K)) 0 Try.func4 (by kernel_rfl) (by kernel_rfl) outBool_true (fun t ht => (rheostatlaw17_FuseKeeps_q K t).trans (hb t ht)) hp
end Go.Proofs.Ytffmgpdbpfehkaa
