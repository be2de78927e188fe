/-
  The functions of law 11, as plain functions, and that the program does what they say. Printed by a program of ours.
-/
import Derived.Test.YtkdhedjcpakfeaaChecked
import Derived.Test.YtkdhedjcpakfeaaSyLib
import Derived.KernelRfl
namespace Go.Proofs.Ytkdhedjcpakfeaa
open Go.Sy
set_option maxRecDepth 100000
set_option linter.unusedVariables false
noncomputable def tt : List TI := [
  ⟨0, [], .other⟩,
  ⟨0, [], .other⟩,
  ⟨0, [], .other⟩,
  ⟨1, [.i0 .i64 0], .int .i64⟩,
  ⟨1, [.b0 false], .bool⟩,
  ⟨1, [.i0 .u8 0], .int .u8⟩,
  ⟨0, [], .other⟩,
  ⟨0, [], .other⟩,
  ⟨0, [], .other⟩,
  ⟨1, [.s0 ⟨#[]⟩], .str⟩,
  ⟨0, [], .other⟩,
  ⟨0, [], .other⟩,
  ⟨0, [], .other⟩,
  ⟨0, [], .other⟩,
  ⟨0, [], .other⟩,
  ⟨0, [], .other⟩,
  ⟨0, [], .other⟩,
  ⟨0, [], .other⟩,
  ⟨0, [], .other⟩,
  ⟨0, [], .other⟩,
  ⟨0, [], .other⟩,
  ⟨0, [], .other⟩,
  ⟨1, [.sln], .sl 1 8 false [.i0 .i64 0]⟩,
  ⟨0, [], .other⟩,
  ⟨3, [.sln, .sln, .sln], .st [(0, 1, false), (1, 1, false), (2, 1, false)]⟩,
  ⟨0, [], .other⟩,
  ⟨0, [], .other⟩,
  ⟨1, [.i0 .i64 0], .int .i64⟩,
  ⟨0, [], .other⟩,
  ⟨0, [], .other⟩,
  ⟨0, [], .other⟩,
  ⟨0, [], .other⟩,
  ⟨0, [], .other⟩,
  ⟨1, [.sln], .sl 2 16 true [.i0 .i64 0, .i0 .i64 0]⟩,
  ⟨0, [], .other⟩,
  ⟨2, [.i0 .i64 0, .i0 .i64 0], .st [(0, 1, false), (1, 1, false)]⟩,
  ⟨0, [], .other⟩,
  ⟨0, [], .other⟩,
  ⟨0, [], .other⟩,
  ⟨0, [], .other⟩,
  ⟨0, [], .other⟩,
  ⟨0, [], .other⟩,
  ⟨0, [], .other⟩,
  ⟨0, [], .other⟩,
  ⟨0, [], .other⟩,
  ⟨0, [], .other⟩,
  ⟨1, [.i0 .u64 0], .int .u64⟩,
  ⟨0, [], .other⟩,
  ⟨0, [], .other⟩,
  ⟨0, [], .other⟩,
  ⟨0, [], .other⟩,
  ⟨0, [], .other⟩,
  ⟨4, [.i0 .i64 0, .i0 .i64 0, .i0 .i64 0, .i0 .i64 0], .st [(0, 1, false), (1, 1, false), (2, 1, false), (3, 1, false)]⟩,
  ⟨0, [], .other⟩,
  ⟨5, [.i0 .i64 0, .i0 .i64 0, .i0 .i64 0, .i0 .i64 0, .sln], .st [(0, 4, true), (4, 1, false)]⟩,
  ⟨0, [], .other⟩,
  ⟨0, [], .other⟩,
  ⟨0, [], .other⟩,
  ⟨0, [], .other⟩,
  ⟨0, [], .other⟩,
  ⟨0, [], .other⟩,
  ⟨0, [], .other⟩,
  ⟨20, [.i0 .i64 0, .i0 .i64 0, .i0 .i64 0, .i0 .i64 0, .i0 .i64 0, .i0 .i64 0, .i0 .i64 0, .i0 .i64 0, .i0 .i64 0, .i0 .i64 0, .i0 .i64 0, .i0 .i64 0, .i0 .i64 0, .i0 .i64 0, .i0 .i64 0, .i0 .i64 0, .i0 .i64 0, .i0 .i64 0, .i0 .i64 0, .i0 .i64 0], .arr 20 1 false⟩,
  ⟨0, [], .other⟩,
  ⟨21, [.b0 false, .i0 .i64 0, .i0 .i64 0, .i0 .i64 0, .i0 .i64 0, .i0 .i64 0, .i0 .i64 0, .i0 .i64 0, .i0 .i64 0, .i0 .i64 0, .i0 .i64 0, .i0 .i64 0, .i0 .i64 0, .i0 .i64 0, .i0 .i64 0, .i0 .i64 0, .i0 .i64 0, .i0 .i64 0, .i0 .i64 0, .i0 .i64 0, .i0 .i64 0], .st [(0, 1, false), (1, 20, true)]⟩,
  ⟨0, [], .other⟩,
  ⟨1, [.i0 .u64 0], .int .u64⟩,
  ⟨0, [], .other⟩,
  ⟨0, [], .other⟩,
  ⟨0, [], .other⟩,
  ⟨0, [], .other⟩,
  ⟨4, [.i0 .i64 0, .i0 .i64 0, .i0 .i64 0, .i0 .i64 0], .st [(0, 2, true), (2, 2, true)]⟩,
  ⟨0, [], .other⟩,
  ⟨0, [], .other⟩,
  ⟨0, [], .other⟩,
  ⟨0, [], .other⟩,
  ⟨0, [], .other⟩,
  ⟨0, [], .other⟩,
  ⟨0, [], .other⟩,
  ⟨0, [], .other⟩,
  ⟨0, [], .other⟩,
  ⟨0, [], .other⟩,
  ⟨0, [], .other⟩,
  ⟨2, [.i0 .i64 0, .i0 .u64 0], .st [(0, 1, false), (1, 1, false)]⟩,
  ⟨0, [], .other⟩,
  ⟨0, [], .other⟩,
  ⟨0, [], .other⟩,
  ⟨0, [], .other⟩,
  ⟨0, [], .other⟩,
  ⟨0, [], .other⟩,
  ⟨0, [], .other⟩,
  ⟨0, [], .other⟩,
  ⟨0, [], .other⟩,
  ⟨0, [], .other⟩,
  ⟨0, [], .other⟩,
  ⟨0, [], .other⟩,
  ⟨0, [], .other⟩,
  ⟨0, [], .other⟩,
  ⟨0, [], .other⟩,
  ⟨0, [], .other⟩,
  ⟨0, [], .other⟩,
  ⟨0, [], .other⟩,
  ⟨0, [], .other⟩,
  ⟨0, [], .other⟩,
  ⟨0, [], .other⟩,
  ⟨0, [], .other⟩]
theorem tt_ok : tabB Try.prog 0 tt = true := by kernel_rfl
def tab0 : List UInt8 := [0, 1, 2, 2, 3, 3, 3, 3, 4, 4, 4, 4, 4, 4, 4, 4, 5, 5, 5, 5, 5, 5, 5, 5, 5, 5, 5, 5, 5, 5, 5, 5, 6, 6, 6, 6, 6, 6, 6, 6, 6, 6, 6, 6, 6, 6, 6, 6, 6, 6, 6, 6, 6, 6, 6, 6, 6, 6, 6, 6, 6, 6, 6, 6, 7, 7, 7, 7, 7, 7, 7, 7, 7, 7, 7, 7, 7, 7, 7, 7, 7, 7, 7, 7, 7, 7, 7, 7, 7, 7, 7, 7, 7, 7, 7, 7, 7, 7, 7, 7, 7, 7, 7, 7, 7, 7, 7, 7, 7, 7, 7, 7, 7, 7, 7, 7, 7, 7, 7, 7, 7, 7, 7, 7, 7, 7, 7, 7, 8, 8, 8, 8, 8, 8, 8, 8, 8, 8, 8, 8, 8, 8, 8, 8, 8, 8, 8, 8, 8, 8, 8, 8, 8, 8, 8, 8, 8, 8, 8, 8, 8, 8, 8, 8, 8, 8, 8, 8, 8, 8, 8, 8, 8, 8, 8, 8, 8, 8, 8, 8, 8, 8, 8, 8, 8, 8, 8, 8, 8, 8, 8, 8, 8, 8, 8, 8, 8, 8, 8, 8, 8, 8, 8, 8, 8, 8, 8, 8, 8, 8, 8, 8, 8, 8, 8, 8, 8, 8, 8, 8, 8, 8, 8, 8, 8, 8, 8, 8, 8, 8, 8, 8, 8, 8, 8, 8, 8, 8, 8, 8, 8, 8, 8, 8, 8, 8, 8, 8, 8, 8, 8, 8, 8, 8, 8, 8]
noncomputable def eqs : List (Nat × List EK) := [(35, [.i .i64, .i .i64])]
theorem eqs_ok : eqsB Try.prog eqs = true := by kernel_rfl
theorem draws {E : Env} (h : EnvT Try.prog E) : DrawOk Try.prog E := draw_ok (Checked.mixed Try.checked) h
/-! grid_within_1 -/
noncomputable def grid_within_1_e0 (K : Nat) : Env := ⟨tt, [], [], [], eqs⟩
theorem grid_within_1_t0 (K : Nat) : EnvT Try.prog (grid_within_1_e0 K) := envT_of tt_ok eqs_ok trivial
theorem grid_within_1_i0 (K : Nat) : EnvI Try.prog (grid_within_1_e0 K) := envI_of (es := []) trivial trivial
noncomputable def grid_within_1_h : Sh := ⟨1, [(0, .sc (.i .i64))], [], []⟩
noncomputable def grid_within_1_r : Sh := ⟨1, [(0, .sc (.b))], [], []⟩
noncomputable def grid_within_1_g (K : Nat) (n_0 : Int) : Option (Bool × Unit) :=
  (bif (decide (n_0 < (-2147483648))) then (some (true, ())) else (some ((decide (n_0 > 2147483648)), ())))
noncomputable def grid_within_1_o (K : Nat) : FO := fnFO grid_within_1_h grid_within_1_r fun t => grid_within_1_g K t.1
theorem grid_within_1_q (K : Nat) (t : grid_within_1_h.T) : exFn (grid_within_1_e0 K) (hdl (grid_within_1_e0 K) 0) [43] Try.f43 (slVals (grid_within_1_h.put t).fr.sl) ⟨⟨0, []⟩, [], (grid_within_1_h.put t).mem⟩ (takeRes grid_within_1_r) = grid_within_1_g K t.1 := by kernel_rfl
theorem grid_within_1_ok (K : Nat) : FOok Try.prog 43 (grid_within_1_o K) :=
  fn_rule (grid_within_1_t0 K) (grid_within_1_i0 K) (draws (grid_within_1_t0 K)) 0 Try.func43 (fnB_ok Try.func43 (by kernel_rfl)) rfl rfl (allOwn_ok false (by kernel_rfl)) rfl (allOwn_ok true (by kernel_rfl)) (fun t => grid_within_1_q K t)
/-! grid_within -/
noncomputable def grid_within_e0 (K : Nat) : Env := ⟨tt, [(43, grid_within_1_o K)], [(42, Try.f42), (52, Try.f52)], [], eqs⟩
theorem grid_within_t0 (K : Nat) : EnvT Try.prog (grid_within_e0 K) := envT_of tt_ok eqs_ok ⟨grid_within_1_ok K, trivial⟩
theorem grid_within_i0 (K : Nat) : EnvI Try.prog (grid_within_e0 K) := envI_of (es := []) ⟨⟨Try.func42, by kernel_rfl⟩, ⟨Try.func52, by kernel_rfl⟩, trivial⟩ trivial
noncomputable def grid_within_l0h : Sh := ⟨19, [(0, .sc (.slr0 0)), (1, .sc (.lit (.fn 43 []))), (7, .sc (.i .i64)), (8, .sc (.i .i64))], [(9, []), (6, []), (0, [])], [(false, true, [.ir .i64])]⟩
noncomputable def grid_within_l0x0 : Sh := ⟨19, [], [(9, []), (6, []), (0, [])], []⟩
noncomputable def grid_within_l0x1 : Sh := ⟨19, [(4, .sc (.i .i64))], [(9, []), (6, []), (0, [])], []⟩
noncomputable def grid_within_l0O : OutI ((Unit) ⊕ (Int × Unit)) := (OutI.or (OutI.exit 0 grid_within_l0x0) (OutI.ret grid_within_l0x1))
noncomputable def grid_within_l0r (K : Nat) (rec : Nat → Int → Int → (Nat → Int) → Option ((Unit) ⊕ (Int × Unit))) (s_0n : Nat) (t_7 : Int) (t_8 : Int) (m0_0 : (Nat → Int)) : Option ((Unit) ⊕ (Int × Unit)) :=
  (bif (decide (t_8 < t_7)) then (bif ((decide (0 ≤ t_8)) && (decide (t_8 < ((s_0n : Nat) : Int)))) then ((grid_within_1_g K (m0_0 (Int.toNat t_8))).bind fun q1 => (bif q1.1 then (some (.inr (t_8, ()))) else (rec s_0n t_7 (wi64 (t_8 + 1)) m0_0))) else none) else (some (.inl (()))))
noncomputable def grid_within_l0 (K n : Nat) : Nat → Int → Int → (Nat → Int) → Option ((Unit) ⊕ (Int × Unit)) := Nat.rec (motive := fun _ => Nat → Int → Int → (Nat → Int) → Option ((Unit) ⊕ (Int × Unit))) (fun _ _ _ _ => none) (fun _ ih => grid_within_l0r K ih) n
noncomputable def grid_within_l0u (K n : Nat) (t : grid_within_l0h.T) : Option ((Unit) ⊕ (Int × Unit)) := grid_within_l0 K n t.1 t.2.1 t.2.2.1 t.2.2.2.1
noncomputable def grid_within_l0o (K : Nat) : LO := loopLO grid_within_l0h grid_within_l0O fun t => grid_within_l0u K K t
noncomputable def grid_within_l0C : Code := bodyOf Try.f52
noncomputable def grid_within_l0B : Code := (findLoops 2 (loopsIn grid_within_l0C)).headD .skip
theorem grid_within_l0F : findLoops 2 (loopsIn grid_within_l0C) = [grid_within_l0B] := by kernel_rfl
theorem grid_within_l0q (K n : Nat) (t : grid_within_l0h.T) : exC (grid_within_e0 K) (hdl (grid_within_e0 K) 10) (52 :: [2, 1, 42, 1, 1, 28]) grid_within_l0B (grid_within_l0h.put t) (fun s => (grid_within_l0h.take s).bind fun t => grid_within_l0u K n t) (fun id s => grid_within_l0O.get (some id) s) (fun s => grid_within_l0O.get none s) = grid_within_l0u K (n + 1) t := by kernel_rfl
noncomputable def grid_within_l0E (K : Nat) : LoopE Try.prog := ⟨[2, 52, 2, 1, 42, 1, 1, 28], grid_within_l0o K, Try.f52, grid_within_l0C, grid_within_l0B, ⟨2, 52, [2, 1, 42, 1, 1, 28], rfl, Try.func52, by kernel_rfl, grid_within_l0F⟩,
  loop_rule (F := fun n t => grid_within_l0u K n t) (grid_within_t0 K) (grid_within_i0 K) (draws (grid_within_t0 K)) 10 Try.func52 (c := grid_within_l0C) (by kernel_rfl) (body_in grid_within_l0F) (ctx' := [2, 1, 42, 1, 1, 28]) (h := grid_within_l0h) (O := grid_within_l0O) (fun _ => rfl) (fun m t => grid_within_l0q K m t) K⟩
noncomputable def grid_within_e1 (K : Nat) : Env := ⟨tt, [(43, grid_within_1_o K)], [(42, Try.f42), (52, Try.f52)], [([2, 52, 2, 1, 42, 1, 1, 28], grid_within_l0o K)], eqs⟩
theorem grid_within_t1 (K : Nat) : EnvT Try.prog (grid_within_e1 K) := envT_of tt_ok eqs_ok ⟨grid_within_1_ok K, trivial⟩
theorem grid_within_i1 (K : Nat) : EnvI Try.prog (grid_within_e1 K) := envI_of (es := [grid_within_l0E K]) ⟨⟨Try.func42, by kernel_rfl⟩, ⟨Try.func52, by kernel_rfl⟩, trivial⟩ ⟨⟨rfl, rfl⟩, trivial⟩
noncomputable def grid_within_h : Sh := ⟨1, [(0, .sc (.slr0 0))], [], [(false, true, [.ir .i64])]⟩
noncomputable def grid_within_r : Sh := ⟨1, [(0, .sc (.b))], [], []⟩
noncomputable def grid_within_g (K : Nat) (l_0n : Nat) (m0_0 : (Nat → Int)) : Option (Bool × Unit) :=
  ((grid_within_l0 K K l_0n ((l_0n : Nat) : Int) 0 m0_0).bind fun q1 => (Sum.elim (fun q2 => (some (true, ()))) (fun q3 => (some ((!(decide (q3.1 ≥ 0))), ()))) q1))
noncomputable def grid_within_o (K : Nat) : FO := fnFO grid_within_h grid_within_r fun t => grid_within_g K t.1 t.2.1
theorem grid_within_q (K : Nat) (t : grid_within_h.T) : exFn (grid_within_e1 K) (hdl (grid_within_e1 K) 10) [28] Try.f28 (slVals (grid_within_h.put t).fr.sl) ⟨⟨0, []⟩, [], (grid_within_h.put t).mem⟩ (takeRes grid_within_r) = grid_within_g K t.1 t.2.1 := by kernel_rfl
theorem grid_within_ok (K : Nat) : FOok Try.prog 28 (grid_within_o K) :=
  fn_rule (grid_within_t1 K) (grid_within_i1 K) (draws (grid_within_t1 K)) 10 Try.func28 (fnB_ok Try.func28 (by kernel_rfl)) rfl rfl (allOwn_ok false (by kernel_rfl)) rfl (allOwn_ok true (by kernel_rfl)) (fun t => grid_within_q K t)
/-! grid_rising -/
noncomputable def grid_rising_e0 (K : Nat) : Env := ⟨tt, [(28, grid_within_o K)], [], [], eqs⟩
theorem grid_rising_t0 (K : Nat) : EnvT Try.prog (grid_rising_e0 K) := envT_of tt_ok eqs_ok ⟨grid_within_ok K, trivial⟩
theorem grid_rising_i0 (K : Nat) : EnvI Try.prog (grid_rising_e0 K) := envI_of (es := []) trivial trivial
noncomputable def grid_rising_l0h : Sh := ⟨26, [(0, .sc (.slr0 0)), (5, .sc (.slr0 0)), (6, .sc (.i .i64)), (7, .sc (.i .i64))], [(0, [])], [(false, true, [.ir .i64])]⟩
noncomputable def grid_rising_l0x0 : Sh := ⟨26, [(0, .sc (.slr0 0))], [(0, [])], [(false, true, [.ir .i64])]⟩
noncomputable def grid_rising_l0x1 : Sh := ⟨26, [(2, .sc (.b))], [(0, [])], []⟩
noncomputable def grid_rising_l0O : OutI ((Nat × (Nat → Int) × Unit) ⊕ (Bool × Unit)) := (OutI.or (OutI.exit 0 grid_rising_l0x0) (OutI.ret grid_rising_l0x1))
noncomputable def grid_rising_l0r (K : Nat) (rec : Nat → Nat → Int → Int → (Nat → Int) → Option ((Nat × (Nat → Int) × Unit) ⊕ (Bool × Unit))) (l_0n : Nat) (t_5n : Nat) (t_6 : Int) (t_7 : Int) (m0_0 : (Nat → Int)) : Option ((Nat × (Nat → Int) × Unit) ⊕ (Bool × Unit)) :=
  (bif (decide (t_7 < t_6)) then (bif ((decide (0 ≤ t_7)) && (decide (t_7 < ((t_5n : Nat) : Int)))) then (bif (decide (t_7 > 0)) then (bif ((decide (0 ≤ (wi64 (t_7 - 1)))) && (decide ((wi64 (t_7 - 1)) < ((l_0n : Nat) : Int)))) then (bif (decide ((m0_0 (Int.toNat t_7)) ≤ (m0_0 (Int.toNat (wi64 (t_7 - 1)))))) then (some (.inr (false, ()))) else (rec l_0n t_5n t_6 (wi64 (t_7 + 1)) m0_0)) else none) else (rec l_0n t_5n t_6 (wi64 (t_7 + 1)) m0_0)) else none) else (some (.inl (l_0n, m0_0, ()))))
noncomputable def grid_rising_l0 (K n : Nat) : Nat → Nat → Int → Int → (Nat → Int) → Option ((Nat × (Nat → Int) × Unit) ⊕ (Bool × Unit)) := Nat.rec (motive := fun _ => Nat → Nat → Int → Int → (Nat → Int) → Option ((Nat × (Nat → Int) × Unit) ⊕ (Bool × Unit))) (fun _ _ _ _ _ => none) (fun _ ih => grid_rising_l0r K ih) n
noncomputable def grid_rising_l0u (K n : Nat) (t : grid_rising_l0h.T) : Option ((Nat × (Nat → Int) × Unit) ⊕ (Bool × Unit)) := grid_rising_l0 K n t.1 t.2.1 t.2.2.1 t.2.2.2.1 t.2.2.2.2.1
noncomputable def grid_rising_l0o (K : Nat) : LO := loopLO grid_rising_l0h grid_rising_l0O fun t => grid_rising_l0u K K t
noncomputable def grid_rising_l0C : Code := bodyOf Try.f27
noncomputable def grid_rising_l0B : Code := (findLoops 2 (loopsIn grid_rising_l0C)).headD .skip
theorem grid_rising_l0F : findLoops 2 (loopsIn grid_rising_l0C) = [grid_rising_l0B] := by kernel_rfl
theorem grid_rising_l0q (K n : Nat) (t : grid_rising_l0h.T) : exC (grid_rising_e0 K) (hdl (grid_rising_e0 K) 0) (27 :: []) grid_rising_l0B (grid_rising_l0h.put t) (fun s => (grid_rising_l0h.take s).bind fun t => grid_rising_l0u K n t) (fun id s => grid_rising_l0O.get (some id) s) (fun s => grid_rising_l0O.get none s) = grid_rising_l0u K (n + 1) t := by kernel_rfl
noncomputable def grid_rising_l0E (K : Nat) : LoopE Try.prog := ⟨[2, 27], grid_rising_l0o K, Try.f27, grid_rising_l0C, grid_rising_l0B, ⟨2, 27, [], rfl, Try.func27, by kernel_rfl, grid_rising_l0F⟩,
  loop_rule (F := fun n t => grid_rising_l0u K n t) (grid_rising_t0 K) (grid_rising_i0 K) (draws (grid_rising_t0 K)) 0 Try.func27 (c := grid_rising_l0C) (by kernel_rfl) (body_in grid_rising_l0F) (ctx' := []) (h := grid_rising_l0h) (O := grid_rising_l0O) (fun _ => rfl) (fun m t => grid_rising_l0q K m t) K⟩
noncomputable def grid_rising_e1 (K : Nat) : Env := ⟨tt, [(28, grid_within_o K)], [], [([2, 27], grid_rising_l0o K)], eqs⟩
theorem grid_rising_t1 (K : Nat) : EnvT Try.prog (grid_rising_e1 K) := envT_of tt_ok eqs_ok ⟨grid_within_ok K, trivial⟩
theorem grid_rising_i1 (K : Nat) : EnvI Try.prog (grid_rising_e1 K) := envI_of (es := [grid_rising_l0E K]) trivial ⟨⟨rfl, rfl⟩, trivial⟩
noncomputable def grid_rising_h : Sh := ⟨1, [(0, .sc (.slr0 0))], [], [(false, true, [.ir .i64])]⟩
noncomputable def grid_rising_r : Sh := ⟨1, [(0, .sc (.b))], [], []⟩
noncomputable def grid_rising_g (K : Nat) (l_0n : Nat) (m0_0 : (Nat → Int)) : Option (Bool × Unit) :=
  ((grid_rising_l0 K K l_0n l_0n ((l_0n : Nat) : Int) 0 m0_0).bind fun q1 => (Sum.elim (fun q2 => ((grid_within_g K q2.1 q2.2.1).bind fun q4 => (some (q4.1, ())))) (fun q3 => (some (q3.1, ()))) q1))
noncomputable def grid_rising_o (K : Nat) : FO := fnFO grid_rising_h grid_rising_r fun t => grid_rising_g K t.1 t.2.1
theorem grid_rising_q (K : Nat) (t : grid_rising_h.T) : exFn (grid_rising_e1 K) (hdl (grid_rising_e1 K) 0) [27] Try.f27 (slVals (grid_rising_h.put t).fr.sl) ⟨⟨0, []⟩, [], (grid_rising_h.put t).mem⟩ (takeRes grid_rising_r) = grid_rising_g K t.1 t.2.1 := by kernel_rfl
theorem grid_rising_ok (K : Nat) : FOok Try.prog 27 (grid_rising_o K) :=
  fn_rule (grid_rising_t1 K) (grid_rising_i1 K) (draws (grid_rising_t1 K)) 0 Try.func27 (fnB_ok Try.func27 (by kernel_rfl)) rfl rfl (allOwn_ok false (by kernel_rfl)) rfl (allOwn_ok true (by kernel_rfl)) (fun t => grid_rising_q K t)
/-! grid_Check -/
noncomputable def grid_Check_e0 (K : Nat) : Env := ⟨tt, [(27, grid_rising_o K), (28, grid_within_o K)], [], [], eqs⟩
theorem grid_Check_t0 (K : Nat) : EnvT Try.prog (grid_Check_e0 K) := envT_of tt_ok eqs_ok ⟨grid_rising_ok K, grid_within_ok K, trivial⟩
theorem grid_Check_i0 (K : Nat) : EnvI Try.prog (grid_Check_e0 K) := envI_of (es := []) trivial trivial
noncomputable def grid_Check_h : Sh := ⟨1, [(0, .ag [.slr0 0, .slr0 1, .slr0 2])], [], [(false, true, [.ir .i64]), (false, true, [.ir .i64]), (false, true, [.ir .i64])]⟩
noncomputable def grid_Check_r : Sh := ⟨1, [(0, .sc (.i .i64))], [], []⟩
noncomputable def grid_Check_g (K : Nat) (g_0_0n : Nat) (g_0_1n : Nat) (g_0_2n : Nat) (m0_0 : (Nat → Int)) (m1_0 : (Nat → Int)) (m2_0 : (Nat → Int)) : Option (Int × Unit) :=
  (bif (decide (((g_0_0n : Nat) : Int) < 2)) then (some (110, ())) else (bif (decide (((g_0_0n : Nat) : Int) > 256)) then (some (110, ())) else (bif (decide (((g_0_1n : Nat) : Int) < 1)) then (some (110, ())) else (bif (decide (((g_0_1n : Nat) : Int) > 256)) then (some (110, ())) else (bif (decide ((wi64 (((g_0_0n : Nat) : Int) * ((g_0_1n : Nat) : Int))) > 4096)) then (some (110, ())) else (bif (((g_0_2n : Nat) : Int) != (wi64 (((g_0_0n : Nat) : Int) * ((g_0_1n : Nat) : Int)))) then (some (110, ())) else ((grid_rising_g K g_0_0n m0_0).bind fun q1 => (bif (!q1.1) then (some (110, ())) else ((grid_rising_g K g_0_1n m1_0).bind fun q2 => (bif (!q2.1) then (some (110, ())) else ((grid_within_g K g_0_2n m2_0).bind fun q3 => (bif (!q3.1) then (some (110, ())) else (some (0, ()))))))))))))))
noncomputable def grid_Check_gu (K : Nat) (t : grid_Check_h.T) : Option (Int × Unit) := grid_Check_g K t.1 t.2.1 t.2.2.1 t.2.2.2.1 t.2.2.2.2.1 t.2.2.2.2.2.1
noncomputable def grid_Check_o (K : Nat) : FO := fnFO grid_Check_h grid_Check_r fun t => grid_Check_gu K t
theorem grid_Check_q (K : Nat) (t : grid_Check_h.T) : exFn (grid_Check_e0 K) (hdl (grid_Check_e0 K) 0) [11] Try.f11 (slVals (grid_Check_h.put t).fr.sl) ⟨⟨0, []⟩, [], (grid_Check_h.put t).mem⟩ (takeRes grid_Check_r) = grid_Check_gu K t := by kernel_rfl
theorem grid_Check_ok (K : Nat) : FOok Try.prog 11 (grid_Check_o K) :=
  fn_rule (grid_Check_t0 K) (grid_Check_i0 K) (draws (grid_Check_t0 K)) 0 Try.func11 (fnB_ok Try.func11 (by kernel_rfl)) rfl rfl (allOwn_ok false (by kernel_rfl)) rfl (allOwn_ok true (by kernel_rfl)) (fun t => grid_Check_q K t)
/-! wide_size -/
noncomputable def wide_size_e0 (K : Nat) : Env := ⟨tt, [], [], [], eqs⟩
theorem wide_size_t0 (K : Nat) : EnvT Try.prog (wide_size_e0 K) := envT_of tt_ok eqs_ok trivial
theorem wide_size_i0 (K : Nat) : EnvI Try.prog (wide_size_e0 K) := envI_of (es := []) trivial trivial
noncomputable def wide_size_h : Sh := ⟨1, [(0, .sc (.i .i64))], [], []⟩
noncomputable def wide_size_r : Sh := ⟨1, [(0, .sc (.i .u64))], [], []⟩
noncomputable def wide_size_g (K : Nat) (a_0 : Int) : Option (Int × Unit) :=
  (bif (decide (a_0 < 0)) then (some ((wu64 (0 - (wu64 (a_0)))), ())) else (some ((wu64 (a_0)), ())))
noncomputable def wide_size_o (K : Nat) : FO := fnFO wide_size_h wide_size_r fun t => wide_size_g K t.1
theorem wide_size_q (K : Nat) (t : wide_size_h.T) : exFn (wide_size_e0 K) (hdl (wide_size_e0 K) 0) [71] Try.f71 (slVals (wide_size_h.put t).fr.sl) ⟨⟨0, []⟩, [], (wide_size_h.put t).mem⟩ (takeRes wide_size_r) = wide_size_g K t.1 := by kernel_rfl
theorem wide_size_ok (K : Nat) : FOok Try.prog 71 (wide_size_o K) :=
  fn_rule (wide_size_t0 K) (wide_size_i0 K) (draws (wide_size_t0 K)) 0 Try.func71 (fnB_ok Try.func71 (by kernel_rfl)) rfl rfl (allOwn_ok false (by kernel_rfl)) rfl (allOwn_ok true (by kernel_rfl)) (fun t => wide_size_q K t)
/-! math_bits_Mul64 -/
noncomputable def math_bits_Mul64_e0 (K : Nat) : Env := ⟨tt, [], [], [], eqs⟩
theorem math_bits_Mul64_t0 (K : Nat) : EnvT Try.prog (math_bits_Mul64_e0 K) := envT_of tt_ok eqs_ok trivial
theorem math_bits_Mul64_i0 (K : Nat) : EnvI Try.prog (math_bits_Mul64_e0 K) := envI_of (es := []) trivial trivial
noncomputable def math_bits_Mul64_h : Sh := ⟨2, [(0, .sc (.i .u64)), (1, .sc (.i .u64))], [], []⟩
noncomputable def math_bits_Mul64_r : Sh := ⟨2, [(0, .sc (.i .u64)), (1, .sc (.i .u64))], [], []⟩
noncomputable def math_bits_Mul64_g (K : Nat) (x_0 : Int) (y_1 : Int) : Option (Int × Int × Unit) :=
  (some ((wu64 ((wu64 ((wu64 ((shR .u64 x_0 32) * (shR .u64 y_1 32))) + (shR .u64 (wu64 ((wu64 ((shR .u64 x_0 32) * (bitAnd .u64 y_1 4294967295))) + (shR .u64 (wu64 ((bitAnd .u64 x_0 4294967295) * (bitAnd .u64 y_1 4294967295))) 32))) 32))) + (shR .u64 (wu64 ((bitAnd .u64 (wu64 ((wu64 ((shR .u64 x_0 32) * (bitAnd .u64 y_1 4294967295))) + (shR .u64 (wu64 ((bitAnd .u64 x_0 4294967295) * (bitAnd .u64 y_1 4294967295))) 32))) 4294967295) + (wu64 ((bitAnd .u64 x_0 4294967295) * (shR .u64 y_1 32))))) 32))), (wu64 (x_0 * y_1)), ()))
noncomputable def math_bits_Mul64_o (K : Nat) : FO := fnFO math_bits_Mul64_h math_bits_Mul64_r fun t => math_bits_Mul64_g K t.1 t.2.1
theorem math_bits_Mul64_q (K : Nat) (t : math_bits_Mul64_h.T) : exFn (math_bits_Mul64_e0 K) (hdl (math_bits_Mul64_e0 K) 0) [77] Try.f77 (slVals (math_bits_Mul64_h.put t).fr.sl) ⟨⟨0, []⟩, [], (math_bits_Mul64_h.put t).mem⟩ (takeRes math_bits_Mul64_r) = math_bits_Mul64_g K t.1 t.2.1 := by kernel_rfl
theorem math_bits_Mul64_ok (K : Nat) : FOok Try.prog 77 (math_bits_Mul64_o K) :=
  fn_rule (math_bits_Mul64_t0 K) (math_bits_Mul64_i0 K) (draws (math_bits_Mul64_t0 K)) 0 Try.func77 (fnB_ok Try.func77 (by kernel_rfl)) rfl rfl (allOwn_ok false (by kernel_rfl)) rfl (allOwn_ok true (by kernel_rfl)) (fun t => math_bits_Mul64_q K t)
/-! math_bits_Mul -/
noncomputable def math_bits_Mul_e0 (K : Nat) : Env := ⟨tt, [(77, math_bits_Mul64_o K)], [], [], eqs⟩
theorem math_bits_Mul_t0 (K : Nat) : EnvT Try.prog (math_bits_Mul_e0 K) := envT_of tt_ok eqs_ok ⟨math_bits_Mul64_ok K, trivial⟩
theorem math_bits_Mul_i0 (K : Nat) : EnvI Try.prog (math_bits_Mul_e0 K) := envI_of (es := []) trivial trivial
noncomputable def math_bits_Mul_h : Sh := ⟨2, [(0, .sc (.i .u64)), (1, .sc (.i .u64))], [], []⟩
noncomputable def math_bits_Mul_r : Sh := ⟨2, [(0, .sc (.i .u64)), (1, .sc (.i .u64))], [], []⟩
noncomputable def math_bits_Mul_g (K : Nat) (x_0 : Int) (y_1 : Int) : Option (Int × Int × Unit) :=
  ((math_bits_Mul64_g K x_0 y_1).bind fun q1 => (some (q1.1, q1.2.1, ())))
noncomputable def math_bits_Mul_o (K : Nat) : FO := fnFO math_bits_Mul_h math_bits_Mul_r fun t => math_bits_Mul_g K t.1 t.2.1
theorem math_bits_Mul_q (K : Nat) (t : math_bits_Mul_h.T) : exFn (math_bits_Mul_e0 K) (hdl (math_bits_Mul_e0 K) 0) [70] Try.f70 (slVals (math_bits_Mul_h.put t).fr.sl) ⟨⟨0, []⟩, [], (math_bits_Mul_h.put t).mem⟩ (takeRes math_bits_Mul_r) = math_bits_Mul_g K t.1 t.2.1 := by kernel_rfl
theorem math_bits_Mul_ok (K : Nat) : FOok Try.prog 70 (math_bits_Mul_o K) :=
  fn_rule (math_bits_Mul_t0 K) (math_bits_Mul_i0 K) (draws (math_bits_Mul_t0 K)) 0 Try.func70 (fnB_ok Try.func70 (by kernel_rfl)) rfl rfl (allOwn_ok false (by kernel_rfl)) rfl (allOwn_ok true (by kernel_rfl)) (fun t => math_bits_Mul_q K t)
/-! math_bits_Sub64 -/
theorem math_bits_Sub64_x : ExtOk Try.prog 81 subRow := ⟨Try.f81, Try.func81, by kernel_rfl, by kernel_rfl, by kernel_rfl, by kernel_rfl⟩
noncomputable def math_bits_Sub64_o (K : Nat) : FO := extFO subV
theorem math_bits_Sub64_ok (K : Nat) : FOok Try.prog 81 (math_bits_Sub64_o K) := sub_ok math_bits_Sub64_x
/-! math_bits_Sub -/
noncomputable def math_bits_Sub_e0 (K : Nat) : Env := ⟨tt, [(81, math_bits_Sub64_o K)], [], [], eqs⟩
theorem math_bits_Sub_t0 (K : Nat) : EnvT Try.prog (math_bits_Sub_e0 K) := envT_of tt_ok eqs_ok ⟨math_bits_Sub64_ok K, trivial⟩
theorem math_bits_Sub_i0 (K : Nat) : EnvI Try.prog (math_bits_Sub_e0 K) := envI_of (es := []) trivial trivial
noncomputable def math_bits_Sub_h : Sh := ⟨3, [(0, .sc (.i .u64)), (1, .sc (.i .u64)), (2, .sc (.i .u64))], [], []⟩
noncomputable def math_bits_Sub_r : Sh := ⟨2, [(0, .sc (.i .u64)), (1, .sc (.i .u64))], [], []⟩
noncomputable def math_bits_Sub_g (K : Nat) (x_0 : Int) (y_1 : Int) (borrow_2 : Int) : Option (Int × Int × Unit) :=
  (bif (decide (borrow_2 ≤ 1)) then (some ((Int.ofNat (((Int.toNat x_0) + 18446744073709551616 - (Int.toNat y_1) - (Int.toNat borrow_2)) % 18446744073709551616)), (Int.ofNat (bif Nat.blt (Int.toNat x_0) ((Int.toNat y_1) + (Int.toNat borrow_2)) then 1 else 0)), ())) else none)
noncomputable def math_bits_Sub_o (K : Nat) : FO := fnFO math_bits_Sub_h math_bits_Sub_r fun t => math_bits_Sub_g K t.1 t.2.1 t.2.2.1
theorem math_bits_Sub_q (K : Nat) (t : math_bits_Sub_h.T) : exFn (math_bits_Sub_e0 K) (hdl (math_bits_Sub_e0 K) 0) [78] Try.f78 (slVals (math_bits_Sub_h.put t).fr.sl) ⟨⟨0, []⟩, [], (math_bits_Sub_h.put t).mem⟩ (takeRes math_bits_Sub_r) = math_bits_Sub_g K t.1 t.2.1 t.2.2.1 := by kernel_rfl
theorem math_bits_Sub_ok (K : Nat) : FOok Try.prog 78 (math_bits_Sub_o K) :=
  fn_rule (math_bits_Sub_t0 K) (math_bits_Sub_i0 K) (draws (math_bits_Sub_t0 K)) 0 Try.func78 (fnB_ok Try.func78 (by kernel_rfl)) rfl rfl (allOwn_ok false (by kernel_rfl)) rfl (allOwn_ok true (by kernel_rfl)) (fun t => math_bits_Sub_q K t)
/-! wide_Number_minus -/
noncomputable def wide_Number_minus_e0 (K : Nat) : Env := ⟨tt, [(78, math_bits_Sub_o K)], [], [], eqs⟩
theorem wide_Number_minus_t0 (K : Nat) : EnvT Try.prog (wide_Number_minus_e0 K) := envT_of tt_ok eqs_ok ⟨math_bits_Sub_ok K, trivial⟩
theorem wide_Number_minus_i0 (K : Nat) : EnvI Try.prog (wide_Number_minus_e0 K) := envI_of (es := []) trivial trivial
noncomputable def wide_Number_minus_h : Sh := ⟨1, [(0, .ag [.i .i64, .i .u64])], [], []⟩
noncomputable def wide_Number_minus_r : Sh := ⟨1, [(0, .ag [.i .i64, .i .u64])], [], []⟩
noncomputable def wide_Number_minus_g (K : Nat) (n_0_0 : Int) (n_0_1 : Int) : Option (Int × Int × Unit) :=
  ((math_bits_Sub_g K 0 n_0_1 0).bind fun q1 => ((math_bits_Sub_g K 0 (wu64 (n_0_0)) q1.2.1).bind fun q2 => (some ((wi64 (q2.1)), q1.1, ()))))
noncomputable def wide_Number_minus_o (K : Nat) : FO := fnFO wide_Number_minus_h wide_Number_minus_r fun t => wide_Number_minus_g K t.1 t.2.1
theorem wide_Number_minus_q (K : Nat) (t : wide_Number_minus_h.T) : exFn (wide_Number_minus_e0 K) (hdl (wide_Number_minus_e0 K) 0) [72] Try.f72 (slVals (wide_Number_minus_h.put t).fr.sl) ⟨⟨0, []⟩, [], (wide_Number_minus_h.put t).mem⟩ (takeRes wide_Number_minus_r) = wide_Number_minus_g K t.1 t.2.1 := by kernel_rfl
theorem wide_Number_minus_ok (K : Nat) : FOok Try.prog 72 (wide_Number_minus_o K) :=
  fn_rule (wide_Number_minus_t0 K) (wide_Number_minus_i0 K) (draws (wide_Number_minus_t0 K)) 0 Try.func72 (fnB_ok Try.func72 (by kernel_rfl)) rfl rfl (allOwn_ok false (by kernel_rfl)) rfl (allOwn_ok true (by kernel_rfl)) (fun t => wide_Number_minus_q K t)
/-! wide_Mul -/
noncomputable def wide_Mul_e0 (K : Nat) : Env := ⟨tt, [(71, wide_size_o K), (70, math_bits_Mul_o K), (72, wide_Number_minus_o K)], [], [], eqs⟩
theorem wide_Mul_t0 (K : Nat) : EnvT Try.prog (wide_Mul_e0 K) := envT_of tt_ok eqs_ok ⟨wide_size_ok K, math_bits_Mul_ok K, wide_Number_minus_ok K, trivial⟩
theorem wide_Mul_i0 (K : Nat) : EnvI Try.prog (wide_Mul_e0 K) := envI_of (es := []) trivial trivial
noncomputable def wide_Mul_h : Sh := ⟨2, [(0, .sc (.i .i64)), (1, .sc (.i .i64))], [], []⟩
noncomputable def wide_Mul_r : Sh := ⟨1, [(0, .ag [.i .i64, .i .u64])], [], []⟩
noncomputable def wide_Mul_g (K : Nat) (a_0 : Int) (b_1 : Int) : Option (Int × Int × Unit) :=
  ((wide_size_g K a_0).bind fun q1 => ((wide_size_g K b_1).bind fun q2 => ((math_bits_Mul_g K q1.1 q2.1).bind fun q3 => (bif (!((decide (a_0 < 0)) == (decide (b_1 < 0)))) then ((wide_Number_minus_g K (wi64 (q3.1)) q3.2.1).bind fun q4 => (some (q4.1, q4.2.1, ()))) else (some ((wi64 (q3.1)), q3.2.1, ()))))))
noncomputable def wide_Mul_o (K : Nat) : FO := fnFO wide_Mul_h wide_Mul_r fun t => wide_Mul_g K t.1 t.2.1
theorem wide_Mul_q (K : Nat) (t : wide_Mul_h.T) : exFn (wide_Mul_e0 K) (hdl (wide_Mul_e0 K) 0) [63] Try.f63 (slVals (wide_Mul_h.put t).fr.sl) ⟨⟨0, []⟩, [], (wide_Mul_h.put t).mem⟩ (takeRes wide_Mul_r) = wide_Mul_g K t.1 t.2.1 := by kernel_rfl
theorem wide_Mul_ok (K : Nat) : FOok Try.prog 63 (wide_Mul_o K) :=
  fn_rule (wide_Mul_t0 K) (wide_Mul_i0 K) (draws (wide_Mul_t0 K)) 0 Try.func63 (fnB_ok Try.func63 (by kernel_rfl)) rfl rfl (allOwn_ok false (by kernel_rfl)) rfl (allOwn_ok true (by kernel_rfl)) (fun t => wide_Mul_q K t)
/-! math_bits_Len64 -/
noncomputable def math_bits_Len64_e0 (K : Nat) : Env := ⟨tt, [], [], [], eqs⟩
theorem math_bits_Len64_t0 (K : Nat) : EnvT Try.prog (math_bits_Len64_e0 K) := envT_of tt_ok eqs_ok trivial
theorem math_bits_Len64_i0 (K : Nat) : EnvI Try.prog (math_bits_Len64_e0 K) := envI_of (es := []) trivial trivial
noncomputable def math_bits_Len64_h : Sh := ⟨1, [(0, .sc (.i .u64))], [], []⟩
noncomputable def math_bits_Len64_r : Sh := ⟨1, [(0, .sc (.i .i64))], [], []⟩
noncomputable def math_bits_Len64_g (K : Nat) (x_0 : Int) : Option (Int × Unit) :=
  (bif (decide (x_0 ≥ 4294967296)) then (bif (decide ((shR .u64 x_0 32) ≥ 65536)) then (bif (decide ((shR .u64 (shR .u64 x_0 32) 16) ≥ 256)) then (bif ((decide (0 ≤ (wu8 ((shR .u64 (shR .u64 (shR .u64 x_0 32) 16) 8))))) && (decide ((wu8 ((shR .u64 (shR .u64 (shR .u64 x_0 32) 16) 8))) < 256))) then (some ((wi64 (56 + (wi64 ((((tab0.getD (Int.toNat (wu8 ((shR .u64 (shR .u64 (shR .u64 x_0 32) 16) 8)))) 0).toNat : Nat) : Int))))), ())) else none) else (bif ((decide (0 ≤ (wu8 ((shR .u64 (shR .u64 x_0 32) 16))))) && (decide ((wu8 ((shR .u64 (shR .u64 x_0 32) 16))) < 256))) then (some ((wi64 (48 + (wi64 ((((tab0.getD (Int.toNat (wu8 ((shR .u64 (shR .u64 x_0 32) 16)))) 0).toNat : Nat) : Int))))), ())) else none)) else (bif (decide ((shR .u64 x_0 32) ≥ 256)) then (bif ((decide (0 ≤ (wu8 ((shR .u64 (shR .u64 x_0 32) 8))))) && (decide ((wu8 ((shR .u64 (shR .u64 x_0 32) 8))) < 256))) then (some ((wi64 (40 + (wi64 ((((tab0.getD (Int.toNat (wu8 ((shR .u64 (shR .u64 x_0 32) 8)))) 0).toNat : Nat) : Int))))), ())) else none) else (bif ((decide (0 ≤ (wu8 ((shR .u64 x_0 32))))) && (decide ((wu8 ((shR .u64 x_0 32))) < 256))) then (some ((wi64 (32 + (wi64 ((((tab0.getD (Int.toNat (wu8 ((shR .u64 x_0 32)))) 0).toNat : Nat) : Int))))), ())) else none))) else (bif (decide (x_0 ≥ 65536)) then (bif (decide ((shR .u64 x_0 16) ≥ 256)) then (bif ((decide (0 ≤ (wu8 ((shR .u64 (shR .u64 x_0 16) 8))))) && (decide ((wu8 ((shR .u64 (shR .u64 x_0 16) 8))) < 256))) then (some ((wi64 (24 + (wi64 ((((tab0.getD (Int.toNat (wu8 ((shR .u64 (shR .u64 x_0 16) 8)))) 0).toNat : Nat) : Int))))), ())) else none) else (bif ((decide (0 ≤ (wu8 ((shR .u64 x_0 16))))) && (decide ((wu8 ((shR .u64 x_0 16))) < 256))) then (some ((wi64 (16 + (wi64 ((((tab0.getD (Int.toNat (wu8 ((shR .u64 x_0 16)))) 0).toNat : Nat) : Int))))), ())) else none)) else (bif (decide (x_0 ≥ 256)) then (bif ((decide (0 ≤ (wu8 ((shR .u64 x_0 8))))) && (decide ((wu8 ((shR .u64 x_0 8))) < 256))) then (some ((wi64 (8 + (wi64 ((((tab0.getD (Int.toNat (wu8 ((shR .u64 x_0 8)))) 0).toNat : Nat) : Int))))), ())) else none) else (bif ((decide (0 ≤ (wu8 (x_0)))) && (decide ((wu8 (x_0)) < 256))) then (some ((wi64 (0 + (wi64 ((((tab0.getD (Int.toNat (wu8 (x_0))) 0).toNat : Nat) : Int))))), ())) else none))))
noncomputable def math_bits_Len64_o (K : Nat) : FO := fnFO math_bits_Len64_h math_bits_Len64_r fun t => math_bits_Len64_g K t.1
theorem math_bits_Len64_q (K : Nat) (t : math_bits_Len64_h.T) : exFn (math_bits_Len64_e0 K) (hdl (math_bits_Len64_e0 K) 0) [85] Try.f85 (slVals (math_bits_Len64_h.put t).fr.sl) ⟨⟨0, []⟩, [], (math_bits_Len64_h.put t).mem⟩ (takeRes math_bits_Len64_r) = math_bits_Len64_g K t.1 := by kernel_rfl
theorem math_bits_Len64_ok (K : Nat) : FOok Try.prog 85 (math_bits_Len64_o K) :=
  fn_rule (math_bits_Len64_t0 K) (math_bits_Len64_i0 K) (draws (math_bits_Len64_t0 K)) 0 Try.func85 (fnB_ok Try.func85 (by kernel_rfl)) rfl rfl (allOwn_ok false (by kernel_rfl)) rfl (allOwn_ok true (by kernel_rfl)) (fun t => math_bits_Len64_q K t)
/-! math_bits_LeadingZeros64 -/
noncomputable def math_bits_LeadingZeros64_e0 (K : Nat) : Env := ⟨tt, [(85, math_bits_Len64_o K)], [], [], eqs⟩
theorem math_bits_LeadingZeros64_t0 (K : Nat) : EnvT Try.prog (math_bits_LeadingZeros64_e0 K) := envT_of tt_ok eqs_ok ⟨math_bits_Len64_ok K, trivial⟩
theorem math_bits_LeadingZeros64_i0 (K : Nat) : EnvI Try.prog (math_bits_LeadingZeros64_e0 K) := envI_of (es := []) trivial trivial
noncomputable def math_bits_LeadingZeros64_h : Sh := ⟨1, [(0, .sc (.i .u64))], [], []⟩
noncomputable def math_bits_LeadingZeros64_r : Sh := ⟨1, [(0, .sc (.i .i64))], [], []⟩
noncomputable def math_bits_LeadingZeros64_g (K : Nat) (x_0 : Int) : Option (Int × Unit) :=
  ((math_bits_Len64_g K x_0).bind fun q1 => (some ((wi64 (64 - q1.1)), ())))
noncomputable def math_bits_LeadingZeros64_o (K : Nat) : FO := fnFO math_bits_LeadingZeros64_h math_bits_LeadingZeros64_r fun t => math_bits_LeadingZeros64_g K t.1
theorem math_bits_LeadingZeros64_q (K : Nat) (t : math_bits_LeadingZeros64_h.T) : exFn (math_bits_LeadingZeros64_e0 K) (hdl (math_bits_LeadingZeros64_e0 K) 0) [84] Try.f84 (slVals (math_bits_LeadingZeros64_h.put t).fr.sl) ⟨⟨0, []⟩, [], (math_bits_LeadingZeros64_h.put t).mem⟩ (takeRes math_bits_LeadingZeros64_r) = math_bits_LeadingZeros64_g K t.1 := by kernel_rfl
theorem math_bits_LeadingZeros64_ok (K : Nat) : FOok Try.prog 84 (math_bits_LeadingZeros64_o K) :=
  fn_rule (math_bits_LeadingZeros64_t0 K) (math_bits_LeadingZeros64_i0 K) (draws (math_bits_LeadingZeros64_t0 K)) 0 Try.func84 (fnB_ok Try.func84 (by kernel_rfl)) rfl rfl (allOwn_ok false (by kernel_rfl)) rfl (allOwn_ok true (by kernel_rfl)) (fun t => math_bits_LeadingZeros64_q K t)
/-! math_bits_Div64 -/
noncomputable def math_bits_Div64_e0 (K : Nat) : Env := ⟨tt, [(84, math_bits_LeadingZeros64_o K)], [], [], eqs⟩
theorem math_bits_Div64_t0 (K : Nat) : EnvT Try.prog (math_bits_Div64_e0 K) := envT_of tt_ok eqs_ok ⟨math_bits_LeadingZeros64_ok K, trivial⟩
theorem math_bits_Div64_i0 (K : Nat) : EnvI Try.prog (math_bits_Div64_e0 K) := envI_of (es := []) trivial trivial
noncomputable def math_bits_Div64_l0h : Sh := ⟨135, [(2, .sc (.i .u64)), (8, .sc (.i .u64)), (9, .sc (.i .u64)), (10, .sc (.i .u64)), (11, .sc (.i .u64)), (13, .sc (.i .u64)), (14, .sc (.i .u64)), (15, .sc (.i .u64)), (16, .sc (.i .u64))], [(0, [])], []⟩
noncomputable def math_bits_Div64_l0x0 : Sh := ⟨135, [(2, .sc (.i .u64)), (8, .sc (.i .u64)), (9, .sc (.i .u64)), (10, .sc (.i .u64)), (11, .sc (.i .u64)), (13, .sc (.i .u64)), (14, .sc (.i .u64)), (15, .sc (.i .u64))], [(0, [])], []⟩
noncomputable def math_bits_Div64_l0O : OutI (Int × Int × Int × Int × Int × Int × Int × Int × Unit) := (OutI.exit 0 math_bits_Div64_l0x0)
noncomputable def math_bits_Div64_l0r (K : Nat) (rec : Int → Int → Int → Int → Int → Int → Int → Int → Int → Option (Int × Int × Int × Int × Int × Int × Int × Int × Unit)) (y_2 : Int) (s_8 : Int) (yn1_9 : Int) (yn0_10 : Int) (un32_11 : Int) (un1_13 : Int) (un0_14 : Int) (q1_15 : Int) (rhat_16 : Int) : Option (Int × Int × Int × Int × Int × Int × Int × Int × Unit) :=
  (bif (decide (q1_15 ≥ 4294967296)) then (bif (decide ((wu64 (rhat_16 + yn1_9)) ≥ 4294967296)) then (some (y_2, s_8, yn1_9, yn0_10, un32_11, un1_13, un0_14, (wu64 (q1_15 - 1)), ())) else (rec y_2 s_8 yn1_9 yn0_10 un32_11 un1_13 un0_14 (wu64 (q1_15 - 1)) (wu64 (rhat_16 + yn1_9)))) else (bif (decide ((wu64 (q1_15 * yn0_10)) > (wu64 ((wu64 (4294967296 * rhat_16)) + un1_13)))) then (bif (decide ((wu64 (rhat_16 + yn1_9)) ≥ 4294967296)) then (some (y_2, s_8, yn1_9, yn0_10, un32_11, un1_13, un0_14, (wu64 (q1_15 - 1)), ())) else (rec y_2 s_8 yn1_9 yn0_10 un32_11 un1_13 un0_14 (wu64 (q1_15 - 1)) (wu64 (rhat_16 + yn1_9)))) else (some (y_2, s_8, yn1_9, yn0_10, un32_11, un1_13, un0_14, q1_15, ()))))
noncomputable def math_bits_Div64_l0 (K n : Nat) : Int → Int → Int → Int → Int → Int → Int → Int → Int → Option (Int × Int × Int × Int × Int × Int × Int × Int × Unit) := Nat.rec (motive := fun _ => Int → Int → Int → Int → Int → Int → Int → Int → Int → Option (Int × Int × Int × Int × Int × Int × Int × Int × Unit)) (fun _ _ _ _ _ _ _ _ _ => none) (fun _ ih => math_bits_Div64_l0r K ih) n
noncomputable def math_bits_Div64_l0u (K n : Nat) (t : math_bits_Div64_l0h.T) : Option (Int × Int × Int × Int × Int × Int × Int × Int × Unit) := math_bits_Div64_l0 K n t.1 t.2.1 t.2.2.1 t.2.2.2.1 t.2.2.2.2.1 t.2.2.2.2.2.1 t.2.2.2.2.2.2.1 t.2.2.2.2.2.2.2.1 t.2.2.2.2.2.2.2.2.1
noncomputable def math_bits_Div64_l0o (K : Nat) : LO := loopLO math_bits_Div64_l0h math_bits_Div64_l0O fun t => math_bits_Div64_l0u K K t
noncomputable def math_bits_Div64_l0C : Code := bodyOf Try.f83
noncomputable def math_bits_Div64_l0B : Code := (findLoops 17 (loopsIn math_bits_Div64_l0C)).headD .skip
theorem math_bits_Div64_l0F : findLoops 17 (loopsIn math_bits_Div64_l0C) = [math_bits_Div64_l0B] := by kernel_rfl
theorem math_bits_Div64_l0q (K n : Nat) (t : math_bits_Div64_l0h.T) : exC (math_bits_Div64_e0 K) (hdl (math_bits_Div64_e0 K) 0) (83 :: []) math_bits_Div64_l0B (math_bits_Div64_l0h.put t) (fun s => (math_bits_Div64_l0h.take s).bind fun t => math_bits_Div64_l0u K n t) (fun id s => math_bits_Div64_l0O.get (some id) s) (fun s => math_bits_Div64_l0O.get none s) = math_bits_Div64_l0u K (n + 1) t := by kernel_rfl
noncomputable def math_bits_Div64_l0E (K : Nat) : LoopE Try.prog := ⟨[17, 83], math_bits_Div64_l0o K, Try.f83, math_bits_Div64_l0C, math_bits_Div64_l0B, ⟨17, 83, [], rfl, Try.func83, by kernel_rfl, math_bits_Div64_l0F⟩,
  loop_rule (F := fun n t => math_bits_Div64_l0u K n t) (math_bits_Div64_t0 K) (math_bits_Div64_i0 K) (draws (math_bits_Div64_t0 K)) 0 Try.func83 (c := math_bits_Div64_l0C) (by kernel_rfl) (body_in math_bits_Div64_l0F) (ctx' := []) (h := math_bits_Div64_l0h) (O := math_bits_Div64_l0O) (fun _ => rfl) (fun m t => math_bits_Div64_l0q K m t) K⟩
noncomputable def math_bits_Div64_e1 (K : Nat) : Env := ⟨tt, [(84, math_bits_LeadingZeros64_o K)], [], [([17, 83], math_bits_Div64_l0o K)], eqs⟩
theorem math_bits_Div64_t1 (K : Nat) : EnvT Try.prog (math_bits_Div64_e1 K) := envT_of tt_ok eqs_ok ⟨math_bits_LeadingZeros64_ok K, trivial⟩
theorem math_bits_Div64_i1 (K : Nat) : EnvI Try.prog (math_bits_Div64_e1 K) := envI_of (es := [math_bits_Div64_l0E K]) trivial ⟨⟨rfl, rfl⟩, trivial⟩
noncomputable def math_bits_Div64_l1h : Sh := ⟨135, [(2, .sc (.i .u64)), (8, .sc (.i .u64)), (9, .sc (.i .u64)), (10, .sc (.i .u64)), (14, .sc (.i .u64)), (15, .sc (.i .u64)), (16, .sc (.i .u64)), (17, .sc (.i .u64)), (18, .sc (.i .u64))], [(0, [])], []⟩
noncomputable def math_bits_Div64_l1x0 : Sh := ⟨135, [(2, .sc (.i .u64)), (8, .sc (.i .u64)), (14, .sc (.i .u64)), (15, .sc (.i .u64)), (17, .sc (.i .u64)), (18, .sc (.i .u64))], [(0, [])], []⟩
noncomputable def math_bits_Div64_l1O : OutI (Int × Int × Int × Int × Int × Int × Unit) := (OutI.exit 2 math_bits_Div64_l1x0)
noncomputable def math_bits_Div64_l1r (K : Nat) (rec : Int → Int → Int → Int → Int → Int → Int → Int → Int → Option (Int × Int × Int × Int × Int × Int × Unit)) (y_2 : Int) (s_8 : Int) (yn1_9 : Int) (yn0_10 : Int) (un0_14 : Int) (q1_15 : Int) (rhat_16 : Int) (un21_17 : Int) (q0_18 : Int) : Option (Int × Int × Int × Int × Int × Int × Unit) :=
  (bif (decide (q0_18 ≥ 4294967296)) then (bif (decide ((wu64 (rhat_16 + yn1_9)) ≥ 4294967296)) then (some (y_2, s_8, un0_14, q1_15, un21_17, (wu64 (q0_18 - 1)), ())) else (rec y_2 s_8 yn1_9 yn0_10 un0_14 q1_15 (wu64 (rhat_16 + yn1_9)) un21_17 (wu64 (q0_18 - 1)))) else (bif (decide ((wu64 (q0_18 * yn0_10)) > (wu64 ((wu64 (4294967296 * rhat_16)) + un0_14)))) then (bif (decide ((wu64 (rhat_16 + yn1_9)) ≥ 4294967296)) then (some (y_2, s_8, un0_14, q1_15, un21_17, (wu64 (q0_18 - 1)), ())) else (rec y_2 s_8 yn1_9 yn0_10 un0_14 q1_15 (wu64 (rhat_16 + yn1_9)) un21_17 (wu64 (q0_18 - 1)))) else (some (y_2, s_8, un0_14, q1_15, un21_17, q0_18, ()))))
noncomputable def math_bits_Div64_l1 (K n : Nat) : Int → Int → Int → Int → Int → Int → Int → Int → Int → Option (Int × Int × Int × Int × Int × Int × Unit) := Nat.rec (motive := fun _ => Int → Int → Int → Int → Int → Int → Int → Int → Int → Option (Int × Int × Int × Int × Int × Int × Unit)) (fun _ _ _ _ _ _ _ _ _ => none) (fun _ ih => math_bits_Div64_l1r K ih) n
noncomputable def math_bits_Div64_l1u (K n : Nat) (t : math_bits_Div64_l1h.T) : Option (Int × Int × Int × Int × Int × Int × Unit) := math_bits_Div64_l1 K n t.1 t.2.1 t.2.2.1 t.2.2.2.1 t.2.2.2.2.1 t.2.2.2.2.2.1 t.2.2.2.2.2.2.1 t.2.2.2.2.2.2.2.1 t.2.2.2.2.2.2.2.2.1
noncomputable def math_bits_Div64_l1o (K : Nat) : LO := loopLO math_bits_Div64_l1h math_bits_Div64_l1O fun t => math_bits_Div64_l1u K K t
noncomputable def math_bits_Div64_l1C : Code := bodyOf Try.f83
noncomputable def math_bits_Div64_l1B : Code := (findLoops 24 (loopsIn math_bits_Div64_l1C)).headD .skip
theorem math_bits_Div64_l1F : findLoops 24 (loopsIn math_bits_Div64_l1C) = [math_bits_Div64_l1B] := by kernel_rfl
theorem math_bits_Div64_l1q (K n : Nat) (t : math_bits_Div64_l1h.T) : exC (math_bits_Div64_e1 K) (hdl (math_bits_Div64_e1 K) 0) (83 :: []) math_bits_Div64_l1B (math_bits_Div64_l1h.put t) (fun s => (math_bits_Div64_l1h.take s).bind fun t => math_bits_Div64_l1u K n t) (fun id s => math_bits_Div64_l1O.get (some id) s) (fun s => math_bits_Div64_l1O.get none s) = math_bits_Div64_l1u K (n + 1) t := by kernel_rfl
noncomputable def math_bits_Div64_l1E (K : Nat) : LoopE Try.prog := ⟨[24, 83], math_bits_Div64_l1o K, Try.f83, math_bits_Div64_l1C, math_bits_Div64_l1B, ⟨24, 83, [], rfl, Try.func83, by kernel_rfl, math_bits_Div64_l1F⟩,
  loop_rule (F := fun n t => math_bits_Div64_l1u K n t) (math_bits_Div64_t1 K) (math_bits_Div64_i1 K) (draws (math_bits_Div64_t1 K)) 0 Try.func83 (c := math_bits_Div64_l1C) (by kernel_rfl) (body_in math_bits_Div64_l1F) (ctx' := []) (h := math_bits_Div64_l1h) (O := math_bits_Div64_l1O) (fun _ => rfl) (fun m t => math_bits_Div64_l1q K m t) K⟩
noncomputable def math_bits_Div64_e2 (K : Nat) : Env := ⟨tt, [(84, math_bits_LeadingZeros64_o K)], [], [([17, 83], math_bits_Div64_l0o K), ([24, 83], math_bits_Div64_l1o K)], eqs⟩
theorem math_bits_Div64_t2 (K : Nat) : EnvT Try.prog (math_bits_Div64_e2 K) := envT_of tt_ok eqs_ok ⟨math_bits_LeadingZeros64_ok K, trivial⟩
theorem math_bits_Div64_i2 (K : Nat) : EnvI Try.prog (math_bits_Div64_e2 K) := envI_of (es := [math_bits_Div64_l0E K, math_bits_Div64_l1E K]) trivial ⟨⟨rfl, rfl⟩, ⟨rfl, rfl⟩, trivial⟩
noncomputable def math_bits_Div64_h : Sh := ⟨3, [(0, .sc (.i .u64)), (1, .sc (.i .u64)), (2, .sc (.i .u64))], [], []⟩
noncomputable def math_bits_Div64_r : Sh := ⟨2, [(0, .sc (.i .u64)), (1, .sc (.i .u64))], [], []⟩
noncomputable def math_bits_Div64_g (K : Nat) (hi_0 : Int) (lo_1 : Int) (y_2 : Int) : Option (Int × Int × Unit) :=
  (bif (y_2 == 0) then none else (bif (decide (y_2 ≤ hi_0)) then none else (bif (hi_0 == 0) then (bif (y_2 == 0) then none else (bif (y_2 == 0) then none else (some ((wu64 (Int.tdiv lo_1 y_2)), (Int.tmod lo_1 y_2), ())))) else ((math_bits_LeadingZeros64_g K y_2).bind fun q1 => (bif (decide ((wu64 (q1.1)) < 0)) then none else (bif (decide ((wu64 (q1.1)) < 0)) then none else (bif (decide ((wu64 (64 - (wu64 (q1.1)))) < 0)) then none else (bif (decide ((wu64 (q1.1)) < 0)) then none else (bif ((shR .u64 (shL .u64 y_2 (wu64 (q1.1))) 32) == 0) then none else ((math_bits_Div64_l0 K K (shL .u64 y_2 (wu64 (q1.1))) (wu64 (q1.1)) (shR .u64 (shL .u64 y_2 (wu64 (q1.1))) 32) (bitAnd .u64 (shL .u64 y_2 (wu64 (q1.1))) 4294967295) (bitOr .u64 (shL .u64 hi_0 (wu64 (q1.1))) (shR .u64 lo_1 (wu64 (64 - (wu64 (q1.1)))))) (shR .u64 (shL .u64 lo_1 (wu64 (q1.1))) 32) (bitAnd .u64 (shL .u64 lo_1 (wu64 (q1.1))) 4294967295) (wu64 (Int.tdiv (bitOr .u64 (shL .u64 hi_0 (wu64 (q1.1))) (shR .u64 lo_1 (wu64 (64 - (wu64 (q1.1)))))) (shR .u64 (shL .u64 y_2 (wu64 (q1.1))) 32))) (wu64 ((bitOr .u64 (shL .u64 hi_0 (wu64 (q1.1))) (shR .u64 lo_1 (wu64 (64 - (wu64 (q1.1)))))) - (wu64 ((wu64 (Int.tdiv (bitOr .u64 (shL .u64 hi_0 (wu64 (q1.1))) (shR .u64 lo_1 (wu64 (64 - (wu64 (q1.1)))))) (shR .u64 (shL .u64 y_2 (wu64 (q1.1))) 32))) * (shR .u64 (shL .u64 y_2 (wu64 (q1.1))) 32)))))).bind fun q2 => (bif (q2.2.2.1 == 0) then none else ((math_bits_Div64_l1 K K q2.1 q2.2.1 q2.2.2.1 q2.2.2.2.1 q2.2.2.2.2.2.2.1 q2.2.2.2.2.2.2.2.1 (wu64 ((wu64 ((wu64 ((wu64 (q2.2.2.2.2.1 * 4294967296)) + q2.2.2.2.2.2.1)) - (wu64 (q2.2.2.2.2.2.2.2.1 * q2.1)))) - (wu64 ((wu64 (Int.tdiv (wu64 ((wu64 ((wu64 (q2.2.2.2.2.1 * 4294967296)) + q2.2.2.2.2.2.1)) - (wu64 (q2.2.2.2.2.2.2.2.1 * q2.1)))) q2.2.2.1)) * q2.2.2.1)))) (wu64 ((wu64 ((wu64 (q2.2.2.2.2.1 * 4294967296)) + q2.2.2.2.2.2.1)) - (wu64 (q2.2.2.2.2.2.2.2.1 * q2.1)))) (wu64 (Int.tdiv (wu64 ((wu64 ((wu64 (q2.2.2.2.2.1 * 4294967296)) + q2.2.2.2.2.2.1)) - (wu64 (q2.2.2.2.2.2.2.2.1 * q2.1)))) q2.2.2.1))).bind fun q3 => (bif (decide (q3.2.1 < 0)) then none else (some ((wu64 ((wu64 (q3.2.2.2.1 * 4294967296)) + q3.2.2.2.2.2.1)), (shR .u64 (wu64 ((wu64 ((wu64 (q3.2.2.2.2.1 * 4294967296)) + q3.2.2.1)) - (wu64 (q3.2.2.2.2.2.1 * q3.1)))) q3.2.1), ())))))))))))))))
noncomputable def math_bits_Div64_o (K : Nat) : FO := fnFO math_bits_Div64_h math_bits_Div64_r fun t => math_bits_Div64_g K t.1 t.2.1 t.2.2.1
theorem math_bits_Div64_q (K : Nat) (t : math_bits_Div64_h.T) : exFn (math_bits_Div64_e2 K) (hdl (math_bits_Div64_e2 K) 0) [83] Try.f83 (slVals (math_bits_Div64_h.put t).fr.sl) ⟨⟨0, []⟩, [], (math_bits_Div64_h.put t).mem⟩ (takeRes math_bits_Div64_r) = math_bits_Div64_g K t.1 t.2.1 t.2.2.1 := by kernel_rfl
theorem math_bits_Div64_ok (K : Nat) : FOok Try.prog 83 (math_bits_Div64_o K) :=
  fn_rule (math_bits_Div64_t2 K) (math_bits_Div64_i2 K) (draws (math_bits_Div64_t2 K)) 0 Try.func83 (fnB_ok Try.func83 (by kernel_rfl)) rfl rfl (allOwn_ok false (by kernel_rfl)) rfl (allOwn_ok true (by kernel_rfl)) (fun t => math_bits_Div64_q K t)
/-! math_bits_Div -/
noncomputable def math_bits_Div_e0 (K : Nat) : Env := ⟨tt, [(83, math_bits_Div64_o K)], [], [], eqs⟩
theorem math_bits_Div_t0 (K : Nat) : EnvT Try.prog (math_bits_Div_e0 K) := envT_of tt_ok eqs_ok ⟨math_bits_Div64_ok K, trivial⟩
theorem math_bits_Div_i0 (K : Nat) : EnvI Try.prog (math_bits_Div_e0 K) := envI_of (es := []) trivial trivial
noncomputable def math_bits_Div_h : Sh := ⟨3, [(0, .sc (.i .u64)), (1, .sc (.i .u64)), (2, .sc (.i .u64))], [], []⟩
noncomputable def math_bits_Div_r : Sh := ⟨2, [(0, .sc (.i .u64)), (1, .sc (.i .u64))], [], []⟩
noncomputable def math_bits_Div_g (K : Nat) (hi_0 : Int) (lo_1 : Int) (y_2 : Int) : Option (Int × Int × Unit) :=
  ((math_bits_Div64_g K hi_0 lo_1 y_2).bind fun q1 => (some (q1.1, q1.2.1, ())))
noncomputable def math_bits_Div_o (K : Nat) : FO := fnFO math_bits_Div_h math_bits_Div_r fun t => math_bits_Div_g K t.1 t.2.1 t.2.2.1
theorem math_bits_Div_q (K : Nat) (t : math_bits_Div_h.T) : exFn (math_bits_Div_e0 K) (hdl (math_bits_Div_e0 K) 0) [79] Try.f79 (slVals (math_bits_Div_h.put t).fr.sl) ⟨⟨0, []⟩, [], (math_bits_Div_h.put t).mem⟩ (takeRes math_bits_Div_r) = math_bits_Div_g K t.1 t.2.1 t.2.2.1 := by kernel_rfl
theorem math_bits_Div_ok (K : Nat) : FOok Try.prog 79 (math_bits_Div_o K) :=
  fn_rule (math_bits_Div_t0 K) (math_bits_Div_i0 K) (draws (math_bits_Div_t0 K)) 0 Try.func79 (fnB_ok Try.func79 (by kernel_rfl)) rfl rfl (allOwn_ok false (by kernel_rfl)) rfl (allOwn_ok true (by kernel_rfl)) (fun t => math_bits_Div_q K t)
/-! wide_Number_by -/
noncomputable def wide_Number_by_e0 (K : Nat) : Env := ⟨tt, [(72, wide_Number_minus_o K), (79, math_bits_Div_o K)], [], [], eqs⟩
theorem wide_Number_by_t0 (K : Nat) : EnvT Try.prog (wide_Number_by_e0 K) := envT_of tt_ok eqs_ok ⟨wide_Number_minus_ok K, math_bits_Div_ok K, trivial⟩
theorem wide_Number_by_i0 (K : Nat) : EnvI Try.prog (wide_Number_by_e0 K) := envI_of (es := []) trivial trivial
noncomputable def wide_Number_by_h : Sh := ⟨2, [(0, .ag [.i .i64, .i .u64]), (1, .sc (.i .u64))], [], []⟩
noncomputable def wide_Number_by_r : Sh := ⟨3, [(0, .sc (.i .u64)), (1, .sc (.i .u64)), (2, .sc (.b))], [], []⟩
noncomputable def wide_Number_by_g (K : Nat) (n_0_0 : Int) (n_0_1 : Int) (c_1 : Int) : Option (Int × Int × Bool × Unit) :=
  (bif (decide (n_0_0 < 0)) then ((wide_Number_minus_g K n_0_0 n_0_1).bind fun q1 => (bif (decide ((wu64 (q1.1)) ≥ c_1)) then (some (0, 0, false, ())) else ((math_bits_Div_g K (wu64 (q1.1)) q1.2.1 c_1).bind fun q2 => (some (q2.1, q2.2.1, true, ()))))) else (bif (decide ((wu64 (n_0_0)) ≥ c_1)) then (some (0, 0, false, ())) else ((math_bits_Div_g K (wu64 (n_0_0)) n_0_1 c_1).bind fun q3 => (some (q3.1, q3.2.1, true, ())))))
noncomputable def wide_Number_by_o (K : Nat) : FO := fnFO wide_Number_by_h wide_Number_by_r fun t => wide_Number_by_g K t.1 t.2.1 t.2.2.1
theorem wide_Number_by_q (K : Nat) (t : wide_Number_by_h.T) : exFn (wide_Number_by_e0 K) (hdl (wide_Number_by_e0 K) 0) [74] Try.f74 (slVals (wide_Number_by_h.put t).fr.sl) ⟨⟨0, []⟩, [], (wide_Number_by_h.put t).mem⟩ (takeRes wide_Number_by_r) = wide_Number_by_g K t.1 t.2.1 t.2.2.1 := by kernel_rfl
theorem wide_Number_by_ok (K : Nat) : FOok Try.prog 74 (wide_Number_by_o K) :=
  fn_rule (wide_Number_by_t0 K) (wide_Number_by_i0 K) (draws (wide_Number_by_t0 K)) 0 Try.func74 (fnB_ok Try.func74 (by kernel_rfl)) rfl rfl (allOwn_ok false (by kernel_rfl)) rfl (allOwn_ok true (by kernel_rfl)) (fun t => wide_Number_by_q K t)
/-! wide_signed -/
noncomputable def wide_signed_e0 (K : Nat) : Env := ⟨tt, [], [], [], eqs⟩
theorem wide_signed_t0 (K : Nat) : EnvT Try.prog (wide_signed_e0 K) := envT_of tt_ok eqs_ok trivial
theorem wide_signed_i0 (K : Nat) : EnvI Try.prog (wide_signed_e0 K) := envI_of (es := []) trivial trivial
noncomputable def wide_signed_h : Sh := ⟨2, [(0, .sc (.i .u64)), (1, .sc (.b))], [], []⟩
noncomputable def wide_signed_r : Sh := ⟨2, [(0, .sc (.i .i64)), (1, .sc (.b))], [], []⟩
noncomputable def wide_signed_g (K : Nat) (q_0 : Int) (below_1 : Bool) : Option (Int × Bool × Unit) :=
  (bif below_1 then (some ((wi64 ((wu64 (0 - q_0)))), (decide (q_0 ≤ 9223372036854775808)), ())) else (some ((wi64 (q_0)), (decide (q_0 < 9223372036854775808)), ())))
noncomputable def wide_signed_o (K : Nat) : FO := fnFO wide_signed_h wide_signed_r fun t => wide_signed_g K t.1 t.2.1
theorem wide_signed_q (K : Nat) (t : wide_signed_h.T) : exFn (wide_signed_e0 K) (hdl (wide_signed_e0 K) 0) [75] Try.f75 (slVals (wide_signed_h.put t).fr.sl) ⟨⟨0, []⟩, [], (wide_signed_h.put t).mem⟩ (takeRes wide_signed_r) = wide_signed_g K t.1 t.2.1 := by kernel_rfl
theorem wide_signed_ok (K : Nat) : FOok Try.prog 75 (wide_signed_o K) :=
  fn_rule (wide_signed_t0 K) (wide_signed_i0 K) (draws (wide_signed_t0 K)) 0 Try.func75 (fnB_ok Try.func75 (by kernel_rfl)) rfl rfl (allOwn_ok false (by kernel_rfl)) rfl (allOwn_ok true (by kernel_rfl)) (fun t => wide_signed_q K t)
/-! wide_Near -/
noncomputable def wide_Near_e0 (K : Nat) : Env := ⟨tt, [(74, wide_Number_by_o K), (75, wide_signed_o K)], [(68, Try.f68), (69, Try.f69)], [], eqs⟩
theorem wide_Near_t0 (K : Nat) : EnvT Try.prog (wide_Near_e0 K) := envT_of tt_ok eqs_ok ⟨wide_Number_by_ok K, wide_signed_ok K, trivial⟩
theorem wide_Near_i0 (K : Nat) : EnvI Try.prog (wide_Near_e0 K) := envI_of (es := []) ⟨⟨Try.func68, by kernel_rfl⟩, ⟨Try.func69, by kernel_rfl⟩, trivial⟩ trivial
noncomputable def wide_Near_h : Sh := ⟨2, [(0, .ag [.i .i64, .i .u64]), (1, .sc (.i .i64))], [], []⟩
noncomputable def wide_Near_r : Sh := ⟨2, [(0, .sc (.i .i64)), (1, .sc (.i .i64))], [], []⟩
noncomputable def wide_Near_g (K : Nat) (n_0_0 : Int) (n_0_1 : Int) (c_1 : Int) : Option (Int × Int × Unit) :=
  (bif (decide (c_1 < 1)) then (some (0, 2, ())) else ((wide_Number_by_g K n_0_0 n_0_1 (wu64 (c_1))).bind fun q1 => (bif (!q1.2.2.1) then (some (0, 3, ())) else (bif (decide (q1.1 > 9223372036854775808)) then (some (0, 3, ())) else (bif (decide (q1.2.1 ≥ (wu64 ((wu64 (c_1)) - q1.2.1)))) then ((wide_signed_g K (wu64 (q1.1 + 1)) (decide (n_0_0 < 0))).bind fun q2 => (bif (!q2.2.1) then (some (0, 3, ())) else (some (q2.1, 0, ())))) else ((wide_signed_g K q1.1 (decide (n_0_0 < 0))).bind fun q3 => (bif (!q3.2.1) then (some (0, 3, ())) else (some (q3.1, 0, ())))))))))
noncomputable def wide_Near_o (K : Nat) : FO := fnFO wide_Near_h wide_Near_r fun t => wide_Near_g K t.1 t.2.1 t.2.2.1
theorem wide_Near_q (K : Nat) (t : wide_Near_h.T) : exFn (wide_Near_e0 K) (hdl (wide_Near_e0 K) 9) [62] Try.f62 (slVals (wide_Near_h.put t).fr.sl) ⟨⟨0, []⟩, [], (wide_Near_h.put t).mem⟩ (takeRes wide_Near_r) = wide_Near_g K t.1 t.2.1 t.2.2.1 := by kernel_rfl
theorem wide_Near_ok (K : Nat) : FOok Try.prog 62 (wide_Near_o K) :=
  fn_rule (wide_Near_t0 K) (wide_Near_i0 K) (draws (wide_Near_t0 K)) 9 Try.func62 (fnB_ok Try.func62 (by kernel_rfl)) rfl rfl (allOwn_ok false (by kernel_rfl)) rfl (allOwn_ok true (by kernel_rfl)) (fun t => wide_Near_q K t)
/-! wide_MulNear -/
noncomputable def wide_MulNear_e0 (K : Nat) : Env := ⟨tt, [(63, wide_Mul_o K), (62, wide_Near_o K)], [], [], eqs⟩
theorem wide_MulNear_t0 (K : Nat) : EnvT Try.prog (wide_MulNear_e0 K) := envT_of tt_ok eqs_ok ⟨wide_Mul_ok K, wide_Near_ok K, trivial⟩
theorem wide_MulNear_i0 (K : Nat) : EnvI Try.prog (wide_MulNear_e0 K) := envI_of (es := []) trivial trivial
noncomputable def wide_MulNear_h : Sh := ⟨3, [(0, .sc (.i .i64)), (1, .sc (.i .i64)), (2, .sc (.i .i64))], [], []⟩
noncomputable def wide_MulNear_r : Sh := ⟨2, [(0, .sc (.i .i64)), (1, .sc (.i .i64))], [], []⟩
noncomputable def wide_MulNear_g (K : Nat) (a_0 : Int) (b_1 : Int) (c_2 : Int) : Option (Int × Int × Unit) :=
  ((wide_Mul_g K a_0 b_1).bind fun q1 => ((wide_Near_g K q1.1 q1.2.1 c_2).bind fun q2 => (some (q2.1, q2.2.1, ()))))
noncomputable def wide_MulNear_o (K : Nat) : FO := fnFO wide_MulNear_h wide_MulNear_r fun t => wide_MulNear_g K t.1 t.2.1 t.2.2.1
theorem wide_MulNear_q (K : Nat) (t : wide_MulNear_h.T) : exFn (wide_MulNear_e0 K) (hdl (wide_MulNear_e0 K) 0) [49] Try.f49 (slVals (wide_MulNear_h.put t).fr.sl) ⟨⟨0, []⟩, [], (wide_MulNear_h.put t).mem⟩ (takeRes wide_MulNear_r) = wide_MulNear_g K t.1 t.2.1 t.2.2.1 := by kernel_rfl
theorem wide_MulNear_ok (K : Nat) : FOok Try.prog 49 (wide_MulNear_o K) :=
  fn_rule (wide_MulNear_t0 K) (wide_MulNear_i0 K) (draws (wide_MulNear_t0 K)) 0 Try.func49 (fnB_ok Try.func49 (by kernel_rfl)) rfl rfl (allOwn_ok false (by kernel_rfl)) rfl (allOwn_ok true (by kernel_rfl)) (fun t => wide_MulNear_q K t)
/-! grid_row_value -/
noncomputable def grid_row_value_e0 (K : Nat) : Env := ⟨tt, [(49, wide_MulNear_o K)], [], [], eqs⟩
theorem grid_row_value_t0 (K : Nat) : EnvT Try.prog (grid_row_value_e0 K) := envT_of tt_ok eqs_ok ⟨wide_MulNear_ok K, trivial⟩
theorem grid_row_value_i0 (K : Nat) : EnvI Try.prog (grid_row_value_e0 K) := envI_of (es := []) trivial trivial
noncomputable def grid_row_value_h : Sh := ⟨1, [(0, .ag [.i .i64, .i .i64, .i .i64, .i .i64, .slr0 0])], [], [(false, true, [.ir .i64])]⟩
noncomputable def grid_row_value_r : Sh := ⟨1, [(0, .sc (.i .i64))], [], []⟩
noncomputable def grid_row_value_g (K : Nat) (r_0_0 : Int) (r_0_1 : Int) (r_0_2 : Int) (r_0_3 : Int) (r_0_4n : Nat) (m0_0 : (Nat → Int)) : Option (Int × Unit) :=
  (bif (r_0_0 == 0) then (bif (decide (0 < ((r_0_4n : Nat) : Int))) then (some ((m0_0 0), ())) else none) else (bif (r_0_0 == ((r_0_4n : Nat) : Int)) then (bif ((decide (0 ≤ (wi64 (r_0_0 - 1)))) && (decide ((wi64 (r_0_0 - 1)) < ((r_0_4n : Nat) : Int)))) then (some ((m0_0 (Int.toNat (wi64 (r_0_0 - 1)))), ())) else none) else (bif ((decide (0 ≤ r_0_0)) && (decide (r_0_0 < ((r_0_4n : Nat) : Int)))) then (bif ((decide (0 ≤ (wi64 (r_0_0 - 1)))) && (decide ((wi64 (r_0_0 - 1)) < ((r_0_4n : Nat) : Int)))) then ((wide_MulNear_g K (wi64 (r_0_3 - r_0_1)) (wi64 ((m0_0 (Int.toNat r_0_0)) - (m0_0 (Int.toNat (wi64 (r_0_0 - 1)))))) (wi64 (r_0_2 - r_0_1))).bind fun q1 => (bif ((decide (0 ≤ (wi64 (r_0_0 - 1)))) && (decide ((wi64 (r_0_0 - 1)) < ((r_0_4n : Nat) : Int)))) then (some ((wi64 ((m0_0 (Int.toNat (wi64 (r_0_0 - 1)))) + q1.1)), ())) else none)) else none) else none)))
noncomputable def grid_row_value_gu (K : Nat) (t : grid_row_value_h.T) : Option (Int × Unit) := grid_row_value_g K t.1 t.2.1 t.2.2.1 t.2.2.2.1 t.2.2.2.2.1 t.2.2.2.2.2.1
noncomputable def grid_row_value_o (K : Nat) : FO := fnFO grid_row_value_h grid_row_value_r fun t => grid_row_value_gu K t
theorem grid_row_value_q (K : Nat) (t : grid_row_value_h.T) : exFn (grid_row_value_e0 K) (hdl (grid_row_value_e0 K) 0) [34] Try.f34 (slVals (grid_row_value_h.put t).fr.sl) ⟨⟨0, []⟩, [], (grid_row_value_h.put t).mem⟩ (takeRes grid_row_value_r) = grid_row_value_gu K t := by kernel_rfl
theorem grid_row_value_ok (K : Nat) : FOok Try.prog 34 (grid_row_value_o K) :=
  fn_rule (grid_row_value_t0 K) (grid_row_value_i0 K) (draws (grid_row_value_t0 K)) 0 Try.func34 (fnB_ok Try.func34 (by kernel_rfl)) rfl rfl (allOwn_ok false (by kernel_rfl)) rfl (allOwn_ok true (by kernel_rfl)) (fun t => grid_row_value_q K t)
/-! grid_Column -/
noncomputable def grid_Column_e0 (K : Nat) : Env := ⟨tt, [(11, grid_Check_o K), (34, grid_row_value_o K)], [(32, Try.f32), (33, Try.f33)], [], eqs⟩
theorem grid_Column_t0 (K : Nat) : EnvT Try.prog (grid_Column_e0 K) := envT_of tt_ok eqs_ok ⟨grid_Check_ok K, grid_row_value_ok K, trivial⟩
theorem grid_Column_i0 (K : Nat) : EnvI Try.prog (grid_Column_e0 K) := envI_of (es := []) ⟨⟨Try.func32, by kernel_rfl⟩, ⟨Try.func33, by kernel_rfl⟩, trivial⟩ trivial
noncomputable def grid_Column_l0h : Sh := ⟨26, [(1, .sc (.lit (.fn 33 [.p 0 0 0 [], .p 1 0 0 []]))), (5, .sc (.i .i64)), (6, .sc (.i .i64))], [(78, [(2, .sc (.lit (.p 0 0 0 []))), (3, .sc (.lit (.p 1 0 0 []))), (7, .sc (.i .i64))]), (0, [])], [(true, false, [.slr0 2, .slr0 3, .slr0 4]), (true, false, [.i .i64]), (false, true, [.ir .i64]), (false, true, [.ir .i64]), (false, true, [.ir .i64])]⟩
noncomputable def grid_Column_l0x0 : Sh := ⟨26, [(5, .sc (.i .i64))], [(78, [(2, .sc (.lit (.p 0 0 0 []))), (3, .sc (.lit (.p 1 0 0 []))), (7, .sc (.i .i64))]), (0, [])], [(true, false, [.slr0 2, .slr0 3, .slr0 4]), (true, false, [.i .i64]), (false, true, [.ir .i64]), (false, true, [.ir .i64]), (false, true, [.ir .i64])]⟩
noncomputable def grid_Column_l0O : OutI (Int × Int × Nat × Nat × Nat × Int × (Nat → Int) × (Nat → Int) × (Nat → Int) × Unit) := (OutI.exit 0 grid_Column_l0x0)
noncomputable def grid_Column_l0r (K : Nat) (rec : Int → Int → Int → Nat → Nat → Nat → Int → (Nat → Int) → (Nat → Int) → (Nat → Int) → Option (Int × Int × Nat × Nat × Nat × Int × (Nat → Int) × (Nat → Int) × (Nat → Int) × Unit)) (i_5 : Int) (j_6 : Int) (l0t7 : Int) (m0_0n : Nat) (m0_1n : Nat) (m0_2n : Nat) (m1_0 : Int) (m2_0 : (Nat → Int)) (m3_0 : (Nat → Int)) (m4_0 : (Nat → Int)) : Option (Int × Int × Nat × Nat × Nat × Int × (Nat → Int) × (Nat → Int) × (Nat → Int) × Unit) :=
  (bif (decide (i_5 < j_6)) then (bif ((decide (0 ≤ (wi64 ((shR .u64 (wu64 ((wi64 (i_5 + j_6)))) 1))))) && (decide ((wi64 ((shR .u64 (wu64 ((wi64 (i_5 + j_6)))) 1))) < ((m0_1n : Nat) : Int)))) then (bif (!(decide ((m3_0 (Int.toNat (wi64 ((shR .u64 (wu64 ((wi64 (i_5 + j_6)))) 1))))) > m1_0))) then (rec (wi64 ((wi64 ((shR .u64 (wu64 ((wi64 (i_5 + j_6)))) 1))) + 1)) j_6 l0t7 m0_0n m0_1n m0_2n m1_0 m2_0 m3_0 m4_0) else (rec i_5 (wi64 ((shR .u64 (wu64 ((wi64 (i_5 + j_6)))) 1))) l0t7 m0_0n m0_1n m0_2n m1_0 m2_0 m3_0 m4_0)) else none) else (some (i_5, l0t7, m0_0n, m0_1n, m0_2n, m1_0, m2_0, m3_0, m4_0, ())))
noncomputable def grid_Column_l0 (K n : Nat) : Int → Int → Int → Nat → Nat → Nat → Int → (Nat → Int) → (Nat → Int) → (Nat → Int) → Option (Int × Int × Nat × Nat × Nat × Int × (Nat → Int) × (Nat → Int) × (Nat → Int) × Unit) := Nat.rec (motive := fun _ => Int → Int → Int → Nat → Nat → Nat → Int → (Nat → Int) → (Nat → Int) → (Nat → Int) → Option (Int × Int × Nat × Nat × Nat × Int × (Nat → Int) × (Nat → Int) × (Nat → Int) × Unit)) (fun _ _ _ _ _ _ _ _ _ _ => none) (fun _ ih => grid_Column_l0r K ih) n
noncomputable def grid_Column_l0u (K n : Nat) (t : grid_Column_l0h.T) : Option (Int × Int × Nat × Nat × Nat × Int × (Nat → Int) × (Nat → Int) × (Nat → Int) × Unit) := grid_Column_l0 K n t.1 t.2.1 t.2.2.1 t.2.2.2.1 t.2.2.2.2.1 t.2.2.2.2.2.1 t.2.2.2.2.2.2.1 t.2.2.2.2.2.2.2.1 t.2.2.2.2.2.2.2.2.1 t.2.2.2.2.2.2.2.2.2.1
noncomputable def grid_Column_l0o (K : Nat) : LO := loopLO grid_Column_l0h grid_Column_l0O fun t => grid_Column_l0u K K t
noncomputable def grid_Column_l0C : Code := bodyOf Try.f32
noncomputable def grid_Column_l0B : Code := (findLoops 2 (loopsIn grid_Column_l0C)).headD .skip
theorem grid_Column_l0F : findLoops 2 (loopsIn grid_Column_l0C) = [grid_Column_l0B] := by kernel_rfl
theorem grid_Column_l0q (K n : Nat) (t : grid_Column_l0h.T) : exC (grid_Column_e0 K) (hdl (grid_Column_e0 K) 9) (32 :: [2, 196613, 15]) grid_Column_l0B (grid_Column_l0h.put t) (fun s => (grid_Column_l0h.take s).bind fun t => grid_Column_l0u K n t) (fun id s => grid_Column_l0O.get (some id) s) (fun s => grid_Column_l0O.get none s) = grid_Column_l0u K (n + 1) t := by kernel_rfl
noncomputable def grid_Column_l0E (K : Nat) : LoopE Try.prog := ⟨[2, 32, 2, 196613, 15], grid_Column_l0o K, Try.f32, grid_Column_l0C, grid_Column_l0B, ⟨2, 32, [2, 196613, 15], rfl, Try.func32, by kernel_rfl, grid_Column_l0F⟩,
  loop_rule (F := fun n t => grid_Column_l0u K n t) (grid_Column_t0 K) (grid_Column_i0 K) (draws (grid_Column_t0 K)) 9 Try.func32 (c := grid_Column_l0C) (by kernel_rfl) (body_in grid_Column_l0F) (ctx' := [2, 196613, 15]) (h := grid_Column_l0h) (O := grid_Column_l0O) (fun _ => rfl) (fun m t => grid_Column_l0q K m t) K⟩
noncomputable def grid_Column_e1 (K : Nat) : Env := ⟨tt, [(11, grid_Check_o K), (34, grid_row_value_o K)], [(32, Try.f32), (33, Try.f33)], [([2, 32, 2, 196613, 15], grid_Column_l0o K)], eqs⟩
theorem grid_Column_t1 (K : Nat) : EnvT Try.prog (grid_Column_e1 K) := envT_of tt_ok eqs_ok ⟨grid_Check_ok K, grid_row_value_ok K, trivial⟩
theorem grid_Column_i1 (K : Nat) : EnvI Try.prog (grid_Column_e1 K) := envI_of (es := [grid_Column_l0E K]) ⟨⟨Try.func32, by kernel_rfl⟩, ⟨Try.func33, by kernel_rfl⟩, trivial⟩ ⟨⟨rfl, rfl⟩, trivial⟩
noncomputable def grid_Column_l1h : Sh := ⟨78, [(2, .sc (.lit (.p 0 0 0 []))), (7, .sc (.i .i64)), (8, .sc (.lit (.p 1 0 0 []))), (9, .sc (.slr0 2)), (50, .sc (.slr0 3)), (51, .sc (.i .i64)), (52, .sc (.i .i64))], [(0, [])], [(true, false, [.slr0 3, .slr0 4, .slr0 5]), (true, false, [.i .i64, .i .i64, .i .i64, .i .i64]), (true, true, [.ir .i64, .ir .i64]), (false, true, [.ir .i64]), (false, true, [.ir .i64]), (false, true, [.ir .i64])]⟩
noncomputable def grid_Column_l1x0 : Sh := ⟨78, [(9, .sc (.slr0 0))], [(0, [])], [(true, true, [.ir .i64, .ir .i64])]⟩
noncomputable def grid_Column_l1O : OutI (Nat × (Nat → Int) × (Nat → Int) × Unit) := (OutI.exit 0 grid_Column_l1x0)
noncomputable def grid_Column_l1r (K : Nat) (rec : Int → Nat → Nat → Int → Int → Nat → Nat → Nat → Int → Int → Int → Int → (Nat → Int) → (Nat → Int) → (Nat → Int) → (Nat → Int) → (Nat → Int) → Option (Nat × (Nat → Int) × (Nat → Int) × Unit)) (m_7 : Int) (l_9n : Nat) (t_50n : Nat) (t_51 : Int) (t_52 : Int) (m0_0n : Nat) (m0_1n : Nat) (m0_2n : Nat) (m1_0 : Int) (m1_1 : Int) (m1_2 : Int) (m1_3 : Int) (m2_0 : (Nat → Int)) (m2_1 : (Nat → Int)) (m3_0 : (Nat → Int)) (m4_0 : (Nat → Int)) (m5_0 : (Nat → Int)) : Option (Nat × (Nat → Int) × (Nat → Int) × Unit) :=
  (bif (decide (t_52 < t_51)) then (bif ((decide (0 ≤ t_52)) && (decide (t_52 < ((t_50n : Nat) : Int)))) then (bif (((decide (0 ≤ (wi64 (t_52 * m_7)))) && (decide ((wi64 (t_52 * m_7)) ≤ (wi64 ((wi64 (t_52 * m_7)) + m_7))))) && (decide ((wi64 ((wi64 (t_52 * m_7)) + m_7)) ≤ ((m0_2n : Nat) : Int)))) then ((grid_row_value_g K m1_0 m1_1 m1_2 m1_3 ((Int.toNat (wi64 ((wi64 (t_52 * m_7)) + m_7))) - (Int.toNat (wi64 (t_52 * m_7)))) (fun j => (m5_0 (j + (Int.toNat (wi64 (t_52 * m_7))))))).bind fun q1 => (bif (Nat.ble ((l_9n + 1) * 16) 140737488355328) then (rec m_7 (l_9n + 1) t_50n t_51 (wi64 (t_52 + 1)) m0_0n m0_1n m0_2n m1_0 m1_1 m1_2 m1_3 (fun j => (bif (Nat.blt j l_9n) then (m2_0 j) else (selI [(m3_0 (Int.toNat t_52))] (j - l_9n)))) (fun j => (bif (Nat.blt j l_9n) then (m2_1 j) else (selI [q1.1] (j - l_9n)))) m3_0 m4_0 m5_0) else none)) else none) else none) else (some (l_9n, m2_0, m2_1, ())))
noncomputable def grid_Column_l1 (K n : Nat) : Int → Nat → Nat → Int → Int → Nat → Nat → Nat → Int → Int → Int → Int → (Nat → Int) → (Nat → Int) → (Nat → Int) → (Nat → Int) → (Nat → Int) → Option (Nat × (Nat → Int) × (Nat → Int) × Unit) := Nat.rec (motive := fun _ => Int → Nat → Nat → Int → Int → Nat → Nat → Nat → Int → Int → Int → Int → (Nat → Int) → (Nat → Int) → (Nat → Int) → (Nat → Int) → (Nat → Int) → Option (Nat × (Nat → Int) × (Nat → Int) × Unit)) (fun _ _ _ _ _ _ _ _ _ _ _ _ _ _ _ _ _ => none) (fun _ ih => grid_Column_l1r K ih) n
noncomputable def grid_Column_l1u (K n : Nat) (t : grid_Column_l1h.T) : Option (Nat × (Nat → Int) × (Nat → Int) × Unit) := grid_Column_l1 K n t.1 t.2.1 t.2.2.1 t.2.2.2.1 t.2.2.2.2.1 t.2.2.2.2.2.1 t.2.2.2.2.2.2.1 t.2.2.2.2.2.2.2.1 t.2.2.2.2.2.2.2.2.1 t.2.2.2.2.2.2.2.2.2.1 t.2.2.2.2.2.2.2.2.2.2.1 t.2.2.2.2.2.2.2.2.2.2.2.1 t.2.2.2.2.2.2.2.2.2.2.2.2.1 t.2.2.2.2.2.2.2.2.2.2.2.2.2.1 t.2.2.2.2.2.2.2.2.2.2.2.2.2.2.1 t.2.2.2.2.2.2.2.2.2.2.2.2.2.2.2.1 t.2.2.2.2.2.2.2.2.2.2.2.2.2.2.2.2.1
noncomputable def grid_Column_l1o (K : Nat) : LO := loopLO grid_Column_l1h grid_Column_l1O fun t => grid_Column_l1u K K t
noncomputable def grid_Column_l1C : Code := bodyOf Try.f15
noncomputable def grid_Column_l1B : Code := (findLoops 10 (loopsIn grid_Column_l1C)).headD .skip
theorem grid_Column_l1F : findLoops 10 (loopsIn grid_Column_l1C) = [grid_Column_l1B] := by kernel_rfl
theorem grid_Column_l1q (K n : Nat) (t : grid_Column_l1h.T) : exC (grid_Column_e1 K) (hdl (grid_Column_e1 K) 9) (15 :: []) grid_Column_l1B (grid_Column_l1h.put t) (fun s => (grid_Column_l1h.take s).bind fun t => grid_Column_l1u K n t) (fun id s => grid_Column_l1O.get (some id) s) (fun s => grid_Column_l1O.get none s) = grid_Column_l1u K (n + 1) t := by kernel_rfl
noncomputable def grid_Column_l1E (K : Nat) : LoopE Try.prog := ⟨[10, 15], grid_Column_l1o K, Try.f15, grid_Column_l1C, grid_Column_l1B, ⟨10, 15, [], rfl, Try.func15, by kernel_rfl, grid_Column_l1F⟩,
  loop_rule (F := fun n t => grid_Column_l1u K n t) (grid_Column_t1 K) (grid_Column_i1 K) (draws (grid_Column_t1 K)) 9 Try.func15 (c := grid_Column_l1C) (by kernel_rfl) (body_in grid_Column_l1F) (ctx' := []) (h := grid_Column_l1h) (O := grid_Column_l1O) (fun _ => rfl) (fun m t => grid_Column_l1q K m t) K⟩
noncomputable def grid_Column_e2 (K : Nat) : Env := ⟨tt, [(11, grid_Check_o K), (34, grid_row_value_o K)], [(32, Try.f32), (33, Try.f33)], [([2, 32, 2, 196613, 15], grid_Column_l0o K), ([10, 15], grid_Column_l1o K)], eqs⟩
theorem grid_Column_t2 (K : Nat) : EnvT Try.prog (grid_Column_e2 K) := envT_of tt_ok eqs_ok ⟨grid_Check_ok K, grid_row_value_ok K, trivial⟩
theorem grid_Column_i2 (K : Nat) : EnvI Try.prog (grid_Column_e2 K) := envI_of (es := [grid_Column_l0E K, grid_Column_l1E K]) ⟨⟨Try.func32, by kernel_rfl⟩, ⟨Try.func33, by kernel_rfl⟩, trivial⟩ ⟨⟨rfl, rfl⟩, ⟨rfl, rfl⟩, trivial⟩
noncomputable def grid_Column_l2h : Sh := ⟨26, [(1, .sc (.lit (.fn 33 [.p 0 0 0 [], .p 1 0 0 []]))), (5, .sc (.i .i64)), (6, .sc (.i .i64))], [(78, [(2, .sc (.lit (.p 0 0 0 []))), (7, .sc (.i .i64)), (23, .sc (.i .i64))]), (0, [])], [(true, false, [.slr0 2, .slr0 3, .slr0 4]), (true, false, [.i .i64]), (false, true, [.ir .i64]), (false, true, [.ir .i64]), (false, true, [.ir .i64])]⟩
noncomputable def grid_Column_l2x0 : Sh := ⟨26, [(5, .sc (.i .i64))], [(78, [(2, .sc (.lit (.p 0 0 0 []))), (7, .sc (.i .i64)), (23, .sc (.i .i64))]), (0, [])], [(true, false, [.slr0 1, .slr0 2, .slr0 3]), (false, true, [.ir .i64]), (false, true, [.ir .i64]), (false, true, [.ir .i64])]⟩
noncomputable def grid_Column_l2O : OutI (Int × Int × Int × Nat × Nat × Nat × (Nat → Int) × (Nat → Int) × (Nat → Int) × Unit) := (OutI.exit 0 grid_Column_l2x0)
noncomputable def grid_Column_l2r (K : Nat) (rec : Int → Int → Int → Int → Nat → Nat → Nat → Int → (Nat → Int) → (Nat → Int) → (Nat → Int) → Option (Int × Int × Int × Nat × Nat × Nat × (Nat → Int) × (Nat → Int) × (Nat → Int) × Unit)) (i_5 : Int) (j_6 : Int) (l0t7 : Int) (l0t23 : Int) (m0_0n : Nat) (m0_1n : Nat) (m0_2n : Nat) (m1_0 : Int) (m2_0 : (Nat → Int)) (m3_0 : (Nat → Int)) (m4_0 : (Nat → Int)) : Option (Int × Int × Int × Nat × Nat × Nat × (Nat → Int) × (Nat → Int) × (Nat → Int) × Unit) :=
  (bif (decide (i_5 < j_6)) then (bif ((decide (0 ≤ (wi64 ((shR .u64 (wu64 ((wi64 (i_5 + j_6)))) 1))))) && (decide ((wi64 ((shR .u64 (wu64 ((wi64 (i_5 + j_6)))) 1))) < ((m0_1n : Nat) : Int)))) then (bif (!(decide ((m3_0 (Int.toNat (wi64 ((shR .u64 (wu64 ((wi64 (i_5 + j_6)))) 1))))) > m1_0))) then (rec (wi64 ((wi64 ((shR .u64 (wu64 ((wi64 (i_5 + j_6)))) 1))) + 1)) j_6 l0t7 l0t23 m0_0n m0_1n m0_2n m1_0 m2_0 m3_0 m4_0) else (rec i_5 (wi64 ((shR .u64 (wu64 ((wi64 (i_5 + j_6)))) 1))) l0t7 l0t23 m0_0n m0_1n m0_2n m1_0 m2_0 m3_0 m4_0)) else none) else (some (i_5, l0t7, l0t23, m0_0n, m0_1n, m0_2n, m2_0, m3_0, m4_0, ())))
noncomputable def grid_Column_l2 (K n : Nat) : Int → Int → Int → Int → Nat → Nat → Nat → Int → (Nat → Int) → (Nat → Int) → (Nat → Int) → Option (Int × Int × Int × Nat × Nat × Nat × (Nat → Int) × (Nat → Int) × (Nat → Int) × Unit) := Nat.rec (motive := fun _ => Int → Int → Int → Int → Nat → Nat → Nat → Int → (Nat → Int) → (Nat → Int) → (Nat → Int) → Option (Int × Int × Int × Nat × Nat × Nat × (Nat → Int) × (Nat → Int) × (Nat → Int) × Unit)) (fun _ _ _ _ _ _ _ _ _ _ _ => none) (fun _ ih => grid_Column_l2r K ih) n
noncomputable def grid_Column_l2u (K n : Nat) (t : grid_Column_l2h.T) : Option (Int × Int × Int × Nat × Nat × Nat × (Nat → Int) × (Nat → Int) × (Nat → Int) × Unit) := grid_Column_l2 K n t.1 t.2.1 t.2.2.1 t.2.2.2.1 t.2.2.2.2.1 t.2.2.2.2.2.1 t.2.2.2.2.2.2.1 t.2.2.2.2.2.2.2.1 t.2.2.2.2.2.2.2.2.1 t.2.2.2.2.2.2.2.2.2.1 t.2.2.2.2.2.2.2.2.2.2.1
noncomputable def grid_Column_l2o (K : Nat) : LO := loopLO grid_Column_l2h grid_Column_l2O fun t => grid_Column_l2u K K t
noncomputable def grid_Column_l2C : Code := bodyOf Try.f32
noncomputable def grid_Column_l2B : Code := (findLoops 2 (loopsIn grid_Column_l2C)).headD .skip
theorem grid_Column_l2F : findLoops 2 (loopsIn grid_Column_l2C) = [grid_Column_l2B] := by kernel_rfl
theorem grid_Column_l2q (K n : Nat) (t : grid_Column_l2h.T) : exC (grid_Column_e2 K) (hdl (grid_Column_e2 K) 9) (32 :: [2, 720901, 15]) grid_Column_l2B (grid_Column_l2h.put t) (fun s => (grid_Column_l2h.take s).bind fun t => grid_Column_l2u K n t) (fun id s => grid_Column_l2O.get (some id) s) (fun s => grid_Column_l2O.get none s) = grid_Column_l2u K (n + 1) t := by kernel_rfl
noncomputable def grid_Column_l2E (K : Nat) : LoopE Try.prog := ⟨[2, 32, 2, 720901, 15], grid_Column_l2o K, Try.f32, grid_Column_l2C, grid_Column_l2B, ⟨2, 32, [2, 720901, 15], rfl, Try.func32, by kernel_rfl, grid_Column_l2F⟩,
  loop_rule (F := fun n t => grid_Column_l2u K n t) (grid_Column_t2 K) (grid_Column_i2 K) (draws (grid_Column_t2 K)) 9 Try.func32 (c := grid_Column_l2C) (by kernel_rfl) (body_in grid_Column_l2F) (ctx' := [2, 720901, 15]) (h := grid_Column_l2h) (O := grid_Column_l2O) (fun _ => rfl) (fun m t => grid_Column_l2q K m t) K⟩
noncomputable def grid_Column_e3 (K : Nat) : Env := ⟨tt, [(11, grid_Check_o K), (34, grid_row_value_o K)], [(32, Try.f32), (33, Try.f33)], [([2, 32, 2, 196613, 15], grid_Column_l0o K), ([10, 15], grid_Column_l1o K), ([2, 32, 2, 720901, 15], grid_Column_l2o K)], eqs⟩
theorem grid_Column_t3 (K : Nat) : EnvT Try.prog (grid_Column_e3 K) := envT_of tt_ok eqs_ok ⟨grid_Check_ok K, grid_row_value_ok K, trivial⟩
theorem grid_Column_i3 (K : Nat) : EnvI Try.prog (grid_Column_e3 K) := envI_of (es := [grid_Column_l0E K, grid_Column_l1E K, grid_Column_l2E K]) ⟨⟨Try.func32, by kernel_rfl⟩, ⟨Try.func33, by kernel_rfl⟩, trivial⟩ ⟨⟨rfl, rfl⟩, ⟨rfl, rfl⟩, ⟨rfl, rfl⟩, trivial⟩
noncomputable def grid_Column_l3h : Sh := ⟨26, [(1, .sc (.lit (.fn 33 [.p 0 0 0 [], .p 1 0 0 []]))), (5, .sc (.i .i64)), (6, .sc (.i .i64))], [(78, [(2, .sc (.lit (.p 0 0 0 []))), (7, .sc (.i .i64)), (8, .sc (.lit (.p 2 0 0 []))), (23, .sc (.i .i64))]), (0, [])], [(true, false, [.slr0 3, .slr0 4, .slr0 5]), (true, false, [.i .i64]), (true, false, [.i .i64, .i .i64, .i .i64, .i .i64]), (false, true, [.ir .i64]), (false, true, [.ir .i64]), (false, true, [.ir .i64])]⟩
noncomputable def grid_Column_l3x0 : Sh := ⟨26, [(5, .sc (.i .i64))], [(78, [(2, .sc (.lit (.p 0 0 0 []))), (7, .sc (.i .i64)), (8, .sc (.lit (.p 1 0 0 []))), (23, .sc (.i .i64))]), (0, [])], [(true, false, [.slr0 2, .slr0 3, .slr0 4]), (true, false, [.i .i64, .i .i64, .i .i64, .i .i64]), (false, true, [.ir .i64]), (false, true, [.ir .i64]), (false, true, [.ir .i64])]⟩
noncomputable def grid_Column_l3O : OutI (Int × Int × Int × Nat × Nat × Nat × Int × Int × Int × Int × (Nat → Int) × (Nat → Int) × (Nat → Int) × Unit) := (OutI.exit 0 grid_Column_l3x0)
noncomputable def grid_Column_l3r (K : Nat) (rec : Int → Int → Int → Int → Nat → Nat → Nat → Int → Int → Int → Int → Int → (Nat → Int) → (Nat → Int) → (Nat → Int) → Option (Int × Int × Int × Nat × Nat × Nat × Int × Int × Int × Int × (Nat → Int) × (Nat → Int) × (Nat → Int) × Unit)) (i_5 : Int) (j_6 : Int) (l0t7 : Int) (l0t23 : Int) (m0_0n : Nat) (m0_1n : Nat) (m0_2n : Nat) (m1_0 : Int) (m2_0 : Int) (m2_1 : Int) (m2_2 : Int) (m2_3 : Int) (m3_0 : (Nat → Int)) (m4_0 : (Nat → Int)) (m5_0 : (Nat → Int)) : Option (Int × Int × Int × Nat × Nat × Nat × Int × Int × Int × Int × (Nat → Int) × (Nat → Int) × (Nat → Int) × Unit) :=
  (bif (decide (i_5 < j_6)) then (bif ((decide (0 ≤ (wi64 ((shR .u64 (wu64 ((wi64 (i_5 + j_6)))) 1))))) && (decide ((wi64 ((shR .u64 (wu64 ((wi64 (i_5 + j_6)))) 1))) < ((m0_1n : Nat) : Int)))) then (bif (!(decide ((m4_0 (Int.toNat (wi64 ((shR .u64 (wu64 ((wi64 (i_5 + j_6)))) 1))))) > m1_0))) then (rec (wi64 ((wi64 ((shR .u64 (wu64 ((wi64 (i_5 + j_6)))) 1))) + 1)) j_6 l0t7 l0t23 m0_0n m0_1n m0_2n m1_0 m2_0 m2_1 m2_2 m2_3 m3_0 m4_0 m5_0) else (rec i_5 (wi64 ((shR .u64 (wu64 ((wi64 (i_5 + j_6)))) 1))) l0t7 l0t23 m0_0n m0_1n m0_2n m1_0 m2_0 m2_1 m2_2 m2_3 m3_0 m4_0 m5_0)) else none) else (some (i_5, l0t7, l0t23, m0_0n, m0_1n, m0_2n, m2_0, m2_1, m2_2, m2_3, m3_0, m4_0, m5_0, ())))
noncomputable def grid_Column_l3 (K n : Nat) : Int → Int → Int → Int → Nat → Nat → Nat → Int → Int → Int → Int → Int → (Nat → Int) → (Nat → Int) → (Nat → Int) → Option (Int × Int × Int × Nat × Nat × Nat × Int × Int × Int × Int × (Nat → Int) × (Nat → Int) × (Nat → Int) × Unit) := Nat.rec (motive := fun _ => Int → Int → Int → Int → Nat → Nat → Nat → Int → Int → Int → Int → Int → (Nat → Int) → (Nat → Int) → (Nat → Int) → Option (Int × Int × Int × Nat × Nat × Nat × Int × Int × Int × Int × (Nat → Int) × (Nat → Int) × (Nat → Int) × Unit)) (fun _ _ _ _ _ _ _ _ _ _ _ _ _ _ _ => none) (fun _ ih => grid_Column_l3r K ih) n
noncomputable def grid_Column_l3u (K n : Nat) (t : grid_Column_l3h.T) : Option (Int × Int × Int × Nat × Nat × Nat × Int × Int × Int × Int × (Nat → Int) × (Nat → Int) × (Nat → Int) × Unit) := grid_Column_l3 K n t.1 t.2.1 t.2.2.1 t.2.2.2.1 t.2.2.2.2.1 t.2.2.2.2.2.1 t.2.2.2.2.2.2.1 t.2.2.2.2.2.2.2.1 t.2.2.2.2.2.2.2.2.1 t.2.2.2.2.2.2.2.2.2.1 t.2.2.2.2.2.2.2.2.2.2.1 t.2.2.2.2.2.2.2.2.2.2.2.1 t.2.2.2.2.2.2.2.2.2.2.2.2.1 t.2.2.2.2.2.2.2.2.2.2.2.2.2.1 t.2.2.2.2.2.2.2.2.2.2.2.2.2.2.1
noncomputable def grid_Column_l3o (K : Nat) : LO := loopLO grid_Column_l3h grid_Column_l3O fun t => grid_Column_l3u K K t
noncomputable def grid_Column_l3C : Code := bodyOf Try.f32
noncomputable def grid_Column_l3B : Code := (findLoops 2 (loopsIn grid_Column_l3C)).headD .skip
theorem grid_Column_l3F : findLoops 2 (loopsIn grid_Column_l3C) = [grid_Column_l3B] := by kernel_rfl
theorem grid_Column_l3q (K n : Nat) (t : grid_Column_l3h.T) : exC (grid_Column_e3 K) (hdl (grid_Column_e3 K) 9) (32 :: [2, 2818053, 15]) grid_Column_l3B (grid_Column_l3h.put t) (fun s => (grid_Column_l3h.take s).bind fun t => grid_Column_l3u K n t) (fun id s => grid_Column_l3O.get (some id) s) (fun s => grid_Column_l3O.get none s) = grid_Column_l3u K (n + 1) t := by kernel_rfl
noncomputable def grid_Column_l3E (K : Nat) : LoopE Try.prog := ⟨[2, 32, 2, 2818053, 15], grid_Column_l3o K, Try.f32, grid_Column_l3C, grid_Column_l3B, ⟨2, 32, [2, 2818053, 15], rfl, Try.func32, by kernel_rfl, grid_Column_l3F⟩,
  loop_rule (F := fun n t => grid_Column_l3u K n t) (grid_Column_t3 K) (grid_Column_i3 K) (draws (grid_Column_t3 K)) 9 Try.func32 (c := grid_Column_l3C) (by kernel_rfl) (body_in grid_Column_l3F) (ctx' := [2, 2818053, 15]) (h := grid_Column_l3h) (O := grid_Column_l3O) (fun _ => rfl) (fun m t => grid_Column_l3q K m t) K⟩
noncomputable def grid_Column_e4 (K : Nat) : Env := ⟨tt, [(11, grid_Check_o K), (34, grid_row_value_o K)], [(32, Try.f32), (33, Try.f33)], [([2, 32, 2, 196613, 15], grid_Column_l0o K), ([10, 15], grid_Column_l1o K), ([2, 32, 2, 720901, 15], grid_Column_l2o K), ([2, 32, 2, 2818053, 15], grid_Column_l3o K)], eqs⟩
theorem grid_Column_t4 (K : Nat) : EnvT Try.prog (grid_Column_e4 K) := envT_of tt_ok eqs_ok ⟨grid_Check_ok K, grid_row_value_ok K, trivial⟩
theorem grid_Column_i4 (K : Nat) : EnvI Try.prog (grid_Column_e4 K) := envI_of (es := [grid_Column_l0E K, grid_Column_l1E K, grid_Column_l2E K, grid_Column_l3E K]) ⟨⟨Try.func32, by kernel_rfl⟩, ⟨Try.func33, by kernel_rfl⟩, trivial⟩ ⟨⟨rfl, rfl⟩, ⟨rfl, rfl⟩, ⟨rfl, rfl⟩, ⟨rfl, rfl⟩, trivial⟩
noncomputable def grid_Column_l4h : Sh := ⟨26, [(1, .sc (.lit (.fn 33 [.p 0 0 0 [], .p 1 0 0 []]))), (5, .sc (.i .i64)), (6, .sc (.i .i64))], [(78, [(2, .sc (.lit (.p 0 0 0 []))), (3, .sc (.lit (.p 1 0 0 []))), (7, .sc (.i .i64)), (8, .sc (.lit (.p 2 0 0 [])))]), (0, [])], [(true, false, [.slr0 3, .slr0 4, .slr0 5]), (true, false, [.i .i64]), (true, false, [.i .i64, .i .i64, .i .i64, .i .i64]), (false, true, [.ir .i64]), (false, true, [.ir .i64]), (false, true, [.ir .i64])]⟩
noncomputable def grid_Column_l4x0 : Sh := ⟨26, [(5, .sc (.i .i64))], [(78, [(2, .sc (.lit (.p 0 0 0 []))), (3, .sc (.lit (.p 1 0 0 []))), (7, .sc (.i .i64)), (8, .sc (.lit (.p 2 0 0 [])))]), (0, [])], [(true, false, [.slr0 3, .slr0 4, .slr0 5]), (true, false, [.i .i64]), (true, false, [.i .i64, .i .i64, .i .i64, .i .i64]), (false, true, [.ir .i64]), (false, true, [.ir .i64]), (false, true, [.ir .i64])]⟩
noncomputable def grid_Column_l4O : OutI (Int × Int × Nat × Nat × Nat × Int × Int × Int × Int × Int × (Nat → Int) × (Nat → Int) × (Nat → Int) × Unit) := (OutI.exit 0 grid_Column_l4x0)
noncomputable def grid_Column_l4r (K : Nat) (rec : Int → Int → Int → Nat → Nat → Nat → Int → Int → Int → Int → Int → (Nat → Int) → (Nat → Int) → (Nat → Int) → Option (Int × Int × Nat × Nat × Nat × Int × Int × Int × Int × Int × (Nat → Int) × (Nat → Int) × (Nat → Int) × Unit)) (i_5 : Int) (j_6 : Int) (l0t7 : Int) (m0_0n : Nat) (m0_1n : Nat) (m0_2n : Nat) (m1_0 : Int) (m2_0 : Int) (m2_1 : Int) (m2_2 : Int) (m2_3 : Int) (m3_0 : (Nat → Int)) (m4_0 : (Nat → Int)) (m5_0 : (Nat → Int)) : Option (Int × Int × Nat × Nat × Nat × Int × Int × Int × Int × Int × (Nat → Int) × (Nat → Int) × (Nat → Int) × Unit) :=
  (bif (decide (i_5 < j_6)) then (bif ((decide (0 ≤ (wi64 ((shR .u64 (wu64 ((wi64 (i_5 + j_6)))) 1))))) && (decide ((wi64 ((shR .u64 (wu64 ((wi64 (i_5 + j_6)))) 1))) < ((m0_1n : Nat) : Int)))) then (bif (!(decide ((m4_0 (Int.toNat (wi64 ((shR .u64 (wu64 ((wi64 (i_5 + j_6)))) 1))))) > m1_0))) then (rec (wi64 ((wi64 ((shR .u64 (wu64 ((wi64 (i_5 + j_6)))) 1))) + 1)) j_6 l0t7 m0_0n m0_1n m0_2n m1_0 m2_0 m2_1 m2_2 m2_3 m3_0 m4_0 m5_0) else (rec i_5 (wi64 ((shR .u64 (wu64 ((wi64 (i_5 + j_6)))) 1))) l0t7 m0_0n m0_1n m0_2n m1_0 m2_0 m2_1 m2_2 m2_3 m3_0 m4_0 m5_0)) else none) else (some (i_5, l0t7, m0_0n, m0_1n, m0_2n, m1_0, m2_0, m2_1, m2_2, m2_3, m3_0, m4_0, m5_0, ())))
noncomputable def grid_Column_l4 (K n : Nat) : Int → Int → Int → Nat → Nat → Nat → Int → Int → Int → Int → Int → (Nat → Int) → (Nat → Int) → (Nat → Int) → Option (Int × Int × Nat × Nat × Nat × Int × Int × Int × Int × Int × (Nat → Int) × (Nat → Int) × (Nat → Int) × Unit) := Nat.rec (motive := fun _ => Int → Int → Int → Nat → Nat → Nat → Int → Int → Int → Int → Int → (Nat → Int) → (Nat → Int) → (Nat → Int) → Option (Int × Int × Nat × Nat × Nat × Int × Int × Int × Int × Int × (Nat → Int) × (Nat → Int) × (Nat → Int) × Unit)) (fun _ _ _ _ _ _ _ _ _ _ _ _ _ _ => none) (fun _ ih => grid_Column_l4r K ih) n
noncomputable def grid_Column_l4u (K n : Nat) (t : grid_Column_l4h.T) : Option (Int × Int × Nat × Nat × Nat × Int × Int × Int × Int × Int × (Nat → Int) × (Nat → Int) × (Nat → Int) × Unit) := grid_Column_l4 K n t.1 t.2.1 t.2.2.1 t.2.2.2.1 t.2.2.2.2.1 t.2.2.2.2.2.1 t.2.2.2.2.2.2.1 t.2.2.2.2.2.2.2.1 t.2.2.2.2.2.2.2.2.1 t.2.2.2.2.2.2.2.2.2.1 t.2.2.2.2.2.2.2.2.2.2.1 t.2.2.2.2.2.2.2.2.2.2.2.1 t.2.2.2.2.2.2.2.2.2.2.2.2.1 t.2.2.2.2.2.2.2.2.2.2.2.2.2.1
noncomputable def grid_Column_l4o (K : Nat) : LO := loopLO grid_Column_l4h grid_Column_l4O fun t => grid_Column_l4u K K t
noncomputable def grid_Column_l4C : Code := bodyOf Try.f32
noncomputable def grid_Column_l4B : Code := (findLoops 2 (loopsIn grid_Column_l4C)).headD .skip
theorem grid_Column_l4F : findLoops 2 (loopsIn grid_Column_l4C) = [grid_Column_l4B] := by kernel_rfl
theorem grid_Column_l4q (K n : Nat) (t : grid_Column_l4h.T) : exC (grid_Column_e4 K) (hdl (grid_Column_e4 K) 9) (32 :: [2, 2293765, 15]) grid_Column_l4B (grid_Column_l4h.put t) (fun s => (grid_Column_l4h.take s).bind fun t => grid_Column_l4u K n t) (fun id s => grid_Column_l4O.get (some id) s) (fun s => grid_Column_l4O.get none s) = grid_Column_l4u K (n + 1) t := by kernel_rfl
noncomputable def grid_Column_l4E (K : Nat) : LoopE Try.prog := ⟨[2, 32, 2, 2293765, 15], grid_Column_l4o K, Try.f32, grid_Column_l4C, grid_Column_l4B, ⟨2, 32, [2, 2293765, 15], rfl, Try.func32, by kernel_rfl, grid_Column_l4F⟩,
  loop_rule (F := fun n t => grid_Column_l4u K n t) (grid_Column_t4 K) (grid_Column_i4 K) (draws (grid_Column_t4 K)) 9 Try.func32 (c := grid_Column_l4C) (by kernel_rfl) (body_in grid_Column_l4F) (ctx' := [2, 2293765, 15]) (h := grid_Column_l4h) (O := grid_Column_l4O) (fun _ => rfl) (fun m t => grid_Column_l4q K m t) K⟩
noncomputable def grid_Column_e5 (K : Nat) : Env := ⟨tt, [(11, grid_Check_o K), (34, grid_row_value_o K)], [(32, Try.f32), (33, Try.f33)], [([2, 32, 2, 196613, 15], grid_Column_l0o K), ([10, 15], grid_Column_l1o K), ([2, 32, 2, 720901, 15], grid_Column_l2o K), ([2, 32, 2, 2818053, 15], grid_Column_l3o K), ([2, 32, 2, 2293765, 15], grid_Column_l4o K)], eqs⟩
theorem grid_Column_t5 (K : Nat) : EnvT Try.prog (grid_Column_e5 K) := envT_of tt_ok eqs_ok ⟨grid_Check_ok K, grid_row_value_ok K, trivial⟩
theorem grid_Column_i5 (K : Nat) : EnvI Try.prog (grid_Column_e5 K) := envI_of (es := [grid_Column_l0E K, grid_Column_l1E K, grid_Column_l2E K, grid_Column_l3E K, grid_Column_l4E K]) ⟨⟨Try.func32, by kernel_rfl⟩, ⟨Try.func33, by kernel_rfl⟩, trivial⟩ ⟨⟨rfl, rfl⟩, ⟨rfl, rfl⟩, ⟨rfl, rfl⟩, ⟨rfl, rfl⟩, ⟨rfl, rfl⟩, trivial⟩
noncomputable def grid_Column_h : Sh := ⟨2, [(0, .ag [.slr0 0, .slr0 1, .slr0 2]), (1, .sc (.i .i64))], [], [(false, true, [.ir .i64]), (false, true, [.ir .i64]), (false, true, [.ir .i64])]⟩
noncomputable def grid_Column_r : Sh := ⟨2, [(0, .sc (.slr0 0)), (1, .sc (.i .i64))], [], [(true, true, [.ir .i64, .ir .i64])]⟩
noncomputable def grid_Column_g (K : Nat) (g_0_0n : Nat) (g_0_1n : Nat) (g_0_2n : Nat) (y_1 : Int) (m0_0 : (Nat → Int)) (m1_0 : (Nat → Int)) (m2_0 : (Nat → Int)) : Option (Nat × Int × (Nat → Int) × (Nat → Int) × Unit) :=
  ((grid_Check_g K g_0_0n g_0_1n g_0_2n m0_0 m1_0 m2_0).bind fun q1 => (bif (q1.1 != 0) then (some (0, q1.1, (fun _ => 0), (fun _ => 0), ())) else (agree ((grid_Column_l0 K K 0 ((g_0_1n : Nat) : Int) ((g_0_1n : Nat) : Int) g_0_0n g_0_1n g_0_2n y_1 m0_0 m1_0 m2_0).bind fun q2 => (agree (agN 1 (bif (decide (q2.1 > 0)) then (bif (decide (q2.1 < q2.2.1)) then (bif ((decide (0 ≤ (wi64 (q2.1 - 1)))) && (decide ((wi64 (q2.1 - 1)) < ((q2.2.2.2.1 : Nat) : Int)))) then (bif ((decide (0 ≤ q2.1)) && (decide (q2.1 < ((q2.2.2.2.1 : Nat) : Int)))) then ((grid_Column_l1 K K q2.2.1 0 q2.2.2.1 ((q2.2.2.1 : Nat) : Int) 0 q2.2.2.1 q2.2.2.2.1 q2.2.2.2.2.1 q2.1 (q2.2.2.2.2.2.2.2.1 (Int.toNat (wi64 (q2.1 - 1)))) (q2.2.2.2.2.2.2.2.1 (Int.toNat q2.1)) q2.2.2.2.2.2.1 (fun _ => 0) (fun _ => 0) q2.2.2.2.2.2.2.1 q2.2.2.2.2.2.2.2.1 q2.2.2.2.2.2.2.2.2.1).bind fun q3 => (some (q3.1, 0, q3.2.1, q3.2.2.1, ()))) else none) else none) else ((grid_Column_l1 K K q2.2.1 0 q2.2.2.1 ((q2.2.2.1 : Nat) : Int) 0 q2.2.2.1 q2.2.2.2.1 q2.2.2.2.2.1 q2.1 0 0 q2.2.2.2.2.2.1 (fun _ => 0) (fun _ => 0) q2.2.2.2.2.2.2.1 q2.2.2.2.2.2.2.2.1 q2.2.2.2.2.2.2.2.2.1).bind fun q4 => (some (q4.1, 0, q4.2.1, q4.2.2.1, ())))) else ((grid_Column_l1 K K q2.2.1 0 q2.2.2.1 ((q2.2.2.1 : Nat) : Int) 0 q2.2.2.1 q2.2.2.2.1 q2.2.2.2.2.1 q2.1 0 0 q2.2.2.2.2.2.1 (fun _ => 0) (fun _ => 0) q2.2.2.2.2.2.2.1 q2.2.2.2.2.2.2.2.1 q2.2.2.2.2.2.2.2.2.1).bind fun q5 => (some (q5.1, 0, q5.2.1, q5.2.2.1, ()))))) (bif (decide (q2.1 > 0)) then (bif (decide (q2.1 < q2.2.1)) then (bif ((decide (0 ≤ (wi64 (q2.1 - 1)))) && (decide ((wi64 (q2.1 - 1)) < ((q2.2.2.2.1 : Nat) : Int)))) then (bif ((decide (0 ≤ q2.1)) && (decide (q2.1 < ((q2.2.2.2.1 : Nat) : Int)))) then ((grid_Column_l1 K K q2.2.1 0 q2.2.2.1 ((q2.2.2.1 : Nat) : Int) 0 q2.2.2.1 q2.2.2.2.1 q2.2.2.2.2.1 q2.1 (q2.2.2.2.2.2.2.2.1 (Int.toNat (wi64 (q2.1 - 1)))) (q2.2.2.2.2.2.2.2.1 (Int.toNat q2.1)) q2.2.2.2.2.2.1 (fun _ => 0) (fun _ => 0) q2.2.2.2.2.2.2.1 q2.2.2.2.2.2.2.2.1 q2.2.2.2.2.2.2.2.2.1).bind fun q3 => (some (q3.1, 0, q3.2.1, q3.2.2.1, ()))) else none) else none) else ((grid_Column_l1 K K q2.2.1 0 q2.2.2.1 ((q2.2.2.1 : Nat) : Int) 0 q2.2.2.1 q2.2.2.2.1 q2.2.2.2.2.1 q2.1 0 0 q2.2.2.2.2.2.1 (fun _ => 0) (fun _ => 0) q2.2.2.2.2.2.2.1 q2.2.2.2.2.2.2.2.1 q2.2.2.2.2.2.2.2.2.1).bind fun q4 => (some (q4.1, 0, q4.2.1, q4.2.2.1, ())))) else ((grid_Column_l1 K K q2.2.1 0 q2.2.2.1 ((q2.2.2.1 : Nat) : Int) 0 q2.2.2.1 q2.2.2.2.1 q2.2.2.2.2.1 q2.1 0 0 q2.2.2.2.2.2.1 (fun _ => 0) (fun _ => 0) q2.2.2.2.2.2.2.1 q2.2.2.2.2.2.2.2.1 q2.2.2.2.2.2.2.2.2.1).bind fun q5 => (some (q5.1, 0, q5.2.1, q5.2.2.1, ())))))) (agree (agree ((grid_Column_l2 K K 0 ((g_0_1n : Nat) : Int) ((g_0_1n : Nat) : Int) y_1 g_0_0n g_0_1n g_0_2n y_1 m0_0 m1_0 m2_0).bind fun q2 => (agN 1 (bif (decide (q2.1 > 0)) then (bif (decide (q2.1 < q2.2.1)) then (bif ((decide (0 ≤ (wi64 (q2.1 - 1)))) && (decide ((wi64 (q2.1 - 1)) < ((q2.2.2.2.2.1 : Nat) : Int)))) then (bif ((decide (0 ≤ q2.1)) && (decide (q2.1 < ((q2.2.2.2.2.1 : Nat) : Int)))) then ((grid_Column_l1 K K q2.2.1 0 q2.2.2.2.1 ((q2.2.2.2.1 : Nat) : Int) 0 q2.2.2.2.1 q2.2.2.2.2.1 q2.2.2.2.2.2.1 q2.1 (q2.2.2.2.2.2.2.2.1 (Int.toNat (wi64 (q2.1 - 1)))) (q2.2.2.2.2.2.2.2.1 (Int.toNat q2.1)) q2.2.2.1 (fun _ => 0) (fun _ => 0) q2.2.2.2.2.2.2.1 q2.2.2.2.2.2.2.2.1 q2.2.2.2.2.2.2.2.2.1).bind fun q3 => (some (q3.1, 0, q3.2.1, q3.2.2.1, ()))) else none) else none) else ((grid_Column_l1 K K q2.2.1 0 q2.2.2.2.1 ((q2.2.2.2.1 : Nat) : Int) 0 q2.2.2.2.1 q2.2.2.2.2.1 q2.2.2.2.2.2.1 q2.1 0 0 q2.2.2.1 (fun _ => 0) (fun _ => 0) q2.2.2.2.2.2.2.1 q2.2.2.2.2.2.2.2.1 q2.2.2.2.2.2.2.2.2.1).bind fun q4 => (some (q4.1, 0, q4.2.1, q4.2.2.1, ())))) else ((grid_Column_l1 K K q2.2.1 0 q2.2.2.2.1 ((q2.2.2.2.1 : Nat) : Int) 0 q2.2.2.2.1 q2.2.2.2.2.1 q2.2.2.2.2.2.1 q2.1 0 0 q2.2.2.1 (fun _ => 0) (fun _ => 0) q2.2.2.2.2.2.2.1 q2.2.2.2.2.2.2.2.1 q2.2.2.2.2.2.2.2.2.1).bind fun q5 => (some (q5.1, 0, q5.2.1, q5.2.2.1, ())))))) ((grid_Column_l3 K K 0 ((g_0_1n : Nat) : Int) ((g_0_1n : Nat) : Int) y_1 g_0_0n g_0_1n g_0_2n y_1 0 0 0 0 m0_0 m1_0 m2_0).bind fun q2 => (bif (decide (q2.1 > 0)) then (bif (decide (q2.1 < q2.2.1)) then (bif ((decide (0 ≤ (wi64 (q2.1 - 1)))) && (decide ((wi64 (q2.1 - 1)) < ((q2.2.2.2.2.1 : Nat) : Int)))) then (bif ((decide (0 ≤ q2.1)) && (decide (q2.1 < ((q2.2.2.2.2.1 : Nat) : Int)))) then ((grid_Column_l1 K K q2.2.1 0 q2.2.2.2.1 ((q2.2.2.2.1 : Nat) : Int) 0 q2.2.2.2.1 q2.2.2.2.2.1 q2.2.2.2.2.2.1 q2.1 (q2.2.2.2.2.2.2.2.2.2.2.2.1 (Int.toNat (wi64 (q2.1 - 1)))) (q2.2.2.2.2.2.2.2.2.2.2.2.1 (Int.toNat q2.1)) q2.2.2.1 (fun _ => 0) (fun _ => 0) q2.2.2.2.2.2.2.2.2.2.2.1 q2.2.2.2.2.2.2.2.2.2.2.2.1 q2.2.2.2.2.2.2.2.2.2.2.2.2.1).bind fun q3 => (some (q3.1, 0, q3.2.1, q3.2.2.1, ()))) else none) else none) else ((grid_Column_l1 K K q2.2.1 0 q2.2.2.2.1 ((q2.2.2.2.1 : Nat) : Int) 0 q2.2.2.2.1 q2.2.2.2.2.1 q2.2.2.2.2.2.1 q2.1 0 0 q2.2.2.1 (fun _ => 0) (fun _ => 0) q2.2.2.2.2.2.2.2.2.2.2.1 q2.2.2.2.2.2.2.2.2.2.2.2.1 q2.2.2.2.2.2.2.2.2.2.2.2.2.1).bind fun q4 => (some (q4.1, 0, q4.2.1, q4.2.2.1, ())))) else ((grid_Column_l1 K K q2.2.1 0 q2.2.2.2.1 ((q2.2.2.2.1 : Nat) : Int) 0 q2.2.2.2.1 q2.2.2.2.2.1 q2.2.2.2.2.2.1 q2.1 0 0 q2.2.2.1 (fun _ => 0) (fun _ => 0) q2.2.2.2.2.2.2.2.2.2.2.1 q2.2.2.2.2.2.2.2.2.2.2.2.1 q2.2.2.2.2.2.2.2.2.2.2.2.2.1).bind fun q5 => (some (q5.1, 0, q5.2.1, q5.2.2.1, ())))))) (agree ((grid_Column_l4 K K 0 ((g_0_1n : Nat) : Int) ((g_0_1n : Nat) : Int) g_0_0n g_0_1n g_0_2n y_1 0 0 0 0 m0_0 m1_0 m2_0).bind fun q2 => (bif (decide (q2.1 > 0)) then (bif (decide (q2.1 < q2.2.1)) then (bif ((decide (0 ≤ (wi64 (q2.1 - 1)))) && (decide ((wi64 (q2.1 - 1)) < ((q2.2.2.2.1 : Nat) : Int)))) then (bif ((decide (0 ≤ q2.1)) && (decide (q2.1 < ((q2.2.2.2.1 : Nat) : Int)))) then ((grid_Column_l1 K K q2.2.1 0 q2.2.2.1 ((q2.2.2.1 : Nat) : Int) 0 q2.2.2.1 q2.2.2.2.1 q2.2.2.2.2.1 q2.1 (q2.2.2.2.2.2.2.2.2.2.2.2.1 (Int.toNat (wi64 (q2.1 - 1)))) (q2.2.2.2.2.2.2.2.2.2.2.2.1 (Int.toNat q2.1)) q2.2.2.2.2.2.1 (fun _ => 0) (fun _ => 0) q2.2.2.2.2.2.2.2.2.2.2.1 q2.2.2.2.2.2.2.2.2.2.2.2.1 q2.2.2.2.2.2.2.2.2.2.2.2.2.1).bind fun q3 => (some (q3.1, 0, q3.2.1, q3.2.2.1, ()))) else none) else none) else ((grid_Column_l1 K K q2.2.1 0 q2.2.2.1 ((q2.2.2.1 : Nat) : Int) 0 q2.2.2.1 q2.2.2.2.1 q2.2.2.2.2.1 q2.1 0 0 q2.2.2.2.2.2.1 (fun _ => 0) (fun _ => 0) q2.2.2.2.2.2.2.2.2.2.2.1 q2.2.2.2.2.2.2.2.2.2.2.2.1 q2.2.2.2.2.2.2.2.2.2.2.2.2.1).bind fun q4 => (some (q4.1, 0, q4.2.1, q4.2.2.1, ())))) else ((grid_Column_l1 K K q2.2.1 0 q2.2.2.1 ((q2.2.2.1 : Nat) : Int) 0 q2.2.2.1 q2.2.2.2.1 q2.2.2.2.2.1 q2.1 0 0 q2.2.2.2.2.2.1 (fun _ => 0) (fun _ => 0) q2.2.2.2.2.2.2.2.2.2.2.1 q2.2.2.2.2.2.2.2.2.2.2.2.1 q2.2.2.2.2.2.2.2.2.2.2.2.2.1).bind fun q5 => (some (q5.1, 0, q5.2.1, q5.2.2.1, ()))))) ((grid_Column_l3 K K 0 ((g_0_1n : Nat) : Int) ((g_0_1n : Nat) : Int) y_1 g_0_0n g_0_1n g_0_2n y_1 0 0 0 0 m0_0 m1_0 m2_0).bind fun q2 => (bif (decide (q2.1 > 0)) then (bif (decide (q2.1 < q2.2.1)) then (bif ((decide (0 ≤ (wi64 (q2.1 - 1)))) && (decide ((wi64 (q2.1 - 1)) < ((q2.2.2.2.2.1 : Nat) : Int)))) then (bif ((decide (0 ≤ q2.1)) && (decide (q2.1 < ((q2.2.2.2.2.1 : Nat) : Int)))) then ((grid_Column_l1 K K q2.2.1 0 q2.2.2.2.1 ((q2.2.2.2.1 : Nat) : Int) 0 q2.2.2.2.1 q2.2.2.2.2.1 q2.2.2.2.2.2.1 q2.1 (q2.2.2.2.2.2.2.2.2.2.2.2.1 (Int.toNat (wi64 (q2.1 - 1)))) (q2.2.2.2.2.2.2.2.2.2.2.2.1 (Int.toNat q2.1)) q2.2.2.1 (fun _ => 0) (fun _ => 0) q2.2.2.2.2.2.2.2.2.2.2.1 q2.2.2.2.2.2.2.2.2.2.2.2.1 q2.2.2.2.2.2.2.2.2.2.2.2.2.1).bind fun q3 => (some (q3.1, 0, q3.2.1, q3.2.2.1, ()))) else none) else none) else ((grid_Column_l1 K K q2.2.1 0 q2.2.2.2.1 ((q2.2.2.2.1 : Nat) : Int) 0 q2.2.2.2.1 q2.2.2.2.2.1 q2.2.2.2.2.2.1 q2.1 0 0 q2.2.2.1 (fun _ => 0) (fun _ => 0) q2.2.2.2.2.2.2.2.2.2.2.1 q2.2.2.2.2.2.2.2.2.2.2.2.1 q2.2.2.2.2.2.2.2.2.2.2.2.2.1).bind fun q4 => (some (q4.1, 0, q4.2.1, q4.2.2.1, ())))) else ((grid_Column_l1 K K q2.2.1 0 q2.2.2.2.1 ((q2.2.2.2.1 : Nat) : Int) 0 q2.2.2.2.1 q2.2.2.2.2.1 q2.2.2.2.2.2.1 q2.1 0 0 q2.2.2.1 (fun _ => 0) (fun _ => 0) q2.2.2.2.2.2.2.2.2.2.2.1 q2.2.2.2.2.2.2.2.2.2.2.2.1 q2.2.2.2.2.2.2.2.2.2.2.2.2.1).bind fun q5 => (some (q5.1, 0, q5.2.1, q5.2.2.1, ()))))))))))
noncomputable def grid_Column_gu (K : Nat) (t : grid_Column_h.T) : Option (Nat × Int × (Nat → Int) × (Nat → Int) × Unit) := grid_Column_g K t.1 t.2.1 t.2.2.1 t.2.2.2.1 t.2.2.2.2.1 t.2.2.2.2.2.1 t.2.2.2.2.2.2.1
noncomputable def grid_Column_o (K : Nat) : FO := fnFO grid_Column_h grid_Column_r fun t => grid_Column_gu K t
theorem grid_Column_q (K : Nat) (t : grid_Column_h.T) : exFn (grid_Column_e5 K) (hdl (grid_Column_e5 K) 9) [15] Try.f15 (slVals (grid_Column_h.put t).fr.sl) ⟨⟨0, []⟩, [], (grid_Column_h.put t).mem⟩ (takeRes grid_Column_r) = grid_Column_gu K t := by kernel_rfl
theorem grid_Column_ok (K : Nat) : FOok Try.prog 15 (grid_Column_o K) :=
  fn_rule (grid_Column_t5 K) (grid_Column_i5 K) (draws (grid_Column_t5 K)) 9 Try.func15 (fnB_ok Try.func15 (by kernel_rfl)) rfl rfl (allOwn_ok false (by kernel_rfl)) rfl (allOwn_ok true (by kernel_rfl)) (fun t => grid_Column_q K t)
/-! table_within -/
noncomputable def table_within_e0 (K : Nat) : Env := ⟨tt, [], [], [], eqs⟩
theorem table_within_t0 (K : Nat) : EnvT Try.prog (table_within_e0 K) := envT_of tt_ok eqs_ok trivial
theorem table_within_i0 (K : Nat) : EnvI Try.prog (table_within_e0 K) := envI_of (es := []) trivial trivial
noncomputable def table_within_h : Sh := ⟨1, [(0, .sc (.i .i64))], [], []⟩
noncomputable def table_within_r : Sh := ⟨1, [(0, .sc (.b))], [], []⟩
noncomputable def table_within_g (K : Nat) (n_0 : Int) : Option (Bool × Unit) :=
  (bif (decide (n_0 ≥ (-2147483648))) then (some ((decide (n_0 ≤ 2147483648)), ())) else (some (false, ())))
noncomputable def table_within_o (K : Nat) : FO := fnFO table_within_h table_within_r fun t => table_within_g K t.1
theorem table_within_q (K : Nat) (t : table_within_h.T) : exFn (table_within_e0 K) (hdl (table_within_e0 K) 0) [53] Try.f53 (slVals (table_within_h.put t).fr.sl) ⟨⟨0, []⟩, [], (table_within_h.put t).mem⟩ (takeRes table_within_r) = table_within_g K t.1 := by kernel_rfl
theorem table_within_ok (K : Nat) : FOok Try.prog 53 (table_within_o K) :=
  fn_rule (table_within_t0 K) (table_within_i0 K) (draws (table_within_t0 K)) 0 Try.func53 (fnB_ok Try.func53 (by kernel_rfl)) rfl rfl (allOwn_ok false (by kernel_rfl)) rfl (allOwn_ok true (by kernel_rfl)) (fun t => table_within_q K t)
/-! table_Check -/
noncomputable def table_Check_e0 (K : Nat) : Env := ⟨tt, [(53, table_within_o K)], [], [], eqs⟩
theorem table_Check_t0 (K : Nat) : EnvT Try.prog (table_Check_e0 K) := envT_of tt_ok eqs_ok ⟨table_within_ok K, trivial⟩
theorem table_Check_i0 (K : Nat) : EnvI Try.prog (table_Check_e0 K) := envI_of (es := []) trivial trivial
noncomputable def table_Check_l0h : Sh := ⟨46, [(0, .sc (.slr0 0)), (13, .sc (.slr0 0)), (14, .sc (.i .i64)), (15, .sc (.i .i64))], [(0, [])], [(false, true, [.ir .i64, .ir .i64])]⟩
noncomputable def table_Check_l0x0 : Sh := ⟨46, [], [(0, [])], []⟩
noncomputable def table_Check_l0x1 : Sh := ⟨46, [(2, .sc (.i .i64))], [(0, [])], []⟩
noncomputable def table_Check_l0O : OutI ((Unit) ⊕ (Int × Unit)) := (OutI.or (OutI.exit 0 table_Check_l0x0) (OutI.ret table_Check_l0x1))
noncomputable def table_Check_l0r (K : Nat) (rec : Nat → Nat → Int → Int → (Nat → Int) → (Nat → Int) → Option ((Unit) ⊕ (Int × Unit))) (l_0n : Nat) (t_13n : Nat) (t_14 : Int) (t_15 : Int) (m0_0 : (Nat → Int)) (m0_1 : (Nat → Int)) : Option ((Unit) ⊕ (Int × Unit)) :=
  (bif (decide (t_15 < t_14)) then (bif ((decide (0 ≤ t_15)) && (decide (t_15 < ((t_13n : Nat) : Int)))) then ((table_within_g K (m0_0 (Int.toNat t_15))).bind fun q1 => (bif (!q1.1) then (some (.inr (100, ()))) else ((table_within_g K (m0_1 (Int.toNat t_15))).bind fun q2 => (bif (!q2.1) then (some (.inr (100, ()))) else (bif (decide (t_15 > 0)) then (bif ((decide (0 ≤ (wi64 (t_15 - 1)))) && (decide ((wi64 (t_15 - 1)) < ((l_0n : Nat) : Int)))) then (bif (decide ((m0_0 (Int.toNat t_15)) ≤ (m0_0 (Int.toNat (wi64 (t_15 - 1)))))) then (some (.inr (100, ()))) else (rec l_0n t_13n t_14 (wi64 (t_15 + 1)) m0_0 m0_1)) else none) else (rec l_0n t_13n t_14 (wi64 (t_15 + 1)) m0_0 m0_1)))))) else none) else (some (.inl (()))))
noncomputable def table_Check_l0 (K n : Nat) : Nat → Nat → Int → Int → (Nat → Int) → (Nat → Int) → Option ((Unit) ⊕ (Int × Unit)) := Nat.rec (motive := fun _ => Nat → Nat → Int → Int → (Nat → Int) → (Nat → Int) → Option ((Unit) ⊕ (Int × Unit))) (fun _ _ _ _ _ _ => none) (fun _ ih => table_Check_l0r K ih) n
noncomputable def table_Check_l0u (K n : Nat) (t : table_Check_l0h.T) : Option ((Unit) ⊕ (Int × Unit)) := table_Check_l0 K n t.1 t.2.1 t.2.2.1 t.2.2.2.1 t.2.2.2.2.1 t.2.2.2.2.2.1
noncomputable def table_Check_l0o (K : Nat) : LO := loopLO table_Check_l0h table_Check_l0O fun t => table_Check_l0u K K t
noncomputable def table_Check_l0C : Code := bodyOf Try.f44
noncomputable def table_Check_l0B : Code := (findLoops 4 (loopsIn table_Check_l0C)).headD .skip
theorem table_Check_l0F : findLoops 4 (loopsIn table_Check_l0C) = [table_Check_l0B] := by kernel_rfl
theorem table_Check_l0q (K n : Nat) (t : table_Check_l0h.T) : exC (table_Check_e0 K) (hdl (table_Check_e0 K) 0) (44 :: []) table_Check_l0B (table_Check_l0h.put t) (fun s => (table_Check_l0h.take s).bind fun t => table_Check_l0u K n t) (fun id s => table_Check_l0O.get (some id) s) (fun s => table_Check_l0O.get none s) = table_Check_l0u K (n + 1) t := by kernel_rfl
noncomputable def table_Check_l0E (K : Nat) : LoopE Try.prog := ⟨[4, 44], table_Check_l0o K, Try.f44, table_Check_l0C, table_Check_l0B, ⟨4, 44, [], rfl, Try.func44, by kernel_rfl, table_Check_l0F⟩,
  loop_rule (F := fun n t => table_Check_l0u K n t) (table_Check_t0 K) (table_Check_i0 K) (draws (table_Check_t0 K)) 0 Try.func44 (c := table_Check_l0C) (by kernel_rfl) (body_in table_Check_l0F) (ctx' := []) (h := table_Check_l0h) (O := table_Check_l0O) (fun _ => rfl) (fun m t => table_Check_l0q K m t) K⟩
noncomputable def table_Check_e1 (K : Nat) : Env := ⟨tt, [(53, table_within_o K)], [], [([4, 44], table_Check_l0o K)], eqs⟩
theorem table_Check_t1 (K : Nat) : EnvT Try.prog (table_Check_e1 K) := envT_of tt_ok eqs_ok ⟨table_within_ok K, trivial⟩
theorem table_Check_i1 (K : Nat) : EnvI Try.prog (table_Check_e1 K) := envI_of (es := [table_Check_l0E K]) trivial ⟨⟨rfl, rfl⟩, trivial⟩
noncomputable def table_Check_h : Sh := ⟨1, [(0, .sc (.slr0 0))], [], [(false, true, [.ir .i64, .ir .i64])]⟩
noncomputable def table_Check_r : Sh := ⟨1, [(0, .sc (.i .i64))], [], []⟩
noncomputable def table_Check_g (K : Nat) (l_0n : Nat) (m0_0 : (Nat → Int)) (m0_1 : (Nat → Int)) : Option (Int × Unit) :=
  (bif (decide (((l_0n : Nat) : Int) < 2)) then (some (100, ())) else (bif (decide (((l_0n : Nat) : Int) > 256)) then (some (100, ())) else ((table_Check_l0 K K l_0n l_0n ((l_0n : Nat) : Int) 0 m0_0 m0_1).bind fun q1 => (Sum.elim (fun q2 => (some (0, ()))) (fun q3 => (some (q3.1, ()))) q1))))
noncomputable def table_Check_o (K : Nat) : FO := fnFO table_Check_h table_Check_r fun t => table_Check_g K t.1 t.2.1 t.2.2.1
theorem table_Check_q (K : Nat) (t : table_Check_h.T) : exFn (table_Check_e1 K) (hdl (table_Check_e1 K) 0) [44] Try.f44 (slVals (table_Check_h.put t).fr.sl) ⟨⟨0, []⟩, [], (table_Check_h.put t).mem⟩ (takeRes table_Check_r) = table_Check_g K t.1 t.2.1 t.2.2.1 := by kernel_rfl
theorem table_Check_ok (K : Nat) : FOok Try.prog 44 (table_Check_o K) :=
  fn_rule (table_Check_t1 K) (table_Check_i1 K) (draws (table_Check_t1 K)) 0 Try.func44 (fnB_ok Try.func44 (by kernel_rfl)) rfl rfl (allOwn_ok false (by kernel_rfl)) rfl (allOwn_ok true (by kernel_rfl)) (fun t => table_Check_q K t)
/-! table_piece_at -/
noncomputable def table_piece_at_e0 (K : Nat) : Env := ⟨tt, [(49, wide_MulNear_o K)], [], [], eqs⟩
theorem table_piece_at_t0 (K : Nat) : EnvT Try.prog (table_piece_at_e0 K) := envT_of tt_ok eqs_ok ⟨wide_MulNear_ok K, trivial⟩
theorem table_piece_at_i0 (K : Nat) : EnvI Try.prog (table_piece_at_e0 K) := envI_of (es := []) trivial trivial
noncomputable def table_piece_at_h : Sh := ⟨2, [(0, .ag [.i .i64, .i .i64, .i .i64, .i .i64]), (1, .sc (.i .i64))], [], []⟩
noncomputable def table_piece_at_r : Sh := ⟨1, [(0, .sc (.i .i64))], [], []⟩
noncomputable def table_piece_at_g (K : Nat) (p_0_0 : Int) (p_0_1 : Int) (p_0_2 : Int) (p_0_3 : Int) (x_1 : Int) : Option (Int × Unit) :=
  ((wide_MulNear_g K (wi64 (x_1 - p_0_0)) (wi64 (p_0_3 - p_0_1)) (wi64 (p_0_2 - p_0_0))).bind fun q1 => (some ((wi64 (p_0_1 + q1.1)), ())))
noncomputable def table_piece_at_gu (K : Nat) (t : table_piece_at_h.T) : Option (Int × Unit) := table_piece_at_g K t.1 t.2.1 t.2.2.1 t.2.2.2.1 t.2.2.2.2.1
noncomputable def table_piece_at_o (K : Nat) : FO := fnFO table_piece_at_h table_piece_at_r fun t => table_piece_at_gu K t
theorem table_piece_at_q (K : Nat) (t : table_piece_at_h.T) : exFn (table_piece_at_e0 K) (hdl (table_piece_at_e0 K) 0) [55] Try.f55 (slVals (table_piece_at_h.put t).fr.sl) ⟨⟨0, []⟩, [], (table_piece_at_h.put t).mem⟩ (takeRes table_piece_at_r) = table_piece_at_gu K t := by kernel_rfl
theorem table_piece_at_ok (K : Nat) : FOok Try.prog 55 (table_piece_at_o K) :=
  fn_rule (table_piece_at_t0 K) (table_piece_at_i0 K) (draws (table_piece_at_t0 K)) 0 Try.func55 (fnB_ok Try.func55 (by kernel_rfl)) rfl rfl (allOwn_ok false (by kernel_rfl)) rfl (allOwn_ok true (by kernel_rfl)) (fun t => table_piece_at_q K t)
/-! table_value -/
noncomputable def table_value_e0 (K : Nat) : Env := ⟨tt, [(55, table_piece_at_o K)], [(32, Try.f32), (54, Try.f54)], [], eqs⟩
theorem table_value_t0 (K : Nat) : EnvT Try.prog (table_value_e0 K) := envT_of tt_ok eqs_ok ⟨table_piece_at_ok K, trivial⟩
theorem table_value_i0 (K : Nat) : EnvI Try.prog (table_value_e0 K) := envI_of (es := []) ⟨⟨Try.func32, by kernel_rfl⟩, ⟨Try.func54, by kernel_rfl⟩, trivial⟩ trivial
noncomputable def table_value_l0h : Sh := ⟨26, [(1, .sc (.lit (.fn 54 [.p 0 0 0 [], .p 1 0 0 []]))), (5, .sc (.i .i64)), (6, .sc (.i .i64))], [(39, [(2, .sc (.lit (.p 0 0 0 []))), (3, .sc (.lit (.p 1 0 0 [])))]), (0, [])], [(true, false, [.slr0 2]), (true, false, [.i .i64]), (false, true, [.ir .i64, .ir .i64])]⟩
noncomputable def table_value_l0x0 : Sh := ⟨26, [(5, .sc (.i .i64))], [(39, [(2, .sc (.lit (.p 0 0 0 []))), (3, .sc (.lit (.p 1 0 0 [])))]), (0, [])], [(true, false, [.slr0 2]), (true, false, [.i .i64]), (false, true, [.ir .i64, .ir .i64])]⟩
noncomputable def table_value_l0O : OutI (Int × Nat × Int × (Nat → Int) × (Nat → Int) × Unit) := (OutI.exit 0 table_value_l0x0)
noncomputable def table_value_l0r (K : Nat) (rec : Int → Int → Nat → Int → (Nat → Int) → (Nat → Int) → Option (Int × Nat × Int × (Nat → Int) × (Nat → Int) × Unit)) (i_5 : Int) (j_6 : Int) (m0_0n : Nat) (m1_0 : Int) (m2_0 : (Nat → Int)) (m2_1 : (Nat → Int)) : Option (Int × Nat × Int × (Nat → Int) × (Nat → Int) × Unit) :=
  (bif (decide (i_5 < j_6)) then (bif ((decide (0 ≤ (wi64 ((shR .u64 (wu64 ((wi64 (i_5 + j_6)))) 1))))) && (decide ((wi64 ((shR .u64 (wu64 ((wi64 (i_5 + j_6)))) 1))) < ((m0_0n : Nat) : Int)))) then (bif (!(decide ((m2_0 (Int.toNat (wi64 ((shR .u64 (wu64 ((wi64 (i_5 + j_6)))) 1))))) > m1_0))) then (rec (wi64 ((wi64 ((shR .u64 (wu64 ((wi64 (i_5 + j_6)))) 1))) + 1)) j_6 m0_0n m1_0 m2_0 m2_1) else (rec i_5 (wi64 ((shR .u64 (wu64 ((wi64 (i_5 + j_6)))) 1))) m0_0n m1_0 m2_0 m2_1)) else none) else (some (i_5, m0_0n, m1_0, m2_0, m2_1, ())))
noncomputable def table_value_l0 (K n : Nat) : Int → Int → Nat → Int → (Nat → Int) → (Nat → Int) → Option (Int × Nat × Int × (Nat → Int) × (Nat → Int) × Unit) := Nat.rec (motive := fun _ => Int → Int → Nat → Int → (Nat → Int) → (Nat → Int) → Option (Int × Nat × Int × (Nat → Int) × (Nat → Int) × Unit)) (fun _ _ _ _ _ _ => none) (fun _ ih => table_value_l0r K ih) n
noncomputable def table_value_l0u (K n : Nat) (t : table_value_l0h.T) : Option (Int × Nat × Int × (Nat → Int) × (Nat → Int) × Unit) := table_value_l0 K n t.1 t.2.1 t.2.2.1 t.2.2.2.1 t.2.2.2.2.1 t.2.2.2.2.2.1
noncomputable def table_value_l0o (K : Nat) : LO := loopLO table_value_l0h table_value_l0O fun t => table_value_l0u K K t
noncomputable def table_value_l0C : Code := bodyOf Try.f32
noncomputable def table_value_l0B : Code := (findLoops 2 (loopsIn table_value_l0C)).headD .skip
theorem table_value_l0F : findLoops 2 (loopsIn table_value_l0C) = [table_value_l0B] := by kernel_rfl
theorem table_value_l0q (K n : Nat) (t : table_value_l0h.T) : exC (table_value_e0 K) (hdl (table_value_e0 K) 9) (32 :: [3, 1, 45]) table_value_l0B (table_value_l0h.put t) (fun s => (table_value_l0h.take s).bind fun t => table_value_l0u K n t) (fun id s => table_value_l0O.get (some id) s) (fun s => table_value_l0O.get none s) = table_value_l0u K (n + 1) t := by kernel_rfl
noncomputable def table_value_l0E (K : Nat) : LoopE Try.prog := ⟨[2, 32, 3, 1, 45], table_value_l0o K, Try.f32, table_value_l0C, table_value_l0B, ⟨2, 32, [3, 1, 45], rfl, Try.func32, by kernel_rfl, table_value_l0F⟩,
  loop_rule (F := fun n t => table_value_l0u K n t) (table_value_t0 K) (table_value_i0 K) (draws (table_value_t0 K)) 9 Try.func32 (c := table_value_l0C) (by kernel_rfl) (body_in table_value_l0F) (ctx' := [3, 1, 45]) (h := table_value_l0h) (O := table_value_l0O) (fun _ => rfl) (fun m t => table_value_l0q K m t) K⟩
noncomputable def table_value_e1 (K : Nat) : Env := ⟨tt, [(55, table_piece_at_o K)], [(32, Try.f32), (54, Try.f54)], [([2, 32, 3, 1, 45], table_value_l0o K)], eqs⟩
theorem table_value_t1 (K : Nat) : EnvT Try.prog (table_value_e1 K) := envT_of tt_ok eqs_ok ⟨table_piece_at_ok K, trivial⟩
theorem table_value_i1 (K : Nat) : EnvI Try.prog (table_value_e1 K) := envI_of (es := [table_value_l0E K]) ⟨⟨Try.func32, by kernel_rfl⟩, ⟨Try.func54, by kernel_rfl⟩, trivial⟩ ⟨⟨rfl, rfl⟩, trivial⟩
noncomputable def table_value_h : Sh := ⟨2, [(0, .sc (.slr0 0)), (1, .sc (.i .i64))], [], [(false, true, [.ir .i64, .ir .i64])]⟩
noncomputable def table_value_r : Sh := ⟨1, [(0, .sc (.i .i64))], [], []⟩
noncomputable def table_value_g (K : Nat) (l_0n : Nat) (x_1 : Int) (m0_0 : (Nat → Int)) (m0_1 : (Nat → Int)) : Option (Int × Unit) :=
  ((table_value_l0 K K 0 ((l_0n : Nat) : Int) l_0n x_1 m0_0 m0_1).bind fun q1 => (bif (q1.1 == 0) then (bif (decide (0 < ((q1.2.1 : Nat) : Int))) then (some ((q1.2.2.2.2.1 0), ())) else none) else (bif (q1.1 == ((q1.2.1 : Nat) : Int)) then (bif ((decide (0 ≤ (wi64 (q1.1 - 1)))) && (decide ((wi64 (q1.1 - 1)) < ((q1.2.1 : Nat) : Int)))) then (some ((q1.2.2.2.2.1 (Int.toNat (wi64 (q1.1 - 1)))), ())) else none) else (bif ((decide (0 ≤ (wi64 (q1.1 - 1)))) && (decide ((wi64 (q1.1 - 1)) < ((q1.2.1 : Nat) : Int)))) then (bif ((decide (0 ≤ q1.1)) && (decide (q1.1 < ((q1.2.1 : Nat) : Int)))) then ((table_piece_at_g K (q1.2.2.2.1 (Int.toNat (wi64 (q1.1 - 1)))) (q1.2.2.2.2.1 (Int.toNat (wi64 (q1.1 - 1)))) (q1.2.2.2.1 (Int.toNat q1.1)) (q1.2.2.2.2.1 (Int.toNat q1.1)) q1.2.2.1).bind fun q2 => (some (q2.1, ()))) else none) else none))))
noncomputable def table_value_gu (K : Nat) (t : table_value_h.T) : Option (Int × Unit) := table_value_g K t.1 t.2.1 t.2.2.1 t.2.2.2.1
noncomputable def table_value_o (K : Nat) : FO := fnFO table_value_h table_value_r fun t => table_value_gu K t
theorem table_value_q (K : Nat) (t : table_value_h.T) : exFn (table_value_e1 K) (hdl (table_value_e1 K) 9) [45] Try.f45 (slVals (table_value_h.put t).fr.sl) ⟨⟨0, []⟩, [], (table_value_h.put t).mem⟩ (takeRes table_value_r) = table_value_gu K t := by kernel_rfl
theorem table_value_ok (K : Nat) : FOok Try.prog 45 (table_value_o K) :=
  fn_rule (table_value_t1 K) (table_value_i1 K) (draws (table_value_t1 K)) 9 Try.func45 (fnB_ok Try.func45 (by kernel_rfl)) rfl rfl (allOwn_ok false (by kernel_rfl)) rfl (allOwn_ok true (by kernel_rfl)) (fun t => table_value_q K t)
/-! table_At -/
noncomputable def table_At_e0 (K : Nat) : Env := ⟨tt, [(44, table_Check_o K), (45, table_value_o K)], [], [], eqs⟩
theorem table_At_t0 (K : Nat) : EnvT Try.prog (table_At_e0 K) := envT_of tt_ok eqs_ok ⟨table_Check_ok K, table_value_ok K, trivial⟩
theorem table_At_i0 (K : Nat) : EnvI Try.prog (table_At_e0 K) := envI_of (es := []) trivial trivial
noncomputable def table_At_h : Sh := ⟨2, [(0, .sc (.slr0 0)), (1, .sc (.i .i64))], [], [(false, true, [.ir .i64, .ir .i64])]⟩
noncomputable def table_At_r : Sh := ⟨2, [(0, .sc (.i .i64)), (1, .sc (.i .i64))], [], []⟩
noncomputable def table_At_g (K : Nat) (l_0n : Nat) (x_1 : Int) (m0_0 : (Nat → Int)) (m0_1 : (Nat → Int)) : Option (Int × Int × Unit) :=
  ((table_Check_g K l_0n m0_0 m0_1).bind fun q1 => (bif (q1.1 != 0) then (some (0, q1.1, ())) else ((table_value_g K l_0n x_1 m0_0 m0_1).bind fun q2 => (some (q2.1, 0, ())))))
noncomputable def table_At_gu (K : Nat) (t : table_At_h.T) : Option (Int × Int × Unit) := table_At_g K t.1 t.2.1 t.2.2.1 t.2.2.2.1
noncomputable def table_At_o (K : Nat) : FO := fnFO table_At_h table_At_r fun t => table_At_gu K t
theorem table_At_q (K : Nat) (t : table_At_h.T) : exFn (table_At_e0 K) (hdl (table_At_e0 K) 0) [29] Try.f29 (slVals (table_At_h.put t).fr.sl) ⟨⟨0, []⟩, [], (table_At_h.put t).mem⟩ (takeRes table_At_r) = table_At_gu K t := by kernel_rfl
theorem table_At_ok (K : Nat) : FOok Try.prog 29 (table_At_o K) :=
  fn_rule (table_At_t0 K) (table_At_i0 K) (draws (table_At_t0 K)) 0 Try.func29 (fnB_ok Try.func29 (by kernel_rfl)) rfl rfl (allOwn_ok false (by kernel_rfl)) rfl (allOwn_ok true (by kernel_rfl)) (fun t => table_At_q K t)
/-! grid_At -/
noncomputable def grid_At_e0 (K : Nat) : Env := ⟨tt, [(15, grid_Column_o K), (29, table_At_o K)], [], [], eqs⟩
theorem grid_At_t0 (K : Nat) : EnvT Try.prog (grid_At_e0 K) := envT_of tt_ok eqs_ok ⟨grid_Column_ok K, table_At_ok K, trivial⟩
theorem grid_At_i0 (K : Nat) : EnvI Try.prog (grid_At_e0 K) := envI_of (es := []) trivial trivial
noncomputable def grid_At_h : Sh := ⟨3, [(0, .ag [.slr0 0, .slr0 1, .slr0 2]), (1, .sc (.i .i64)), (2, .sc (.i .i64))], [], [(false, true, [.ir .i64]), (false, true, [.ir .i64]), (false, true, [.ir .i64])]⟩
noncomputable def grid_At_r : Sh := ⟨2, [(0, .sc (.i .i64)), (1, .sc (.i .i64))], [], []⟩
noncomputable def grid_At_g (K : Nat) (g_0_0n : Nat) (g_0_1n : Nat) (g_0_2n : Nat) (x_1 : Int) (y_2 : Int) (m0_0 : (Nat → Int)) (m1_0 : (Nat → Int)) (m2_0 : (Nat → Int)) : Option (Int × Int × Unit) :=
  ((grid_Column_g K g_0_0n g_0_1n g_0_2n y_2 m0_0 m1_0 m2_0).bind fun q1 => (bif (q1.2.1 != 0) then (some (0, q1.2.1, ())) else ((table_At_g K q1.1 x_1 q1.2.2.1 q1.2.2.2.1).bind fun q2 => (some (q2.1, q2.2.1, ())))))
noncomputable def grid_At_gu (K : Nat) (t : grid_At_h.T) : Option (Int × Int × Unit) := grid_At_g K t.1 t.2.1 t.2.2.1 t.2.2.2.1 t.2.2.2.2.1 t.2.2.2.2.2.1 t.2.2.2.2.2.2.1 t.2.2.2.2.2.2.2.1
noncomputable def grid_At_o (K : Nat) : FO := fnFO grid_At_h grid_At_r fun t => grid_At_gu K t
theorem grid_At_q (K : Nat) (t : grid_At_h.T) : exFn (grid_At_e0 K) (hdl (grid_At_e0 K) 0) [13] Try.f13 (slVals (grid_At_h.put t).fr.sl) ⟨⟨0, []⟩, [], (grid_At_h.put t).mem⟩ (takeRes grid_At_r) = grid_At_gu K t := by kernel_rfl
theorem grid_At_ok (K : Nat) : FOok Try.prog 13 (grid_At_o K) :=
  fn_rule (grid_At_t0 K) (grid_At_i0 K) (draws (grid_At_t0 K)) 0 Try.func13 (fnB_ok Try.func13 (by kernel_rfl)) rfl rfl (allOwn_ok false (by kernel_rfl)) rfl (allOwn_ok true (by kernel_rfl)) (fun t => grid_At_q K t)
/-! grid_Rises -/
noncomputable def grid_Rises_e0 (K : Nat) : Env := ⟨tt, [(11, grid_Check_o K)], [], [], eqs⟩
theorem grid_Rises_t0 (K : Nat) : EnvT Try.prog (grid_Rises_e0 K) := envT_of tt_ok eqs_ok ⟨grid_Check_ok K, trivial⟩
theorem grid_Rises_i0 (K : Nat) : EnvI Try.prog (grid_Rises_e0 K) := envI_of (es := []) trivial trivial
noncomputable def grid_Rises_l0h : Sh := ⟨30, [(1, .sc (.lit (.p 0 0 0 []))), (15, .sc (.slr 1)), (16, .sc (.i .i64)), (17, .sc (.i .i64))], [(0, [])], [(true, false, [.slr0 2, .slr0 3, .slr0 1]), (false, true, [.ir .i64]), (false, true, [.ir .i64]), (false, true, [.ir .i64])]⟩
noncomputable def grid_Rises_l0x0 : Sh := ⟨30, [], [(0, [])], []⟩
noncomputable def grid_Rises_l0x1 : Sh := ⟨30, [(2, .sc (.b))], [(0, [])], []⟩
noncomputable def grid_Rises_l0O : OutI ((Unit) ⊕ (Bool × Unit)) := (OutI.or (OutI.exit 0 grid_Rises_l0x0) (OutI.ret grid_Rises_l0x1))
noncomputable def grid_Rises_l0r (K : Nat) (rec : Nat → Nat → Int → Int → Nat → Nat → Nat → (Nat → Int) → (Nat → Int) → (Nat → Int) → Option ((Unit) ⊕ (Bool × Unit))) (t_15f : Nat) (t_15n : Nat) (t_16 : Int) (t_17 : Int) (m0_0n : Nat) (m0_1n : Nat) (m0_2n : Nat) (m1_0 : (Nat → Int)) (m2_0 : (Nat → Int)) (m3_0 : (Nat → Int)) : Option ((Unit) ⊕ (Bool × Unit)) :=
  (bif (decide (t_17 < t_16)) then (bif ((decide (0 ≤ t_17)) && (decide (t_17 < ((t_15n : Nat) : Int)))) then (bif ((decide (0 ≤ t_17)) && (decide (t_17 < ((m0_2n : Nat) : Int)))) then (bif (decide ((m1_0 ((Int.toNat t_17) + t_15f)) < (m1_0 (Int.toNat t_17)))) then (some (.inr (false, ()))) else (rec t_15f t_15n t_16 (wi64 (t_17 + 1)) m0_0n m0_1n m0_2n m1_0 m2_0 m3_0)) else none) else none) else (some (.inl (()))))
noncomputable def grid_Rises_l0 (K n : Nat) : Nat → Nat → Int → Int → Nat → Nat → Nat → (Nat → Int) → (Nat → Int) → (Nat → Int) → Option ((Unit) ⊕ (Bool × Unit)) := Nat.rec (motive := fun _ => Nat → Nat → Int → Int → Nat → Nat → Nat → (Nat → Int) → (Nat → Int) → (Nat → Int) → Option ((Unit) ⊕ (Bool × Unit))) (fun _ _ _ _ _ _ _ _ _ _ => none) (fun _ ih => grid_Rises_l0r K ih) n
noncomputable def grid_Rises_l0u (K n : Nat) (t : grid_Rises_l0h.T) : Option ((Unit) ⊕ (Bool × Unit)) := grid_Rises_l0 K n t.1 t.2.1 t.2.2.1 t.2.2.2.1 t.2.2.2.2.1 t.2.2.2.2.2.1 t.2.2.2.2.2.2.1 t.2.2.2.2.2.2.2.1 t.2.2.2.2.2.2.2.2.1 t.2.2.2.2.2.2.2.2.2.1
noncomputable def grid_Rises_l0o (K : Nat) : LO := loopLO grid_Rises_l0h grid_Rises_l0O fun t => grid_Rises_l0u K K t
noncomputable def grid_Rises_l0C : Code := bodyOf Try.f19
noncomputable def grid_Rises_l0B : Code := (findLoops 5 (loopsIn grid_Rises_l0C)).headD .skip
theorem grid_Rises_l0F : findLoops 5 (loopsIn grid_Rises_l0C) = [grid_Rises_l0B] := by kernel_rfl
theorem grid_Rises_l0q (K n : Nat) (t : grid_Rises_l0h.T) : exC (grid_Rises_e0 K) (hdl (grid_Rises_e0 K) 0) (19 :: []) grid_Rises_l0B (grid_Rises_l0h.put t) (fun s => (grid_Rises_l0h.take s).bind fun t => grid_Rises_l0u K n t) (fun id s => grid_Rises_l0O.get (some id) s) (fun s => grid_Rises_l0O.get none s) = grid_Rises_l0u K (n + 1) t := by kernel_rfl
noncomputable def grid_Rises_l0E (K : Nat) : LoopE Try.prog := ⟨[5, 19], grid_Rises_l0o K, Try.f19, grid_Rises_l0C, grid_Rises_l0B, ⟨5, 19, [], rfl, Try.func19, by kernel_rfl, grid_Rises_l0F⟩,
  loop_rule (F := fun n t => grid_Rises_l0u K n t) (grid_Rises_t0 K) (grid_Rises_i0 K) (draws (grid_Rises_t0 K)) 0 Try.func19 (c := grid_Rises_l0C) (by kernel_rfl) (body_in grid_Rises_l0F) (ctx' := []) (h := grid_Rises_l0h) (O := grid_Rises_l0O) (fun _ => rfl) (fun m t => grid_Rises_l0q K m t) K⟩
noncomputable def grid_Rises_e1 (K : Nat) : Env := ⟨tt, [(11, grid_Check_o K)], [], [([5, 19], grid_Rises_l0o K)], eqs⟩
theorem grid_Rises_t1 (K : Nat) : EnvT Try.prog (grid_Rises_e1 K) := envT_of tt_ok eqs_ok ⟨grid_Check_ok K, trivial⟩
theorem grid_Rises_i1 (K : Nat) : EnvI Try.prog (grid_Rises_e1 K) := envI_of (es := [grid_Rises_l0E K]) trivial ⟨⟨rfl, rfl⟩, trivial⟩
noncomputable def grid_Rises_h : Sh := ⟨1, [(0, .ag [.slr0 0, .slr0 1, .slr0 2])], [], [(false, true, [.ir .i64]), (false, true, [.ir .i64]), (false, true, [.ir .i64])]⟩
noncomputable def grid_Rises_r : Sh := ⟨1, [(0, .sc (.b))], [], []⟩
noncomputable def grid_Rises_g (K : Nat) (g_0_0n : Nat) (g_0_1n : Nat) (g_0_2n : Nat) (m0_0 : (Nat → Int)) (m1_0 : (Nat → Int)) (m2_0 : (Nat → Int)) : Option (Bool × Unit) :=
  ((grid_Check_g K g_0_0n g_0_1n g_0_2n m0_0 m1_0 m2_0).bind fun q1 => (bif (q1.1 != 0) then (some (false, ())) else (bif ((decide (0 ≤ ((g_0_1n : Nat) : Int))) && (decide (((g_0_1n : Nat) : Int) ≤ ((g_0_2n : Nat) : Int)))) then ((grid_Rises_l0 K K g_0_1n (g_0_2n - g_0_1n) (((g_0_2n - g_0_1n) : Nat) : Int) 0 g_0_0n g_0_1n g_0_2n m2_0 m0_0 m1_0).bind fun q2 => (Sum.elim (fun q3 => (some (true, ()))) (fun q4 => (some (q4.1, ()))) q2)) else none)))
noncomputable def grid_Rises_gu (K : Nat) (t : grid_Rises_h.T) : Option (Bool × Unit) := grid_Rises_g K t.1 t.2.1 t.2.2.1 t.2.2.2.1 t.2.2.2.2.1 t.2.2.2.2.2.1
noncomputable def grid_Rises_o (K : Nat) : FO := fnFO grid_Rises_h grid_Rises_r fun t => grid_Rises_gu K t
theorem grid_Rises_q (K : Nat) (t : grid_Rises_h.T) : exFn (grid_Rises_e1 K) (hdl (grid_Rises_e1 K) 0) [19] Try.f19 (slVals (grid_Rises_h.put t).fr.sl) ⟨⟨0, []⟩, [], (grid_Rises_h.put t).mem⟩ (takeRes grid_Rises_r) = grid_Rises_gu K t := by kernel_rfl
theorem grid_Rises_ok (K : Nat) : FOok Try.prog 19 (grid_Rises_o K) :=
  fn_rule (grid_Rises_t1 K) (grid_Rises_i1 K) (draws (grid_Rises_t1 K)) 0 Try.func19 (fnB_ok Try.func19 (by kernel_rfl)) rfl rfl (allOwn_ok false (by kernel_rfl)) rfl (allOwn_ok true (by kernel_rfl)) (fun t => grid_Rises_q K t)
/-! rheostatlaw11_works -/
noncomputable def rheostatlaw11_works_e0 (K : Nat) : Env := ⟨tt, [(13, grid_At_o K), (11, grid_Check_o K), (19, grid_Rises_o K)], [], [], eqs⟩
theorem rheostatlaw11_works_t0 (K : Nat) : EnvT Try.prog (rheostatlaw11_works_e0 K) := envT_of tt_ok eqs_ok ⟨grid_At_ok K, grid_Check_ok K, grid_Rises_ok K, trivial⟩
theorem rheostatlaw11_works_i0 (K : Nat) : EnvI Try.prog (rheostatlaw11_works_e0 K) := envI_of (es := []) trivial trivial
noncomputable def rheostatlaw11_works_h : Sh := ⟨0, [], [], []⟩
noncomputable def rheostatlaw11_works_r : Sh := ⟨1, [(0, .sc (.b))], [], []⟩
noncomputable def rheostatlaw11_works_g (K : Nat)  : Option (Bool × Unit) :=
  ((grid_At_g K 2 2 4 5 5 (fun j => (selI [0, 10] j)) (fun j => (selI [0, 10] j)) (fun j => (selI [0, 100, 100, 200] j))).bind fun q1 => ((grid_At_g K 2 2 4 10 3 (fun j => (selI [0, 10] j)) (fun j => (selI [0, 10] j)) (fun j => (selI [0, 100, 100, 200] j))).bind fun q2 => (bif (q1.1 == 100) then (bif (q1.2.1 == 0) then (bif (q2.1 == 130) then (bif (q2.2.1 == 0) then ((grid_Check_g K 2 2 4 (fun j => (selI [0, 10] j)) (fun j => (selI [0, 10] j)) (fun j => (selI [0, 100, 100, 200] j))).bind fun q3 => (bif (q3.1 == 0) then ((grid_Rises_g K 2 2 4 (fun j => (selI [0, 10] j)) (fun j => (selI [0, 10] j)) (fun j => (selI [0, 100, 100, 200] j))).bind fun q4 => (some (q4.1, ()))) else (some (false, ())))) else (some (false, ()))) else (some (false, ()))) else (some (false, ()))) else (some (false, ())))))
noncomputable def rheostatlaw11_works_o (K : Nat) : FO := fnFO rheostatlaw11_works_h rheostatlaw11_works_r fun t => rheostatlaw11_works_g K
theorem rheostatlaw11_works_q (K : Nat) (t : rheostatlaw11_works_h.T) : exFn (rheostatlaw11_works_e0 K) (hdl (rheostatlaw11_works_e0 K) 0) [9] Try.f9 (slVals (rheostatlaw11_works_h.put t).fr.sl) ⟨⟨0, []⟩, [], (rheostatlaw11_works_h.put t).mem⟩ (takeRes rheostatlaw11_works_r) = rheostatlaw11_works_g K := by kernel_rfl
theorem rheostatlaw11_works_ok (K : Nat) : FOok Try.prog 9 (rheostatlaw11_works_o K) :=
  fn_rule (rheostatlaw11_works_t0 K) (rheostatlaw11_works_i0 K) (draws (rheostatlaw11_works_t0 K)) 0 Try.func9 (fnB_ok Try.func9 (by kernel_rfl)) rfl rfl (allOwn_ok false (by kernel_rfl)) rfl (allOwn_ok true (by kernel_rfl)) (fun t => rheostatlaw11_works_q K t)
/-! rheostatlaw11_light -/
noncomputable def rheostatlaw11_light_e0 (K : Nat) : Env := ⟨tt, [], [], [], eqs⟩
theorem rheostatlaw11_light_t0 (K : Nat) : EnvT Try.prog (rheostatlaw11_light_e0 K) := envT_of tt_ok eqs_ok trivial
theorem rheostatlaw11_light_i0 (K : Nat) : EnvI Try.prog (rheostatlaw11_light_e0 K) := envI_of (es := []) trivial trivial
noncomputable def rheostatlaw11_light_h : Sh := ⟨1, [(0, .ag [.slr0 0, .slr0 1, .slr0 2])], [], [(false, true, [.ir .i64]), (false, true, [.ir .i64]), (false, true, [.ir .i64])]⟩
noncomputable def rheostatlaw11_light_r : Sh := ⟨1, [(0, .sc (.b))], [], []⟩
noncomputable def rheostatlaw11_light_g (K : Nat) (g_0_0n : Nat) (g_0_1n : Nat) (g_0_2n : Nat) (m0_0 : (Nat → Int)) (m1_0 : (Nat → Int)) (m2_0 : (Nat → Int)) : Option (Bool × Unit) :=
  (bif (decide ((wi64 (((g_0_0n : Nat) : Int) + ((g_0_1n : Nat) : Int))) ≤ 600)) then (some ((decide (((g_0_2n : Nat) : Int) ≤ 5000)), ())) else (some (false, ())))
noncomputable def rheostatlaw11_light_gu (K : Nat) (t : rheostatlaw11_light_h.T) : Option (Bool × Unit) := rheostatlaw11_light_g K t.1 t.2.1 t.2.2.1 t.2.2.2.1 t.2.2.2.2.1 t.2.2.2.2.2.1
noncomputable def rheostatlaw11_light_o (K : Nat) : FO := fnFO rheostatlaw11_light_h rheostatlaw11_light_r fun t => rheostatlaw11_light_gu K t
theorem rheostatlaw11_light_q (K : Nat) (t : rheostatlaw11_light_h.T) : exFn (rheostatlaw11_light_e0 K) (hdl (rheostatlaw11_light_e0 K) 0) [10] Try.f10 (slVals (rheostatlaw11_light_h.put t).fr.sl) ⟨⟨0, []⟩, [], (rheostatlaw11_light_h.put t).mem⟩ (takeRes rheostatlaw11_light_r) = rheostatlaw11_light_gu K t := by kernel_rfl
theorem rheostatlaw11_light_ok (K : Nat) : FOok Try.prog 10 (rheostatlaw11_light_o K) :=
  fn_rule (rheostatlaw11_light_t0 K) (rheostatlaw11_light_i0 K) (draws (rheostatlaw11_light_t0 K)) 0 Try.func10 (fnB_ok Try.func10 (by kernel_rfl)) rfl rfl (allOwn_ok false (by kernel_rfl)) rfl (allOwn_ok true (by kernel_rfl)) (fun t => rheostatlaw11_light_q K t)
/-! rheostatbase_Among -/
noncomputable def rheostatbase_Among_e0 (K : Nat) : Env := ⟨tt, [], [], [], eqs⟩
theorem rheostatbase_Among_t0 (K : Nat) : EnvT Try.prog (rheostatbase_Among_e0 K) := envT_of tt_ok eqs_ok trivial
theorem rheostatbase_Among_i0 (K : Nat) : EnvI Try.prog (rheostatbase_Among_e0 K) := envI_of (es := []) trivial trivial
noncomputable def rheostatbase_Among_h : Sh := ⟨2, [(0, .sc (.i .i64)), (1, .sc (.i .i64))], [], []⟩
noncomputable def rheostatbase_Among_r : Sh := ⟨1, [(0, .sc (.i .i64))], [], []⟩
noncomputable def rheostatbase_Among_g (K : Nat) (x_0 : Int) (n_1 : Int) : Option (Int × Unit) :=
  (bif (decide (n_1 < 1)) then (some (0, ())) else (bif ((wu64 (n_1)) == 0) then none else (some ((wi64 ((Int.tmod (wu64 (x_0)) (wu64 (n_1))))), ()))))
noncomputable def rheostatbase_Among_o (K : Nat) : FO := fnFO rheostatbase_Among_h rheostatbase_Among_r fun t => rheostatbase_Among_g K t.1 t.2.1
theorem rheostatbase_Among_q (K : Nat) (t : rheostatbase_Among_h.T) : exFn (rheostatbase_Among_e0 K) (hdl (rheostatbase_Among_e0 K) 0) [12] Try.f12 (slVals (rheostatbase_Among_h.put t).fr.sl) ⟨⟨0, []⟩, [], (rheostatbase_Among_h.put t).mem⟩ (takeRes rheostatbase_Among_r) = rheostatbase_Among_g K t.1 t.2.1 := by kernel_rfl
theorem rheostatbase_Among_ok (K : Nat) : FOok Try.prog 12 (rheostatbase_Among_o K) :=
  fn_rule (rheostatbase_Among_t0 K) (rheostatbase_Among_i0 K) (draws (rheostatbase_Among_t0 K)) 0 Try.func12 (fnB_ok Try.func12 (by kernel_rfl)) rfl rfl (allOwn_ok false (by kernel_rfl)) rfl (allOwn_ok true (by kernel_rfl)) (fun t => rheostatbase_Among_q K t)
/-! rheostatlaw11_GridCorners -/
noncomputable def rheostatlaw11_GridCorners_e0 (K : Nat) : Env := ⟨tt, [(9, rheostatlaw11_works_o K), (10, rheostatlaw11_light_o K), (11, grid_Check_o K), (12, rheostatbase_Among_o K), (13, grid_At_o K)], [], [], eqs⟩
theorem rheostatlaw11_GridCorners_t0 (K : Nat) : EnvT Try.prog (rheostatlaw11_GridCorners_e0 K) := envT_of tt_ok eqs_ok ⟨rheostatlaw11_works_ok K, rheostatlaw11_light_ok K, grid_Check_ok K, rheostatbase_Among_ok K, grid_At_ok K, trivial⟩
theorem rheostatlaw11_GridCorners_i0 (K : Nat) : EnvI Try.prog (rheostatlaw11_GridCorners_e0 K) := envI_of (es := []) trivial trivial
noncomputable def rheostatlaw11_GridCorners_g (K : Nat) (g_0_0n : Nat) (g_0_1n : Nat) (g_0_2n : Nat) (i_1 : Int) (j_2 : Int) (m0_0 : (Nat → Int)) (m1_0 : (Nat → Int)) (m2_0 : (Nat → Int)) : Option Bool :=
  ((rheostatlaw11_works_g K).bind fun q1 => (bif (!q1.1) then (some false) else ((rheostatlaw11_light_g K g_0_0n g_0_1n g_0_2n m0_0 m1_0 m2_0).bind fun q2 => (bif (!q2.1) then (some true) else ((grid_Check_g K g_0_0n g_0_1n g_0_2n m0_0 m1_0 m2_0).bind fun q3 => (bif (q3.1 != 0) then (some true) else ((rheostatbase_Among_g K i_1 ((g_0_0n : Nat) : Int)).bind fun q4 => ((rheostatbase_Among_g K j_2 ((g_0_1n : Nat) : Int)).bind fun q5 => (bif ((decide (0 ≤ q4.1)) && (decide (q4.1 < ((g_0_0n : Nat) : Int)))) then (bif ((decide (0 ≤ q5.1)) && (decide (q5.1 < ((g_0_1n : Nat) : Int)))) then ((grid_At_g K g_0_0n g_0_1n g_0_2n (m0_0 (Int.toNat q4.1)) (m1_0 (Int.toNat q5.1)) m0_0 m1_0 m2_0).bind fun q6 => (bif (q6.2.1 == 0) then (bif ((decide (0 ≤ (wi64 ((wi64 (q4.1 * ((g_0_1n : Nat) : Int))) + q5.1)))) && (decide ((wi64 ((wi64 (q4.1 * ((g_0_1n : Nat) : Int))) + q5.1)) < ((g_0_2n : Nat) : Int)))) then (some (q6.1 == (m2_0 (Int.toNat (wi64 ((wi64 (q4.1 * ((g_0_1n : Nat) : Int))) + q5.1)))))) else none) else (some false))) else none) else none)))))))))
noncomputable def rheostatlaw11_GridCorners_ps : List (Bool × List WC) := [(true, [.slc [.i .i64], .slc [.i .i64], .slc [.i .i64]]), (false, [.sc (.i .i64)]), (false, [.sc (.i .i64)])]
theorem rheostatlaw11_GridCorners_q (K : Nat) (t : (shOf rheostatlaw11_GridCorners_ps).T) : exFn (rheostatlaw11_GridCorners_e0 K) (hdl (rheostatlaw11_GridCorners_e0 K) 0) [3] Try.f3 (slVals ((shOf rheostatlaw11_GridCorners_ps).put t).fr.sl) ⟨⟨0, []⟩, [], ((shOf rheostatlaw11_GridCorners_ps).put t).mem⟩ outBool = rheostatlaw11_GridCorners_g K t.1 t.2.1 t.2.2.1 t.2.2.2.1 t.2.2.2.2.1 t.2.2.2.2.2.1 t.2.2.2.2.2.2.1 t.2.2.2.2.2.2.2.1 := by kernel_rfl
theorem rheostatlaw11_GridCorners_call (K : Nat) (hb : ∀ t : (shOf rheostatlaw11_GridCorners_ps).T, argsBnd rheostatlaw11_GridCorners_ps t → rheostatlaw11_GridCorners_g K t.1 t.2.1 t.2.2.1 t.2.2.2.1 t.2.2.2.2.1 t.2.2.2.2.2.1 t.2.2.2.2.2.2.1 t.2.2.2.2.2.2.2.1 = some true) {w : World} {vals : List Value} (hp : PFits w rheostatlaw11_GridCorners_ps vals) :
    Calls Try.prog 3 vals.toArray w fun e w' => e = .returned (.bool true) ∧ RowKit.Below w.heap.size w w' :=
  call_of (rheostatlaw11_GridCorners_t0 K) (rheostatlaw11_GridCorners_i0 K) (draws (rheostatlaw11_GridCorners_t0 K)) 0 Try.func3 (by kernel_rfl) (by kernel_rfl) outBool_true (fun t ht => (rheostatlaw11_GridCorners_q K t).trans (hb t ht)) hp
/-! rheostatlaw11_GridBounds -/
noncomputable def rheostatlaw11_GridBounds_e0 (K : Nat) : Env := ⟨tt, [(9, rheostatlaw11_works_o K), (10, rheostatlaw11_light_o K), (11, grid_Check_o K), (13, grid_At_o K)], [], [], eqs⟩
theorem rheostatlaw11_GridBounds_t0 (K : Nat) : EnvT Try.prog (rheostatlaw11_GridBounds_e0 K) := envT_of tt_ok eqs_ok ⟨rheostatlaw11_works_ok K, rheostatlaw11_light_ok K, grid_Check_ok K, grid_At_ok K, trivial⟩
theorem rheostatlaw11_GridBounds_i0 (K : Nat) : EnvI Try.prog (rheostatlaw11_GridBounds_e0 K) := envI_of (es := []) trivial trivial
noncomputable def rheostatlaw11_GridBounds_l0h : Sh := ⟨70, [(3, .sc (.lit (.p 0 0 0 []))), (7, .sc (.i .i64)), (8, .sc (.i .i64)), (9, .sc (.i .i64)), (10, .sc (.i .i64)), (11, .sc (.i .i64))], [(0, [])], [(true, false, [.slr0 1, .slr0 2, .slr0 3]), (false, true, [.ir .i64]), (false, true, [.ir .i64]), (false, true, [.ir .i64])]⟩
noncomputable def rheostatlaw11_GridBounds_l0x0 : Sh := ⟨70, [(7, .sc (.i .i64)), (8, .sc (.i .i64)), (9, .sc (.i .i64)), (10, .sc (.i .i64))], [(0, [])], []⟩
noncomputable def rheostatlaw11_GridBounds_l0O : OutI (Int × Int × Int × Int × Unit) := (OutI.exit 0 rheostatlaw11_GridBounds_l0x0)
noncomputable def rheostatlaw11_GridBounds_l0r (K : Nat) (rec : Int → Int → Int → Int → Int → Nat → Nat → Nat → (Nat → Int) → (Nat → Int) → (Nat → Int) → Option (Int × Int × Int × Int × Unit)) (z_7 : Int) (e_8 : Int) (low_9 : Int) (high_10 : Int) (i_11 : Int) (m0_0n : Nat) (m0_1n : Nat) (m0_2n : Nat) (m1_0 : (Nat → Int)) (m2_0 : (Nat → Int)) (m3_0 : (Nat → Int)) : Option (Int × Int × Int × Int × Unit) :=
  (bif (decide (i_11 < ((m0_2n : Nat) : Int))) then (bif ((decide (0 ≤ i_11)) && (decide (i_11 < ((m0_2n : Nat) : Int)))) then (bif ((decide (0 ≤ i_11)) && (decide (i_11 < ((m0_2n : Nat) : Int)))) then (rec z_7 e_8 (bif (decide ((m3_0 (Int.toNat i_11)) < low_9)) then (m3_0 (Int.toNat i_11)) else low_9) (bif (decide ((m3_0 (Int.toNat i_11)) > high_10)) then (m3_0 (Int.toNat i_11)) else high_10) (wi64 (i_11 + 1)) m0_0n m0_1n m0_2n m1_0 m2_0 m3_0) else none) else none) else (some (z_7, e_8, low_9, high_10, ())))
noncomputable def rheostatlaw11_GridBounds_l0 (K n : Nat) : Int → Int → Int → Int → Int → Nat → Nat → Nat → (Nat → Int) → (Nat → Int) → (Nat → Int) → Option (Int × Int × Int × Int × Unit) := Nat.rec (motive := fun _ => Int → Int → Int → Int → Int → Nat → Nat → Nat → (Nat → Int) → (Nat → Int) → (Nat → Int) → Option (Int × Int × Int × Int × Unit)) (fun _ _ _ _ _ _ _ _ _ _ _ => none) (fun _ ih => rheostatlaw11_GridBounds_l0r K ih) n
noncomputable def rheostatlaw11_GridBounds_l0u (K n : Nat) (t : rheostatlaw11_GridBounds_l0h.T) : Option (Int × Int × Int × Int × Unit) := rheostatlaw11_GridBounds_l0 K n t.1 t.2.1 t.2.2.1 t.2.2.2.1 t.2.2.2.2.1 t.2.2.2.2.2.1 t.2.2.2.2.2.2.1 t.2.2.2.2.2.2.2.1 t.2.2.2.2.2.2.2.2.1 t.2.2.2.2.2.2.2.2.2.1 t.2.2.2.2.2.2.2.2.2.2.1
noncomputable def rheostatlaw11_GridBounds_l0o (K : Nat) : LO := loopLO rheostatlaw11_GridBounds_l0h rheostatlaw11_GridBounds_l0O fun t => rheostatlaw11_GridBounds_l0u K K t
noncomputable def rheostatlaw11_GridBounds_l0C : Code := bodyOf Try.f4
noncomputable def rheostatlaw11_GridBounds_l0B : Code := (findLoops 8 (loopsIn rheostatlaw11_GridBounds_l0C)).headD .skip
theorem rheostatlaw11_GridBounds_l0F : findLoops 8 (loopsIn rheostatlaw11_GridBounds_l0C) = [rheostatlaw11_GridBounds_l0B] := by kernel_rfl
theorem rheostatlaw11_GridBounds_l0q (K n : Nat) (t : rheostatlaw11_GridBounds_l0h.T) : exC (rheostatlaw11_GridBounds_e0 K) (hdl (rheostatlaw11_GridBounds_e0 K) 0) (4 :: []) rheostatlaw11_GridBounds_l0B (rheostatlaw11_GridBounds_l0h.put t) (fun s => (rheostatlaw11_GridBounds_l0h.take s).bind fun t => rheostatlaw11_GridBounds_l0u K n t) (fun id s => rheostatlaw11_GridBounds_l0O.get (some id) s) (fun s => rheostatlaw11_GridBounds_l0O.get none s) = rheostatlaw11_GridBounds_l0u K (n + 1) t := by kernel_rfl
noncomputable def rheostatlaw11_GridBounds_l0E (K : Nat) : LoopE Try.prog := ⟨[8, 4], rheostatlaw11_GridBounds_l0o K, Try.f4, rheostatlaw11_GridBounds_l0C, rheostatlaw11_GridBounds_l0B, ⟨8, 4, [], rfl, Try.func4, by kernel_rfl, rheostatlaw11_GridBounds_l0F⟩,
  loop_rule (F := fun n t => rheostatlaw11_GridBounds_l0u K n t) (rheostatlaw11_GridBounds_t0 K) (rheostatlaw11_GridBounds_i0 K) (draws (rheostatlaw11_GridBounds_t0 K)) 0 Try.func4 (c := rheostatlaw11_GridBounds_l0C) (by kernel_rfl) (body_in rheostatlaw11_GridBounds_l0F) (ctx' := []) (h := rheostatlaw11_GridBounds_l0h) (O := rheostatlaw11_GridBounds_l0O) (fun _ => rfl) (fun m t => rheostatlaw11_GridBounds_l0q K m t) K⟩
noncomputable def rheostatlaw11_GridBounds_e1 (K : Nat) : Env := ⟨tt, [(9, rheostatlaw11_works_o K), (10, rheostatlaw11_light_o K), (11, grid_Check_o K), (13, grid_At_o K)], [], [([8, 4], rheostatlaw11_GridBounds_l0o K)], eqs⟩
theorem rheostatlaw11_GridBounds_t1 (K : Nat) : EnvT Try.prog (rheostatlaw11_GridBounds_e1 K) := envT_of tt_ok eqs_ok ⟨rheostatlaw11_works_ok K, rheostatlaw11_light_ok K, grid_Check_ok K, grid_At_ok K, trivial⟩
theorem rheostatlaw11_GridBounds_i1 (K : Nat) : EnvI Try.prog (rheostatlaw11_GridBounds_e1 K) := envI_of (es := [rheostatlaw11_GridBounds_l0E K]) trivial ⟨⟨rfl, rfl⟩, trivial⟩
noncomputable def rheostatlaw11_GridBounds_g (K : Nat) (g_0_0n : Nat) (g_0_1n : Nat) (g_0_2n : Nat) (x_1 : Int) (y_2 : Int) (m0_0 : (Nat → Int)) (m1_0 : (Nat → Int)) (m2_0 : (Nat → Int)) : Option Bool :=
  ((rheostatlaw11_works_g K).bind fun q1 => (bif (!q1.1) then (some false) else ((rheostatlaw11_light_g K g_0_0n g_0_1n g_0_2n m0_0 m1_0 m2_0).bind fun q2 => (bif (!q2.1) then (some true) else ((grid_Check_g K g_0_0n g_0_1n g_0_2n m0_0 m1_0 m2_0).bind fun q3 => (bif (q3.1 != 0) then (some true) else ((grid_At_g K g_0_0n g_0_1n g_0_2n x_1 y_2 m0_0 m1_0 m2_0).bind fun q4 => (bif (decide (0 < ((g_0_2n : Nat) : Int))) then (bif (decide (0 < ((g_0_2n : Nat) : Int))) then ((rheostatlaw11_GridBounds_l0 K K q4.1 q4.2.1 (m2_0 0) (m2_0 0) 0 g_0_0n g_0_1n g_0_2n m0_0 m1_0 m2_0).bind fun q5 => (bif (q5.2.1 == 0) then (bif (decide (q5.1 ≥ q5.2.2.1)) then (some (decide (q5.1 ≤ q5.2.2.2.1))) else (some false)) else (some false))) else none) else none))))))))
noncomputable def rheostatlaw11_GridBounds_ps : List (Bool × List WC) := [(true, [.slc [.i .i64], .slc [.i .i64], .slc [.i .i64]]), (false, [.sc (.i .i64)]), (false, [.sc (.i .i64)])]
theorem rheostatlaw11_GridBounds_q (K : Nat) (t : (shOf rheostatlaw11_GridBounds_ps).T) : exFn (rheostatlaw11_GridBounds_e1 K) (hdl (rheostatlaw11_GridBounds_e1 K) 0) [4] Try.f4 (slVals ((shOf rheostatlaw11_GridBounds_ps).put t).fr.sl) ⟨⟨0, []⟩, [], ((shOf rheostatlaw11_GridBounds_ps).put t).mem⟩ outBool = rheostatlaw11_GridBounds_g K t.1 t.2.1 t.2.2.1 t.2.2.2.1 t.2.2.2.2.1 t.2.2.2.2.2.1 t.2.2.2.2.2.2.1 t.2.2.2.2.2.2.2.1 := by kernel_rfl
theorem rheostatlaw11_GridBounds_call (K : Nat) (hb : ∀ t : (shOf rheostatlaw11_GridBounds_ps).T, argsBnd rheostatlaw11_GridBounds_ps t → rheostatlaw11_GridBounds_g K t.1 t.2.1 t.2.2.1 t.2.2.2.1 t.2.2.2.2.1 t.2.2.2.2.2.1 t.2.2.2.2.2.2.1 t.2.2.2.2.2.2.2.1 = some true) {w : World} {vals : List Value} (hp : PFits w rheostatlaw11_GridBounds_ps vals) :
    Calls Try.prog 4 vals.toArray w fun e w' => e = .returned (.bool true) ∧ RowKit.Below w.heap.size w w' :=
  call_of (rheostatlaw11_GridBounds_t1 K) (rheostatlaw11_GridBounds_i1 K) (draws (rheostatlaw11_GridBounds_t1 K)) 0 Try.func4 (by kernel_rfl) (by kernel_rfl) outBool_true (fun t ht => (rheostatlaw11_GridBounds_q K t).trans (hb t ht)) hp
/-! cmp_isNaN_int -/
noncomputable def cmp_isNaN_int_e0 (K : Nat) : Env := ⟨tt, [], [], [], eqs⟩
theorem cmp_isNaN_int_t0 (K : Nat) : EnvT Try.prog (cmp_isNaN_int_e0 K) := envT_of tt_ok eqs_ok trivial
theorem cmp_isNaN_int_i0 (K : Nat) : EnvI Try.prog (cmp_isNaN_int_e0 K) := envI_of (es := []) trivial trivial
noncomputable def cmp_isNaN_int_h : Sh := ⟨1, [(0, .sc (.i .i64))], [], []⟩
noncomputable def cmp_isNaN_int_r : Sh := ⟨1, [(0, .sc (.b))], [], []⟩
noncomputable def cmp_isNaN_int_g (K : Nat) (x_0 : Int) : Option (Bool × Unit) :=
  (some ((x_0 != x_0), ()))
noncomputable def cmp_isNaN_int_o (K : Nat) : FO := fnFO cmp_isNaN_int_h cmp_isNaN_int_r fun t => cmp_isNaN_int_g K t.1
theorem cmp_isNaN_int_q (K : Nat) (t : cmp_isNaN_int_h.T) : exFn (cmp_isNaN_int_e0 K) (hdl (cmp_isNaN_int_e0 K) 0) [73] Try.f73 (slVals (cmp_isNaN_int_h.put t).fr.sl) ⟨⟨0, []⟩, [], (cmp_isNaN_int_h.put t).mem⟩ (takeRes cmp_isNaN_int_r) = cmp_isNaN_int_g K t.1 := by kernel_rfl
theorem cmp_isNaN_int_ok (K : Nat) : FOok Try.prog 73 (cmp_isNaN_int_o K) :=
  fn_rule (cmp_isNaN_int_t0 K) (cmp_isNaN_int_i0 K) (draws (cmp_isNaN_int_t0 K)) 0 Try.func73 (fnB_ok Try.func73 (by kernel_rfl)) rfl rfl (allOwn_ok false (by kernel_rfl)) rfl (allOwn_ok true (by kernel_rfl)) (fun t => cmp_isNaN_int_q K t)
/-! cmp_Compare_int -/
noncomputable def cmp_Compare_int_e0 (K : Nat) : Env := ⟨tt, [(73, cmp_isNaN_int_o K)], [], [], eqs⟩
theorem cmp_Compare_int_t0 (K : Nat) : EnvT Try.prog (cmp_Compare_int_e0 K) := envT_of tt_ok eqs_ok ⟨cmp_isNaN_int_ok K, trivial⟩
theorem cmp_Compare_int_i0 (K : Nat) : EnvI Try.prog (cmp_Compare_int_e0 K) := envI_of (es := []) trivial trivial
noncomputable def cmp_Compare_int_h : Sh := ⟨2, [(0, .sc (.i .i64)), (1, .sc (.i .i64))], [], []⟩
noncomputable def cmp_Compare_int_r : Sh := ⟨1, [(0, .sc (.i .i64))], [], []⟩
noncomputable def cmp_Compare_int_g (K : Nat) (x_0 : Int) (y_1 : Int) : Option (Int × Unit) :=
  ((cmp_isNaN_int_g K x_0).bind fun q1 => ((cmp_isNaN_int_g K y_1).bind fun q2 => (bif q1.1 then (bif q2.1 then (some (0, ())) else (some ((-1), ()))) else (bif q2.1 then (some (1, ())) else (bif (decide (x_0 < y_1)) then (some ((-1), ())) else (bif (decide (x_0 > y_1)) then (some (1, ())) else (some (0, ()))))))))
noncomputable def cmp_Compare_int_o (K : Nat) : FO := fnFO cmp_Compare_int_h cmp_Compare_int_r fun t => cmp_Compare_int_g K t.1 t.2.1
theorem cmp_Compare_int_q (K : Nat) (t : cmp_Compare_int_h.T) : exFn (cmp_Compare_int_e0 K) (hdl (cmp_Compare_int_e0 K) 0) [65] Try.f65 (slVals (cmp_Compare_int_h.put t).fr.sl) ⟨⟨0, []⟩, [], (cmp_Compare_int_h.put t).mem⟩ (takeRes cmp_Compare_int_r) = cmp_Compare_int_g K t.1 t.2.1 := by kernel_rfl
theorem cmp_Compare_int_ok (K : Nat) : FOok Try.prog 65 (cmp_Compare_int_o K) :=
  fn_rule (cmp_Compare_int_t0 K) (cmp_Compare_int_i0 K) (draws (cmp_Compare_int_t0 K)) 0 Try.func65 (fnB_ok Try.func65 (by kernel_rfl)) rfl rfl (allOwn_ok false (by kernel_rfl)) rfl (allOwn_ok true (by kernel_rfl)) (fun t => cmp_Compare_int_q K t)
/-! table_Rises_1 -/
noncomputable def table_Rises_1_e0 (K : Nat) : Env := ⟨tt, [(65, cmp_Compare_int_o K)], [], [], eqs⟩
theorem table_Rises_1_t0 (K : Nat) : EnvT Try.prog (table_Rises_1_e0 K) := envT_of tt_ok eqs_ok ⟨cmp_Compare_int_ok K, trivial⟩
theorem table_Rises_1_i0 (K : Nat) : EnvI Try.prog (table_Rises_1_e0 K) := envI_of (es := []) trivial trivial
noncomputable def table_Rises_1_h : Sh := ⟨2, [(0, .ag [.i .i64, .i .i64]), (1, .ag [.i .i64, .i .i64])], [], []⟩
noncomputable def table_Rises_1_r : Sh := ⟨1, [(0, .sc (.i .i64))], [], []⟩
noncomputable def table_Rises_1_g (K : Nat) (a_0_0 : Int) (a_0_1 : Int) (b_1_0 : Int) (b_1_1 : Int) : Option (Int × Unit) :=
  ((cmp_Compare_int_g K a_0_1 b_1_1).bind fun q1 => (some (q1.1, ())))
noncomputable def table_Rises_1_gu (K : Nat) (t : table_Rises_1_h.T) : Option (Int × Unit) := table_Rises_1_g K t.1 t.2.1 t.2.2.1 t.2.2.2.1
noncomputable def table_Rises_1_o (K : Nat) : FO := fnFO table_Rises_1_h table_Rises_1_r fun t => table_Rises_1_gu K t
theorem table_Rises_1_q (K : Nat) (t : table_Rises_1_h.T) : exFn (table_Rises_1_e0 K) (hdl (table_Rises_1_e0 K) 0) [64] Try.f64 (slVals (table_Rises_1_h.put t).fr.sl) ⟨⟨0, []⟩, [], (table_Rises_1_h.put t).mem⟩ (takeRes table_Rises_1_r) = table_Rises_1_gu K t := by kernel_rfl
theorem table_Rises_1_ok (K : Nat) : FOok Try.prog 64 (table_Rises_1_o K) :=
  fn_rule (table_Rises_1_t0 K) (table_Rises_1_i0 K) (draws (table_Rises_1_t0 K)) 0 Try.func64 (fnB_ok Try.func64 (by kernel_rfl)) rfl rfl (allOwn_ok false (by kernel_rfl)) rfl (allOwn_ok true (by kernel_rfl)) (fun t => table_Rises_1_q K t)
/-! table_Rises -/
noncomputable def table_Rises_e0 (K : Nat) : Env := ⟨tt, [(44, table_Check_o K), (64, table_Rises_1_o K)], [(66, Try.f66)], [], eqs⟩
theorem table_Rises_t0 (K : Nat) : EnvT Try.prog (table_Rises_e0 K) := envT_of tt_ok eqs_ok ⟨table_Check_ok K, table_Rises_1_ok K, trivial⟩
theorem table_Rises_i0 (K : Nat) : EnvI Try.prog (table_Rises_e0 K) := envI_of (es := []) ⟨⟨Try.func66, by kernel_rfl⟩, trivial⟩ trivial
noncomputable def table_Rises_l0h : Sh := ⟨25, [(0, .sc (.slr0 0)), (1, .sc (.lit (.fn 64 []))), (5, .sc (.i .i64))], [(12, [(7, .sc (.b))]), (0, [])], [(false, true, [.ir .i64, .ir .i64])]⟩
noncomputable def table_Rises_l0x0 : Sh := ⟨25, [], [(12, [(7, .sc (.b))]), (0, [])], []⟩
noncomputable def table_Rises_l0x1 : Sh := ⟨25, [(4, .sc (.b))], [(12, [(7, .sc (.b))]), (0, [])], []⟩
noncomputable def table_Rises_l0O : OutI ((Bool × Unit) ⊕ (Bool × Bool × Unit)) := (OutI.or (OutI.exit 0 table_Rises_l0x0) (OutI.ret table_Rises_l0x1))
noncomputable def table_Rises_l0r (K : Nat) (rec : Nat → Int → Bool → (Nat → Int) → (Nat → Int) → Option ((Bool × Unit) ⊕ (Bool × Bool × Unit))) (x_0n : Nat) (i_5 : Int) (l0t7 : Bool) (m0_0 : (Nat → Int)) (m0_1 : (Nat → Int)) : Option ((Bool × Unit) ⊕ (Bool × Bool × Unit)) :=
  (bif (decide (i_5 > 0)) then (bif ((decide (0 ≤ i_5)) && (decide (i_5 < ((x_0n : Nat) : Int)))) then (bif ((decide (0 ≤ (wi64 (i_5 - 1)))) && (decide ((wi64 (i_5 - 1)) < ((x_0n : Nat) : Int)))) then ((table_Rises_1_g K (m0_0 (Int.toNat i_5)) (m0_1 (Int.toNat i_5)) (m0_0 (Int.toNat (wi64 (i_5 - 1)))) (m0_1 (Int.toNat (wi64 (i_5 - 1))))).bind fun q1 => (bif (decide (q1.1 < 0)) then (some (.inr (false, l0t7, ()))) else (rec x_0n (wi64 (i_5 - 1)) l0t7 m0_0 m0_1))) else none) else none) else (some (.inl (l0t7, ()))))
noncomputable def table_Rises_l0 (K n : Nat) : Nat → Int → Bool → (Nat → Int) → (Nat → Int) → Option ((Bool × Unit) ⊕ (Bool × Bool × Unit)) := Nat.rec (motive := fun _ => Nat → Int → Bool → (Nat → Int) → (Nat → Int) → Option ((Bool × Unit) ⊕ (Bool × Bool × Unit))) (fun _ _ _ _ _ => none) (fun _ ih => table_Rises_l0r K ih) n
noncomputable def table_Rises_l0u (K n : Nat) (t : table_Rises_l0h.T) : Option ((Bool × Unit) ⊕ (Bool × Bool × Unit)) := table_Rises_l0 K n t.1 t.2.1 t.2.2.1 t.2.2.2.1 t.2.2.2.2.1
noncomputable def table_Rises_l0o (K : Nat) : LO := loopLO table_Rises_l0h table_Rises_l0O fun t => table_Rises_l0u K K t
noncomputable def table_Rises_l0C : Code := bodyOf Try.f66
noncomputable def table_Rises_l0B : Code := (findLoops 2 (loopsIn table_Rises_l0C)).headD .skip
theorem table_Rises_l0F : findLoops 2 (loopsIn table_Rises_l0C) = [table_Rises_l0B] := by kernel_rfl
theorem table_Rises_l0q (K n : Nat) (t : table_Rises_l0h.T) : exC (table_Rises_e0 K) (hdl (table_Rises_e0 K) 9) (66 :: [6, 2, 50]) table_Rises_l0B (table_Rises_l0h.put t) (fun s => (table_Rises_l0h.take s).bind fun t => table_Rises_l0u K n t) (fun id s => table_Rises_l0O.get (some id) s) (fun s => table_Rises_l0O.get none s) = table_Rises_l0u K (n + 1) t := by kernel_rfl
noncomputable def table_Rises_l0E (K : Nat) : LoopE Try.prog := ⟨[2, 66, 6, 2, 50], table_Rises_l0o K, Try.f66, table_Rises_l0C, table_Rises_l0B, ⟨2, 66, [6, 2, 50], rfl, Try.func66, by kernel_rfl, table_Rises_l0F⟩,
  loop_rule (F := fun n t => table_Rises_l0u K n t) (table_Rises_t0 K) (table_Rises_i0 K) (draws (table_Rises_t0 K)) 9 Try.func66 (c := table_Rises_l0C) (by kernel_rfl) (body_in table_Rises_l0F) (ctx' := [6, 2, 50]) (h := table_Rises_l0h) (O := table_Rises_l0O) (fun _ => rfl) (fun m t => table_Rises_l0q K m t) K⟩
noncomputable def table_Rises_e1 (K : Nat) : Env := ⟨tt, [(44, table_Check_o K), (64, table_Rises_1_o K)], [(66, Try.f66)], [([2, 66, 6, 2, 50], table_Rises_l0o K)], eqs⟩
theorem table_Rises_t1 (K : Nat) : EnvT Try.prog (table_Rises_e1 K) := envT_of tt_ok eqs_ok ⟨table_Check_ok K, table_Rises_1_ok K, trivial⟩
theorem table_Rises_i1 (K : Nat) : EnvI Try.prog (table_Rises_e1 K) := envI_of (es := [table_Rises_l0E K]) ⟨⟨Try.func66, by kernel_rfl⟩, trivial⟩ ⟨⟨rfl, rfl⟩, trivial⟩
noncomputable def table_Rises_h : Sh := ⟨1, [(0, .sc (.slr0 0))], [], [(false, true, [.ir .i64, .ir .i64])]⟩
noncomputable def table_Rises_r : Sh := ⟨1, [(0, .sc (.b))], [], []⟩
noncomputable def table_Rises_g (K : Nat) (l_0n : Nat) (m0_0 : (Nat → Int)) (m0_1 : (Nat → Int)) : Option (Bool × Unit) :=
  ((table_Check_g K l_0n m0_0 m0_1).bind fun q1 => (bif (q1.1 == 0) then ((table_Rises_l0 K K l_0n (wi64 (((l_0n : Nat) : Int) - 1)) true m0_0 m0_1).bind fun q2 => (Sum.elim (fun q3 => (bif q3.1 then (some (true, ())) else (some (false, ())))) (fun q4 => (bif q4.2.1 then (some (q4.1, ())) else (some (false, ())))) q2)) else (some (false, ()))))
noncomputable def table_Rises_o (K : Nat) : FO := fnFO table_Rises_h table_Rises_r fun t => table_Rises_g K t.1 t.2.1 t.2.2.1
theorem table_Rises_q (K : Nat) (t : table_Rises_h.T) : exFn (table_Rises_e1 K) (hdl (table_Rises_e1 K) 9) [50] Try.f50 (slVals (table_Rises_h.put t).fr.sl) ⟨⟨0, []⟩, [], (table_Rises_h.put t).mem⟩ (takeRes table_Rises_r) = table_Rises_g K t.1 t.2.1 t.2.2.1 := by kernel_rfl
theorem table_Rises_ok (K : Nat) : FOok Try.prog 50 (table_Rises_o K) :=
  fn_rule (table_Rises_t1 K) (table_Rises_i1 K) (draws (table_Rises_t1 K)) 9 Try.func50 (fnB_ok Try.func50 (by kernel_rfl)) rfl rfl (allOwn_ok false (by kernel_rfl)) rfl (allOwn_ok true (by kernel_rfl)) (fun t => table_Rises_q K t)
/-! table_Back -/
noncomputable def table_Back_e0 (K : Nat) : Env := ⟨tt, [(50, table_Rises_o K), (45, table_value_o K)], [(32, Try.f32), (51, Try.f51)], [], eqs⟩
theorem table_Back_t0 (K : Nat) : EnvT Try.prog (table_Back_e0 K) := envT_of tt_ok eqs_ok ⟨table_Rises_ok K, table_value_ok K, trivial⟩
theorem table_Back_i0 (K : Nat) : EnvI Try.prog (table_Back_e0 K) := envI_of (es := []) ⟨⟨Try.func32, by kernel_rfl⟩, ⟨Try.func51, by kernel_rfl⟩, trivial⟩ trivial
noncomputable def table_Back_l0h : Sh := ⟨26, [(1, .sc (.lit (.fn 51 [.p 0 0 0 [], .p 1 0 0 [], .p 2 0 0 []]))), (5, .sc (.i .i64)), (6, .sc (.i .i64))], [(29, [(4, .sc (.i .i64)), (5, .sc (.i .i64)), (22, .sc (.i .i64))]), (0, [])], [(true, false, [.slr0 3]), (true, false, [.i .i64]), (true, false, [.i .i64]), (false, true, [.ir .i64, .ir .i64])]⟩
noncomputable def table_Back_l0x0 : Sh := ⟨26, [(5, .sc (.i .i64))], [(29, [(4, .sc (.i .i64)), (5, .sc (.i .i64)), (22, .sc (.i .i64))]), (0, [])], []⟩
noncomputable def table_Back_l0O : OutI (Int × Int × Int × Int × Unit) := (OutI.exit 0 table_Back_l0x0)
noncomputable def table_Back_l0r (K : Nat) (rec : Int → Int → Int → Int → Int → Nat → Int → Int → (Nat → Int) → (Nat → Int) → Option (Int × Int × Int × Int × Unit)) (i_5 : Int) (j_6 : Int) (l0t4 : Int) (l0t5 : Int) (l0t22 : Int) (m0_0n : Nat) (m1_0 : Int) (m2_0 : Int) (m3_0 : (Nat → Int)) (m3_1 : (Nat → Int)) : Option (Int × Int × Int × Int × Unit) :=
  (bif (decide (i_5 < j_6)) then ((table_value_g K m0_0n (wi64 (m1_0 + (wi64 ((shR .u64 (wu64 ((wi64 (i_5 + j_6)))) 1))))) m3_0 m3_1).bind fun q1 => (bif (!(decide (q1.1 ≥ m2_0))) then (rec (wi64 ((wi64 ((shR .u64 (wu64 ((wi64 (i_5 + j_6)))) 1))) + 1)) j_6 l0t4 l0t5 l0t22 m0_0n m1_0 m2_0 m3_0 m3_1) else (rec i_5 (wi64 ((shR .u64 (wu64 ((wi64 (i_5 + j_6)))) 1))) l0t4 l0t5 l0t22 m0_0n m1_0 m2_0 m3_0 m3_1))) else (some (i_5, l0t4, l0t5, l0t22, ())))
noncomputable def table_Back_l0 (K n : Nat) : Int → Int → Int → Int → Int → Nat → Int → Int → (Nat → Int) → (Nat → Int) → Option (Int × Int × Int × Int × Unit) := Nat.rec (motive := fun _ => Int → Int → Int → Int → Int → Nat → Int → Int → (Nat → Int) → (Nat → Int) → Option (Int × Int × Int × Int × Unit)) (fun _ _ _ _ _ _ _ _ _ _ => none) (fun _ ih => table_Back_l0r K ih) n
noncomputable def table_Back_l0u (K n : Nat) (t : table_Back_l0h.T) : Option (Int × Int × Int × Int × Unit) := table_Back_l0 K n t.1 t.2.1 t.2.2.1 t.2.2.2.1 t.2.2.2.2.1 t.2.2.2.2.2.1 t.2.2.2.2.2.2.1 t.2.2.2.2.2.2.2.1 t.2.2.2.2.2.2.2.2.1 t.2.2.2.2.2.2.2.2.2.1
noncomputable def table_Back_l0o (K : Nat) : LO := loopLO table_Back_l0h table_Back_l0O fun t => table_Back_l0u K K t
noncomputable def table_Back_l0C : Code := bodyOf Try.f32
noncomputable def table_Back_l0B : Code := (findLoops 2 (loopsIn table_Back_l0C)).headD .skip
theorem table_Back_l0F : findLoops 2 (loopsIn table_Back_l0C) = [table_Back_l0B] := by kernel_rfl
theorem table_Back_l0q (K n : Nat) (t : table_Back_l0h.T) : exC (table_Back_e0 K) (hdl (table_Back_e0 K) 9) (32 :: [5, 2031620, 37]) table_Back_l0B (table_Back_l0h.put t) (fun s => (table_Back_l0h.take s).bind fun t => table_Back_l0u K n t) (fun id s => table_Back_l0O.get (some id) s) (fun s => table_Back_l0O.get none s) = table_Back_l0u K (n + 1) t := by kernel_rfl
noncomputable def table_Back_l0E (K : Nat) : LoopE Try.prog := ⟨[2, 32, 5, 2031620, 37], table_Back_l0o K, Try.f32, table_Back_l0C, table_Back_l0B, ⟨2, 32, [5, 2031620, 37], rfl, Try.func32, by kernel_rfl, table_Back_l0F⟩,
  loop_rule (F := fun n t => table_Back_l0u K n t) (table_Back_t0 K) (table_Back_i0 K) (draws (table_Back_t0 K)) 9 Try.func32 (c := table_Back_l0C) (by kernel_rfl) (body_in table_Back_l0F) (ctx' := [5, 2031620, 37]) (h := table_Back_l0h) (O := table_Back_l0O) (fun _ => rfl) (fun m t => table_Back_l0q K m t) K⟩
noncomputable def table_Back_e1 (K : Nat) : Env := ⟨tt, [(50, table_Rises_o K), (45, table_value_o K)], [(32, Try.f32), (51, Try.f51)], [([2, 32, 5, 2031620, 37], table_Back_l0o K)], eqs⟩
theorem table_Back_t1 (K : Nat) : EnvT Try.prog (table_Back_e1 K) := envT_of tt_ok eqs_ok ⟨table_Rises_ok K, table_value_ok K, trivial⟩
theorem table_Back_i1 (K : Nat) : EnvI Try.prog (table_Back_e1 K) := envI_of (es := [table_Back_l0E K]) ⟨⟨Try.func32, by kernel_rfl⟩, ⟨Try.func51, by kernel_rfl⟩, trivial⟩ ⟨⟨rfl, rfl⟩, trivial⟩
noncomputable def table_Back_l1h : Sh := ⟨26, [(1, .sc (.lit (.fn 51 [.p 0 0 0 [], .p 1 0 0 [], .p 2 0 0 []]))), (5, .sc (.i .i64)), (6, .sc (.i .i64))], [(29, [(4, .sc (.i .i64)), (5, .sc (.i .i64)), (6, .sc (.lit (.p 1 0 0 [])))]), (0, [])], [(true, false, [.slr0 3]), (true, false, [.i .i64]), (true, false, [.i .i64]), (false, true, [.ir .i64, .ir .i64])]⟩
noncomputable def table_Back_l1x0 : Sh := ⟨26, [(5, .sc (.i .i64))], [(29, [(4, .sc (.i .i64)), (5, .sc (.i .i64)), (6, .sc (.lit (.p 0 0 0 [])))]), (0, [])], [(true, false, [.i .i64])]⟩
noncomputable def table_Back_l1O : OutI (Int × Int × Int × Int × Unit) := (OutI.exit 0 table_Back_l1x0)
noncomputable def table_Back_l1r (K : Nat) (rec : Int → Int → Int → Int → Nat → Int → Int → (Nat → Int) → (Nat → Int) → Option (Int × Int × Int × Int × Unit)) (i_5 : Int) (j_6 : Int) (l0t4 : Int) (l0t5 : Int) (m0_0n : Nat) (m1_0 : Int) (m2_0 : Int) (m3_0 : (Nat → Int)) (m3_1 : (Nat → Int)) : Option (Int × Int × Int × Int × Unit) :=
  (bif (decide (i_5 < j_6)) then ((table_value_g K m0_0n (wi64 (m1_0 + (wi64 ((shR .u64 (wu64 ((wi64 (i_5 + j_6)))) 1))))) m3_0 m3_1).bind fun q1 => (bif (!(decide (q1.1 ≥ m2_0))) then (rec (wi64 ((wi64 ((shR .u64 (wu64 ((wi64 (i_5 + j_6)))) 1))) + 1)) j_6 l0t4 l0t5 m0_0n m1_0 m2_0 m3_0 m3_1) else (rec i_5 (wi64 ((shR .u64 (wu64 ((wi64 (i_5 + j_6)))) 1))) l0t4 l0t5 m0_0n m1_0 m2_0 m3_0 m3_1))) else (some (i_5, l0t4, l0t5, m1_0, ())))
noncomputable def table_Back_l1 (K n : Nat) : Int → Int → Int → Int → Nat → Int → Int → (Nat → Int) → (Nat → Int) → Option (Int × Int × Int × Int × Unit) := Nat.rec (motive := fun _ => Int → Int → Int → Int → Nat → Int → Int → (Nat → Int) → (Nat → Int) → Option (Int × Int × Int × Int × Unit)) (fun _ _ _ _ _ _ _ _ _ => none) (fun _ ih => table_Back_l1r K ih) n
noncomputable def table_Back_l1u (K n : Nat) (t : table_Back_l1h.T) : Option (Int × Int × Int × Int × Unit) := table_Back_l1 K n t.1 t.2.1 t.2.2.1 t.2.2.2.1 t.2.2.2.2.1 t.2.2.2.2.2.1 t.2.2.2.2.2.2.1 t.2.2.2.2.2.2.2.1 t.2.2.2.2.2.2.2.2.1
noncomputable def table_Back_l1o (K : Nat) : LO := loopLO table_Back_l1h table_Back_l1O fun t => table_Back_l1u K K t
noncomputable def table_Back_l1C : Code := bodyOf Try.f32
noncomputable def table_Back_l1B : Code := (findLoops 2 (loopsIn table_Back_l1C)).headD .skip
theorem table_Back_l1F : findLoops 2 (loopsIn table_Back_l1C) = [table_Back_l1B] := by kernel_rfl
theorem table_Back_l1q (K n : Nat) (t : table_Back_l1h.T) : exC (table_Back_e1 K) (hdl (table_Back_e1 K) 9) (32 :: [5, 1966084, 37]) table_Back_l1B (table_Back_l1h.put t) (fun s => (table_Back_l1h.take s).bind fun t => table_Back_l1u K n t) (fun id s => table_Back_l1O.get (some id) s) (fun s => table_Back_l1O.get none s) = table_Back_l1u K (n + 1) t := by kernel_rfl
noncomputable def table_Back_l1E (K : Nat) : LoopE Try.prog := ⟨[2, 32, 5, 1966084, 37], table_Back_l1o K, Try.f32, table_Back_l1C, table_Back_l1B, ⟨2, 32, [5, 1966084, 37], rfl, Try.func32, by kernel_rfl, table_Back_l1F⟩,
  loop_rule (F := fun n t => table_Back_l1u K n t) (table_Back_t1 K) (table_Back_i1 K) (draws (table_Back_t1 K)) 9 Try.func32 (c := table_Back_l1C) (by kernel_rfl) (body_in table_Back_l1F) (ctx' := [5, 1966084, 37]) (h := table_Back_l1h) (O := table_Back_l1O) (fun _ => rfl) (fun m t => table_Back_l1q K m t) K⟩
noncomputable def table_Back_e2 (K : Nat) : Env := ⟨tt, [(50, table_Rises_o K), (45, table_value_o K)], [(32, Try.f32), (51, Try.f51)], [([2, 32, 5, 2031620, 37], table_Back_l0o K), ([2, 32, 5, 1966084, 37], table_Back_l1o K)], eqs⟩
theorem table_Back_t2 (K : Nat) : EnvT Try.prog (table_Back_e2 K) := envT_of tt_ok eqs_ok ⟨table_Rises_ok K, table_value_ok K, trivial⟩
theorem table_Back_i2 (K : Nat) : EnvI Try.prog (table_Back_e2 K) := envI_of (es := [table_Back_l0E K, table_Back_l1E K]) ⟨⟨Try.func32, by kernel_rfl⟩, ⟨Try.func51, by kernel_rfl⟩, trivial⟩ ⟨⟨rfl, rfl⟩, ⟨rfl, rfl⟩, trivial⟩
noncomputable def table_Back_h : Sh := ⟨2, [(0, .sc (.slr0 0)), (1, .sc (.i .i64))], [], [(false, true, [.ir .i64, .ir .i64])]⟩
noncomputable def table_Back_r : Sh := ⟨2, [(0, .sc (.i .i64)), (1, .sc (.i .i64))], [], []⟩
noncomputable def table_Back_g (K : Nat) (l_0n : Nat) (y_1 : Int) (m0_0 : (Nat → Int)) (m0_1 : (Nat → Int)) : Option (Int × Int × Unit) :=
  ((table_Rises_g K l_0n m0_0 m0_1).bind fun q1 => (bif (!q1.1) then (some (0, 100, ())) else (bif (decide (0 < ((l_0n : Nat) : Int))) then (bif ((decide (0 ≤ (wi64 (((l_0n : Nat) : Int) - 1)))) && (decide ((wi64 (((l_0n : Nat) : Int) - 1)) < ((l_0n : Nat) : Int)))) then (agree ((table_Back_l0 K K 0 (wi64 ((m0_0 (Int.toNat (wi64 (((l_0n : Nat) : Int) - 1)))) - (m0_0 0))) 0 0 (m0_0 0) l_0n (m0_0 0) y_1 m0_0 m0_1).bind fun q2 => (some ((wi64 (q2.2.2.2.1 + q2.1)), 0, ()))) (agree ((table_Back_l0 K K 0 (wi64 ((m0_0 (Int.toNat (wi64 (((l_0n : Nat) : Int) - 1)))) - (m0_0 0))) 0 0 (m0_0 0) l_0n (m0_0 0) y_1 m0_0 m0_1).bind fun q2 => (some ((wi64 (q2.2.2.2.1 + q2.1)), 0, ()))) ((table_Back_l1 K K 0 (wi64 ((m0_0 (Int.toNat (wi64 (((l_0n : Nat) : Int) - 1)))) - (m0_0 0))) 0 0 l_0n (m0_0 0) y_1 m0_0 m0_1).bind fun q2 => (some ((wi64 (q2.2.2.2.1 + q2.1)), 0, ()))))) else none) else none)))
noncomputable def table_Back_gu (K : Nat) (t : table_Back_h.T) : Option (Int × Int × Unit) := table_Back_g K t.1 t.2.1 t.2.2.1 t.2.2.2.1
noncomputable def table_Back_o (K : Nat) : FO := fnFO table_Back_h table_Back_r fun t => table_Back_gu K t
theorem table_Back_q (K : Nat) (t : table_Back_h.T) : exFn (table_Back_e2 K) (hdl (table_Back_e2 K) 9) [37] Try.f37 (slVals (table_Back_h.put t).fr.sl) ⟨⟨0, []⟩, [], (table_Back_h.put t).mem⟩ (takeRes table_Back_r) = table_Back_gu K t := by kernel_rfl
theorem table_Back_ok (K : Nat) : FOok Try.prog 37 (table_Back_o K) :=
  fn_rule (table_Back_t2 K) (table_Back_i2 K) (draws (table_Back_t2 K)) 9 Try.func37 (fnB_ok Try.func37 (by kernel_rfl)) rfl rfl (allOwn_ok false (by kernel_rfl)) rfl (allOwn_ok true (by kernel_rfl)) (fun t => table_Back_q K t)
/-! grid_Back -/
noncomputable def grid_Back_e0 (K : Nat) : Env := ⟨tt, [(15, grid_Column_o K), (37, table_Back_o K)], [], [], eqs⟩
theorem grid_Back_t0 (K : Nat) : EnvT Try.prog (grid_Back_e0 K) := envT_of tt_ok eqs_ok ⟨grid_Column_ok K, table_Back_ok K, trivial⟩
theorem grid_Back_i0 (K : Nat) : EnvI Try.prog (grid_Back_e0 K) := envI_of (es := []) trivial trivial
noncomputable def grid_Back_h : Sh := ⟨3, [(0, .ag [.slr0 0, .slr0 1, .slr0 2]), (1, .sc (.i .i64)), (2, .sc (.i .i64))], [], [(false, true, [.ir .i64]), (false, true, [.ir .i64]), (false, true, [.ir .i64])]⟩
noncomputable def grid_Back_r : Sh := ⟨2, [(0, .sc (.i .i64)), (1, .sc (.i .i64))], [], []⟩
noncomputable def grid_Back_g (K : Nat) (g_0_0n : Nat) (g_0_1n : Nat) (g_0_2n : Nat) (z_1 : Int) (y_2 : Int) (m0_0 : (Nat → Int)) (m1_0 : (Nat → Int)) (m2_0 : (Nat → Int)) : Option (Int × Int × Unit) :=
  ((grid_Column_g K g_0_0n g_0_1n g_0_2n y_2 m0_0 m1_0 m2_0).bind fun q1 => (bif (q1.2.1 != 0) then (some (0, q1.2.1, ())) else ((table_Back_g K q1.1 z_1 q1.2.2.1 q1.2.2.2.1).bind fun q2 => (some (q2.1, q2.2.1, ())))))
noncomputable def grid_Back_gu (K : Nat) (t : grid_Back_h.T) : Option (Int × Int × Unit) := grid_Back_g K t.1 t.2.1 t.2.2.1 t.2.2.2.1 t.2.2.2.2.1 t.2.2.2.2.2.1 t.2.2.2.2.2.2.1 t.2.2.2.2.2.2.2.1
noncomputable def grid_Back_o (K : Nat) : FO := fnFO grid_Back_h grid_Back_r fun t => grid_Back_gu K t
theorem grid_Back_q (K : Nat) (t : grid_Back_h.T) : exFn (grid_Back_e0 K) (hdl (grid_Back_e0 K) 0) [20] Try.f20 (slVals (grid_Back_h.put t).fr.sl) ⟨⟨0, []⟩, [], (grid_Back_h.put t).mem⟩ (takeRes grid_Back_r) = grid_Back_gu K t := by kernel_rfl
theorem grid_Back_ok (K : Nat) : FOok Try.prog 20 (grid_Back_o K) :=
  fn_rule (grid_Back_t0 K) (grid_Back_i0 K) (draws (grid_Back_t0 K)) 0 Try.func20 (fnB_ok Try.func20 (by kernel_rfl)) rfl rfl (allOwn_ok false (by kernel_rfl)) rfl (allOwn_ok true (by kernel_rfl)) (fun t => grid_Back_q K t)
/-! rheostatref10_within -/
noncomputable def rheostatref10_within_e0 (K : Nat) : Env := ⟨tt, [], [], [], eqs⟩
theorem rheostatref10_within_t0 (K : Nat) : EnvT Try.prog (rheostatref10_within_e0 K) := envT_of tt_ok eqs_ok trivial
theorem rheostatref10_within_i0 (K : Nat) : EnvI Try.prog (rheostatref10_within_e0 K) := envI_of (es := []) trivial trivial
noncomputable def rheostatref10_within_h : Sh := ⟨1, [(0, .sc (.i .i64))], [], []⟩
noncomputable def rheostatref10_within_r : Sh := ⟨1, [(0, .sc (.b))], [], []⟩
noncomputable def rheostatref10_within_g (K : Nat) (n_0 : Int) : Option (Bool × Unit) :=
  (bif (decide (n_0 ≥ (-2147483648))) then (some ((decide (n_0 ≤ 2147483648)), ())) else (some (false, ())))
noncomputable def rheostatref10_within_o (K : Nat) : FO := fnFO rheostatref10_within_h rheostatref10_within_r fun t => rheostatref10_within_g K t.1
theorem rheostatref10_within_q (K : Nat) (t : rheostatref10_within_h.T) : exFn (rheostatref10_within_e0 K) (hdl (rheostatref10_within_e0 K) 0) [46] Try.f46 (slVals (rheostatref10_within_h.put t).fr.sl) ⟨⟨0, []⟩, [], (rheostatref10_within_h.put t).mem⟩ (takeRes rheostatref10_within_r) = rheostatref10_within_g K t.1 := by kernel_rfl
theorem rheostatref10_within_ok (K : Nat) : FOok Try.prog 46 (rheostatref10_within_o K) :=
  fn_rule (rheostatref10_within_t0 K) (rheostatref10_within_i0 K) (draws (rheostatref10_within_t0 K)) 0 Try.func46 (fnB_ok Try.func46 (by kernel_rfl)) rfl rfl (allOwn_ok false (by kernel_rfl)) rfl (allOwn_ok true (by kernel_rfl)) (fun t => rheostatref10_within_q K t)
/-! rheostatref10_Check -/
noncomputable def rheostatref10_Check_e0 (K : Nat) : Env := ⟨tt, [(46, rheostatref10_within_o K)], [], [], eqs⟩
theorem rheostatref10_Check_t0 (K : Nat) : EnvT Try.prog (rheostatref10_Check_e0 K) := envT_of tt_ok eqs_ok ⟨rheostatref10_within_ok K, trivial⟩
theorem rheostatref10_Check_i0 (K : Nat) : EnvI Try.prog (rheostatref10_Check_e0 K) := envI_of (es := []) trivial trivial
noncomputable def rheostatref10_Check_l0h : Sh := ⟨52, [(0, .sc (.slr0 0)), (3, .sc (.i .i64))], [(0, [])], [(false, true, [.ir .i64, .ir .i64])]⟩
noncomputable def rheostatref10_Check_l0x0 : Sh := ⟨52, [], [(0, [])], []⟩
noncomputable def rheostatref10_Check_l0x1 : Sh := ⟨52, [(2, .sc (.i .i64))], [(0, [])], []⟩
noncomputable def rheostatref10_Check_l0O : OutI ((Unit) ⊕ (Int × Unit)) := (OutI.or (OutI.exit 0 rheostatref10_Check_l0x0) (OutI.ret rheostatref10_Check_l0x1))
noncomputable def rheostatref10_Check_l0r (K : Nat) (rec : Nat → Int → (Nat → Int) → (Nat → Int) → Option ((Unit) ⊕ (Int × Unit))) (l_0n : Nat) (i_3 : Int) (m0_0 : (Nat → Int)) (m0_1 : (Nat → Int)) : Option ((Unit) ⊕ (Int × Unit)) :=
  (bif (decide (i_3 < ((l_0n : Nat) : Int))) then (bif ((decide (0 ≤ i_3)) && (decide (i_3 < ((l_0n : Nat) : Int)))) then ((rheostatref10_within_g K (m0_0 (Int.toNat i_3))).bind fun q1 => (bif (!q1.1) then (some (.inr (100, ()))) else (bif ((decide (0 ≤ i_3)) && (decide (i_3 < ((l_0n : Nat) : Int)))) then ((rheostatref10_within_g K (m0_1 (Int.toNat i_3))).bind fun q2 => (bif (!q2.1) then (some (.inr (100, ()))) else (bif (decide (i_3 > 0)) then (bif ((decide (0 ≤ (wi64 (i_3 - 1)))) && (decide ((wi64 (i_3 - 1)) < ((l_0n : Nat) : Int)))) then (bif ((decide (0 ≤ i_3)) && (decide (i_3 < ((l_0n : Nat) : Int)))) then (bif (decide ((m0_0 (Int.toNat (wi64 (i_3 - 1)))) ≥ (m0_0 (Int.toNat i_3)))) then (some (.inr (100, ()))) else (rec l_0n (wi64 (i_3 + 1)) m0_0 m0_1)) else none) else none) else (rec l_0n (wi64 (i_3 + 1)) m0_0 m0_1)))) else none))) else none) else (some (.inl (()))))
noncomputable def rheostatref10_Check_l0 (K n : Nat) : Nat → Int → (Nat → Int) → (Nat → Int) → Option ((Unit) ⊕ (Int × Unit)) := Nat.rec (motive := fun _ => Nat → Int → (Nat → Int) → (Nat → Int) → Option ((Unit) ⊕ (Int × Unit))) (fun _ _ _ _ => none) (fun _ ih => rheostatref10_Check_l0r K ih) n
noncomputable def rheostatref10_Check_l0u (K n : Nat) (t : rheostatref10_Check_l0h.T) : Option ((Unit) ⊕ (Int × Unit)) := rheostatref10_Check_l0 K n t.1 t.2.1 t.2.2.1 t.2.2.2.1
noncomputable def rheostatref10_Check_l0o (K : Nat) : LO := loopLO rheostatref10_Check_l0h rheostatref10_Check_l0O fun t => rheostatref10_Check_l0u K K t
noncomputable def rheostatref10_Check_l0C : Code := bodyOf Try.f30
noncomputable def rheostatref10_Check_l0B : Code := (findLoops 4 (loopsIn rheostatref10_Check_l0C)).headD .skip
theorem rheostatref10_Check_l0F : findLoops 4 (loopsIn rheostatref10_Check_l0C) = [rheostatref10_Check_l0B] := by kernel_rfl
theorem rheostatref10_Check_l0q (K n : Nat) (t : rheostatref10_Check_l0h.T) : exC (rheostatref10_Check_e0 K) (hdl (rheostatref10_Check_e0 K) 0) (30 :: []) rheostatref10_Check_l0B (rheostatref10_Check_l0h.put t) (fun s => (rheostatref10_Check_l0h.take s).bind fun t => rheostatref10_Check_l0u K n t) (fun id s => rheostatref10_Check_l0O.get (some id) s) (fun s => rheostatref10_Check_l0O.get none s) = rheostatref10_Check_l0u K (n + 1) t := by kernel_rfl
noncomputable def rheostatref10_Check_l0E (K : Nat) : LoopE Try.prog := ⟨[4, 30], rheostatref10_Check_l0o K, Try.f30, rheostatref10_Check_l0C, rheostatref10_Check_l0B, ⟨4, 30, [], rfl, Try.func30, by kernel_rfl, rheostatref10_Check_l0F⟩,
  loop_rule (F := fun n t => rheostatref10_Check_l0u K n t) (rheostatref10_Check_t0 K) (rheostatref10_Check_i0 K) (draws (rheostatref10_Check_t0 K)) 0 Try.func30 (c := rheostatref10_Check_l0C) (by kernel_rfl) (body_in rheostatref10_Check_l0F) (ctx' := []) (h := rheostatref10_Check_l0h) (O := rheostatref10_Check_l0O) (fun _ => rfl) (fun m t => rheostatref10_Check_l0q K m t) K⟩
noncomputable def rheostatref10_Check_e1 (K : Nat) : Env := ⟨tt, [(46, rheostatref10_within_o K)], [], [([4, 30], rheostatref10_Check_l0o K)], eqs⟩
theorem rheostatref10_Check_t1 (K : Nat) : EnvT Try.prog (rheostatref10_Check_e1 K) := envT_of tt_ok eqs_ok ⟨rheostatref10_within_ok K, trivial⟩
theorem rheostatref10_Check_i1 (K : Nat) : EnvI Try.prog (rheostatref10_Check_e1 K) := envI_of (es := [rheostatref10_Check_l0E K]) trivial ⟨⟨rfl, rfl⟩, trivial⟩
noncomputable def rheostatref10_Check_h : Sh := ⟨1, [(0, .sc (.slr0 0))], [], [(false, true, [.ir .i64, .ir .i64])]⟩
noncomputable def rheostatref10_Check_r : Sh := ⟨1, [(0, .sc (.i .i64))], [], []⟩
noncomputable def rheostatref10_Check_g (K : Nat) (l_0n : Nat) (m0_0 : (Nat → Int)) (m0_1 : (Nat → Int)) : Option (Int × Unit) :=
  (bif (decide (((l_0n : Nat) : Int) < 2)) then (some (100, ())) else (bif (decide (((l_0n : Nat) : Int) > 256)) then (some (100, ())) else ((rheostatref10_Check_l0 K K l_0n 0 m0_0 m0_1).bind fun q1 => (Sum.elim (fun q2 => (some (0, ()))) (fun q3 => (some (q3.1, ()))) q1))))
noncomputable def rheostatref10_Check_o (K : Nat) : FO := fnFO rheostatref10_Check_h rheostatref10_Check_r fun t => rheostatref10_Check_g K t.1 t.2.1 t.2.2.1
theorem rheostatref10_Check_q (K : Nat) (t : rheostatref10_Check_h.T) : exFn (rheostatref10_Check_e1 K) (hdl (rheostatref10_Check_e1 K) 0) [30] Try.f30 (slVals (rheostatref10_Check_h.put t).fr.sl) ⟨⟨0, []⟩, [], (rheostatref10_Check_h.put t).mem⟩ (takeRes rheostatref10_Check_r) = rheostatref10_Check_g K t.1 t.2.1 t.2.2.1 := by kernel_rfl
theorem rheostatref10_Check_ok (K : Nat) : FOok Try.prog 30 (rheostatref10_Check_o K) :=
  fn_rule (rheostatref10_Check_t1 K) (rheostatref10_Check_i1 K) (draws (rheostatref10_Check_t1 K)) 0 Try.func30 (fnB_ok Try.func30 (by kernel_rfl)) rfl rfl (allOwn_ok false (by kernel_rfl)) rfl (allOwn_ok true (by kernel_rfl)) (fun t => rheostatref10_Check_q K t)
/-! rheostatref10_Rises -/
noncomputable def rheostatref10_Rises_e0 (K : Nat) : Env := ⟨tt, [(30, rheostatref10_Check_o K)], [], [], eqs⟩
theorem rheostatref10_Rises_t0 (K : Nat) : EnvT Try.prog (rheostatref10_Rises_e0 K) := envT_of tt_ok eqs_ok ⟨rheostatref10_Check_ok K, trivial⟩
theorem rheostatref10_Rises_i0 (K : Nat) : EnvI Try.prog (rheostatref10_Rises_e0 K) := envI_of (es := []) trivial trivial
noncomputable def rheostatref10_Rises_l0h : Sh := ⟨25, [(0, .sc (.slr0 0)), (3, .sc (.i .i64))], [(0, [])], [(false, true, [.ir .i64, .ir .i64])]⟩
noncomputable def rheostatref10_Rises_l0x0 : Sh := ⟨25, [(0, .sc (.slr0 0))], [(0, [])], [(false, true, [.ir .i64, .ir .i64])]⟩
noncomputable def rheostatref10_Rises_l0x1 : Sh := ⟨25, [(2, .sc (.b))], [(0, [])], []⟩
noncomputable def rheostatref10_Rises_l0O : OutI ((Nat × (Nat → Int) × (Nat → Int) × Unit) ⊕ (Bool × Unit)) := (OutI.or (OutI.exit 0 rheostatref10_Rises_l0x0) (OutI.ret rheostatref10_Rises_l0x1))
noncomputable def rheostatref10_Rises_l0r (K : Nat) (rec : Nat → Int → (Nat → Int) → (Nat → Int) → Option ((Nat × (Nat → Int) × (Nat → Int) × Unit) ⊕ (Bool × Unit))) (l_0n : Nat) (i_3 : Int) (m0_0 : (Nat → Int)) (m0_1 : (Nat → Int)) : Option ((Nat × (Nat → Int) × (Nat → Int) × Unit) ⊕ (Bool × Unit)) :=
  (bif (decide (i_3 < ((l_0n : Nat) : Int))) then (bif ((decide (0 ≤ i_3)) && (decide (i_3 < ((l_0n : Nat) : Int)))) then (bif ((decide (0 ≤ (wi64 (i_3 - 1)))) && (decide ((wi64 (i_3 - 1)) < ((l_0n : Nat) : Int)))) then (bif (decide ((m0_1 (Int.toNat i_3)) < (m0_1 (Int.toNat (wi64 (i_3 - 1)))))) then (some (.inr (false, ()))) else (rec l_0n (wi64 (i_3 + 1)) m0_0 m0_1)) else none) else none) else (some (.inl (l_0n, m0_0, m0_1, ()))))
noncomputable def rheostatref10_Rises_l0 (K n : Nat) : Nat → Int → (Nat → Int) → (Nat → Int) → Option ((Nat × (Nat → Int) × (Nat → Int) × Unit) ⊕ (Bool × Unit)) := Nat.rec (motive := fun _ => Nat → Int → (Nat → Int) → (Nat → Int) → Option ((Nat × (Nat → Int) × (Nat → Int) × Unit) ⊕ (Bool × Unit))) (fun _ _ _ _ => none) (fun _ ih => rheostatref10_Rises_l0r K ih) n
noncomputable def rheostatref10_Rises_l0u (K n : Nat) (t : rheostatref10_Rises_l0h.T) : Option ((Nat × (Nat → Int) × (Nat → Int) × Unit) ⊕ (Bool × Unit)) := rheostatref10_Rises_l0 K n t.1 t.2.1 t.2.2.1 t.2.2.2.1
noncomputable def rheostatref10_Rises_l0o (K : Nat) : LO := loopLO rheostatref10_Rises_l0h rheostatref10_Rises_l0O fun t => rheostatref10_Rises_l0u K K t
noncomputable def rheostatref10_Rises_l0C : Code := bodyOf Try.f21
noncomputable def rheostatref10_Rises_l0B : Code := (findLoops 2 (loopsIn rheostatref10_Rises_l0C)).headD .skip
theorem rheostatref10_Rises_l0F : findLoops 2 (loopsIn rheostatref10_Rises_l0C) = [rheostatref10_Rises_l0B] := by kernel_rfl
theorem rheostatref10_Rises_l0q (K n : Nat) (t : rheostatref10_Rises_l0h.T) : exC (rheostatref10_Rises_e0 K) (hdl (rheostatref10_Rises_e0 K) 0) (21 :: []) rheostatref10_Rises_l0B (rheostatref10_Rises_l0h.put t) (fun s => (rheostatref10_Rises_l0h.take s).bind fun t => rheostatref10_Rises_l0u K n t) (fun id s => rheostatref10_Rises_l0O.get (some id) s) (fun s => rheostatref10_Rises_l0O.get none s) = rheostatref10_Rises_l0u K (n + 1) t := by kernel_rfl
noncomputable def rheostatref10_Rises_l0E (K : Nat) : LoopE Try.prog := ⟨[2, 21], rheostatref10_Rises_l0o K, Try.f21, rheostatref10_Rises_l0C, rheostatref10_Rises_l0B, ⟨2, 21, [], rfl, Try.func21, by kernel_rfl, rheostatref10_Rises_l0F⟩,
  loop_rule (F := fun n t => rheostatref10_Rises_l0u K n t) (rheostatref10_Rises_t0 K) (rheostatref10_Rises_i0 K) (draws (rheostatref10_Rises_t0 K)) 0 Try.func21 (c := rheostatref10_Rises_l0C) (by kernel_rfl) (body_in rheostatref10_Rises_l0F) (ctx' := []) (h := rheostatref10_Rises_l0h) (O := rheostatref10_Rises_l0O) (fun _ => rfl) (fun m t => rheostatref10_Rises_l0q K m t) K⟩
noncomputable def rheostatref10_Rises_e1 (K : Nat) : Env := ⟨tt, [(30, rheostatref10_Check_o K)], [], [([2, 21], rheostatref10_Rises_l0o K)], eqs⟩
theorem rheostatref10_Rises_t1 (K : Nat) : EnvT Try.prog (rheostatref10_Rises_e1 K) := envT_of tt_ok eqs_ok ⟨rheostatref10_Check_ok K, trivial⟩
theorem rheostatref10_Rises_i1 (K : Nat) : EnvI Try.prog (rheostatref10_Rises_e1 K) := envI_of (es := [rheostatref10_Rises_l0E K]) trivial ⟨⟨rfl, rfl⟩, trivial⟩
noncomputable def rheostatref10_Rises_h : Sh := ⟨1, [(0, .sc (.slr0 0))], [], [(false, true, [.ir .i64, .ir .i64])]⟩
noncomputable def rheostatref10_Rises_r : Sh := ⟨1, [(0, .sc (.b))], [], []⟩
noncomputable def rheostatref10_Rises_g (K : Nat) (l_0n : Nat) (m0_0 : (Nat → Int)) (m0_1 : (Nat → Int)) : Option (Bool × Unit) :=
  ((rheostatref10_Rises_l0 K K l_0n 1 m0_0 m0_1).bind fun q1 => (Sum.elim (fun q2 => ((rheostatref10_Check_g K q2.1 q2.2.1 q2.2.2.1).bind fun q4 => (some ((q4.1 == 0), ())))) (fun q3 => (some (q3.1, ()))) q1))
noncomputable def rheostatref10_Rises_o (K : Nat) : FO := fnFO rheostatref10_Rises_h rheostatref10_Rises_r fun t => rheostatref10_Rises_g K t.1 t.2.1 t.2.2.1
theorem rheostatref10_Rises_q (K : Nat) (t : rheostatref10_Rises_h.T) : exFn (rheostatref10_Rises_e1 K) (hdl (rheostatref10_Rises_e1 K) 0) [21] Try.f21 (slVals (rheostatref10_Rises_h.put t).fr.sl) ⟨⟨0, []⟩, [], (rheostatref10_Rises_h.put t).mem⟩ (takeRes rheostatref10_Rises_r) = rheostatref10_Rises_g K t.1 t.2.1 t.2.2.1 := by kernel_rfl
theorem rheostatref10_Rises_ok (K : Nat) : FOok Try.prog 21 (rheostatref10_Rises_o K) :=
  fn_rule (rheostatref10_Rises_t1 K) (rheostatref10_Rises_i1 K) (draws (rheostatref10_Rises_t1 K)) 0 Try.func21 (fnB_ok Try.func21 (by kernel_rfl)) rfl rfl (allOwn_ok false (by kernel_rfl)) rfl (allOwn_ok true (by kernel_rfl)) (fun t => rheostatref10_Rises_q K t)
/-! rheostatlaw11_GridRises -/
noncomputable def rheostatlaw11_GridRises_e0 (K : Nat) : Env := ⟨tt, [(9, rheostatlaw11_works_o K), (10, rheostatlaw11_light_o K), (19, grid_Rises_o K), (15, grid_Column_o K), (13, grid_At_o K), (20, grid_Back_o K), (21, rheostatref10_Rises_o K)], [], [], eqs⟩
theorem rheostatlaw11_GridRises_t0 (K : Nat) : EnvT Try.prog (rheostatlaw11_GridRises_e0 K) := envT_of tt_ok eqs_ok ⟨rheostatlaw11_works_ok K, rheostatlaw11_light_ok K, grid_Rises_ok K, grid_Column_ok K, grid_At_ok K, grid_Back_ok K, rheostatref10_Rises_ok K, trivial⟩
theorem rheostatlaw11_GridRises_i0 (K : Nat) : EnvI Try.prog (rheostatlaw11_GridRises_e0 K) := envI_of (es := []) trivial trivial
noncomputable def rheostatlaw11_GridRises_g (K : Nat) (g_0_0n : Nat) (g_0_1n : Nat) (g_0_2n : Nat) (y_1 : Int) (a_2 : Int) (b_3 : Int) (m0_0 : (Nat → Int)) (m1_0 : (Nat → Int)) (m2_0 : (Nat → Int)) : Option Bool :=
  ((rheostatlaw11_works_g K).bind fun q1 => (bif (!q1.1) then (some false) else ((rheostatlaw11_light_g K g_0_0n g_0_1n g_0_2n m0_0 m1_0 m2_0).bind fun q2 => (bif (!q2.1) then (some true) else ((grid_Rises_g K g_0_0n g_0_1n g_0_2n m0_0 m1_0 m2_0).bind fun q3 => (bif (!q3.1) then (some true) else ((grid_Column_g K g_0_0n g_0_1n g_0_2n y_1 m0_0 m1_0 m2_0).bind fun q4 => ((grid_At_g K g_0_0n g_0_1n g_0_2n (bif (decide (b_3 < a_2)) then b_3 else a_2) y_1 m0_0 m1_0 m2_0).bind fun q5 => ((grid_At_g K g_0_0n g_0_1n g_0_2n (bif (decide (b_3 > a_2)) then b_3 else a_2) y_1 m0_0 m1_0 m2_0).bind fun q6 => ((grid_Back_g K g_0_0n g_0_1n g_0_2n a_2 y_1 m0_0 m1_0 m2_0).bind fun q7 => (bif (q4.2.1 == 0) then ((rheostatref10_Rises_g K q4.1 q4.2.2.1 q4.2.2.2.1).bind fun q8 => (bif q8.1 then (bif (q5.2.1 == 0) then (bif (q6.2.1 == 0) then (bif (decide (q5.1 ≤ q6.1)) then (some (q7.2.1 == 0)) else (some false)) else (some false)) else (some false)) else (some false))) else (some false))))))))))))
noncomputable def rheostatlaw11_GridRises_ps : List (Bool × List WC) := [(true, [.slc [.i .i64], .slc [.i .i64], .slc [.i .i64]]), (false, [.sc (.i .i64)]), (false, [.sc (.i .i64)]), (false, [.sc (.i .i64)])]
theorem rheostatlaw11_GridRises_q (K : Nat) (t : (shOf rheostatlaw11_GridRises_ps).T) : exFn (rheostatlaw11_GridRises_e0 K) (hdl (rheostatlaw11_GridRises_e0 K) 0) [7] Try.f7 (slVals ((shOf rheostatlaw11_GridRises_ps).put t).fr.sl) ⟨⟨0, []⟩, [], ((shOf rheostatlaw11_GridRises_ps).put t).mem⟩ outBool = rheostatlaw11_GridRises_g K t.1 t.2.1 t.2.2.1 t.2.2.2.1 t.2.2.2.2.1 t.2.2.2.2.2.1 t.2.2.2.2.2.2.1 t.2.2.2.2.2.2.2.1 t.2.2.2.2.2.2.2.2.1 := by kernel_rfl
theorem rheostatlaw11_GridRises_call (K : Nat) (hb : ∀ t : (shOf rheostatlaw11_GridRises_ps).T, argsBnd rheostatlaw11_GridRises_ps t → rheostatlaw11_GridRises_g K t.1 t.2.1 t.2.2.1 t.2.2.2.1 t.2.2.2.2.1 t.2.2.2.2.2.1 t.2.2.2.2.2.2.1 t.2.2.2.2.2.2.2.1 t.2.2.2.2.2.2.2.2.1 = some true) {w : World} {vals : List Value} (hp : PFits w rheostatlaw11_GridRises_ps vals) :
    Calls Try.prog 7 vals.toArray w fun e w' => e = .returned (.bool true) ∧ RowKit.Below w.heap.size w w' :=
  call_of (rheostatlaw11_GridRises_t0 K) (rheostatlaw11_GridRises_i0 K) (draws (rheostatlaw11_GridRises_t0 K)) 0 Try.func7 (by kernel_rfl) (by kernel_rfl) outBool_true (fun t ht => (rheostatlaw11_GridRises_q K t).trans (hb t ht)) hp
end Go.Proofs.Ytkdhedjcpakfeaa
