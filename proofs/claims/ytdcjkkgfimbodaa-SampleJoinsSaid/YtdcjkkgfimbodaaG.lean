/-
  The functions of law 13, as plain functions, and that the program does what they say. Printed by a program of ours.
-/
import Derived.Test.YtdcjkkgfimbodaaChecked
import Derived.Test.YtdcjkkgfimbodaaSyLib
import Derived.KernelRfl
namespace Go.Proofs.Ytdcjkkgfimbodaa
open Go.Sy
set_option maxRecDepth 100000
set_option linter.unusedVariables false
noncomputable def tt : List TI := [
  ⟨0, [], .other⟩,
  ⟨0, [], .other⟩,
  ⟨0, [], .other⟩,
  ⟨1, [.i0 .i64 0], .int .i64⟩,
  ⟨1, [.b0 false], .bool⟩,
  ⟨1, [.i0 .u8 0], .int .u8⟩,
  ⟨0, [], .other⟩,
  ⟨0, [], .other⟩,
  ⟨0, [], .other⟩,
  ⟨1, [.s0 ⟨#[]⟩], .str⟩,
  ⟨0, [], .other⟩,
  ⟨0, [], .other⟩,
  ⟨0, [], .other⟩,
  ⟨0, [], .other⟩,
  ⟨0, [], .other⟩,
  ⟨0, [], .other⟩,
  ⟨0, [], .other⟩,
  ⟨0, [], .other⟩,
  ⟨0, [], .other⟩,
  ⟨0, [], .other⟩,
  ⟨0, [], .other⟩,
  ⟨0, [], .other⟩,
  ⟨0, [], .other⟩,
  ⟨3, [.i0 .i64 0, .i0 .i64 0, .i0 .i64 0], .st [(0, 1, false), (1, 1, false), (2, 1, false)]⟩,
  ⟨9, [.i0 .i64 0, .i0 .i64 0, .i0 .i64 0, .i0 .i64 0, .i0 .i64 0, .i0 .i64 0, .i0 .i64 0, .i0 .i64 0, .i0 .i64 0], .arr 3 3 true⟩,
  ⟨0, [], .other⟩,
  ⟨2, [.i0 .i64 0, .i0 .i64 0], .st [(0, 1, false), (1, 1, false)]⟩,
  ⟨6, [.i0 .i64 0, .i0 .i64 0, .i0 .i64 0, .i0 .i64 0, .i0 .i64 0, .i0 .i64 0], .arr 3 2 true⟩,
  ⟨0, [], .other⟩,
  ⟨15, [.i0 .i64 0, .i0 .i64 0, .i0 .i64 0, .i0 .i64 0, .i0 .i64 0, .i0 .i64 0, .i0 .i64 0, .i0 .i64 0, .i0 .i64 0, .i0 .i64 0, .i0 .i64 0, .i0 .i64 0, .i0 .i64 0, .i0 .i64 0, .i0 .i64 0], .st [(0, 9, true), (9, 6, true)]⟩,
  ⟨3, [.i0 .i64 0, .i0 .i64 0, .i0 .i64 0], .arr 3 1 false⟩,
  ⟨0, [], .other⟩,
  ⟨4, [.i0 .i64 0, .i0 .i64 0, .i0 .i64 0, .i0 .i64 0], .st [(0, 3, true), (3, 1, false)]⟩,
  ⟨0, [], .other⟩,
  ⟨4, [.i0 .i64 0, .i0 .i64 0, .i0 .i64 0, .i0 .i64 0], .st [(0, 3, true), (3, 1, false)]⟩,
  ⟨1, [.i0 .i64 0], .int .i64⟩,
  ⟨0, [], .other⟩,
  ⟨0, [], .other⟩,
  ⟨0, [], .other⟩,
  ⟨0, [], .other⟩,
  ⟨0, [], .other⟩,
  ⟨0, [], .other⟩,
  ⟨0, [], .other⟩,
  ⟨0, [], .other⟩,
  ⟨0, [], .other⟩,
  ⟨0, [], .other⟩,
  ⟨1, [.sln], .sl 4 32 true [.i0 .i64 0, .i0 .i64 0, .i0 .i64 0, .i0 .i64 0]⟩,
  ⟨0, [], .other⟩,
  ⟨0, [], .other⟩,
  ⟨0, [], .other⟩,
  ⟨0, [], .other⟩,
  ⟨0, [], .other⟩,
  ⟨1, [.i0 .i64 0], .int .i64⟩,
  ⟨0, [], .other⟩,
  ⟨4, [.i0 .i64 0, .i0 .i64 0, .i0 .i64 0, .i0 .i64 0], .st [(0, 1, false), (1, 3, true)]⟩,
  ⟨0, [], .other⟩,
  ⟨0, [], .other⟩,
  ⟨0, [], .other⟩,
  ⟨0, [], .other⟩,
  ⟨0, [], .other⟩,
  ⟨0, [], .other⟩,
  ⟨0, [], .other⟩,
  ⟨1, [.i0 .u64 0], .int .u64⟩,
  ⟨1, [.sln], .sl 1 8 false [.i0 .i64 0]⟩,
  ⟨3, [.sln, .sln, .sln], .arr 3 1 false⟩,
  ⟨0, [], .other⟩,
  ⟨0, [], .other⟩,
  ⟨0, [], .other⟩,
  ⟨0, [], .other⟩,
  ⟨4, [.i0 .i64 0, .i0 .i64 0, .i0 .i64 0, .i0 .i64 0], .st [(0, 3, true), (3, 1, false)]⟩,
  ⟨0, [], .other⟩,
  ⟨0, [], .other⟩,
  ⟨0, [], .other⟩,
  ⟨20, [.i0 .i64 0, .i0 .i64 0, .i0 .i64 0, .i0 .i64 0, .i0 .i64 0, .i0 .i64 0, .i0 .i64 0, .i0 .i64 0, .i0 .i64 0, .i0 .i64 0, .i0 .i64 0, .i0 .i64 0, .i0 .i64 0, .i0 .i64 0, .i0 .i64 0, .i0 .i64 0, .i0 .i64 0, .i0 .i64 0, .i0 .i64 0, .i0 .i64 0], .arr 20 1 false⟩,
  ⟨0, [], .other⟩,
  ⟨21, [.b0 false, .i0 .i64 0, .i0 .i64 0, .i0 .i64 0, .i0 .i64 0, .i0 .i64 0, .i0 .i64 0, .i0 .i64 0, .i0 .i64 0, .i0 .i64 0, .i0 .i64 0, .i0 .i64 0, .i0 .i64 0, .i0 .i64 0, .i0 .i64 0, .i0 .i64 0, .i0 .i64 0, .i0 .i64 0, .i0 .i64 0, .i0 .i64 0, .i0 .i64 0], .st [(0, 1, false), (1, 20, true)]⟩,
  ⟨0, [], .other⟩,
  ⟨0, [], .other⟩,
  ⟨0, [], .other⟩,
  ⟨0, [], .other⟩,
  ⟨0, [], .other⟩,
  ⟨0, [], .other⟩,
  ⟨0, [], .other⟩,
  ⟨0, [], .other⟩,
  ⟨0, [], .other⟩,
  ⟨0, [], .other⟩,
  ⟨0, [], .other⟩,
  ⟨0, [], .other⟩,
  ⟨0, [], .other⟩,
  ⟨0, [], .other⟩,
  ⟨0, [], .other⟩,
  ⟨0, [], .other⟩,
  ⟨0, [], .other⟩,
  ⟨1, [.i0 .u64 0], .int .u64⟩,
  ⟨0, [], .other⟩,
  ⟨2, [.i0 .i64 0, .i0 .u64 0], .st [(0, 1, false), (1, 1, false)]⟩,
  ⟨0, [], .other⟩,
  ⟨0, [], .other⟩,
  ⟨0, [], .other⟩,
  ⟨0, [], .other⟩,
  ⟨0, [], .other⟩,
  ⟨0, [], .other⟩,
  ⟨0, [], .other⟩,
  ⟨0, [], .other⟩,
  ⟨0, [], .other⟩,
  ⟨0, [], .other⟩,
  ⟨0, [], .other⟩,
  ⟨0, [], .other⟩,
  ⟨0, [], .other⟩,
  ⟨0, [], .other⟩,
  ⟨0, [], .other⟩,
  ⟨0, [], .other⟩,
  ⟨0, [], .other⟩,
  ⟨0, [], .other⟩,
  ⟨0, [], .other⟩,
  ⟨0, [], .other⟩]
theorem tt_ok : tabB Try.prog 0 tt = true := by kernel_rfl
def tab0 : List UInt8 := [0, 1, 2, 2, 3, 3, 3, 3, 4, 4, 4, 4, 4, 4, 4, 4, 5, 5, 5, 5, 5, 5, 5, 5, 5, 5, 5, 5, 5, 5, 5, 5, 6, 6, 6, 6, 6, 6, 6, 6, 6, 6, 6, 6, 6, 6, 6, 6, 6, 6, 6, 6, 6, 6, 6, 6, 6, 6, 6, 6, 6, 6, 6, 6, 7, 7, 7, 7, 7, 7, 7, 7, 7, 7, 7, 7, 7, 7, 7, 7, 7, 7, 7, 7, 7, 7, 7, 7, 7, 7, 7, 7, 7, 7, 7, 7, 7, 7, 7, 7, 7, 7, 7, 7, 7, 7, 7, 7, 7, 7, 7, 7, 7, 7, 7, 7, 7, 7, 7, 7, 7, 7, 7, 7, 7, 7, 7, 7, 8, 8, 8, 8, 8, 8, 8, 8, 8, 8, 8, 8, 8, 8, 8, 8, 8, 8, 8, 8, 8, 8, 8, 8, 8, 8, 8, 8, 8, 8, 8, 8, 8, 8, 8, 8, 8, 8, 8, 8, 8, 8, 8, 8, 8, 8, 8, 8, 8, 8, 8, 8, 8, 8, 8, 8, 8, 8, 8, 8, 8, 8, 8, 8, 8, 8, 8, 8, 8, 8, 8, 8, 8, 8, 8, 8, 8, 8, 8, 8, 8, 8, 8, 8, 8, 8, 8, 8, 8, 8, 8, 8, 8, 8, 8, 8, 8, 8, 8, 8, 8, 8, 8, 8, 8, 8, 8, 8, 8, 8, 8, 8, 8, 8, 8, 8, 8, 8, 8, 8, 8, 8, 8, 8, 8, 8, 8, 8]
noncomputable def eqs : List (Nat × List EK) := [(34, [.i .i64, .i .i64, .i .i64, .i .i64]), (32, [.i .i64, .i .i64, .i .i64, .i .i64]), (30, [.i .i64, .i .i64, .i .i64])]
theorem eqs_ok : eqsB Try.prog eqs = true := by kernel_rfl
theorem draws {E : Env} (h : EnvT Try.prog E) : DrawOk Try.prog E := draw_ok (Checked.mixed Try.checked) h
/-! adc_raw_1 -/
noncomputable def adc_raw_1_e0 (K : Nat) : Env := ⟨tt, [], [], [], eqs⟩
theorem adc_raw_1_t0 (K : Nat) : EnvT Try.prog (adc_raw_1_e0 K) := envT_of tt_ok eqs_ok trivial
theorem adc_raw_1_i0 (K : Nat) : EnvI Try.prog (adc_raw_1_e0 K) := envI_of (es := []) trivial trivial
noncomputable def adc_raw_1_h : Sh := ⟨1, [(0, .sc (.i .i64))], [], []⟩
noncomputable def adc_raw_1_r : Sh := ⟨1, [(0, .sc (.b))], [], []⟩
noncomputable def adc_raw_1_g (K : Nat) (n_0 : Int) : Option (Bool × Unit) :=
  (bif (decide (n_0 < (-1048576))) then (some (true, ())) else (some ((decide (n_0 > 1048576)), ())))
noncomputable def adc_raw_1_o (K : Nat) : FO := fnFO adc_raw_1_h adc_raw_1_r fun t => adc_raw_1_g K t.1
theorem adc_raw_1_q (K : Nat) (t : adc_raw_1_h.T) : exFn (adc_raw_1_e0 K) (hdl (adc_raw_1_e0 K) 0) [42] Try.f42 (slVals (adc_raw_1_h.put t).fr.sl) ⟨⟨0, []⟩, [], (adc_raw_1_h.put t).mem⟩ (takeRes adc_raw_1_r) = adc_raw_1_g K t.1 := by kernel_rfl
theorem adc_raw_1_ok (K : Nat) : FOok Try.prog 42 (adc_raw_1_o K) :=
  fn_rule (adc_raw_1_t0 K) (adc_raw_1_i0 K) (draws (adc_raw_1_t0 K)) 0 Try.func42 (fnB_ok Try.func42 (by kernel_rfl)) rfl rfl (allOwn_ok false (by kernel_rfl)) rfl (allOwn_ok true (by kernel_rfl)) (fun t => adc_raw_1_q K t)
/-! adc_raw -/
noncomputable def adc_raw_e0 (K : Nat) : Env := ⟨tt, [(42, adc_raw_1_o K)], [(41, Try.f41), (54, Try.f54)], [], eqs⟩
theorem adc_raw_t0 (K : Nat) : EnvT Try.prog (adc_raw_e0 K) := envT_of tt_ok eqs_ok ⟨adc_raw_1_ok K, trivial⟩
theorem adc_raw_i0 (K : Nat) : EnvI Try.prog (adc_raw_e0 K) := envI_of (es := []) ⟨⟨Try.func41, by kernel_rfl⟩, ⟨Try.func54, by kernel_rfl⟩, trivial⟩ trivial
noncomputable def adc_raw_l0h : Sh := ⟨19, [(0, .sc (.slr0 0)), (1, .sc (.lit (.fn 42 []))), (7, .sc (.i .i64)), (8, .sc (.i .i64))], [(9, []), (6, []), (0, [])], [(false, true, [.ir .i64])]⟩
noncomputable def adc_raw_l0x0 : Sh := ⟨19, [], [(9, []), (6, []), (0, [])], []⟩
noncomputable def adc_raw_l0x1 : Sh := ⟨19, [(4, .sc (.i .i64))], [(9, []), (6, []), (0, [])], []⟩
noncomputable def adc_raw_l0O : OutI ((Unit) ⊕ (Int × Unit)) := (OutI.or (OutI.exit 0 adc_raw_l0x0) (OutI.ret adc_raw_l0x1))
noncomputable def adc_raw_l0r (K : Nat) (rec : Nat → Int → Int → (Nat → Int) → Option ((Unit) ⊕ (Int × Unit))) (s_0n : Nat) (t_7 : Int) (t_8 : Int) (m0_0 : (Nat → Int)) : Option ((Unit) ⊕ (Int × Unit)) :=
  (bif (decide (t_8 < t_7)) then (bif ((decide (0 ≤ t_8)) && (decide (t_8 < ((s_0n : Nat) : Int)))) then ((adc_raw_1_g K (m0_0 (Int.toNat t_8))).bind fun q1 => (bif q1.1 then (some (.inr (t_8, ()))) else (rec s_0n t_7 (wi64 (t_8 + 1)) m0_0))) else none) else (some (.inl (()))))
noncomputable def adc_raw_l0 (K n : Nat) : Nat → Int → Int → (Nat → Int) → Option ((Unit) ⊕ (Int × Unit)) := Nat.rec (motive := fun _ => Nat → Int → Int → (Nat → Int) → Option ((Unit) ⊕ (Int × Unit))) (fun _ _ _ _ => none) (fun _ ih => adc_raw_l0r K ih) n
noncomputable def adc_raw_l0u (K n : Nat) (t : adc_raw_l0h.T) : Option ((Unit) ⊕ (Int × Unit)) :=
  adc_raw_l0 K n t.1 t.2.1 t.2.2.1 t.2.2.2.1
noncomputable def adc_raw_l0o (K : Nat) : LO := loopLO adc_raw_l0h adc_raw_l0O fun t => adc_raw_l0u K K t
noncomputable def adc_raw_l0C : Code := bodyOf Try.f54
noncomputable def adc_raw_l0B : Code := (findLoops 2 (loopsIn adc_raw_l0C)).headD .skip
theorem adc_raw_l0F : findLoops 2 (loopsIn adc_raw_l0C) = [adc_raw_l0B] := by kernel_rfl
theorem adc_raw_l0q (K n : Nat) (t : adc_raw_l0h.T) : exC (adc_raw_e0 K) (hdl (adc_raw_e0 K) 10) (54 :: [2, 1, 41, 1, 1, 31]) adc_raw_l0B (adc_raw_l0h.put t) (fun s => (adc_raw_l0h.take s).bind fun t => adc_raw_l0u K n t) (fun id s => adc_raw_l0O.get (some id) s) (fun s => adc_raw_l0O.get none s) = adc_raw_l0u K (n + 1) t := by kernel_rfl
noncomputable def adc_raw_l0E (K : Nat) : LoopE Try.prog := ⟨[2, 54, 2, 1, 41, 1, 1, 31], adc_raw_l0o K, Try.f54, adc_raw_l0C, adc_raw_l0B, ⟨2, 54, [2, 1, 41, 1, 1, 31], rfl, Try.func54, by kernel_rfl, adc_raw_l0F⟩,
  loop_rule (F := fun n t => adc_raw_l0u K n t) (adc_raw_t0 K) (adc_raw_i0 K) (draws (adc_raw_t0 K)) 10 Try.func54 (c := adc_raw_l0C) (by kernel_rfl) (body_in adc_raw_l0F) (ctx' := [2, 1, 41, 1, 1, 31]) (h := adc_raw_l0h) (O := adc_raw_l0O) (fun _ => rfl) (fun m t => adc_raw_l0q K m t) K⟩
noncomputable def adc_raw_e1 (K : Nat) : Env := ⟨tt, [(42, adc_raw_1_o K)], [(41, Try.f41), (54, Try.f54)], [([2, 54, 2, 1, 41, 1, 1, 31], adc_raw_l0o K)], eqs⟩
theorem adc_raw_t1 (K : Nat) : EnvT Try.prog (adc_raw_e1 K) := envT_of tt_ok eqs_ok ⟨adc_raw_1_ok K, trivial⟩
theorem adc_raw_i1 (K : Nat) : EnvI Try.prog (adc_raw_e1 K) := envI_of (es := [adc_raw_l0E K]) ⟨⟨Try.func41, by kernel_rfl⟩, ⟨Try.func54, by kernel_rfl⟩, trivial⟩ ⟨⟨rfl, rfl⟩, trivial⟩
noncomputable def adc_raw_h : Sh := ⟨1, [(0, .sc (.slr0 0))], [], [(false, true, [.ir .i64])]⟩
noncomputable def adc_raw_r : Sh := ⟨1, [(0, .sc (.b))], [], []⟩
noncomputable def adc_raw_g (K : Nat) (l_0n : Nat) (m0_0 : (Nat → Int)) : Option (Bool × Unit) :=
  ((adc_raw_l0 K K l_0n ((l_0n : Nat) : Int) 0 m0_0).bind fun q1 => (Sum.elim (fun q2 => (some (true, ()))) (fun q3 => (some ((!(decide (q3.1 ≥ 0))), ()))) q1))
noncomputable def adc_raw_o (K : Nat) : FO := fnFO adc_raw_h adc_raw_r fun t => adc_raw_g K t.1 t.2.1
theorem adc_raw_q (K : Nat) (t : adc_raw_h.T) : exFn (adc_raw_e1 K) (hdl (adc_raw_e1 K) 10) [31] Try.f31 (slVals (adc_raw_h.put t).fr.sl) ⟨⟨0, []⟩, [], (adc_raw_h.put t).mem⟩ (takeRes adc_raw_r) = adc_raw_g K t.1 t.2.1 := by kernel_rfl
theorem adc_raw_ok (K : Nat) : FOok Try.prog 31 (adc_raw_o K) :=
  fn_rule (adc_raw_t1 K) (adc_raw_i1 K) (draws (adc_raw_t1 K)) 10 Try.func31 (fnB_ok Try.func31 (by kernel_rfl)) rfl rfl (allOwn_ok false (by kernel_rfl)) rfl (allOwn_ok true (by kernel_rfl)) (fun t => adc_raw_q K t)
/-! adc_Check -/
noncomputable def adc_Check_e0 (K : Nat) : Env := ⟨tt, [(31, adc_raw_o K)], [], [], eqs⟩
theorem adc_Check_t0 (K : Nat) : EnvT Try.prog (adc_Check_e0 K) := envT_of tt_ok eqs_ok ⟨adc_raw_ok K, trivial⟩
theorem adc_Check_i0 (K : Nat) : EnvI Try.prog (adc_Check_e0 K) := envI_of (es := []) trivial trivial
noncomputable def adc_Check_h : Sh := ⟨1, [(0, .ag [.i .i64, .i .i64, .i .i64])], [], []⟩
noncomputable def adc_Check_r : Sh := ⟨1, [(0, .sc (.i .i64))], [], []⟩
noncomputable def adc_Check_g (K : Nat) (l_0_0 : Int) (l_0_1 : Int) (l_0_2 : Int) : Option (Int × Unit) :=
  ((adc_raw_g K 3 (fun j => (selI [l_0_0, l_0_1, l_0_2] j))).bind fun q1 => (bif (!q1.1) then (some (120, ())) else (bif (decide (l_0_2 < 1)) then (some (120, ())) else (some (0, ())))))
noncomputable def adc_Check_o (K : Nat) : FO := fnFO adc_Check_h adc_Check_r fun t => adc_Check_g K t.1 t.2.1 t.2.2.1
theorem adc_Check_q (K : Nat) (t : adc_Check_h.T) : exFn (adc_Check_e0 K) (hdl (adc_Check_e0 K) 0) [24] Try.f24 (slVals (adc_Check_h.put t).fr.sl) ⟨⟨0, []⟩, [], (adc_Check_h.put t).mem⟩ (takeRes adc_Check_r) = adc_Check_g K t.1 t.2.1 t.2.2.1 := by kernel_rfl
theorem adc_Check_ok (K : Nat) : FOok Try.prog 24 (adc_Check_o K) :=
  fn_rule (adc_Check_t0 K) (adc_Check_i0 K) (draws (adc_Check_t0 K)) 0 Try.func24 (fnB_ok Try.func24 (by kernel_rfl)) rfl rfl (allOwn_ok false (by kernel_rfl)) rfl (allOwn_ok true (by kernel_rfl)) (fun t => adc_Check_q K t)
/-! sample_Inside -/
noncomputable def sample_Inside_e0 (K : Nat) : Env := ⟨tt, [], [], [], eqs⟩
theorem sample_Inside_t0 (K : Nat) : EnvT Try.prog (sample_Inside_e0 K) := envT_of tt_ok eqs_ok trivial
theorem sample_Inside_i0 (K : Nat) : EnvI Try.prog (sample_Inside_e0 K) := envI_of (es := []) trivial trivial
noncomputable def sample_Inside_h : Sh := ⟨2, [(0, .ag [.i .i64, .i .i64]), (1, .sc (.i .i64))], [], []⟩
noncomputable def sample_Inside_r : Sh := ⟨1, [(0, .sc (.b))], [], []⟩
noncomputable def sample_Inside_g (K : Nat) (s_0_0 : Int) (s_0_1 : Int) (n_1 : Int) : Option (Bool × Unit) :=
  (bif (decide (s_0_0 ≤ n_1)) then (some ((decide (n_1 ≤ s_0_1)), ())) else (some (false, ())))
noncomputable def sample_Inside_o (K : Nat) : FO := fnFO sample_Inside_h sample_Inside_r fun t => sample_Inside_g K t.1 t.2.1 t.2.2.1
theorem sample_Inside_q (K : Nat) (t : sample_Inside_h.T) : exFn (sample_Inside_e0 K) (hdl (sample_Inside_e0 K) 0) [12] Try.f12 (slVals (sample_Inside_h.put t).fr.sl) ⟨⟨0, []⟩, [], (sample_Inside_h.put t).mem⟩ (takeRes sample_Inside_r) = sample_Inside_g K t.1 t.2.1 t.2.2.1 := by kernel_rfl
theorem sample_Inside_ok (K : Nat) : FOok Try.prog 12 (sample_Inside_o K) :=
  fn_rule (sample_Inside_t0 K) (sample_Inside_i0 K) (draws (sample_Inside_t0 K)) 0 Try.func12 (fnB_ok Try.func12 (by kernel_rfl)) rfl rfl (allOwn_ok false (by kernel_rfl)) rfl (allOwn_ok true (by kernel_rfl)) (fun t => sample_Inside_q K t)
/-! sample_all -/
noncomputable def sample_all_e0 (K : Nat) : Env := ⟨tt, [(12, sample_Inside_o K)], [], [], eqs⟩
theorem sample_all_t0 (K : Nat) : EnvT Try.prog (sample_all_e0 K) := envT_of tt_ok eqs_ok ⟨sample_Inside_ok K, trivial⟩
theorem sample_all_i0 (K : Nat) : EnvI Try.prog (sample_all_e0 K) := envI_of (es := []) trivial trivial
noncomputable def sample_all_l0h : Sh := ⟨18, [(2, .sc (.lit (.p 0 0 0 []))), (7, .sc (.slr0 1)), (8, .sc (.i .i64)), (9, .sc (.i .i64))], [(0, [])], [(true, false, [.i .i64, .i .i64]), (false, true, [.ir .i64])]⟩
noncomputable def sample_all_l0x0 : Sh := ⟨18, [], [(0, [])], []⟩
noncomputable def sample_all_l0x1 : Sh := ⟨18, [(4, .sc (.b))], [(0, [])], []⟩
noncomputable def sample_all_l0O : OutI ((Unit) ⊕ (Bool × Unit)) := (OutI.or (OutI.exit 0 sample_all_l0x0) (OutI.ret sample_all_l0x1))
noncomputable def sample_all_l0r (K : Nat) (rec : Nat → Int → Int → Int → Int → (Nat → Int) → Option ((Unit) ⊕ (Bool × Unit))) (t_7n : Nat) (t_8 : Int) (t_9 : Int) (m0_0 : Int) (m0_1 : Int) (m1_0 : (Nat → Int)) : Option ((Unit) ⊕ (Bool × Unit)) :=
  (bif (decide (t_9 < t_8)) then (bif ((decide (0 ≤ t_9)) && (decide (t_9 < ((t_7n : Nat) : Int)))) then ((sample_Inside_g K m0_0 m0_1 (m1_0 (Int.toNat t_9))).bind fun q1 => (bif (!q1.1) then (some (.inr (false, ()))) else (rec t_7n t_8 (wi64 (t_9 + 1)) m0_0 m0_1 m1_0))) else none) else (some (.inl (()))))
noncomputable def sample_all_l0 (K n : Nat) : Nat → Int → Int → Int → Int → (Nat → Int) → Option ((Unit) ⊕ (Bool × Unit)) := Nat.rec (motive := fun _ => Nat → Int → Int → Int → Int → (Nat → Int) → Option ((Unit) ⊕ (Bool × Unit))) (fun _ _ _ _ _ _ => none) (fun _ ih => sample_all_l0r K ih) n
noncomputable def sample_all_l0u (K n : Nat) (t : sample_all_l0h.T) : Option ((Unit) ⊕ (Bool × Unit)) :=
  sample_all_l0 K n t.1 t.2.1 t.2.2.1 t.2.2.2.1 t.2.2.2.2.1 t.2.2.2.2.2.1
noncomputable def sample_all_l0o (K : Nat) : LO := loopLO sample_all_l0h sample_all_l0O fun t => sample_all_l0u K K t
noncomputable def sample_all_l0C : Code := bodyOf Try.f25
noncomputable def sample_all_l0B : Code := (findLoops 2 (loopsIn sample_all_l0C)).headD .skip
theorem sample_all_l0F : findLoops 2 (loopsIn sample_all_l0C) = [sample_all_l0B] := by kernel_rfl
theorem sample_all_l0q (K n : Nat) (t : sample_all_l0h.T) : exC (sample_all_e0 K) (hdl (sample_all_e0 K) 0) (25 :: []) sample_all_l0B (sample_all_l0h.put t) (fun s => (sample_all_l0h.take s).bind fun t => sample_all_l0u K n t) (fun id s => sample_all_l0O.get (some id) s) (fun s => sample_all_l0O.get none s) = sample_all_l0u K (n + 1) t := by kernel_rfl
noncomputable def sample_all_l0E (K : Nat) : LoopE Try.prog := ⟨[2, 25], sample_all_l0o K, Try.f25, sample_all_l0C, sample_all_l0B, ⟨2, 25, [], rfl, Try.func25, by kernel_rfl, sample_all_l0F⟩,
  loop_rule (F := fun n t => sample_all_l0u K n t) (sample_all_t0 K) (sample_all_i0 K) (draws (sample_all_t0 K)) 0 Try.func25 (c := sample_all_l0C) (by kernel_rfl) (body_in sample_all_l0F) (ctx' := []) (h := sample_all_l0h) (O := sample_all_l0O) (fun _ => rfl) (fun m t => sample_all_l0q K m t) K⟩
noncomputable def sample_all_e1 (K : Nat) : Env := ⟨tt, [(12, sample_Inside_o K)], [], [([2, 25], sample_all_l0o K)], eqs⟩
theorem sample_all_t1 (K : Nat) : EnvT Try.prog (sample_all_e1 K) := envT_of tt_ok eqs_ok ⟨sample_Inside_ok K, trivial⟩
theorem sample_all_i1 (K : Nat) : EnvI Try.prog (sample_all_e1 K) := envI_of (es := [sample_all_l0E K]) trivial ⟨⟨rfl, rfl⟩, trivial⟩
noncomputable def sample_all_h : Sh := ⟨2, [(0, .ag [.i .i64, .i .i64]), (1, .sc (.slr0 0))], [], [(false, true, [.ir .i64])]⟩
noncomputable def sample_all_r : Sh := ⟨1, [(0, .sc (.b))], [], []⟩
noncomputable def sample_all_g (K : Nat) (s_0_0 : Int) (s_0_1 : Int) (l_1n : Nat) (m0_0 : (Nat → Int)) : Option (Bool × Unit) :=
  ((sample_all_l0 K K l_1n ((l_1n : Nat) : Int) 0 s_0_0 s_0_1 m0_0).bind fun q1 => (Sum.elim (fun q2 => (some (true, ()))) (fun q3 => (some (q3.1, ()))) q1))
noncomputable def sample_all_gu (K : Nat) (t : sample_all_h.T) : Option (Bool × Unit) :=
  sample_all_g K t.1 t.2.1 t.2.2.1 t.2.2.2.1
noncomputable def sample_all_o (K : Nat) : FO := fnFO sample_all_h sample_all_r fun t => sample_all_gu K t
theorem sample_all_q (K : Nat) (t : sample_all_h.T) : exFn (sample_all_e1 K) (hdl (sample_all_e1 K) 0) [25] Try.f25 (slVals (sample_all_h.put t).fr.sl) ⟨⟨0, []⟩, [], (sample_all_h.put t).mem⟩ (takeRes sample_all_r) = sample_all_gu K t := by kernel_rfl
theorem sample_all_ok (K : Nat) : FOok Try.prog 25 (sample_all_o K) :=
  fn_rule (sample_all_t1 K) (sample_all_i1 K) (draws (sample_all_t1 K)) 0 Try.func25 (fnB_ok Try.func25 (by kernel_rfl)) rfl rfl (allOwn_ok false (by kernel_rfl)) rfl (allOwn_ok true (by kernel_rfl)) (fun t => sample_all_q K t)
/-! sample_Check -/
noncomputable def sample_Check_e0 (K : Nat) : Env := ⟨tt, [(24, adc_Check_o K), (25, sample_all_o K)], [], [], eqs⟩
theorem sample_Check_t0 (K : Nat) : EnvT Try.prog (sample_Check_e0 K) := envT_of tt_ok eqs_ok ⟨adc_Check_ok K, sample_all_ok K, trivial⟩
theorem sample_Check_i0 (K : Nat) : EnvI Try.prog (sample_Check_e0 K) := envI_of (es := []) trivial trivial
noncomputable def sample_Check_l0h : Sh := ⟨38, [(2, .sc (.lit (.p 0 0 0 []))), (5, .sc (.lit (.p 1 0 0 []))), (10, .ag [.i .i64, .i .i64, .i .i64, .i .i64, .i .i64, .i .i64]), (11, .sc (.i .i64))], [(0, [])], [(true, false, [.i .i64, .i .i64, .i .i64, .i .i64, .i .i64, .i .i64, .i .i64, .i .i64, .i .i64]), (true, false, [.i .i64, .i .i64])]⟩
noncomputable def sample_Check_l0x0 : Sh := ⟨38, [], [(0, [])], []⟩
noncomputable def sample_Check_l0x1 : Sh := ⟨38, [(4, .sc (.i .i64))], [(0, [])], []⟩
noncomputable def sample_Check_l0O : OutI ((Unit) ⊕ (Int × Unit)) := (OutI.or (OutI.exit 0 sample_Check_l0x0) (OutI.ret sample_Check_l0x1))
noncomputable def sample_Check_l0r (K : Nat) (rec : Int → Int → Int → Int → Int → Int → Int → Int → Int → Int → Int → Int → Int → Int → Int → Int → Int → Int → Option ((Unit) ⊕ (Int × Unit))) (t_10_0 : Int) (t_10_1 : Int) (t_10_2 : Int) (t_10_3 : Int) (t_10_4 : Int) (t_10_5 : Int) (t_11 : Int) (m0_0 : Int) (m0_1 : Int) (m0_2 : Int) (m0_3 : Int) (m0_4 : Int) (m0_5 : Int) (m0_6 : Int) (m0_7 : Int) (m0_8 : Int) (m1_0 : Int) (m1_1 : Int) : Option ((Unit) ⊕ (Int × Unit)) :=
  (bif (decide (t_11 < 3)) then (bif ((decide (0 ≤ t_11)) && (decide (t_11 < 3))) then (bif ((decide (0 ≤ t_11)) && (decide (t_11 < 3))) then ((adc_Check_g K (selI [m0_0, m0_3, m0_6] (Int.toNat t_11)) (selI [m0_1, m0_4, m0_7] (Int.toNat t_11)) (selI [m0_2, m0_5, m0_8] (Int.toNat t_11))).bind fun q1 => (bif (q1.1 != 0) then (some (.inr (q1.1, ()))) else (bif (decide ((selI [t_10_0, t_10_2, t_10_4] (Int.toNat t_11)) > (selI [t_10_1, t_10_3, t_10_5] (Int.toNat t_11)))) then (some (.inr (120, ()))) else ((sample_all_g K m1_0 m1_1 2 (fun j => (selI [(selI [t_10_0, t_10_2, t_10_4] (Int.toNat t_11)), (selI [t_10_1, t_10_3, t_10_5] (Int.toNat t_11))] j))).bind fun q2 => (bif (!q2.1) then (some (.inr (120, ()))) else (rec t_10_0 t_10_1 t_10_2 t_10_3 t_10_4 t_10_5 (wi64 (t_11 + 1)) m0_0 m0_1 m0_2 m0_3 m0_4 m0_5 m0_6 m0_7 m0_8 m1_0 m1_1)))))) else none) else none) else (some (.inl (()))))
noncomputable def sample_Check_l0 (K n : Nat) : Int → Int → Int → Int → Int → Int → Int → Int → Int → Int → Int → Int → Int → Int → Int → Int → Int → Int → Option ((Unit) ⊕ (Int × Unit)) := Nat.rec (motive := fun _ => Int → Int → Int → Int → Int → Int → Int → Int → Int → Int → Int → Int → Int → Int → Int → Int → Int → Int → Option ((Unit) ⊕ (Int × Unit))) (fun _ _ _ _ _ _ _ _ _ _ _ _ _ _ _ _ _ _ => none) (fun _ ih => sample_Check_l0r K ih) n
noncomputable def sample_Check_l0u (K n : Nat) (t : sample_Check_l0h.T) : Option ((Unit) ⊕ (Int × Unit)) :=
  let u1 := t.2
  let u2 := u1.2
  let u3 := u2.2
  let u4 := u3.2
  let u5 := u4.2
  let u6 := u5.2
  let u7 := u6.2
  let u8 := u7.2
  let u9 := u8.2
  let u10 := u9.2
  let u11 := u10.2
  let u12 := u11.2
  let u13 := u12.2
  let u14 := u13.2
  let u15 := u14.2
  let u16 := u15.2
  let u17 := u16.2
  sample_Check_l0 K n t.1 u1.1 u2.1 u3.1 u4.1 u5.1 u6.1 u7.1 u8.1 u9.1 u10.1 u11.1 u12.1 u13.1 u14.1 u15.1 u16.1 u17.1
noncomputable def sample_Check_l0o (K : Nat) : LO := loopLO sample_Check_l0h sample_Check_l0O fun t => sample_Check_l0u K K t
noncomputable def sample_Check_l0C : Code := bodyOf Try.f10
noncomputable def sample_Check_l0B : Code := (findLoops 3 (loopsIn sample_Check_l0C)).headD .skip
theorem sample_Check_l0F : findLoops 3 (loopsIn sample_Check_l0C) = [sample_Check_l0B] := by kernel_rfl
theorem sample_Check_l0q (K n : Nat) (t : sample_Check_l0h.T) : exC (sample_Check_e0 K) (hdl (sample_Check_e0 K) 0) (10 :: []) sample_Check_l0B (sample_Check_l0h.put t) (fun s => (sample_Check_l0h.take s).bind fun t => sample_Check_l0u K n t) (fun id s => sample_Check_l0O.get (some id) s) (fun s => sample_Check_l0O.get none s) = sample_Check_l0u K (n + 1) t := by kernel_rfl
noncomputable def sample_Check_l0E (K : Nat) : LoopE Try.prog := ⟨[3, 10], sample_Check_l0o K, Try.f10, sample_Check_l0C, sample_Check_l0B, ⟨3, 10, [], rfl, Try.func10, by kernel_rfl, sample_Check_l0F⟩,
  loop_rule (F := fun n t => sample_Check_l0u K n t) (sample_Check_t0 K) (sample_Check_i0 K) (draws (sample_Check_t0 K)) 0 Try.func10 (c := sample_Check_l0C) (by kernel_rfl) (body_in sample_Check_l0F) (ctx' := []) (h := sample_Check_l0h) (O := sample_Check_l0O) (fun _ => rfl) (fun m t => sample_Check_l0q K m t) K⟩
noncomputable def sample_Check_e1 (K : Nat) : Env := ⟨tt, [(24, adc_Check_o K), (25, sample_all_o K)], [], [([3, 10], sample_Check_l0o K)], eqs⟩
theorem sample_Check_t1 (K : Nat) : EnvT Try.prog (sample_Check_e1 K) := envT_of tt_ok eqs_ok ⟨adc_Check_ok K, sample_all_ok K, trivial⟩
theorem sample_Check_i1 (K : Nat) : EnvI Try.prog (sample_Check_e1 K) := envI_of (es := [sample_Check_l0E K]) trivial ⟨⟨rfl, rfl⟩, trivial⟩
noncomputable def sample_Check_h : Sh := ⟨2, [(0, .ag [.i .i64, .i .i64, .i .i64, .i .i64, .i .i64, .i .i64, .i .i64, .i .i64, .i .i64]), (1, .ag [.i .i64, .i .i64, .i .i64, .i .i64, .i .i64, .i .i64])], [], []⟩
noncomputable def sample_Check_r : Sh := ⟨1, [(0, .sc (.i .i64))], [], []⟩
noncomputable def sample_Check_g (K : Nat) (lines_0_0 : Int) (lines_0_1 : Int) (lines_0_2 : Int) (lines_0_3 : Int) (lines_0_4 : Int) (lines_0_5 : Int) (lines_0_6 : Int) (lines_0_7 : Int) (lines_0_8 : Int) (spans_1_0 : Int) (spans_1_1 : Int) (spans_1_2 : Int) (spans_1_3 : Int) (spans_1_4 : Int) (spans_1_5 : Int) : Option (Int × Unit) :=
  ((sample_Check_l0 K K spans_1_0 spans_1_1 spans_1_2 spans_1_3 spans_1_4 spans_1_5 0 lines_0_0 lines_0_1 lines_0_2 lines_0_3 lines_0_4 lines_0_5 lines_0_6 lines_0_7 lines_0_8 (-2147483648) 2147483648).bind fun q1 => (Sum.elim (fun q2 => (some (0, ()))) (fun q3 => (some (q3.1, ()))) q1))
noncomputable def sample_Check_gu (K : Nat) (t : sample_Check_h.T) : Option (Int × Unit) :=
  let u1 := t.2
  let u2 := u1.2
  let u3 := u2.2
  let u4 := u3.2
  let u5 := u4.2
  let u6 := u5.2
  let u7 := u6.2
  let u8 := u7.2
  let u9 := u8.2
  let u10 := u9.2
  let u11 := u10.2
  let u12 := u11.2
  let u13 := u12.2
  let u14 := u13.2
  sample_Check_g K t.1 u1.1 u2.1 u3.1 u4.1 u5.1 u6.1 u7.1 u8.1 u9.1 u10.1 u11.1 u12.1 u13.1 u14.1
noncomputable def sample_Check_o (K : Nat) : FO := fnFO sample_Check_h sample_Check_r fun t => sample_Check_gu K t
theorem sample_Check_q (K : Nat) (t : sample_Check_h.T) : exFn (sample_Check_e1 K) (hdl (sample_Check_e1 K) 0) [10] Try.f10 (slVals (sample_Check_h.put t).fr.sl) ⟨⟨0, []⟩, [], (sample_Check_h.put t).mem⟩ (takeRes sample_Check_r) = sample_Check_gu K t := by kernel_rfl
theorem sample_Check_ok (K : Nat) : FOok Try.prog 10 (sample_Check_o K) :=
  fn_rule (sample_Check_t1 K) (sample_Check_i1 K) (draws (sample_Check_t1 K)) 0 Try.func10 (fnB_ok Try.func10 (by kernel_rfl)) rfl rfl (allOwn_ok false (by kernel_rfl)) rfl (allOwn_ok true (by kernel_rfl)) (fun t => sample_Check_q K t)
/-! sample_take -/
noncomputable def sample_take_e0 (K : Nat) : Env := ⟨tt, [], [], [], eqs⟩
theorem sample_take_t0 (K : Nat) : EnvT Try.prog (sample_take_e0 K) := envT_of tt_ok eqs_ok trivial
theorem sample_take_i0 (K : Nat) : EnvI Try.prog (sample_take_e0 K) := envI_of (es := []) trivial trivial
noncomputable def sample_take_h : Sh := ⟨1, [(0, .ag [.i .i64, .i .i64, .i .i64, .i .i64])], [], []⟩
noncomputable def sample_take_r : Sh := ⟨1, [(0, .ag [.i .i64, .i .i64, .i .i64, .i .i64])], [], []⟩
noncomputable def sample_take_g (K : Nat) (s_0_0 : Int) (s_0_1 : Int) (s_0_2 : Int) (s_0_3 : Int) : Option (Int × Int × Int × Int × Unit) :=
  (some (s_0_3, s_0_0, s_0_1, s_0_2, ()))
noncomputable def sample_take_gu (K : Nat) (t : sample_take_h.T) : Option (Int × Int × Int × Int × Unit) :=
  sample_take_g K t.1 t.2.1 t.2.2.1 t.2.2.2.1
noncomputable def sample_take_o (K : Nat) : FO := fnFO sample_take_h sample_take_r fun t => sample_take_gu K t
theorem sample_take_q (K : Nat) (t : sample_take_h.T) : exFn (sample_take_e0 K) (hdl (sample_take_e0 K) 0) [20] Try.f20 (slVals (sample_take_h.put t).fr.sl) ⟨⟨0, []⟩, [], (sample_take_h.put t).mem⟩ (takeRes sample_take_r) = sample_take_gu K t := by kernel_rfl
theorem sample_take_ok (K : Nat) : FOok Try.prog 20 (sample_take_o K) :=
  fn_rule (sample_take_t0 K) (sample_take_i0 K) (draws (sample_take_t0 K)) 0 Try.func20 (fnB_ok Try.func20 (by kernel_rfl)) rfl rfl (allOwn_ok false (by kernel_rfl)) rfl (allOwn_ok true (by kernel_rfl)) (fun t => sample_take_q K t)
/-! sample_ticks_may -/
noncomputable def sample_ticks_may_e0 (K : Nat) : Env := ⟨tt, [], [], [], eqs⟩
theorem sample_ticks_may_t0 (K : Nat) : EnvT Try.prog (sample_ticks_may_e0 K) := envT_of tt_ok eqs_ok trivial
theorem sample_ticks_may_i0 (K : Nat) : EnvI Try.prog (sample_ticks_may_e0 K) := envI_of (es := []) trivial trivial
noncomputable def sample_ticks_may_h : Sh := ⟨1, [(0, .sc (.i .i64))], [], []⟩
noncomputable def sample_ticks_may_r : Sh := ⟨1, [(0, .sc (.b))], [], []⟩
noncomputable def sample_ticks_may_g (K : Nat) (t_0 : Int) : Option (Bool × Unit) :=
  (bif (decide (t_0 ≥ 1)) then (some ((decide (t_0 ≤ 60000)), ())) else (some (false, ())))
noncomputable def sample_ticks_may_o (K : Nat) : FO := fnFO sample_ticks_may_h sample_ticks_may_r fun t => sample_ticks_may_g K t.1
theorem sample_ticks_may_q (K : Nat) (t : sample_ticks_may_h.T) : exFn (sample_ticks_may_e0 K) (hdl (sample_ticks_may_e0 K) 0) [21] Try.f21 (slVals (sample_ticks_may_h.put t).fr.sl) ⟨⟨0, []⟩, [], (sample_ticks_may_h.put t).mem⟩ (takeRes sample_ticks_may_r) = sample_ticks_may_g K t.1 := by kernel_rfl
theorem sample_ticks_may_ok (K : Nat) : FOok Try.prog 21 (sample_ticks_may_o K) :=
  fn_rule (sample_ticks_may_t0 K) (sample_ticks_may_i0 K) (draws (sample_ticks_may_t0 K)) 0 Try.func21 (fnB_ok Try.func21 (by kernel_rfl)) rfl rfl (allOwn_ok false (by kernel_rfl)) rfl (allOwn_ok true (by kernel_rfl)) (fun t => sample_ticks_may_q K t)
/-! wide_size -/
noncomputable def wide_size_e0 (K : Nat) : Env := ⟨tt, [], [], [], eqs⟩
theorem wide_size_t0 (K : Nat) : EnvT Try.prog (wide_size_e0 K) := envT_of tt_ok eqs_ok trivial
theorem wide_size_i0 (K : Nat) : EnvI Try.prog (wide_size_e0 K) := envI_of (es := []) trivial trivial
noncomputable def wide_size_h : Sh := ⟨1, [(0, .sc (.i .i64))], [], []⟩
noncomputable def wide_size_r : Sh := ⟨1, [(0, .sc (.i .u64))], [], []⟩
noncomputable def wide_size_g (K : Nat) (a_0 : Int) : Option (Int × Unit) :=
  (bif (decide (a_0 < 0)) then (some ((wu64 (0 - (wu64 (a_0)))), ())) else (some ((wu64 (a_0)), ())))
noncomputable def wide_size_o (K : Nat) : FO := fnFO wide_size_h wide_size_r fun t => wide_size_g K t.1
theorem wide_size_q (K : Nat) (t : wide_size_h.T) : exFn (wide_size_e0 K) (hdl (wide_size_e0 K) 0) [61] Try.f61 (slVals (wide_size_h.put t).fr.sl) ⟨⟨0, []⟩, [], (wide_size_h.put t).mem⟩ (takeRes wide_size_r) = wide_size_g K t.1 := by kernel_rfl
theorem wide_size_ok (K : Nat) : FOok Try.prog 61 (wide_size_o K) :=
  fn_rule (wide_size_t0 K) (wide_size_i0 K) (draws (wide_size_t0 K)) 0 Try.func61 (fnB_ok Try.func61 (by kernel_rfl)) rfl rfl (allOwn_ok false (by kernel_rfl)) rfl (allOwn_ok true (by kernel_rfl)) (fun t => wide_size_q K t)
/-! math_bits_Mul64 -/
noncomputable def math_bits_Mul64_e0 (K : Nat) : Env := ⟨tt, [], [], [], eqs⟩
theorem math_bits_Mul64_t0 (K : Nat) : EnvT Try.prog (math_bits_Mul64_e0 K) := envT_of tt_ok eqs_ok trivial
theorem math_bits_Mul64_i0 (K : Nat) : EnvI Try.prog (math_bits_Mul64_e0 K) := envI_of (es := []) trivial trivial
noncomputable def math_bits_Mul64_h : Sh := ⟨2, [(0, .sc (.i .u64)), (1, .sc (.i .u64))], [], []⟩
noncomputable def math_bits_Mul64_r : Sh := ⟨2, [(0, .sc (.i .u64)), (1, .sc (.i .u64))], [], []⟩
noncomputable def math_bits_Mul64_g (K : Nat) (x_0 : Int) (y_1 : Int) : Option (Int × Int × Unit) :=
  (some ((wu64 ((wu64 ((wu64 ((shR .u64 x_0 32) * (shR .u64 y_1 32))) + (shR .u64 (wu64 ((wu64 ((shR .u64 x_0 32) * (bitAnd .u64 y_1 4294967295))) + (shR .u64 (wu64 ((bitAnd .u64 x_0 4294967295) * (bitAnd .u64 y_1 4294967295))) 32))) 32))) + (shR .u64 (wu64 ((bitAnd .u64 (wu64 ((wu64 ((shR .u64 x_0 32) * (bitAnd .u64 y_1 4294967295))) + (shR .u64 (wu64 ((bitAnd .u64 x_0 4294967295) * (bitAnd .u64 y_1 4294967295))) 32))) 4294967295) + (wu64 ((bitAnd .u64 x_0 4294967295) * (shR .u64 y_1 32))))) 32))), (wu64 (x_0 * y_1)), ()))
noncomputable def math_bits_Mul64_o (K : Nat) : FO := fnFO math_bits_Mul64_h math_bits_Mul64_r fun t => math_bits_Mul64_g K t.1 t.2.1
theorem math_bits_Mul64_q (K : Nat) (t : math_bits_Mul64_h.T) : exFn (math_bits_Mul64_e0 K) (hdl (math_bits_Mul64_e0 K) 0) [66] Try.f66 (slVals (math_bits_Mul64_h.put t).fr.sl) ⟨⟨0, []⟩, [], (math_bits_Mul64_h.put t).mem⟩ (takeRes math_bits_Mul64_r) = math_bits_Mul64_g K t.1 t.2.1 := by kernel_rfl
theorem math_bits_Mul64_ok (K : Nat) : FOok Try.prog 66 (math_bits_Mul64_o K) :=
  fn_rule (math_bits_Mul64_t0 K) (math_bits_Mul64_i0 K) (draws (math_bits_Mul64_t0 K)) 0 Try.func66 (fnB_ok Try.func66 (by kernel_rfl)) rfl rfl (allOwn_ok false (by kernel_rfl)) rfl (allOwn_ok true (by kernel_rfl)) (fun t => math_bits_Mul64_q K t)
/-! math_bits_Mul -/
noncomputable def math_bits_Mul_e0 (K : Nat) : Env := ⟨tt, [(66, math_bits_Mul64_o K)], [], [], eqs⟩
theorem math_bits_Mul_t0 (K : Nat) : EnvT Try.prog (math_bits_Mul_e0 K) := envT_of tt_ok eqs_ok ⟨math_bits_Mul64_ok K, trivial⟩
theorem math_bits_Mul_i0 (K : Nat) : EnvI Try.prog (math_bits_Mul_e0 K) := envI_of (es := []) trivial trivial
noncomputable def math_bits_Mul_h : Sh := ⟨2, [(0, .sc (.i .u64)), (1, .sc (.i .u64))], [], []⟩
noncomputable def math_bits_Mul_r : Sh := ⟨2, [(0, .sc (.i .u64)), (1, .sc (.i .u64))], [], []⟩
noncomputable def math_bits_Mul_g (K : Nat) (x_0 : Int) (y_1 : Int) : Option (Int × Int × Unit) :=
  ((math_bits_Mul64_g K x_0 y_1).bind fun q1 => (some (q1.1, q1.2.1, ())))
noncomputable def math_bits_Mul_o (K : Nat) : FO := fnFO math_bits_Mul_h math_bits_Mul_r fun t => math_bits_Mul_g K t.1 t.2.1
theorem math_bits_Mul_q (K : Nat) (t : math_bits_Mul_h.T) : exFn (math_bits_Mul_e0 K) (hdl (math_bits_Mul_e0 K) 0) [60] Try.f60 (slVals (math_bits_Mul_h.put t).fr.sl) ⟨⟨0, []⟩, [], (math_bits_Mul_h.put t).mem⟩ (takeRes math_bits_Mul_r) = math_bits_Mul_g K t.1 t.2.1 := by kernel_rfl
theorem math_bits_Mul_ok (K : Nat) : FOok Try.prog 60 (math_bits_Mul_o K) :=
  fn_rule (math_bits_Mul_t0 K) (math_bits_Mul_i0 K) (draws (math_bits_Mul_t0 K)) 0 Try.func60 (fnB_ok Try.func60 (by kernel_rfl)) rfl rfl (allOwn_ok false (by kernel_rfl)) rfl (allOwn_ok true (by kernel_rfl)) (fun t => math_bits_Mul_q K t)
/-! math_bits_Sub64 -/
theorem math_bits_Sub64_x : ExtOk Try.prog 70 subRow := ⟨Try.f70, Try.func70, by kernel_rfl, by kernel_rfl, by kernel_rfl, by kernel_rfl⟩
noncomputable def math_bits_Sub64_o (K : Nat) : FO := extFO subV
theorem math_bits_Sub64_ok (K : Nat) : FOok Try.prog 70 (math_bits_Sub64_o K) := sub_ok math_bits_Sub64_x
/-! math_bits_Sub -/
noncomputable def math_bits_Sub_e0 (K : Nat) : Env := ⟨tt, [(70, math_bits_Sub64_o K)], [], [], eqs⟩
theorem math_bits_Sub_t0 (K : Nat) : EnvT Try.prog (math_bits_Sub_e0 K) := envT_of tt_ok eqs_ok ⟨math_bits_Sub64_ok K, trivial⟩
theorem math_bits_Sub_i0 (K : Nat) : EnvI Try.prog (math_bits_Sub_e0 K) := envI_of (es := []) trivial trivial
noncomputable def math_bits_Sub_h : Sh := ⟨3, [(0, .sc (.i .u64)), (1, .sc (.i .u64)), (2, .sc (.i .u64))], [], []⟩
noncomputable def math_bits_Sub_r : Sh := ⟨2, [(0, .sc (.i .u64)), (1, .sc (.i .u64))], [], []⟩
noncomputable def math_bits_Sub_g (K : Nat) (x_0 : Int) (y_1 : Int) (borrow_2 : Int) : Option (Int × Int × Unit) :=
  (bif (decide (borrow_2 ≤ 1)) then (some ((Int.ofNat (((Int.toNat x_0) + 18446744073709551616 - (Int.toNat y_1) - (Int.toNat borrow_2)) % 18446744073709551616)), (Int.ofNat (bif Nat.blt (Int.toNat x_0) ((Int.toNat y_1) + (Int.toNat borrow_2)) then 1 else 0)), ())) else none)
noncomputable def math_bits_Sub_o (K : Nat) : FO := fnFO math_bits_Sub_h math_bits_Sub_r fun t => math_bits_Sub_g K t.1 t.2.1 t.2.2.1
theorem math_bits_Sub_q (K : Nat) (t : math_bits_Sub_h.T) : exFn (math_bits_Sub_e0 K) (hdl (math_bits_Sub_e0 K) 0) [67] Try.f67 (slVals (math_bits_Sub_h.put t).fr.sl) ⟨⟨0, []⟩, [], (math_bits_Sub_h.put t).mem⟩ (takeRes math_bits_Sub_r) = math_bits_Sub_g K t.1 t.2.1 t.2.2.1 := by kernel_rfl
theorem math_bits_Sub_ok (K : Nat) : FOok Try.prog 67 (math_bits_Sub_o K) :=
  fn_rule (math_bits_Sub_t0 K) (math_bits_Sub_i0 K) (draws (math_bits_Sub_t0 K)) 0 Try.func67 (fnB_ok Try.func67 (by kernel_rfl)) rfl rfl (allOwn_ok false (by kernel_rfl)) rfl (allOwn_ok true (by kernel_rfl)) (fun t => math_bits_Sub_q K t)
/-! wide_Number_minus -/
noncomputable def wide_Number_minus_e0 (K : Nat) : Env := ⟨tt, [(67, math_bits_Sub_o K)], [], [], eqs⟩
theorem wide_Number_minus_t0 (K : Nat) : EnvT Try.prog (wide_Number_minus_e0 K) := envT_of tt_ok eqs_ok ⟨math_bits_Sub_ok K, trivial⟩
theorem wide_Number_minus_i0 (K : Nat) : EnvI Try.prog (wide_Number_minus_e0 K) := envI_of (es := []) trivial trivial
noncomputable def wide_Number_minus_h : Sh := ⟨1, [(0, .ag [.i .i64, .i .u64])], [], []⟩
noncomputable def wide_Number_minus_r : Sh := ⟨1, [(0, .ag [.i .i64, .i .u64])], [], []⟩
noncomputable def wide_Number_minus_g (K : Nat) (n_0_0 : Int) (n_0_1 : Int) : Option (Int × Int × Unit) :=
  ((math_bits_Sub_g K 0 n_0_1 0).bind fun q1 => ((math_bits_Sub_g K 0 (wu64 (n_0_0)) q1.2.1).bind fun q2 => (some ((wi64 (q2.1)), q1.1, ()))))
noncomputable def wide_Number_minus_o (K : Nat) : FO := fnFO wide_Number_minus_h wide_Number_minus_r fun t => wide_Number_minus_g K t.1 t.2.1
theorem wide_Number_minus_q (K : Nat) (t : wide_Number_minus_h.T) : exFn (wide_Number_minus_e0 K) (hdl (wide_Number_minus_e0 K) 0) [62] Try.f62 (slVals (wide_Number_minus_h.put t).fr.sl) ⟨⟨0, []⟩, [], (wide_Number_minus_h.put t).mem⟩ (takeRes wide_Number_minus_r) = wide_Number_minus_g K t.1 t.2.1 := by kernel_rfl
theorem wide_Number_minus_ok (K : Nat) : FOok Try.prog 62 (wide_Number_minus_o K) :=
  fn_rule (wide_Number_minus_t0 K) (wide_Number_minus_i0 K) (draws (wide_Number_minus_t0 K)) 0 Try.func62 (fnB_ok Try.func62 (by kernel_rfl)) rfl rfl (allOwn_ok false (by kernel_rfl)) rfl (allOwn_ok true (by kernel_rfl)) (fun t => wide_Number_minus_q K t)
/-! wide_Mul -/
noncomputable def wide_Mul_e0 (K : Nat) : Env := ⟨tt, [(61, wide_size_o K), (60, math_bits_Mul_o K), (62, wide_Number_minus_o K)], [], [], eqs⟩
theorem wide_Mul_t0 (K : Nat) : EnvT Try.prog (wide_Mul_e0 K) := envT_of tt_ok eqs_ok ⟨wide_size_ok K, math_bits_Mul_ok K, wide_Number_minus_ok K, trivial⟩
theorem wide_Mul_i0 (K : Nat) : EnvI Try.prog (wide_Mul_e0 K) := envI_of (es := []) trivial trivial
noncomputable def wide_Mul_h : Sh := ⟨2, [(0, .sc (.i .i64)), (1, .sc (.i .i64))], [], []⟩
noncomputable def wide_Mul_r : Sh := ⟨1, [(0, .ag [.i .i64, .i .u64])], [], []⟩
noncomputable def wide_Mul_g (K : Nat) (a_0 : Int) (b_1 : Int) : Option (Int × Int × Unit) :=
  ((wide_size_g K a_0).bind fun q1 => ((wide_size_g K b_1).bind fun q2 => ((math_bits_Mul_g K q1.1 q2.1).bind fun q3 => (bif (!((decide (a_0 < 0)) == (decide (b_1 < 0)))) then ((wide_Number_minus_g K (wi64 (q3.1)) q3.2.1).bind fun q4 => (some (q4.1, q4.2.1, ()))) else (some ((wi64 (q3.1)), q3.2.1, ()))))))
noncomputable def wide_Mul_o (K : Nat) : FO := fnFO wide_Mul_h wide_Mul_r fun t => wide_Mul_g K t.1 t.2.1
theorem wide_Mul_q (K : Nat) (t : wide_Mul_h.T) : exFn (wide_Mul_e0 K) (hdl (wide_Mul_e0 K) 0) [56] Try.f56 (slVals (wide_Mul_h.put t).fr.sl) ⟨⟨0, []⟩, [], (wide_Mul_h.put t).mem⟩ (takeRes wide_Mul_r) = wide_Mul_g K t.1 t.2.1 := by kernel_rfl
theorem wide_Mul_ok (K : Nat) : FOok Try.prog 56 (wide_Mul_o K) :=
  fn_rule (wide_Mul_t0 K) (wide_Mul_i0 K) (draws (wide_Mul_t0 K)) 0 Try.func56 (fnB_ok Try.func56 (by kernel_rfl)) rfl rfl (allOwn_ok false (by kernel_rfl)) rfl (allOwn_ok true (by kernel_rfl)) (fun t => wide_Mul_q K t)
/-! math_bits_Len64 -/
noncomputable def math_bits_Len64_e0 (K : Nat) : Env := ⟨tt, [], [], [], eqs⟩
theorem math_bits_Len64_t0 (K : Nat) : EnvT Try.prog (math_bits_Len64_e0 K) := envT_of tt_ok eqs_ok trivial
theorem math_bits_Len64_i0 (K : Nat) : EnvI Try.prog (math_bits_Len64_e0 K) := envI_of (es := []) trivial trivial
noncomputable def math_bits_Len64_h : Sh := ⟨1, [(0, .sc (.i .u64))], [], []⟩
noncomputable def math_bits_Len64_r : Sh := ⟨1, [(0, .sc (.i .i64))], [], []⟩
noncomputable def math_bits_Len64_g (K : Nat) (x_0 : Int) : Option (Int × Unit) :=
  (bif (decide (x_0 ≥ 4294967296)) then (bif (decide ((shR .u64 x_0 32) ≥ 65536)) then (bif (decide ((shR .u64 (shR .u64 x_0 32) 16) ≥ 256)) then (bif ((decide (0 ≤ (wu8 ((shR .u64 (shR .u64 (shR .u64 x_0 32) 16) 8))))) && (decide ((wu8 ((shR .u64 (shR .u64 (shR .u64 x_0 32) 16) 8))) < 256))) then (some ((wi64 (56 + (wi64 ((((tab0.getD (Int.toNat (wu8 ((shR .u64 (shR .u64 (shR .u64 x_0 32) 16) 8)))) 0).toNat : Nat) : Int))))), ())) else none) else (bif ((decide (0 ≤ (wu8 ((shR .u64 (shR .u64 x_0 32) 16))))) && (decide ((wu8 ((shR .u64 (shR .u64 x_0 32) 16))) < 256))) then (some ((wi64 (48 + (wi64 ((((tab0.getD (Int.toNat (wu8 ((shR .u64 (shR .u64 x_0 32) 16)))) 0).toNat : Nat) : Int))))), ())) else none)) else (bif (decide ((shR .u64 x_0 32) ≥ 256)) then (bif ((decide (0 ≤ (wu8 ((shR .u64 (shR .u64 x_0 32) 8))))) && (decide ((wu8 ((shR .u64 (shR .u64 x_0 32) 8))) < 256))) then (some ((wi64 (40 + (wi64 ((((tab0.getD (Int.toNat (wu8 ((shR .u64 (shR .u64 x_0 32) 8)))) 0).toNat : Nat) : Int))))), ())) else none) else (bif ((decide (0 ≤ (wu8 ((shR .u64 x_0 32))))) && (decide ((wu8 ((shR .u64 x_0 32))) < 256))) then (some ((wi64 (32 + (wi64 ((((tab0.getD (Int.toNat (wu8 ((shR .u64 x_0 32)))) 0).toNat : Nat) : Int))))), ())) else none))) else (bif (decide (x_0 ≥ 65536)) then (bif (decide ((shR .u64 x_0 16) ≥ 256)) then (bif ((decide (0 ≤ (wu8 ((shR .u64 (shR .u64 x_0 16) 8))))) && (decide ((wu8 ((shR .u64 (shR .u64 x_0 16) 8))) < 256))) then (some ((wi64 (24 + (wi64 ((((tab0.getD (Int.toNat (wu8 ((shR .u64 (shR .u64 x_0 16) 8)))) 0).toNat : Nat) : Int))))), ())) else none) else (bif ((decide (0 ≤ (wu8 ((shR .u64 x_0 16))))) && (decide ((wu8 ((shR .u64 x_0 16))) < 256))) then (some ((wi64 (16 + (wi64 ((((tab0.getD (Int.toNat (wu8 ((shR .u64 x_0 16)))) 0).toNat : Nat) : Int))))), ())) else none)) else (bif (decide (x_0 ≥ 256)) then (bif ((decide (0 ≤ (wu8 ((shR .u64 x_0 8))))) && (decide ((wu8 ((shR .u64 x_0 8))) < 256))) then (some ((wi64 (8 + (wi64 ((((tab0.getD (Int.toNat (wu8 ((shR .u64 x_0 8)))) 0).toNat : Nat) : Int))))), ())) else none) else (bif ((decide (0 ≤ (wu8 (x_0)))) && (decide ((wu8 (x_0)) < 256))) then (some ((wi64 (0 + (wi64 ((((tab0.getD (Int.toNat (wu8 (x_0))) 0).toNat : Nat) : Int))))), ())) else none))))
noncomputable def math_bits_Len64_o (K : Nat) : FO := fnFO math_bits_Len64_h math_bits_Len64_r fun t => math_bits_Len64_g K t.1
theorem math_bits_Len64_q (K : Nat) (t : math_bits_Len64_h.T) : exFn (math_bits_Len64_e0 K) (hdl (math_bits_Len64_e0 K) 0) [74] Try.f74 (slVals (math_bits_Len64_h.put t).fr.sl) ⟨⟨0, []⟩, [], (math_bits_Len64_h.put t).mem⟩ (takeRes math_bits_Len64_r) = math_bits_Len64_g K t.1 := by kernel_rfl
theorem math_bits_Len64_ok (K : Nat) : FOok Try.prog 74 (math_bits_Len64_o K) :=
  fn_rule (math_bits_Len64_t0 K) (math_bits_Len64_i0 K) (draws (math_bits_Len64_t0 K)) 0 Try.func74 (fnB_ok Try.func74 (by kernel_rfl)) rfl rfl (allOwn_ok false (by kernel_rfl)) rfl (allOwn_ok true (by kernel_rfl)) (fun t => math_bits_Len64_q K t)
/-! math_bits_LeadingZeros64 -/
noncomputable def math_bits_LeadingZeros64_e0 (K : Nat) : Env := ⟨tt, [(74, math_bits_Len64_o K)], [], [], eqs⟩
theorem math_bits_LeadingZeros64_t0 (K : Nat) : EnvT Try.prog (math_bits_LeadingZeros64_e0 K) := envT_of tt_ok eqs_ok ⟨math_bits_Len64_ok K, trivial⟩
theorem math_bits_LeadingZeros64_i0 (K : Nat) : EnvI Try.prog (math_bits_LeadingZeros64_e0 K) := envI_of (es := []) trivial trivial
noncomputable def math_bits_LeadingZeros64_h : Sh := ⟨1, [(0, .sc (.i .u64))], [], []⟩
noncomputable def math_bits_LeadingZeros64_r : Sh := ⟨1, [(0, .sc (.i .i64))], [], []⟩
noncomputable def math_bits_LeadingZeros64_g (K : Nat) (x_0 : Int) : Option (Int × Unit) :=
  ((math_bits_Len64_g K x_0).bind fun q1 => (some ((wi64 (64 - q1.1)), ())))
noncomputable def math_bits_LeadingZeros64_o (K : Nat) : FO := fnFO math_bits_LeadingZeros64_h math_bits_LeadingZeros64_r fun t => math_bits_LeadingZeros64_g K t.1
theorem math_bits_LeadingZeros64_q (K : Nat) (t : math_bits_LeadingZeros64_h.T) : exFn (math_bits_LeadingZeros64_e0 K) (hdl (math_bits_LeadingZeros64_e0 K) 0) [73] Try.f73 (slVals (math_bits_LeadingZeros64_h.put t).fr.sl) ⟨⟨0, []⟩, [], (math_bits_LeadingZeros64_h.put t).mem⟩ (takeRes math_bits_LeadingZeros64_r) = math_bits_LeadingZeros64_g K t.1 := by kernel_rfl
theorem math_bits_LeadingZeros64_ok (K : Nat) : FOok Try.prog 73 (math_bits_LeadingZeros64_o K) :=
  fn_rule (math_bits_LeadingZeros64_t0 K) (math_bits_LeadingZeros64_i0 K) (draws (math_bits_LeadingZeros64_t0 K)) 0 Try.func73 (fnB_ok Try.func73 (by kernel_rfl)) rfl rfl (allOwn_ok false (by kernel_rfl)) rfl (allOwn_ok true (by kernel_rfl)) (fun t => math_bits_LeadingZeros64_q K t)
/-! math_bits_Div64 -/
noncomputable def math_bits_Div64_e0 (K : Nat) : Env := ⟨tt, [(73, math_bits_LeadingZeros64_o K)], [], [], eqs⟩
theorem math_bits_Div64_t0 (K : Nat) : EnvT Try.prog (math_bits_Div64_e0 K) := envT_of tt_ok eqs_ok ⟨math_bits_LeadingZeros64_ok K, trivial⟩
theorem math_bits_Div64_i0 (K : Nat) : EnvI Try.prog (math_bits_Div64_e0 K) := envI_of (es := []) trivial trivial
noncomputable def math_bits_Div64_l0h : Sh := ⟨135, [(2, .sc (.i .u64)), (8, .sc (.i .u64)), (9, .sc (.i .u64)), (10, .sc (.i .u64)), (11, .sc (.i .u64)), (13, .sc (.i .u64)), (14, .sc (.i .u64)), (15, .sc (.i .u64)), (16, .sc (.i .u64))], [(0, [])], []⟩
noncomputable def math_bits_Div64_l0x0 : Sh := ⟨135, [(2, .sc (.i .u64)), (8, .sc (.i .u64)), (9, .sc (.i .u64)), (10, .sc (.i .u64)), (11, .sc (.i .u64)), (13, .sc (.i .u64)), (14, .sc (.i .u64)), (15, .sc (.i .u64))], [(0, [])], []⟩
noncomputable def math_bits_Div64_l0O : OutI (Int × Int × Int × Int × Int × Int × Int × Int × Unit) := (OutI.exit 0 math_bits_Div64_l0x0)
noncomputable def math_bits_Div64_l0r (K : Nat) (rec : Int → Int → Int → Int → Int → Int → Int → Int → Int → Option (Int × Int × Int × Int × Int × Int × Int × Int × Unit)) (y_2 : Int) (s_8 : Int) (yn1_9 : Int) (yn0_10 : Int) (un32_11 : Int) (un1_13 : Int) (un0_14 : Int) (q1_15 : Int) (rhat_16 : Int) : Option (Int × Int × Int × Int × Int × Int × Int × Int × Unit) :=
  (bif (decide (q1_15 ≥ 4294967296)) then (bif (decide ((wu64 (rhat_16 + yn1_9)) ≥ 4294967296)) then (some (y_2, s_8, yn1_9, yn0_10, un32_11, un1_13, un0_14, (wu64 (q1_15 - 1)), ())) else (rec y_2 s_8 yn1_9 yn0_10 un32_11 un1_13 un0_14 (wu64 (q1_15 - 1)) (wu64 (rhat_16 + yn1_9)))) else (bif (decide ((wu64 (q1_15 * yn0_10)) > (wu64 ((wu64 (4294967296 * rhat_16)) + un1_13)))) then (bif (decide ((wu64 (rhat_16 + yn1_9)) ≥ 4294967296)) then (some (y_2, s_8, yn1_9, yn0_10, un32_11, un1_13, un0_14, (wu64 (q1_15 - 1)), ())) else (rec y_2 s_8 yn1_9 yn0_10 un32_11 un1_13 un0_14 (wu64 (q1_15 - 1)) (wu64 (rhat_16 + yn1_9)))) else (some (y_2, s_8, yn1_9, yn0_10, un32_11, un1_13, un0_14, q1_15, ()))))
noncomputable def math_bits_Div64_l0 (K n : Nat) : Int → Int → Int → Int → Int → Int → Int → Int → Int → Option (Int × Int × Int × Int × Int × Int × Int × Int × Unit) := Nat.rec (motive := fun _ => Int → Int → Int → Int → Int → Int → Int → Int → Int → Option (Int × Int × Int × Int × Int × Int × Int × Int × Unit)) (fun _ _ _ _ _ _ _ _ _ => none) (fun _ ih => math_bits_Div64_l0r K ih) n
noncomputable def math_bits_Div64_l0u (K n : Nat) (t : math_bits_Div64_l0h.T) : Option (Int × Int × Int × Int × Int × Int × Int × Int × Unit) :=
  let u1 := t.2
  let u2 := u1.2
  let u3 := u2.2
  let u4 := u3.2
  let u5 := u4.2
  let u6 := u5.2
  let u7 := u6.2
  let u8 := u7.2
  math_bits_Div64_l0 K n t.1 u1.1 u2.1 u3.1 u4.1 u5.1 u6.1 u7.1 u8.1
noncomputable def math_bits_Div64_l0o (K : Nat) : LO := loopLO math_bits_Div64_l0h math_bits_Div64_l0O fun t => math_bits_Div64_l0u K K t
noncomputable def math_bits_Div64_l0C : Code := bodyOf Try.f72
noncomputable def math_bits_Div64_l0B : Code := (findLoops 17 (loopsIn math_bits_Div64_l0C)).headD .skip
theorem math_bits_Div64_l0F : findLoops 17 (loopsIn math_bits_Div64_l0C) = [math_bits_Div64_l0B] := by kernel_rfl
theorem math_bits_Div64_l0q (K n : Nat) (t : math_bits_Div64_l0h.T) : exC (math_bits_Div64_e0 K) (hdl (math_bits_Div64_e0 K) 0) (72 :: []) math_bits_Div64_l0B (math_bits_Div64_l0h.put t) (fun s => (math_bits_Div64_l0h.take s).bind fun t => math_bits_Div64_l0u K n t) (fun id s => math_bits_Div64_l0O.get (some id) s) (fun s => math_bits_Div64_l0O.get none s) = math_bits_Div64_l0u K (n + 1) t := by kernel_rfl
noncomputable def math_bits_Div64_l0E (K : Nat) : LoopE Try.prog := ⟨[17, 72], math_bits_Div64_l0o K, Try.f72, math_bits_Div64_l0C, math_bits_Div64_l0B, ⟨17, 72, [], rfl, Try.func72, by kernel_rfl, math_bits_Div64_l0F⟩,
  loop_rule (F := fun n t => math_bits_Div64_l0u K n t) (math_bits_Div64_t0 K) (math_bits_Div64_i0 K) (draws (math_bits_Div64_t0 K)) 0 Try.func72 (c := math_bits_Div64_l0C) (by kernel_rfl) (body_in math_bits_Div64_l0F) (ctx' := []) (h := math_bits_Div64_l0h) (O := math_bits_Div64_l0O) (fun _ => rfl) (fun m t => math_bits_Div64_l0q K m t) K⟩
noncomputable def math_bits_Div64_e1 (K : Nat) : Env := ⟨tt, [(73, math_bits_LeadingZeros64_o K)], [], [([17, 72], math_bits_Div64_l0o K)], eqs⟩
theorem math_bits_Div64_t1 (K : Nat) : EnvT Try.prog (math_bits_Div64_e1 K) := envT_of tt_ok eqs_ok ⟨math_bits_LeadingZeros64_ok K, trivial⟩
theorem math_bits_Div64_i1 (K : Nat) : EnvI Try.prog (math_bits_Div64_e1 K) := envI_of (es := [math_bits_Div64_l0E K]) trivial ⟨⟨rfl, rfl⟩, trivial⟩
noncomputable def math_bits_Div64_l1h : Sh := ⟨135, [(2, .sc (.i .u64)), (8, .sc (.i .u64)), (9, .sc (.i .u64)), (10, .sc (.i .u64)), (14, .sc (.i .u64)), (15, .sc (.i .u64)), (16, .sc (.i .u64)), (17, .sc (.i .u64)), (18, .sc (.i .u64))], [(0, [])], []⟩
noncomputable def math_bits_Div64_l1x0 : Sh := ⟨135, [(2, .sc (.i .u64)), (8, .sc (.i .u64)), (14, .sc (.i .u64)), (15, .sc (.i .u64)), (17, .sc (.i .u64)), (18, .sc (.i .u64))], [(0, [])], []⟩
noncomputable def math_bits_Div64_l1O : OutI (Int × Int × Int × Int × Int × Int × Unit) := (OutI.exit 2 math_bits_Div64_l1x0)
noncomputable def math_bits_Div64_l1r (K : Nat) (rec : Int → Int → Int → Int → Int → Int → Int → Int → Int → Option (Int × Int × Int × Int × Int × Int × Unit)) (y_2 : Int) (s_8 : Int) (yn1_9 : Int) (yn0_10 : Int) (un0_14 : Int) (q1_15 : Int) (rhat_16 : Int) (un21_17 : Int) (q0_18 : Int) : Option (Int × Int × Int × Int × Int × Int × Unit) :=
  (bif (decide (q0_18 ≥ 4294967296)) then (bif (decide ((wu64 (rhat_16 + yn1_9)) ≥ 4294967296)) then (some (y_2, s_8, un0_14, q1_15, un21_17, (wu64 (q0_18 - 1)), ())) else (rec y_2 s_8 yn1_9 yn0_10 un0_14 q1_15 (wu64 (rhat_16 + yn1_9)) un21_17 (wu64 (q0_18 - 1)))) else (bif (decide ((wu64 (q0_18 * yn0_10)) > (wu64 ((wu64 (4294967296 * rhat_16)) + un0_14)))) then (bif (decide ((wu64 (rhat_16 + yn1_9)) ≥ 4294967296)) then (some (y_2, s_8, un0_14, q1_15, un21_17, (wu64 (q0_18 - 1)), ())) else (rec y_2 s_8 yn1_9 yn0_10 un0_14 q1_15 (wu64 (rhat_16 + yn1_9)) un21_17 (wu64 (q0_18 - 1)))) else (some (y_2, s_8, un0_14, q1_15, un21_17, q0_18, ()))))
noncomputable def math_bits_Div64_l1 (K n : Nat) : Int → Int → Int → Int → Int → Int → Int → Int → Int → Option (Int × Int × Int × Int × Int × Int × Unit) := Nat.rec (motive := fun _ => Int → Int → Int → Int → Int → Int → Int → Int → Int → Option (Int × Int × Int × Int × Int × Int × Unit)) (fun _ _ _ _ _ _ _ _ _ => none) (fun _ ih => math_bits_Div64_l1r K ih) n
noncomputable def math_bits_Div64_l1u (K n : Nat) (t : math_bits_Div64_l1h.T) : Option (Int × Int × Int × Int × Int × Int × Unit) :=
  let u1 := t.2
  let u2 := u1.2
  let u3 := u2.2
  let u4 := u3.2
  let u5 := u4.2
  let u6 := u5.2
  let u7 := u6.2
  let u8 := u7.2
  math_bits_Div64_l1 K n t.1 u1.1 u2.1 u3.1 u4.1 u5.1 u6.1 u7.1 u8.1
noncomputable def math_bits_Div64_l1o (K : Nat) : LO := loopLO math_bits_Div64_l1h math_bits_Div64_l1O fun t => math_bits_Div64_l1u K K t
noncomputable def math_bits_Div64_l1C : Code := bodyOf Try.f72
noncomputable def math_bits_Div64_l1B : Code := (findLoops 24 (loopsIn math_bits_Div64_l1C)).headD .skip
theorem math_bits_Div64_l1F : findLoops 24 (loopsIn math_bits_Div64_l1C) = [math_bits_Div64_l1B] := by kernel_rfl
theorem math_bits_Div64_l1q (K n : Nat) (t : math_bits_Div64_l1h.T) : exC (math_bits_Div64_e1 K) (hdl (math_bits_Div64_e1 K) 0) (72 :: []) math_bits_Div64_l1B (math_bits_Div64_l1h.put t) (fun s => (math_bits_Div64_l1h.take s).bind fun t => math_bits_Div64_l1u K n t) (fun id s => math_bits_Div64_l1O.get (some id) s) (fun s => math_bits_Div64_l1O.get none s) = math_bits_Div64_l1u K (n + 1) t := by kernel_rfl
noncomputable def math_bits_Div64_l1E (K : Nat) : LoopE Try.prog := ⟨[24, 72], math_bits_Div64_l1o K, Try.f72, math_bits_Div64_l1C, math_bits_Div64_l1B, ⟨24, 72, [], rfl, Try.func72, by kernel_rfl, math_bits_Div64_l1F⟩,
  loop_rule (F := fun n t => math_bits_Div64_l1u K n t) (math_bits_Div64_t1 K) (math_bits_Div64_i1 K) (draws (math_bits_Div64_t1 K)) 0 Try.func72 (c := math_bits_Div64_l1C) (by kernel_rfl) (body_in math_bits_Div64_l1F) (ctx' := []) (h := math_bits_Div64_l1h) (O := math_bits_Div64_l1O) (fun _ => rfl) (fun m t => math_bits_Div64_l1q K m t) K⟩
noncomputable def math_bits_Div64_e2 (K : Nat) : Env := ⟨tt, [(73, math_bits_LeadingZeros64_o K)], [], [([17, 72], math_bits_Div64_l0o K), ([24, 72], math_bits_Div64_l1o K)], eqs⟩
theorem math_bits_Div64_t2 (K : Nat) : EnvT Try.prog (math_bits_Div64_e2 K) := envT_of tt_ok eqs_ok ⟨math_bits_LeadingZeros64_ok K, trivial⟩
theorem math_bits_Div64_i2 (K : Nat) : EnvI Try.prog (math_bits_Div64_e2 K) := envI_of (es := [math_bits_Div64_l0E K, math_bits_Div64_l1E K]) trivial ⟨⟨rfl, rfl⟩, ⟨rfl, rfl⟩, trivial⟩
noncomputable def math_bits_Div64_h : Sh := ⟨3, [(0, .sc (.i .u64)), (1, .sc (.i .u64)), (2, .sc (.i .u64))], [], []⟩
noncomputable def math_bits_Div64_r : Sh := ⟨2, [(0, .sc (.i .u64)), (1, .sc (.i .u64))], [], []⟩
noncomputable def math_bits_Div64_g (K : Nat) (hi_0 : Int) (lo_1 : Int) (y_2 : Int) : Option (Int × Int × Unit) :=
  (bif (y_2 == 0) then none else (bif (decide (y_2 ≤ hi_0)) then none else (bif (hi_0 == 0) then (bif (y_2 == 0) then none else (bif (y_2 == 0) then none else (some ((wu64 (Int.tdiv lo_1 y_2)), (Int.tmod lo_1 y_2), ())))) else ((math_bits_LeadingZeros64_g K y_2).bind fun q1 => (bif (decide ((wu64 (q1.1)) < 0)) then none else (bif (decide ((wu64 (q1.1)) < 0)) then none else (bif (decide ((wu64 (64 - (wu64 (q1.1)))) < 0)) then none else (bif (decide ((wu64 (q1.1)) < 0)) then none else (bif ((shR .u64 (shL .u64 y_2 (wu64 (q1.1))) 32) == 0) then none else ((math_bits_Div64_l0 K K (shL .u64 y_2 (wu64 (q1.1))) (wu64 (q1.1)) (shR .u64 (shL .u64 y_2 (wu64 (q1.1))) 32) (bitAnd .u64 (shL .u64 y_2 (wu64 (q1.1))) 4294967295) (bitOr .u64 (shL .u64 hi_0 (wu64 (q1.1))) (shR .u64 lo_1 (wu64 (64 - (wu64 (q1.1)))))) (shR .u64 (shL .u64 lo_1 (wu64 (q1.1))) 32) (bitAnd .u64 (shL .u64 lo_1 (wu64 (q1.1))) 4294967295) (wu64 (Int.tdiv (bitOr .u64 (shL .u64 hi_0 (wu64 (q1.1))) (shR .u64 lo_1 (wu64 (64 - (wu64 (q1.1)))))) (shR .u64 (shL .u64 y_2 (wu64 (q1.1))) 32))) (wu64 ((bitOr .u64 (shL .u64 hi_0 (wu64 (q1.1))) (shR .u64 lo_1 (wu64 (64 - (wu64 (q1.1)))))) - (wu64 ((wu64 (Int.tdiv (bitOr .u64 (shL .u64 hi_0 (wu64 (q1.1))) (shR .u64 lo_1 (wu64 (64 - (wu64 (q1.1)))))) (shR .u64 (shL .u64 y_2 (wu64 (q1.1))) 32))) * (shR .u64 (shL .u64 y_2 (wu64 (q1.1))) 32)))))).bind fun q2 => (bif (q2.2.2.1 == 0) then none else ((math_bits_Div64_l1 K K q2.1 q2.2.1 q2.2.2.1 q2.2.2.2.1 q2.2.2.2.2.2.2.1 q2.2.2.2.2.2.2.2.1 (wu64 ((wu64 ((wu64 ((wu64 (q2.2.2.2.2.1 * 4294967296)) + q2.2.2.2.2.2.1)) - (wu64 (q2.2.2.2.2.2.2.2.1 * q2.1)))) - (wu64 ((wu64 (Int.tdiv (wu64 ((wu64 ((wu64 (q2.2.2.2.2.1 * 4294967296)) + q2.2.2.2.2.2.1)) - (wu64 (q2.2.2.2.2.2.2.2.1 * q2.1)))) q2.2.2.1)) * q2.2.2.1)))) (wu64 ((wu64 ((wu64 (q2.2.2.2.2.1 * 4294967296)) + q2.2.2.2.2.2.1)) - (wu64 (q2.2.2.2.2.2.2.2.1 * q2.1)))) (wu64 (Int.tdiv (wu64 ((wu64 ((wu64 (q2.2.2.2.2.1 * 4294967296)) + q2.2.2.2.2.2.1)) - (wu64 (q2.2.2.2.2.2.2.2.1 * q2.1)))) q2.2.2.1))).bind fun q3 => (bif (decide (q3.2.1 < 0)) then none else (some ((wu64 ((wu64 (q3.2.2.2.1 * 4294967296)) + q3.2.2.2.2.2.1)), (shR .u64 (wu64 ((wu64 ((wu64 (q3.2.2.2.2.1 * 4294967296)) + q3.2.2.1)) - (wu64 (q3.2.2.2.2.2.1 * q3.1)))) q3.2.1), ())))))))))))))))
noncomputable def math_bits_Div64_o (K : Nat) : FO := fnFO math_bits_Div64_h math_bits_Div64_r fun t => math_bits_Div64_g K t.1 t.2.1 t.2.2.1
theorem math_bits_Div64_q (K : Nat) (t : math_bits_Div64_h.T) : exFn (math_bits_Div64_e2 K) (hdl (math_bits_Div64_e2 K) 0) [72] Try.f72 (slVals (math_bits_Div64_h.put t).fr.sl) ⟨⟨0, []⟩, [], (math_bits_Div64_h.put t).mem⟩ (takeRes math_bits_Div64_r) = math_bits_Div64_g K t.1 t.2.1 t.2.2.1 := by kernel_rfl
theorem math_bits_Div64_ok (K : Nat) : FOok Try.prog 72 (math_bits_Div64_o K) :=
  fn_rule (math_bits_Div64_t2 K) (math_bits_Div64_i2 K) (draws (math_bits_Div64_t2 K)) 0 Try.func72 (fnB_ok Try.func72 (by kernel_rfl)) rfl rfl (allOwn_ok false (by kernel_rfl)) rfl (allOwn_ok true (by kernel_rfl)) (fun t => math_bits_Div64_q K t)
/-! math_bits_Div -/
noncomputable def math_bits_Div_e0 (K : Nat) : Env := ⟨tt, [(72, math_bits_Div64_o K)], [], [], eqs⟩
theorem math_bits_Div_t0 (K : Nat) : EnvT Try.prog (math_bits_Div_e0 K) := envT_of tt_ok eqs_ok ⟨math_bits_Div64_ok K, trivial⟩
theorem math_bits_Div_i0 (K : Nat) : EnvI Try.prog (math_bits_Div_e0 K) := envI_of (es := []) trivial trivial
noncomputable def math_bits_Div_h : Sh := ⟨3, [(0, .sc (.i .u64)), (1, .sc (.i .u64)), (2, .sc (.i .u64))], [], []⟩
noncomputable def math_bits_Div_r : Sh := ⟨2, [(0, .sc (.i .u64)), (1, .sc (.i .u64))], [], []⟩
noncomputable def math_bits_Div_g (K : Nat) (hi_0 : Int) (lo_1 : Int) (y_2 : Int) : Option (Int × Int × Unit) :=
  ((math_bits_Div64_g K hi_0 lo_1 y_2).bind fun q1 => (some (q1.1, q1.2.1, ())))
noncomputable def math_bits_Div_o (K : Nat) : FO := fnFO math_bits_Div_h math_bits_Div_r fun t => math_bits_Div_g K t.1 t.2.1 t.2.2.1
theorem math_bits_Div_q (K : Nat) (t : math_bits_Div_h.T) : exFn (math_bits_Div_e0 K) (hdl (math_bits_Div_e0 K) 0) [68] Try.f68 (slVals (math_bits_Div_h.put t).fr.sl) ⟨⟨0, []⟩, [], (math_bits_Div_h.put t).mem⟩ (takeRes math_bits_Div_r) = math_bits_Div_g K t.1 t.2.1 t.2.2.1 := by kernel_rfl
theorem math_bits_Div_ok (K : Nat) : FOok Try.prog 68 (math_bits_Div_o K) :=
  fn_rule (math_bits_Div_t0 K) (math_bits_Div_i0 K) (draws (math_bits_Div_t0 K)) 0 Try.func68 (fnB_ok Try.func68 (by kernel_rfl)) rfl rfl (allOwn_ok false (by kernel_rfl)) rfl (allOwn_ok true (by kernel_rfl)) (fun t => math_bits_Div_q K t)
/-! wide_Number_by -/
noncomputable def wide_Number_by_e0 (K : Nat) : Env := ⟨tt, [(62, wide_Number_minus_o K), (68, math_bits_Div_o K)], [], [], eqs⟩
theorem wide_Number_by_t0 (K : Nat) : EnvT Try.prog (wide_Number_by_e0 K) := envT_of tt_ok eqs_ok ⟨wide_Number_minus_ok K, math_bits_Div_ok K, trivial⟩
theorem wide_Number_by_i0 (K : Nat) : EnvI Try.prog (wide_Number_by_e0 K) := envI_of (es := []) trivial trivial
noncomputable def wide_Number_by_h : Sh := ⟨2, [(0, .ag [.i .i64, .i .u64]), (1, .sc (.i .u64))], [], []⟩
noncomputable def wide_Number_by_r : Sh := ⟨3, [(0, .sc (.i .u64)), (1, .sc (.i .u64)), (2, .sc (.b))], [], []⟩
noncomputable def wide_Number_by_g (K : Nat) (n_0_0 : Int) (n_0_1 : Int) (c_1 : Int) : Option (Int × Int × Bool × Unit) :=
  (bif (decide (n_0_0 < 0)) then ((wide_Number_minus_g K n_0_0 n_0_1).bind fun q1 => (bif (decide ((wu64 (q1.1)) ≥ c_1)) then (some (0, 0, false, ())) else ((math_bits_Div_g K (wu64 (q1.1)) q1.2.1 c_1).bind fun q2 => (some (q2.1, q2.2.1, true, ()))))) else (bif (decide ((wu64 (n_0_0)) ≥ c_1)) then (some (0, 0, false, ())) else ((math_bits_Div_g K (wu64 (n_0_0)) n_0_1 c_1).bind fun q3 => (some (q3.1, q3.2.1, true, ())))))
noncomputable def wide_Number_by_o (K : Nat) : FO := fnFO wide_Number_by_h wide_Number_by_r fun t => wide_Number_by_g K t.1 t.2.1 t.2.2.1
theorem wide_Number_by_q (K : Nat) (t : wide_Number_by_h.T) : exFn (wide_Number_by_e0 K) (hdl (wide_Number_by_e0 K) 0) [63] Try.f63 (slVals (wide_Number_by_h.put t).fr.sl) ⟨⟨0, []⟩, [], (wide_Number_by_h.put t).mem⟩ (takeRes wide_Number_by_r) = wide_Number_by_g K t.1 t.2.1 t.2.2.1 := by kernel_rfl
theorem wide_Number_by_ok (K : Nat) : FOok Try.prog 63 (wide_Number_by_o K) :=
  fn_rule (wide_Number_by_t0 K) (wide_Number_by_i0 K) (draws (wide_Number_by_t0 K)) 0 Try.func63 (fnB_ok Try.func63 (by kernel_rfl)) rfl rfl (allOwn_ok false (by kernel_rfl)) rfl (allOwn_ok true (by kernel_rfl)) (fun t => wide_Number_by_q K t)
/-! wide_signed -/
noncomputable def wide_signed_e0 (K : Nat) : Env := ⟨tt, [], [], [], eqs⟩
theorem wide_signed_t0 (K : Nat) : EnvT Try.prog (wide_signed_e0 K) := envT_of tt_ok eqs_ok trivial
theorem wide_signed_i0 (K : Nat) : EnvI Try.prog (wide_signed_e0 K) := envI_of (es := []) trivial trivial
noncomputable def wide_signed_h : Sh := ⟨2, [(0, .sc (.i .u64)), (1, .sc (.b))], [], []⟩
noncomputable def wide_signed_r : Sh := ⟨2, [(0, .sc (.i .i64)), (1, .sc (.b))], [], []⟩
noncomputable def wide_signed_g (K : Nat) (q_0 : Int) (below_1 : Bool) : Option (Int × Bool × Unit) :=
  (bif below_1 then (some ((wi64 ((wu64 (0 - q_0)))), (decide (q_0 ≤ 9223372036854775808)), ())) else (some ((wi64 (q_0)), (decide (q_0 < 9223372036854775808)), ())))
noncomputable def wide_signed_o (K : Nat) : FO := fnFO wide_signed_h wide_signed_r fun t => wide_signed_g K t.1 t.2.1
theorem wide_signed_q (K : Nat) (t : wide_signed_h.T) : exFn (wide_signed_e0 K) (hdl (wide_signed_e0 K) 0) [64] Try.f64 (slVals (wide_signed_h.put t).fr.sl) ⟨⟨0, []⟩, [], (wide_signed_h.put t).mem⟩ (takeRes wide_signed_r) = wide_signed_g K t.1 t.2.1 := by kernel_rfl
theorem wide_signed_ok (K : Nat) : FOok Try.prog 64 (wide_signed_o K) :=
  fn_rule (wide_signed_t0 K) (wide_signed_i0 K) (draws (wide_signed_t0 K)) 0 Try.func64 (fnB_ok Try.func64 (by kernel_rfl)) rfl rfl (allOwn_ok false (by kernel_rfl)) rfl (allOwn_ok true (by kernel_rfl)) (fun t => wide_signed_q K t)
/-! wide_Near -/
noncomputable def wide_Near_e0 (K : Nat) : Env := ⟨tt, [(63, wide_Number_by_o K), (64, wide_signed_o K)], [(58, Try.f58), (59, Try.f59)], [], eqs⟩
theorem wide_Near_t0 (K : Nat) : EnvT Try.prog (wide_Near_e0 K) := envT_of tt_ok eqs_ok ⟨wide_Number_by_ok K, wide_signed_ok K, trivial⟩
theorem wide_Near_i0 (K : Nat) : EnvI Try.prog (wide_Near_e0 K) := envI_of (es := []) ⟨⟨Try.func58, by kernel_rfl⟩, ⟨Try.func59, by kernel_rfl⟩, trivial⟩ trivial
noncomputable def wide_Near_h : Sh := ⟨2, [(0, .ag [.i .i64, .i .u64]), (1, .sc (.i .i64))], [], []⟩
noncomputable def wide_Near_r : Sh := ⟨2, [(0, .sc (.i .i64)), (1, .sc (.i .i64))], [], []⟩
noncomputable def wide_Near_g (K : Nat) (n_0_0 : Int) (n_0_1 : Int) (c_1 : Int) : Option (Int × Int × Unit) :=
  (bif (decide (c_1 < 1)) then (some (0, 2, ())) else ((wide_Number_by_g K n_0_0 n_0_1 (wu64 (c_1))).bind fun q1 => (bif (!q1.2.2.1) then (some (0, 3, ())) else (bif (decide (q1.1 > 9223372036854775808)) then (some (0, 3, ())) else (bif (decide (q1.2.1 ≥ (wu64 ((wu64 (c_1)) - q1.2.1)))) then ((wide_signed_g K (wu64 (q1.1 + 1)) (decide (n_0_0 < 0))).bind fun q2 => (bif (!q2.2.1) then (some (0, 3, ())) else (some (q2.1, 0, ())))) else ((wide_signed_g K q1.1 (decide (n_0_0 < 0))).bind fun q3 => (bif (!q3.2.1) then (some (0, 3, ())) else (some (q3.1, 0, ())))))))))
noncomputable def wide_Near_o (K : Nat) : FO := fnFO wide_Near_h wide_Near_r fun t => wide_Near_g K t.1 t.2.1 t.2.2.1
theorem wide_Near_q (K : Nat) (t : wide_Near_h.T) : exFn (wide_Near_e0 K) (hdl (wide_Near_e0 K) 9) [55] Try.f55 (slVals (wide_Near_h.put t).fr.sl) ⟨⟨0, []⟩, [], (wide_Near_h.put t).mem⟩ (takeRes wide_Near_r) = wide_Near_g K t.1 t.2.1 t.2.2.1 := by kernel_rfl
theorem wide_Near_ok (K : Nat) : FOok Try.prog 55 (wide_Near_o K) :=
  fn_rule (wide_Near_t0 K) (wide_Near_i0 K) (draws (wide_Near_t0 K)) 9 Try.func55 (fnB_ok Try.func55 (by kernel_rfl)) rfl rfl (allOwn_ok false (by kernel_rfl)) rfl (allOwn_ok true (by kernel_rfl)) (fun t => wide_Near_q K t)
/-! wide_MulNear -/
noncomputable def wide_MulNear_e0 (K : Nat) : Env := ⟨tt, [(56, wide_Mul_o K), (55, wide_Near_o K)], [], [], eqs⟩
theorem wide_MulNear_t0 (K : Nat) : EnvT Try.prog (wide_MulNear_e0 K) := envT_of tt_ok eqs_ok ⟨wide_Mul_ok K, wide_Near_ok K, trivial⟩
theorem wide_MulNear_i0 (K : Nat) : EnvI Try.prog (wide_MulNear_e0 K) := envI_of (es := []) trivial trivial
noncomputable def wide_MulNear_h : Sh := ⟨3, [(0, .sc (.i .i64)), (1, .sc (.i .i64)), (2, .sc (.i .i64))], [], []⟩
noncomputable def wide_MulNear_r : Sh := ⟨2, [(0, .sc (.i .i64)), (1, .sc (.i .i64))], [], []⟩
noncomputable def wide_MulNear_g (K : Nat) (a_0 : Int) (b_1 : Int) (c_2 : Int) : Option (Int × Int × Unit) :=
  ((wide_Mul_g K a_0 b_1).bind fun q1 => ((wide_Near_g K q1.1 q1.2.1 c_2).bind fun q2 => (some (q2.1, q2.2.1, ()))))
noncomputable def wide_MulNear_o (K : Nat) : FO := fnFO wide_MulNear_h wide_MulNear_r fun t => wide_MulNear_g K t.1 t.2.1 t.2.2.1
theorem wide_MulNear_q (K : Nat) (t : wide_MulNear_h.T) : exFn (wide_MulNear_e0 K) (hdl (wide_MulNear_e0 K) 0) [43] Try.f43 (slVals (wide_MulNear_h.put t).fr.sl) ⟨⟨0, []⟩, [], (wide_MulNear_h.put t).mem⟩ (takeRes wide_MulNear_r) = wide_MulNear_g K t.1 t.2.1 t.2.2.1 := by kernel_rfl
theorem wide_MulNear_ok (K : Nat) : FOok Try.prog 43 (wide_MulNear_o K) :=
  fn_rule (wide_MulNear_t0 K) (wide_MulNear_i0 K) (draws (wide_MulNear_t0 K)) 0 Try.func43 (fnB_ok Try.func43 (by kernel_rfl)) rfl rfl (allOwn_ok false (by kernel_rfl)) rfl (allOwn_ok true (by kernel_rfl)) (fun t => wide_MulNear_q K t)
/-! fx_bound -/
noncomputable def fx_bound_e0 (K : Nat) : Env := ⟨tt, [], [], [], eqs⟩
theorem fx_bound_t0 (K : Nat) : EnvT Try.prog (fx_bound_e0 K) := envT_of tt_ok eqs_ok trivial
theorem fx_bound_i0 (K : Nat) : EnvI Try.prog (fx_bound_e0 K) := envI_of (es := []) trivial trivial
noncomputable def fx_bound_h : Sh := ⟨1, [(0, .sc (.i .i64))], [], []⟩
noncomputable def fx_bound_r : Sh := ⟨1, [(0, .sc (.i .i64))], [], []⟩
noncomputable def fx_bound_g (K : Nat) (b_0 : Int) : Option (Int × Unit) :=
  (bif (decide (b_0 < 1)) then (some (2, ())) else (bif (decide (b_0 > 2305843009213693952)) then (some (2, ())) else (some (0, ()))))
noncomputable def fx_bound_o (K : Nat) : FO := fnFO fx_bound_h fx_bound_r fun t => fx_bound_g K t.1
theorem fx_bound_q (K : Nat) (t : fx_bound_h.T) : exFn (fx_bound_e0 K) (hdl (fx_bound_e0 K) 0) [37] Try.f37 (slVals (fx_bound_h.put t).fr.sl) ⟨⟨0, []⟩, [], (fx_bound_h.put t).mem⟩ (takeRes fx_bound_r) = fx_bound_g K t.1 := by kernel_rfl
theorem fx_bound_ok (K : Nat) : FOok Try.prog 37 (fx_bound_o K) :=
  fn_rule (fx_bound_t0 K) (fx_bound_i0 K) (draws (fx_bound_t0 K)) 0 Try.func37 (fnB_ok Try.func37 (by kernel_rfl)) rfl rfl (allOwn_ok false (by kernel_rfl)) rfl (allOwn_ok true (by kernel_rfl)) (fun t => fx_bound_q K t)
/-! fx_Between -/
noncomputable def fx_Between_e0 (K : Nat) : Env := ⟨tt, [], [], [], eqs⟩
theorem fx_Between_t0 (K : Nat) : EnvT Try.prog (fx_Between_e0 K) := envT_of tt_ok eqs_ok trivial
theorem fx_Between_i0 (K : Nat) : EnvI Try.prog (fx_Between_e0 K) := envI_of (es := []) trivial trivial
noncomputable def fx_Between_h : Sh := ⟨3, [(0, .sc (.i .i64)), (1, .sc (.i .i64)), (2, .sc (.i .i64))], [], []⟩
noncomputable def fx_Between_r : Sh := ⟨1, [(0, .sc (.i .i64))], [], []⟩
noncomputable def fx_Between_g (K : Nat) (low_0 : Int) (high_1 : Int) (n_2 : Int) : Option (Int × Unit) :=
  (bif (decide (n_2 < low_0)) then (some (low_0, ())) else (bif (decide (n_2 > high_1)) then (some (high_1, ())) else (some (n_2, ()))))
noncomputable def fx_Between_o (K : Nat) : FO := fnFO fx_Between_h fx_Between_r fun t => fx_Between_g K t.1 t.2.1 t.2.2.1
theorem fx_Between_q (K : Nat) (t : fx_Between_h.T) : exFn (fx_Between_e0 K) (hdl (fx_Between_e0 K) 0) [38] Try.f38 (slVals (fx_Between_h.put t).fr.sl) ⟨⟨0, []⟩, [], (fx_Between_h.put t).mem⟩ (takeRes fx_Between_r) = fx_Between_g K t.1 t.2.1 t.2.2.1 := by kernel_rfl
theorem fx_Between_ok (K : Nat) : FOok Try.prog 38 (fx_Between_o K) :=
  fn_rule (fx_Between_t0 K) (fx_Between_i0 K) (draws (fx_Between_t0 K)) 0 Try.func38 (fnB_ok Try.func38 (by kernel_rfl)) rfl rfl (allOwn_ok false (by kernel_rfl)) rfl (allOwn_ok true (by kernel_rfl)) (fun t => fx_Between_q K t)
/-! fx_Clamp -/
noncomputable def fx_Clamp_e0 (K : Nat) : Env := ⟨tt, [(37, fx_bound_o K), (38, fx_Between_o K)], [], [], eqs⟩
theorem fx_Clamp_t0 (K : Nat) : EnvT Try.prog (fx_Clamp_e0 K) := envT_of tt_ok eqs_ok ⟨fx_bound_ok K, fx_Between_ok K, trivial⟩
theorem fx_Clamp_i0 (K : Nat) : EnvI Try.prog (fx_Clamp_e0 K) := envI_of (es := []) trivial trivial
noncomputable def fx_Clamp_h : Sh := ⟨2, [(0, .sc (.i .i64)), (1, .sc (.i .i64))], [], []⟩
noncomputable def fx_Clamp_r : Sh := ⟨2, [(0, .sc (.i .i64)), (1, .sc (.i .i64))], [], []⟩
noncomputable def fx_Clamp_g (K : Nat) (b_0 : Int) (n_1 : Int) : Option (Int × Int × Unit) :=
  ((fx_bound_g K b_0).bind fun q1 => (bif (q1.1 != 0) then (some (0, q1.1, ())) else ((fx_Between_g K (wi64 (0 - b_0)) b_0 n_1).bind fun q2 => (some (q2.1, 0, ())))))
noncomputable def fx_Clamp_o (K : Nat) : FO := fnFO fx_Clamp_h fx_Clamp_r fun t => fx_Clamp_g K t.1 t.2.1
theorem fx_Clamp_q (K : Nat) (t : fx_Clamp_h.T) : exFn (fx_Clamp_e0 K) (hdl (fx_Clamp_e0 K) 0) [27] Try.f27 (slVals (fx_Clamp_h.put t).fr.sl) ⟨⟨0, []⟩, [], (fx_Clamp_h.put t).mem⟩ (takeRes fx_Clamp_r) = fx_Clamp_g K t.1 t.2.1 := by kernel_rfl
theorem fx_Clamp_ok (K : Nat) : FOok Try.prog 27 (fx_Clamp_o K) :=
  fn_rule (fx_Clamp_t0 K) (fx_Clamp_i0 K) (draws (fx_Clamp_t0 K)) 0 Try.func27 (fnB_ok Try.func27 (by kernel_rfl)) rfl rfl (allOwn_ok false (by kernel_rfl)) rfl (allOwn_ok true (by kernel_rfl)) (fun t => fx_Clamp_q K t)
/-! adc_told_unit -/
noncomputable def adc_told_unit_e0 (K : Nat) : Env := ⟨tt, [(43, wide_MulNear_o K), (27, fx_Clamp_o K)], [], [], eqs⟩
theorem adc_told_unit_t0 (K : Nat) : EnvT Try.prog (adc_told_unit_e0 K) := envT_of tt_ok eqs_ok ⟨wide_MulNear_ok K, fx_Clamp_ok K, trivial⟩
theorem adc_told_unit_i0 (K : Nat) : EnvI Try.prog (adc_told_unit_e0 K) := envI_of (es := []) trivial trivial
noncomputable def adc_told_unit_h : Sh := ⟨1, [(0, .ag [.i .i64, .i .i64, .i .i64, .i .i64])], [], []⟩
noncomputable def adc_told_unit_r : Sh := ⟨1, [(0, .sc (.i .i64))], [], []⟩
noncomputable def adc_told_unit_g (K : Nat) (t_0_0 : Int) (t_0_1 : Int) (t_0_2 : Int) (t_0_3 : Int) : Option (Int × Unit) :=
  ((wide_MulNear_g K (wi64 (t_0_3 - t_0_0)) t_0_1 t_0_2).bind fun q1 => ((fx_Clamp_g K 2147483648 q1.1).bind fun q2 => (some (q2.1, ()))))
noncomputable def adc_told_unit_gu (K : Nat) (t : adc_told_unit_h.T) : Option (Int × Unit) :=
  adc_told_unit_g K t.1 t.2.1 t.2.2.1 t.2.2.2.1
noncomputable def adc_told_unit_o (K : Nat) : FO := fnFO adc_told_unit_h adc_told_unit_r fun t => adc_told_unit_gu K t
theorem adc_told_unit_q (K : Nat) (t : adc_told_unit_h.T) : exFn (adc_told_unit_e0 K) (hdl (adc_told_unit_e0 K) 0) [32] Try.f32 (slVals (adc_told_unit_h.put t).fr.sl) ⟨⟨0, []⟩, [], (adc_told_unit_h.put t).mem⟩ (takeRes adc_told_unit_r) = adc_told_unit_gu K t := by kernel_rfl
theorem adc_told_unit_ok (K : Nat) : FOok Try.prog 32 (adc_told_unit_o K) :=
  fn_rule (adc_told_unit_t0 K) (adc_told_unit_i0 K) (draws (adc_told_unit_t0 K)) 0 Try.func32 (fnB_ok Try.func32 (by kernel_rfl)) rfl rfl (allOwn_ok false (by kernel_rfl)) rfl (allOwn_ok true (by kernel_rfl)) (fun t => adc_told_unit_q K t)
/-! adc_Unit -/
noncomputable def adc_Unit_e0 (K : Nat) : Env := ⟨tt, [(24, adc_Check_o K), (31, adc_raw_o K), (32, adc_told_unit_o K)], [], [], eqs⟩
theorem adc_Unit_t0 (K : Nat) : EnvT Try.prog (adc_Unit_e0 K) := envT_of tt_ok eqs_ok ⟨adc_Check_ok K, adc_raw_ok K, adc_told_unit_ok K, trivial⟩
theorem adc_Unit_i0 (K : Nat) : EnvI Try.prog (adc_Unit_e0 K) := envI_of (es := []) trivial trivial
noncomputable def adc_Unit_h : Sh := ⟨2, [(0, .ag [.i .i64, .i .i64, .i .i64]), (1, .sc (.i .i64))], [], []⟩
noncomputable def adc_Unit_r : Sh := ⟨2, [(0, .sc (.i .i64)), (1, .sc (.i .i64))], [], []⟩
noncomputable def adc_Unit_g (K : Nat) (l_0_0 : Int) (l_0_1 : Int) (l_0_2 : Int) (count_1 : Int) : Option (Int × Int × Unit) :=
  ((adc_Check_g K l_0_0 l_0_1 l_0_2).bind fun q1 => (bif (q1.1 != 0) then (some (0, q1.1, ())) else ((adc_raw_g K 1 (fun j => (selI [count_1] j))).bind fun q2 => (bif (!q2.1) then (some (0, 2, ())) else ((adc_told_unit_g K l_0_0 l_0_1 l_0_2 count_1).bind fun q3 => (some (q3.1, 0, ())))))))
noncomputable def adc_Unit_gu (K : Nat) (t : adc_Unit_h.T) : Option (Int × Int × Unit) :=
  adc_Unit_g K t.1 t.2.1 t.2.2.1 t.2.2.2.1
noncomputable def adc_Unit_o (K : Nat) : FO := fnFO adc_Unit_h adc_Unit_r fun t => adc_Unit_gu K t
theorem adc_Unit_q (K : Nat) (t : adc_Unit_h.T) : exFn (adc_Unit_e0 K) (hdl (adc_Unit_e0 K) 0) [22] Try.f22 (slVals (adc_Unit_h.put t).fr.sl) ⟨⟨0, []⟩, [], (adc_Unit_h.put t).mem⟩ (takeRes adc_Unit_r) = adc_Unit_gu K t := by kernel_rfl
theorem adc_Unit_ok (K : Nat) : FOok Try.prog 22 (adc_Unit_o K) :=
  fn_rule (adc_Unit_t0 K) (adc_Unit_i0 K) (draws (adc_Unit_t0 K)) 0 Try.func22 (fnB_ok Try.func22 (by kernel_rfl)) rfl rfl (allOwn_ok false (by kernel_rfl)) rfl (allOwn_ok true (by kernel_rfl)) (fun t => adc_Unit_q K t)
/-! sample_Read -/
noncomputable def sample_Read_e0 (K : Nat) : Env := ⟨tt, [(10, sample_Check_o K), (20, sample_take_o K), (21, sample_ticks_may_o K), (22, adc_Unit_o K), (12, sample_Inside_o K)], [], [], eqs⟩
theorem sample_Read_t0 (K : Nat) : EnvT Try.prog (sample_Read_e0 K) := envT_of tt_ok eqs_ok ⟨sample_Check_ok K, sample_take_ok K, sample_ticks_may_ok K, adc_Unit_ok K, sample_Inside_ok K, trivial⟩
theorem sample_Read_i0 (K : Nat) : EnvI Try.prog (sample_Read_e0 K) := envI_of (es := []) trivial trivial
noncomputable def sample_Read_l0h : Sh := ⟨63, [(3, .sc (.lit (.p 0 0 0 []))), (4, .sc (.lit (.p 1 0 0 []))), (6, .sc (.lit (.p 2 0 0 []))), (10, .sc (.lit (.p 3 0 0 []))), (33, .ag [.i .i64, .i .i64, .i .i64]), (34, .sc (.i .i64))], [(0, [])], [(true, false, [.i .i64, .i .i64, .i .i64, .i .i64, .i .i64, .i .i64, .i .i64, .i .i64, .i .i64]), (true, false, [.i .i64, .i .i64, .i .i64, .i .i64, .i .i64, .i .i64]), (true, false, [.i .i64, .i .i64, .i .i64, .i .i64]), (true, false, [.i .i64, .i .i64, .i .i64, .i .i64])]⟩
noncomputable def sample_Read_l0x0 : Sh := ⟨63, [(6, .sc (.lit (.p 0 0 0 []))), (10, .sc (.lit (.p 1 0 0 [])))], [(0, [])], [(true, false, [.i .i64, .i .i64, .i .i64, .i .i64]), (true, false, [.i .i64, .i .i64, .i .i64, .i .i64])]⟩
noncomputable def sample_Read_l0x1 : Sh := ⟨63, [(6, .sc (.lit (.p 0 0 0 []))), (7, .sc (.i .i64))], [(0, [])], [(true, false, [.i .i64, .i .i64, .i .i64, .i .i64])]⟩
noncomputable def sample_Read_l0O : OutI ((Int × Int × Int × Int × Int × Int × Int × Int × Unit) ⊕ (Int × Int × Int × Int × Int × Unit)) := (OutI.or (OutI.exit 0 sample_Read_l0x0) (OutI.ret sample_Read_l0x1))
noncomputable def sample_Read_l0r (K : Nat) (rec : Int → Int → Int → Int → Int → Int → Int → Int → Int → Int → Int → Int → Int → Int → Int → Int → Int → Int → Int → Int → Int → Int → Int → Int → Int → Int → Int → Option ((Int × Int × Int × Int × Int × Int × Int × Int × Unit) ⊕ (Int × Int × Int × Int × Int × Unit))) (t_33_0 : Int) (t_33_1 : Int) (t_33_2 : Int) (t_34 : Int) (m0_0 : Int) (m0_1 : Int) (m0_2 : Int) (m0_3 : Int) (m0_4 : Int) (m0_5 : Int) (m0_6 : Int) (m0_7 : Int) (m0_8 : Int) (m1_0 : Int) (m1_1 : Int) (m1_2 : Int) (m1_3 : Int) (m1_4 : Int) (m1_5 : Int) (m2_0 : Int) (m2_1 : Int) (m2_2 : Int) (m2_3 : Int) (m3_0 : Int) (m3_1 : Int) (m3_2 : Int) (m3_3 : Int) : Option ((Int × Int × Int × Int × Int × Int × Int × Int × Unit) ⊕ (Int × Int × Int × Int × Int × Unit)) :=
  (bif (decide (t_34 < 3)) then (bif ((decide (0 ≤ t_34)) && (decide (t_34 < 3))) then (bif ((decide (0 ≤ t_34)) && (decide (t_34 < 3))) then ((adc_Unit_g K (selI [m0_0, m0_3, m0_6] (Int.toNat t_34)) (selI [m0_1, m0_4, m0_7] (Int.toNat t_34)) (selI [m0_2, m0_5, m0_8] (Int.toNat t_34)) (selI [t_33_0, t_33_1, t_33_2] (Int.toNat t_34))).bind fun q1 => (bif (q1.2.1 != 0) then (some (.inr (130, 0, 0, 0, 0, ()))) else (bif ((decide (0 ≤ t_34)) && (decide (t_34 < 3))) then ((sample_Inside_g K (selI [m1_0, m1_2, m1_4] (Int.toNat t_34)) (selI [m1_1, m1_3, m1_5] (Int.toNat t_34)) q1.1).bind fun q2 => (bif (!q2.1) then (some (.inr (130, 0, 0, 0, 0, ()))) else (bif ((decide (0 ≤ t_34)) && (decide (t_34 < 3))) then (rec t_33_0 t_33_1 t_33_2 (wi64 (t_34 + 1)) m0_0 m0_1 m0_2 m0_3 m0_4 m0_5 m0_6 m0_7 m0_8 m1_0 m1_1 m1_2 m1_3 m1_4 m1_5 m2_0 m2_1 m2_2 m2_3 (bif (Nat.beq (Int.toNat t_34) 0) then q1.1 else m3_0) (bif (Nat.beq (Int.toNat t_34) 1) then q1.1 else m3_1) (bif (Nat.beq (Int.toNat t_34) 2) then q1.1 else m3_2) m3_3) else none))) else none))) else none) else none) else (some (.inl (m2_0, m2_1, m2_2, m2_3, m3_0, m3_1, m3_2, m3_3, ()))))
noncomputable def sample_Read_l0 (K n : Nat) : Int → Int → Int → Int → Int → Int → Int → Int → Int → Int → Int → Int → Int → Int → Int → Int → Int → Int → Int → Int → Int → Int → Int → Int → Int → Int → Int → Option ((Int × Int × Int × Int × Int × Int × Int × Int × Unit) ⊕ (Int × Int × Int × Int × Int × Unit)) := Nat.rec (motive := fun _ => Int → Int → Int → Int → Int → Int → Int → Int → Int → Int → Int → Int → Int → Int → Int → Int → Int → Int → Int → Int → Int → Int → Int → Int → Int → Int → Int → Option ((Int × Int × Int × Int × Int × Int × Int × Int × Unit) ⊕ (Int × Int × Int × Int × Int × Unit))) (fun _ _ _ _ _ _ _ _ _ _ _ _ _ _ _ _ _ _ _ _ _ _ _ _ _ _ _ => none) (fun _ ih => sample_Read_l0r K ih) n
noncomputable def sample_Read_l0u (K n : Nat) (t : sample_Read_l0h.T) : Option ((Int × Int × Int × Int × Int × Int × Int × Int × Unit) ⊕ (Int × Int × Int × Int × Int × Unit)) :=
  let u1 := t.2
  let u2 := u1.2
  let u3 := u2.2
  let u4 := u3.2
  let u5 := u4.2
  let u6 := u5.2
  let u7 := u6.2
  let u8 := u7.2
  let u9 := u8.2
  let u10 := u9.2
  let u11 := u10.2
  let u12 := u11.2
  let u13 := u12.2
  let u14 := u13.2
  let u15 := u14.2
  let u16 := u15.2
  let u17 := u16.2
  let u18 := u17.2
  let u19 := u18.2
  let u20 := u19.2
  let u21 := u20.2
  let u22 := u21.2
  let u23 := u22.2
  let u24 := u23.2
  let u25 := u24.2
  let u26 := u25.2
  sample_Read_l0 K n t.1 u1.1 u2.1 u3.1 u4.1 u5.1 u6.1 u7.1 u8.1 u9.1 u10.1 u11.1 u12.1 u13.1 u14.1 u15.1 u16.1 u17.1 u18.1 u19.1 u20.1 u21.1 u22.1 u23.1 u24.1 u25.1 u26.1
noncomputable def sample_Read_l0o (K : Nat) : LO := loopLO sample_Read_l0h sample_Read_l0O fun t => sample_Read_l0u K K t
noncomputable def sample_Read_l0C : Code := bodyOf Try.f8
noncomputable def sample_Read_l0B : Code := (findLoops 9 (loopsIn sample_Read_l0C)).headD .skip
theorem sample_Read_l0F : findLoops 9 (loopsIn sample_Read_l0C) = [sample_Read_l0B] := by kernel_rfl
theorem sample_Read_l0q (K n : Nat) (t : sample_Read_l0h.T) : exC (sample_Read_e0 K) (hdl (sample_Read_e0 K) 0) (8 :: []) sample_Read_l0B (sample_Read_l0h.put t) (fun s => (sample_Read_l0h.take s).bind fun t => sample_Read_l0u K n t) (fun id s => sample_Read_l0O.get (some id) s) (fun s => sample_Read_l0O.get none s) = sample_Read_l0u K (n + 1) t := by kernel_rfl
noncomputable def sample_Read_l0E (K : Nat) : LoopE Try.prog := ⟨[9, 8], sample_Read_l0o K, Try.f8, sample_Read_l0C, sample_Read_l0B, ⟨9, 8, [], rfl, Try.func8, by kernel_rfl, sample_Read_l0F⟩,
  loop_rule (F := fun n t => sample_Read_l0u K n t) (sample_Read_t0 K) (sample_Read_i0 K) (draws (sample_Read_t0 K)) 0 Try.func8 (c := sample_Read_l0C) (by kernel_rfl) (body_in sample_Read_l0F) (ctx' := []) (h := sample_Read_l0h) (O := sample_Read_l0O) (fun _ => rfl) (fun m t => sample_Read_l0q K m t) K⟩
noncomputable def sample_Read_e1 (K : Nat) : Env := ⟨tt, [(10, sample_Check_o K), (20, sample_take_o K), (21, sample_ticks_may_o K), (22, adc_Unit_o K), (12, sample_Inside_o K)], [], [([9, 8], sample_Read_l0o K)], eqs⟩
theorem sample_Read_t1 (K : Nat) : EnvT Try.prog (sample_Read_e1 K) := envT_of tt_ok eqs_ok ⟨sample_Check_ok K, sample_take_ok K, sample_ticks_may_ok K, adc_Unit_ok K, sample_Inside_ok K, trivial⟩
theorem sample_Read_i1 (K : Nat) : EnvI Try.prog (sample_Read_e1 K) := envI_of (es := [sample_Read_l0E K]) trivial ⟨⟨rfl, rfl⟩, trivial⟩
noncomputable def sample_Read_h : Sh := ⟨3, [(0, .ag [.i .i64, .i .i64, .i .i64, .i .i64, .i .i64, .i .i64, .i .i64, .i .i64, .i .i64]), (1, .ag [.i .i64, .i .i64, .i .i64, .i .i64, .i .i64, .i .i64]), (2, .ag [.i .i64, .i .i64, .i .i64, .i .i64])], [], []⟩
noncomputable def sample_Read_r : Sh := ⟨2, [(0, .ag [.i .i64, .i .i64, .i .i64, .i .i64]), (1, .sc (.i .i64))], [], []⟩
noncomputable def sample_Read_g (K : Nat) (lines_0_0 : Int) (lines_0_1 : Int) (lines_0_2 : Int) (lines_0_3 : Int) (lines_0_4 : Int) (lines_0_5 : Int) (lines_0_6 : Int) (lines_0_7 : Int) (lines_0_8 : Int) (spans_1_0 : Int) (spans_1_1 : Int) (spans_1_2 : Int) (spans_1_3 : Int) (spans_1_4 : Int) (spans_1_5 : Int) (s_2_0 : Int) (s_2_1 : Int) (s_2_2 : Int) (s_2_3 : Int) : Option (Int × Int × Int × Int × Int × Unit) :=
  ((sample_Check_g K lines_0_0 lines_0_1 lines_0_2 lines_0_3 lines_0_4 lines_0_5 lines_0_6 lines_0_7 lines_0_8 spans_1_0 spans_1_1 spans_1_2 spans_1_3 spans_1_4 spans_1_5).bind fun q1 => (bif (q1.1 != 0) then (some (0, 0, 0, 0, q1.1, ())) else ((sample_take_g K s_2_0 s_2_1 s_2_2 s_2_3).bind fun q2 => ((sample_ticks_may_g K q2.1).bind fun q3 => (bif (!q3.1) then (some (0, 0, 0, 0, 130, ())) else ((sample_Read_l0 K K q2.2.1 q2.2.2.1 q2.2.2.2.1 0 lines_0_0 lines_0_1 lines_0_2 lines_0_3 lines_0_4 lines_0_5 lines_0_6 lines_0_7 lines_0_8 spans_1_0 spans_1_1 spans_1_2 spans_1_3 spans_1_4 spans_1_5 0 0 0 0 0 0 0 s_2_3).bind fun q4 => (Sum.elim (fun q5 => (some (q5.2.2.2.2.1, q5.2.2.2.2.2.1, q5.2.2.2.2.2.2.1, q5.2.2.2.2.2.2.2.1, 0, ()))) (fun q6 => (some (q6.2.1, q6.2.2.1, q6.2.2.2.1, q6.2.2.2.2.1, q6.1, ()))) q4)))))))
noncomputable def sample_Read_gu (K : Nat) (t : sample_Read_h.T) : Option (Int × Int × Int × Int × Int × Unit) :=
  let u1 := t.2
  let u2 := u1.2
  let u3 := u2.2
  let u4 := u3.2
  let u5 := u4.2
  let u6 := u5.2
  let u7 := u6.2
  let u8 := u7.2
  let u9 := u8.2
  let u10 := u9.2
  let u11 := u10.2
  let u12 := u11.2
  let u13 := u12.2
  let u14 := u13.2
  let u15 := u14.2
  let u16 := u15.2
  let u17 := u16.2
  let u18 := u17.2
  sample_Read_g K t.1 u1.1 u2.1 u3.1 u4.1 u5.1 u6.1 u7.1 u8.1 u9.1 u10.1 u11.1 u12.1 u13.1 u14.1 u15.1 u16.1 u17.1 u18.1
noncomputable def sample_Read_o (K : Nat) : FO := fnFO sample_Read_h sample_Read_r fun t => sample_Read_gu K t
theorem sample_Read_q (K : Nat) (t : sample_Read_h.T) : exFn (sample_Read_e1 K) (hdl (sample_Read_e1 K) 0) [8] Try.f8 (slVals (sample_Read_h.put t).fr.sl) ⟨⟨0, []⟩, [], (sample_Read_h.put t).mem⟩ (takeRes sample_Read_r) = sample_Read_gu K t := by kernel_rfl
theorem sample_Read_ok (K : Nat) : FOok Try.prog 8 (sample_Read_o K) :=
  fn_rule (sample_Read_t1 K) (sample_Read_i1 K) (draws (sample_Read_t1 K)) 0 Try.func8 (fnB_ok Try.func8 (by kernel_rfl)) rfl rfl (allOwn_ok false (by kernel_rfl)) rfl (allOwn_ok true (by kernel_rfl)) (fun t => sample_Read_q K t)
/-! fx_Size -/
noncomputable def fx_Size_e0 (K : Nat) : Env := ⟨tt, [], [], [], eqs⟩
theorem fx_Size_t0 (K : Nat) : EnvT Try.prog (fx_Size_e0 K) := envT_of tt_ok eqs_ok trivial
theorem fx_Size_i0 (K : Nat) : EnvI Try.prog (fx_Size_e0 K) := envI_of (es := []) trivial trivial
noncomputable def fx_Size_h : Sh := ⟨1, [(0, .sc (.i .i64))], [], []⟩
noncomputable def fx_Size_r : Sh := ⟨1, [(0, .sc (.i .i64))], [], []⟩
noncomputable def fx_Size_g (K : Nat) (n_0 : Int) : Option (Int × Unit) :=
  (bif (decide (n_0 < 0)) then (bif (decide ((wi64 (0 - n_0)) < 0)) then (some ((wi64 ((wi64 (0 - n_0)) - 1)), ())) else (some ((wi64 (0 - n_0)), ()))) else (some (n_0, ())))
noncomputable def fx_Size_o (K : Nat) : FO := fnFO fx_Size_h fx_Size_r fun t => fx_Size_g K t.1
theorem fx_Size_q (K : Nat) (t : fx_Size_h.T) : exFn (fx_Size_e0 K) (hdl (fx_Size_e0 K) 0) [28] Try.f28 (slVals (fx_Size_h.put t).fr.sl) ⟨⟨0, []⟩, [], (fx_Size_h.put t).mem⟩ (takeRes fx_Size_r) = fx_Size_g K t.1 := by kernel_rfl
theorem fx_Size_ok (K : Nat) : FOok Try.prog 28 (fx_Size_o K) :=
  fn_rule (fx_Size_t0 K) (fx_Size_i0 K) (draws (fx_Size_t0 K)) 0 Try.func28 (fnB_ok Try.func28 (by kernel_rfl)) rfl rfl (allOwn_ok false (by kernel_rfl)) rfl (allOwn_ok true (by kernel_rfl)) (fun t => fx_Size_q K t)
/-! sample_Worst -/
noncomputable def sample_Worst_e0 (K : Nat) : Env := ⟨tt, [(27, fx_Clamp_o K), (28, fx_Size_o K)], [], [], eqs⟩
theorem sample_Worst_t0 (K : Nat) : EnvT Try.prog (sample_Worst_e0 K) := envT_of tt_ok eqs_ok ⟨fx_Clamp_ok K, fx_Size_ok K, trivial⟩
theorem sample_Worst_i0 (K : Nat) : EnvI Try.prog (sample_Worst_e0 K) := envI_of (es := []) trivial trivial
noncomputable def sample_Worst_h : Sh := ⟨1, [(0, .ag [.i .i64, .i .i64, .i .i64, .i .i64, .i .i64, .i .i64])], [], []⟩
noncomputable def sample_Worst_r : Sh := ⟨1, [(0, .sc (.i .i64))], [], []⟩
noncomputable def sample_Worst_g (K : Nat) (spans_0_0 : Int) (spans_0_1 : Int) (spans_0_2 : Int) (spans_0_3 : Int) (spans_0_4 : Int) (spans_0_5 : Int) : Option (Int × Unit) :=
  (bif (decide (spans_0_0 > spans_0_1)) then (some (0, ())) else ((fx_Clamp_g K 2147483648 spans_0_0).bind fun q1 => ((fx_Clamp_g K 2147483648 spans_0_1).bind fun q2 => ((fx_Size_g K q1.1).bind fun q3 => ((fx_Size_g K q2.1).bind fun q4 => (some ((wi64 ((bif (decide (q4.1 > q3.1)) then q4.1 else q3.1) * 60000)), ())))))))
noncomputable def sample_Worst_gu (K : Nat) (t : sample_Worst_h.T) : Option (Int × Unit) :=
  sample_Worst_g K t.1 t.2.1 t.2.2.1 t.2.2.2.1 t.2.2.2.2.1 t.2.2.2.2.2.1
noncomputable def sample_Worst_o (K : Nat) : FO := fnFO sample_Worst_h sample_Worst_r fun t => sample_Worst_gu K t
theorem sample_Worst_q (K : Nat) (t : sample_Worst_h.T) : exFn (sample_Worst_e0 K) (hdl (sample_Worst_e0 K) 0) [15] Try.f15 (slVals (sample_Worst_h.put t).fr.sl) ⟨⟨0, []⟩, [], (sample_Worst_h.put t).mem⟩ (takeRes sample_Worst_r) = sample_Worst_gu K t := by kernel_rfl
theorem sample_Worst_ok (K : Nat) : FOok Try.prog 15 (sample_Worst_o K) :=
  fn_rule (sample_Worst_t0 K) (sample_Worst_i0 K) (draws (sample_Worst_t0 K)) 0 Try.func15 (fnB_ok Try.func15 (by kernel_rfl)) rfl rfl (allOwn_ok false (by kernel_rfl)) rfl (allOwn_ok true (by kernel_rfl)) (fun t => sample_Worst_q K t)
/-! rheostatlaw13_works -/
noncomputable def rheostatlaw13_works_e0 (K : Nat) : Env := ⟨tt, [(8, sample_Read_o K), (15, sample_Worst_o K)], [], [], eqs⟩
theorem rheostatlaw13_works_t0 (K : Nat) : EnvT Try.prog (rheostatlaw13_works_e0 K) := envT_of tt_ok eqs_ok ⟨sample_Read_ok K, sample_Worst_ok K, trivial⟩
theorem rheostatlaw13_works_i0 (K : Nat) : EnvI Try.prog (rheostatlaw13_works_e0 K) := envI_of (es := []) trivial trivial
noncomputable def rheostatlaw13_works_l0h : Sh := ⟨58, [(1, .sc (.lit (.p 0 0 0 []))), (2, .sc (.i .i64))], [(0, [])], [(true, false, [.i .i64, .i .i64, .i .i64, .i .i64, .i .i64, .i .i64, .i .i64, .i .i64, .i .i64, .i .i64, .i .i64, .i .i64, .i .i64, .i .i64, .i .i64])]⟩
noncomputable def rheostatlaw13_works_l0x0 : Sh := ⟨58, [(1, .sc (.lit (.p 0 0 0 [])))], [(0, [])], [(true, false, [.i .i64, .i .i64, .i .i64, .i .i64, .i .i64, .i .i64, .i .i64, .i .i64, .i .i64, .i .i64, .i .i64, .i .i64, .i .i64, .i .i64, .i .i64])]⟩
noncomputable def rheostatlaw13_works_l0O : OutI (Int × Int × Int × Int × Int × Int × Int × Int × Int × Int × Int × Int × Int × Int × Int × Unit) := (OutI.exit 0 rheostatlaw13_works_l0x0)
noncomputable def rheostatlaw13_works_l0r (K : Nat) (rec : Int → Int → Int → Int → Int → Int → Int → Int → Int → Int → Int → Int → Int → Int → Int → Int → Option (Int × Int × Int × Int × Int × Int × Int × Int × Int × Int × Int × Int × Int × Int × Int × Unit)) (i_2 : Int) (m0_0 : Int) (m0_1 : Int) (m0_2 : Int) (m0_3 : Int) (m0_4 : Int) (m0_5 : Int) (m0_6 : Int) (m0_7 : Int) (m0_8 : Int) (m0_9 : Int) (m0_10 : Int) (m0_11 : Int) (m0_12 : Int) (m0_13 : Int) (m0_14 : Int) : Option (Int × Int × Int × Int × Int × Int × Int × Int × Int × Int × Int × Int × Int × Int × Int × Unit) :=
  (bif (decide (i_2 < 3)) then (bif ((decide (0 ≤ i_2)) && (decide (i_2 < 3))) then (bif ((decide (0 ≤ i_2)) && (decide (i_2 < 3))) then (rec (wi64 (i_2 + 1)) (bif (Nat.beq (Int.toNat i_2) 0) then 0 else m0_0) (bif (Nat.beq (Int.toNat i_2) 0) then 1 else m0_1) (bif (Nat.beq (Int.toNat i_2) 0) then 1 else m0_2) (bif (Nat.beq (Int.toNat i_2) 1) then 0 else m0_3) (bif (Nat.beq (Int.toNat i_2) 1) then 1 else m0_4) (bif (Nat.beq (Int.toNat i_2) 1) then 1 else m0_5) (bif (Nat.beq (Int.toNat i_2) 2) then 0 else m0_6) (bif (Nat.beq (Int.toNat i_2) 2) then 1 else m0_7) (bif (Nat.beq (Int.toNat i_2) 2) then 1 else m0_8) (bif (Nat.beq (Int.toNat i_2) 0) then (-10) else m0_9) (bif (Nat.beq (Int.toNat i_2) 0) then 10 else m0_10) (bif (Nat.beq (Int.toNat i_2) 1) then (-10) else m0_11) (bif (Nat.beq (Int.toNat i_2) 1) then 10 else m0_12) (bif (Nat.beq (Int.toNat i_2) 2) then (-10) else m0_13) (bif (Nat.beq (Int.toNat i_2) 2) then 10 else m0_14)) else none) else none) else (some (m0_0, m0_1, m0_2, m0_3, m0_4, m0_5, m0_6, m0_7, m0_8, m0_9, m0_10, m0_11, m0_12, m0_13, m0_14, ())))
noncomputable def rheostatlaw13_works_l0 (K n : Nat) : Int → Int → Int → Int → Int → Int → Int → Int → Int → Int → Int → Int → Int → Int → Int → Int → Option (Int × Int × Int × Int × Int × Int × Int × Int × Int × Int × Int × Int × Int × Int × Int × Unit) := Nat.rec (motive := fun _ => Int → Int → Int → Int → Int → Int → Int → Int → Int → Int → Int → Int → Int → Int → Int → Int → Option (Int × Int × Int × Int × Int × Int × Int × Int × Int × Int × Int × Int × Int × Int × Int × Unit)) (fun _ _ _ _ _ _ _ _ _ _ _ _ _ _ _ _ => none) (fun _ ih => rheostatlaw13_works_l0r K ih) n
noncomputable def rheostatlaw13_works_l0u (K n : Nat) (t : rheostatlaw13_works_l0h.T) : Option (Int × Int × Int × Int × Int × Int × Int × Int × Int × Int × Int × Int × Int × Int × Int × Unit) :=
  let u1 := t.2
  let u2 := u1.2
  let u3 := u2.2
  let u4 := u3.2
  let u5 := u4.2
  let u6 := u5.2
  let u7 := u6.2
  let u8 := u7.2
  let u9 := u8.2
  let u10 := u9.2
  let u11 := u10.2
  let u12 := u11.2
  let u13 := u12.2
  let u14 := u13.2
  let u15 := u14.2
  rheostatlaw13_works_l0 K n t.1 u1.1 u2.1 u3.1 u4.1 u5.1 u6.1 u7.1 u8.1 u9.1 u10.1 u11.1 u12.1 u13.1 u14.1 u15.1
noncomputable def rheostatlaw13_works_l0o (K : Nat) : LO := loopLO rheostatlaw13_works_l0h rheostatlaw13_works_l0O fun t => rheostatlaw13_works_l0u K K t
noncomputable def rheostatlaw13_works_l0C : Code := bodyOf Try.f14
noncomputable def rheostatlaw13_works_l0B : Code := (findLoops 3 (loopsIn rheostatlaw13_works_l0C)).headD .skip
theorem rheostatlaw13_works_l0F : findLoops 3 (loopsIn rheostatlaw13_works_l0C) = [rheostatlaw13_works_l0B] := by kernel_rfl
theorem rheostatlaw13_works_l0q (K n : Nat) (t : rheostatlaw13_works_l0h.T) : exC (rheostatlaw13_works_e0 K) (hdl (rheostatlaw13_works_e0 K) 0) (14 :: []) rheostatlaw13_works_l0B (rheostatlaw13_works_l0h.put t) (fun s => (rheostatlaw13_works_l0h.take s).bind fun t => rheostatlaw13_works_l0u K n t) (fun id s => rheostatlaw13_works_l0O.get (some id) s) (fun s => rheostatlaw13_works_l0O.get none s) = rheostatlaw13_works_l0u K (n + 1) t := by kernel_rfl
noncomputable def rheostatlaw13_works_l0E (K : Nat) : LoopE Try.prog := ⟨[3, 14], rheostatlaw13_works_l0o K, Try.f14, rheostatlaw13_works_l0C, rheostatlaw13_works_l0B, ⟨3, 14, [], rfl, Try.func14, by kernel_rfl, rheostatlaw13_works_l0F⟩,
  loop_rule (F := fun n t => rheostatlaw13_works_l0u K n t) (rheostatlaw13_works_t0 K) (rheostatlaw13_works_i0 K) (draws (rheostatlaw13_works_t0 K)) 0 Try.func14 (c := rheostatlaw13_works_l0C) (by kernel_rfl) (body_in rheostatlaw13_works_l0F) (ctx' := []) (h := rheostatlaw13_works_l0h) (O := rheostatlaw13_works_l0O) (fun _ => rfl) (fun m t => rheostatlaw13_works_l0q K m t) K⟩
noncomputable def rheostatlaw13_works_e1 (K : Nat) : Env := ⟨tt, [(8, sample_Read_o K), (15, sample_Worst_o K)], [], [([3, 14], rheostatlaw13_works_l0o K)], eqs⟩
theorem rheostatlaw13_works_t1 (K : Nat) : EnvT Try.prog (rheostatlaw13_works_e1 K) := envT_of tt_ok eqs_ok ⟨sample_Read_ok K, sample_Worst_ok K, trivial⟩
theorem rheostatlaw13_works_i1 (K : Nat) : EnvI Try.prog (rheostatlaw13_works_e1 K) := envI_of (es := [rheostatlaw13_works_l0E K]) trivial ⟨⟨rfl, rfl⟩, trivial⟩
noncomputable def rheostatlaw13_works_h : Sh := ⟨0, [], [], []⟩
noncomputable def rheostatlaw13_works_r : Sh := ⟨1, [(0, .sc (.b))], [], []⟩
noncomputable def rheostatlaw13_works_g (K : Nat)  : Option (Bool × Unit) :=
  ((rheostatlaw13_works_l0 K K 0 0 0 0 0 0 0 0 0 0 0 0 0 0 0 0).bind fun q1 => ((sample_Read_g K q1.1 q1.2.1 q1.2.2.1 q1.2.2.2.1 q1.2.2.2.2.1 q1.2.2.2.2.2.1 q1.2.2.2.2.2.2.1 q1.2.2.2.2.2.2.2.1 q1.2.2.2.2.2.2.2.2.1 q1.2.2.2.2.2.2.2.2.2.1 q1.2.2.2.2.2.2.2.2.2.2.1 q1.2.2.2.2.2.2.2.2.2.2.2.1 q1.2.2.2.2.2.2.2.2.2.2.2.2.1 q1.2.2.2.2.2.2.2.2.2.2.2.2.2.1 q1.2.2.2.2.2.2.2.2.2.2.2.2.2.2.1 5 6 7 3).bind fun q2 => ((sample_Read_g K q1.1 q1.2.1 q1.2.2.1 q1.2.2.2.1 q1.2.2.2.2.1 q1.2.2.2.2.2.1 q1.2.2.2.2.2.2.1 q1.2.2.2.2.2.2.2.1 q1.2.2.2.2.2.2.2.2.1 q1.2.2.2.2.2.2.2.2.2.1 q1.2.2.2.2.2.2.2.2.2.2.1 q1.2.2.2.2.2.2.2.2.2.2.2.1 q1.2.2.2.2.2.2.2.2.2.2.2.2.1 q1.2.2.2.2.2.2.2.2.2.2.2.2.2.1 q1.2.2.2.2.2.2.2.2.2.2.2.2.2.2.1 11 0 0 3).bind fun q3 => (bif ((q2.1 == 5) && ((q2.2.1 == 6) && ((q2.2.2.1 == 7) && (q2.2.2.2.1 == 3)))) then (bif (q2.2.2.2.2.1 == 0) then (bif (q3.2.2.2.2.1 == 130) then ((sample_Worst_g K q1.2.2.2.2.2.2.2.2.2.1 q1.2.2.2.2.2.2.2.2.2.2.1 q1.2.2.2.2.2.2.2.2.2.2.2.1 q1.2.2.2.2.2.2.2.2.2.2.2.2.1 q1.2.2.2.2.2.2.2.2.2.2.2.2.2.1 q1.2.2.2.2.2.2.2.2.2.2.2.2.2.2.1).bind fun q4 => (some ((q4.1 == 600000), ()))) else (some (false, ()))) else (some (false, ()))) else (some (false, ()))))))
noncomputable def rheostatlaw13_works_o (K : Nat) : FO := fnFO rheostatlaw13_works_h rheostatlaw13_works_r fun t => rheostatlaw13_works_g K
theorem rheostatlaw13_works_q (K : Nat) (t : rheostatlaw13_works_h.T) : exFn (rheostatlaw13_works_e1 K) (hdl (rheostatlaw13_works_e1 K) 0) [14] Try.f14 (slVals (rheostatlaw13_works_h.put t).fr.sl) ⟨⟨0, []⟩, [], (rheostatlaw13_works_h.put t).mem⟩ (takeRes rheostatlaw13_works_r) = rheostatlaw13_works_g K := by kernel_rfl
theorem rheostatlaw13_works_ok (K : Nat) : FOok Try.prog 14 (rheostatlaw13_works_o K) :=
  fn_rule (rheostatlaw13_works_t1 K) (rheostatlaw13_works_i1 K) (draws (rheostatlaw13_works_t1 K)) 0 Try.func14 (fnB_ok Try.func14 (by kernel_rfl)) rfl rfl (allOwn_ok false (by kernel_rfl)) rfl (allOwn_ok true (by kernel_rfl)) (fun t => rheostatlaw13_works_q K t)
/-! fx_Near -/
noncomputable def fx_Near_e0 (K : Nat) : Env := ⟨tt, [], [(50, Try.f50), (51, Try.f51)], [], eqs⟩
theorem fx_Near_t0 (K : Nat) : EnvT Try.prog (fx_Near_e0 K) := envT_of tt_ok eqs_ok trivial
theorem fx_Near_i0 (K : Nat) : EnvI Try.prog (fx_Near_e0 K) := envI_of (es := []) ⟨⟨Try.func50, by kernel_rfl⟩, ⟨Try.func51, by kernel_rfl⟩, trivial⟩ trivial
noncomputable def fx_Near_h : Sh := ⟨2, [(0, .sc (.i .i64)), (1, .sc (.i .i64))], [], []⟩
noncomputable def fx_Near_r : Sh := ⟨2, [(0, .sc (.i .i64)), (1, .sc (.i .i64))], [], []⟩
noncomputable def fx_Near_g (K : Nat) (a_0 : Int) (b_1 : Int) : Option (Int × Int × Unit) :=
  (bif (decide (b_1 < 1)) then (some (0, 2, ())) else (bif (b_1 == 0) then none else (bif (b_1 == 0) then none else (bif (decide ((Int.tmod a_0 b_1) < 0)) then (bif (decide ((wi64 ((Int.tmod a_0 b_1) + b_1)) > (wi64 (b_1 - (wi64 ((Int.tmod a_0 b_1) + b_1)))))) then (some ((wi64 ((wi64 ((wi64 (Int.tdiv a_0 b_1)) - 1)) + 1)), 0, ())) else (bif ((wi64 ((Int.tmod a_0 b_1) + b_1)) == (wi64 (b_1 - (wi64 ((Int.tmod a_0 b_1) + b_1))))) then (bif (decide (a_0 > 0)) then (some ((wi64 ((wi64 ((wi64 (Int.tdiv a_0 b_1)) - 1)) + 1)), 0, ())) else (some ((wi64 ((wi64 (Int.tdiv a_0 b_1)) - 1)), 0, ()))) else (some ((wi64 ((wi64 (Int.tdiv a_0 b_1)) - 1)), 0, ())))) else (bif (decide ((Int.tmod a_0 b_1) > (wi64 (b_1 - (Int.tmod a_0 b_1))))) then (some ((wi64 ((wi64 (Int.tdiv a_0 b_1)) + 1)), 0, ())) else (bif ((Int.tmod a_0 b_1) == (wi64 (b_1 - (Int.tmod a_0 b_1)))) then (bif (decide (a_0 > 0)) then (some ((wi64 ((wi64 (Int.tdiv a_0 b_1)) + 1)), 0, ())) else (some ((wi64 (Int.tdiv a_0 b_1)), 0, ()))) else (some ((wi64 (Int.tdiv a_0 b_1)), 0, ()))))))))
noncomputable def fx_Near_o (K : Nat) : FO := fnFO fx_Near_h fx_Near_r fun t => fx_Near_g K t.1 t.2.1
theorem fx_Near_q (K : Nat) (t : fx_Near_h.T) : exFn (fx_Near_e0 K) (hdl (fx_Near_e0 K) 9) [39] Try.f39 (slVals (fx_Near_h.put t).fr.sl) ⟨⟨0, []⟩, [], (fx_Near_h.put t).mem⟩ (takeRes fx_Near_r) = fx_Near_g K t.1 t.2.1 := by kernel_rfl
theorem fx_Near_ok (K : Nat) : FOok Try.prog 39 (fx_Near_o K) :=
  fn_rule (fx_Near_t0 K) (fx_Near_i0 K) (draws (fx_Near_t0 K)) 9 Try.func39 (fnB_ok Try.func39 (by kernel_rfl)) rfl rfl (allOwn_ok false (by kernel_rfl)) rfl (allOwn_ok true (by kernel_rfl)) (fun t => fx_Near_q K t)
/-! adc_Mean -/
noncomputable def adc_Mean_e0 (K : Nat) : Env := ⟨tt, [(31, adc_raw_o K), (39, fx_Near_o K)], [], [], eqs⟩
theorem adc_Mean_t0 (K : Nat) : EnvT Try.prog (adc_Mean_e0 K) := envT_of tt_ok eqs_ok ⟨adc_raw_ok K, fx_Near_ok K, trivial⟩
theorem adc_Mean_i0 (K : Nat) : EnvI Try.prog (adc_Mean_e0 K) := envI_of (es := []) trivial trivial
noncomputable def adc_Mean_l0h : Sh := ⟨31, [(0, .sc (.slr0 0)), (4, .sc (.i .i64)), (15, .sc (.slr0 0)), (16, .sc (.i .i64)), (17, .sc (.i .i64))], [(0, [])], [(false, true, [.ir .i64])]⟩
noncomputable def adc_Mean_l0x0 : Sh := ⟨31, [(0, .sc (.slr0 0)), (4, .sc (.i .i64))], [(0, [])], [(false, true, [.ir .i64])]⟩
noncomputable def adc_Mean_l0O : OutI (Nat × Int × (Nat → Int) × Unit) := (OutI.exit 0 adc_Mean_l0x0)
noncomputable def adc_Mean_l0r (K : Nat) (rec : Nat → Int → Nat → Int → Int → (Nat → Int) → Option (Nat × Int × (Nat → Int) × Unit)) (counts_0n : Nat) (sum_4 : Int) (t_15n : Nat) (t_16 : Int) (t_17 : Int) (m0_0 : (Nat → Int)) : Option (Nat × Int × (Nat → Int) × Unit) :=
  (bif (decide (t_17 < t_16)) then (bif ((decide (0 ≤ t_17)) && (decide (t_17 < ((t_15n : Nat) : Int)))) then (rec counts_0n (wi64 (sum_4 + (m0_0 (Int.toNat t_17)))) t_15n t_16 (wi64 (t_17 + 1)) m0_0) else none) else (some (counts_0n, sum_4, m0_0, ())))
noncomputable def adc_Mean_l0 (K n : Nat) : Nat → Int → Nat → Int → Int → (Nat → Int) → Option (Nat × Int × (Nat → Int) × Unit) := Nat.rec (motive := fun _ => Nat → Int → Nat → Int → Int → (Nat → Int) → Option (Nat × Int × (Nat → Int) × Unit)) (fun _ _ _ _ _ _ => none) (fun _ ih => adc_Mean_l0r K ih) n
noncomputable def adc_Mean_l0u (K n : Nat) (t : adc_Mean_l0h.T) : Option (Nat × Int × (Nat → Int) × Unit) :=
  adc_Mean_l0 K n t.1 t.2.1 t.2.2.1 t.2.2.2.1 t.2.2.2.2.1 t.2.2.2.2.2.1
noncomputable def adc_Mean_l0o (K : Nat) : LO := loopLO adc_Mean_l0h adc_Mean_l0O fun t => adc_Mean_l0u K K t
noncomputable def adc_Mean_l0C : Code := bodyOf Try.f29
noncomputable def adc_Mean_l0B : Code := (findLoops 5 (loopsIn adc_Mean_l0C)).headD .skip
theorem adc_Mean_l0F : findLoops 5 (loopsIn adc_Mean_l0C) = [adc_Mean_l0B] := by kernel_rfl
theorem adc_Mean_l0q (K n : Nat) (t : adc_Mean_l0h.T) : exC (adc_Mean_e0 K) (hdl (adc_Mean_e0 K) 0) (29 :: []) adc_Mean_l0B (adc_Mean_l0h.put t) (fun s => (adc_Mean_l0h.take s).bind fun t => adc_Mean_l0u K n t) (fun id s => adc_Mean_l0O.get (some id) s) (fun s => adc_Mean_l0O.get none s) = adc_Mean_l0u K (n + 1) t := by kernel_rfl
noncomputable def adc_Mean_l0E (K : Nat) : LoopE Try.prog := ⟨[5, 29], adc_Mean_l0o K, Try.f29, adc_Mean_l0C, adc_Mean_l0B, ⟨5, 29, [], rfl, Try.func29, by kernel_rfl, adc_Mean_l0F⟩,
  loop_rule (F := fun n t => adc_Mean_l0u K n t) (adc_Mean_t0 K) (adc_Mean_i0 K) (draws (adc_Mean_t0 K)) 0 Try.func29 (c := adc_Mean_l0C) (by kernel_rfl) (body_in adc_Mean_l0F) (ctx' := []) (h := adc_Mean_l0h) (O := adc_Mean_l0O) (fun _ => rfl) (fun m t => adc_Mean_l0q K m t) K⟩
noncomputable def adc_Mean_e1 (K : Nat) : Env := ⟨tt, [(31, adc_raw_o K), (39, fx_Near_o K)], [], [([5, 29], adc_Mean_l0o K)], eqs⟩
theorem adc_Mean_t1 (K : Nat) : EnvT Try.prog (adc_Mean_e1 K) := envT_of tt_ok eqs_ok ⟨adc_raw_ok K, fx_Near_ok K, trivial⟩
theorem adc_Mean_i1 (K : Nat) : EnvI Try.prog (adc_Mean_e1 K) := envI_of (es := [adc_Mean_l0E K]) trivial ⟨⟨rfl, rfl⟩, trivial⟩
noncomputable def adc_Mean_h : Sh := ⟨1, [(0, .sc (.slr0 0))], [], [(false, true, [.ir .i64])]⟩
noncomputable def adc_Mean_r : Sh := ⟨2, [(0, .sc (.i .i64)), (1, .sc (.i .i64))], [], []⟩
noncomputable def adc_Mean_g (K : Nat) (counts_0n : Nat) (m0_0 : (Nat → Int)) : Option (Int × Int × Unit) :=
  (bif (decide (((counts_0n : Nat) : Int) > 256)) then (some (0, 2, ())) else ((adc_raw_g K counts_0n m0_0).bind fun q1 => (bif (!q1.1) then (some (0, 2, ())) else ((adc_Mean_l0 K K counts_0n 0 counts_0n ((counts_0n : Nat) : Int) 0 m0_0).bind fun q2 => ((fx_Near_g K q2.2.1 ((q2.1 : Nat) : Int)).bind fun q3 => (some (q3.1, q3.2.1, ())))))))
noncomputable def adc_Mean_o (K : Nat) : FO := fnFO adc_Mean_h adc_Mean_r fun t => adc_Mean_g K t.1 t.2.1
theorem adc_Mean_q (K : Nat) (t : adc_Mean_h.T) : exFn (adc_Mean_e1 K) (hdl (adc_Mean_e1 K) 0) [29] Try.f29 (slVals (adc_Mean_h.put t).fr.sl) ⟨⟨0, []⟩, [], (adc_Mean_h.put t).mem⟩ (takeRes adc_Mean_r) = adc_Mean_g K t.1 t.2.1 := by kernel_rfl
theorem adc_Mean_ok (K : Nat) : FOok Try.prog 29 (adc_Mean_o K) :=
  fn_rule (adc_Mean_t1 K) (adc_Mean_i1 K) (draws (adc_Mean_t1 K)) 0 Try.func29 (fnB_ok Try.func29 (by kernel_rfl)) rfl rfl (allOwn_ok false (by kernel_rfl)) rfl (allOwn_ok true (by kernel_rfl)) (fun t => adc_Mean_q K t)
/-! sample_Join -/
noncomputable def sample_Join_e0 (K : Nat) : Env := ⟨tt, [(20, sample_take_o K), (21, sample_ticks_may_o K), (29, adc_Mean_o K)], [], [], eqs⟩
theorem sample_Join_t0 (K : Nat) : EnvT Try.prog (sample_Join_e0 K) := envT_of tt_ok eqs_ok ⟨sample_take_ok K, sample_ticks_may_ok K, adc_Mean_ok K, trivial⟩
theorem sample_Join_i0 (K : Nat) : EnvI Try.prog (sample_Join_e0 K) := envI_of (es := []) trivial trivial
noncomputable def sample_Join_l1h : Sh := ⟨80, [(2, .sc (.lit (.p 0 0 0 []))), (4, .sc (.lit (.p 1 0 0 []))), (5, .sc (.lit (.p 2 0 0 []))), (20, .sc (.slr0 3)), (21, .sc (.i .i64)), (22, .sc (.i .i64)), (40, .ag [.i .i64, .i .i64, .i .i64]), (41, .sc (.i .i64))], [(0, [])], [(true, false, [.i .i64, .i .i64, .i .i64, .i .i64]), (true, false, [.i .i64, .i .i64, .i .i64, .i .i64]), (true, false, [.slr0 4, .slr0 5, .slr0 6]), (false, true, [.ir .i64, .ir .i64, .ir .i64, .ir .i64]), (true, true, [.ir .i64]), (true, true, [.ir .i64]), (true, true, [.ir .i64])]⟩
noncomputable def sample_Join_l1x0 : Sh := ⟨80, [(2, .sc (.lit (.p 0 0 0 []))), (4, .sc (.lit (.p 1 0 0 []))), (5, .sc (.lit (.p 2 0 0 []))), (20, .sc (.slr0 3)), (21, .sc (.i .i64)), (22, .sc (.i .i64))], [(0, [])], [(true, false, [.i .i64, .i .i64, .i .i64, .i .i64]), (true, false, [.i .i64, .i .i64, .i .i64, .i .i64]), (true, false, [.slr0 4, .slr0 5, .slr0 6]), (false, true, [.ir .i64, .ir .i64, .ir .i64, .ir .i64]), (true, true, [.ir .i64]), (true, true, [.ir .i64]), (true, true, [.ir .i64])]⟩
noncomputable def sample_Join_l1O : OutI (Nat × Int × Int × Int × Int × Int × Int × Int × Int × Int × Int × Nat × Nat × Nat × (Nat → Int) × (Nat → Int) × (Nat → Int) × (Nat → Int) × (Nat → Int) × (Nat → Int) × (Nat → Int) × Unit) := (OutI.exit 2 sample_Join_l1x0)
noncomputable def sample_Join_l1r (K : Nat) (rec : Nat → Int → Int → Int → Int → Int → Int → Int → Int → Int → Int → Int → Int → Int → Int → Nat → Nat → Nat → (Nat → Int) → (Nat → Int) → (Nat → Int) → (Nat → Int) → (Nat → Int) → (Nat → Int) → (Nat → Int) → Option (Nat × Int × Int × Int × Int × Int × Int × Int × Int × Int × Int × Nat × Nat × Nat × (Nat → Int) × (Nat → Int) × (Nat → Int) × (Nat → Int) × (Nat → Int) × (Nat → Int) × (Nat → Int) × Unit)) (t_20n : Nat) (t_21 : Int) (t_22 : Int) (t_40_0 : Int) (t_40_1 : Int) (t_40_2 : Int) (t_41 : Int) (m0_0 : Int) (m0_1 : Int) (m0_2 : Int) (m0_3 : Int) (m1_0 : Int) (m1_1 : Int) (m1_2 : Int) (m1_3 : Int) (m2_0n : Nat) (m2_1n : Nat) (m2_2n : Nat) (m3_0 : (Nat → Int)) (m3_1 : (Nat → Int)) (m3_2 : (Nat → Int)) (m3_3 : (Nat → Int)) (m4_0 : (Nat → Int)) (m5_0 : (Nat → Int)) (m6_0 : (Nat → Int)) : Option (Nat × Int × Int × Int × Int × Int × Int × Int × Int × Int × Int × Nat × Nat × Nat × (Nat → Int) × (Nat → Int) × (Nat → Int) × (Nat → Int) × (Nat → Int) × (Nat → Int) × (Nat → Int) × Unit) :=
  (bif (decide (t_41 < 3)) then (bif ((decide (0 ≤ t_41)) && (decide (t_41 < 3))) then (bif ((decide (0 ≤ t_41)) && (decide (t_41 < 3))) then (bif (Nat.beq (Int.toNat t_41) 2) then (bif (Nat.ble ((m2_2n + 1) * 8) 140737488355328) then (bif ((decide (0 ≤ t_41)) && (decide (t_41 < 3))) then (bif (Nat.beq (Int.toNat t_41) 2) then (rec t_20n t_21 t_22 t_40_0 t_40_1 t_40_2 (wi64 (t_41 + 1)) m0_0 m0_1 m0_2 m0_3 m1_0 m1_1 m1_2 m1_3 m2_0n m2_1n (m2_2n + 1) m3_0 m3_1 m3_2 m3_3 m4_0 m5_0 (fun j => (bif (Nat.blt j m2_2n) then (m6_0 j) else (selI [(selI [t_40_0, t_40_1, t_40_2] (Int.toNat t_41))] (j - m2_2n))))) else (bif (Nat.beq (Int.toNat t_41) 1) then none else (bif (Nat.beq (Int.toNat t_41) 0) then none else none))) else none) else none) else (bif (Nat.beq (Int.toNat t_41) 1) then (bif (Nat.ble ((m2_1n + 1) * 8) 140737488355328) then (bif ((decide (0 ≤ t_41)) && (decide (t_41 < 3))) then (bif (Nat.beq (Int.toNat t_41) 2) then none else (bif (Nat.beq (Int.toNat t_41) 1) then (rec t_20n t_21 t_22 t_40_0 t_40_1 t_40_2 (wi64 (t_41 + 1)) m0_0 m0_1 m0_2 m0_3 m1_0 m1_1 m1_2 m1_3 m2_0n (m2_1n + 1) m2_2n m3_0 m3_1 m3_2 m3_3 m4_0 (fun j => (bif (Nat.blt j m2_1n) then (m5_0 j) else (selI [(selI [t_40_0, t_40_1, t_40_2] (Int.toNat t_41))] (j - m2_1n)))) m6_0) else (bif (Nat.beq (Int.toNat t_41) 0) then none else none))) else none) else none) else (bif (Nat.beq (Int.toNat t_41) 0) then (bif (Nat.ble ((m2_0n + 1) * 8) 140737488355328) then (bif ((decide (0 ≤ t_41)) && (decide (t_41 < 3))) then (bif (Nat.beq (Int.toNat t_41) 2) then none else (bif (Nat.beq (Int.toNat t_41) 1) then none else (bif (Nat.beq (Int.toNat t_41) 0) then (rec t_20n t_21 t_22 t_40_0 t_40_1 t_40_2 (wi64 (t_41 + 1)) m0_0 m0_1 m0_2 m0_3 m1_0 m1_1 m1_2 m1_3 (m2_0n + 1) m2_1n m2_2n m3_0 m3_1 m3_2 m3_3 (fun j => (bif (Nat.blt j m2_0n) then (m4_0 j) else (selI [(selI [t_40_0, t_40_1, t_40_2] (Int.toNat t_41))] (j - m2_0n)))) m5_0 m6_0) else none))) else none) else none) else none))) else none) else none) else (some (t_20n, t_21, t_22, m0_0, m0_1, m0_2, m0_3, m1_0, m1_1, m1_2, m1_3, m2_0n, m2_1n, m2_2n, m3_0, m3_1, m3_2, m3_3, m4_0, m5_0, m6_0, ())))
noncomputable def sample_Join_l1 (K n : Nat) : Nat → Int → Int → Int → Int → Int → Int → Int → Int → Int → Int → Int → Int → Int → Int → Nat → Nat → Nat → (Nat → Int) → (Nat → Int) → (Nat → Int) → (Nat → Int) → (Nat → Int) → (Nat → Int) → (Nat → Int) → Option (Nat × Int × Int × Int × Int × Int × Int × Int × Int × Int × Int × Nat × Nat × Nat × (Nat → Int) × (Nat → Int) × (Nat → Int) × (Nat → Int) × (Nat → Int) × (Nat → Int) × (Nat → Int) × Unit) := Nat.rec (motive := fun _ => Nat → Int → Int → Int → Int → Int → Int → Int → Int → Int → Int → Int → Int → Int → Int → Nat → Nat → Nat → (Nat → Int) → (Nat → Int) → (Nat → Int) → (Nat → Int) → (Nat → Int) → (Nat → Int) → (Nat → Int) → Option (Nat × Int × Int × Int × Int × Int × Int × Int × Int × Int × Int × Nat × Nat × Nat × (Nat → Int) × (Nat → Int) × (Nat → Int) × (Nat → Int) × (Nat → Int) × (Nat → Int) × (Nat → Int) × Unit)) (fun _ _ _ _ _ _ _ _ _ _ _ _ _ _ _ _ _ _ _ _ _ _ _ _ _ => none) (fun _ ih => sample_Join_l1r K ih) n
noncomputable def sample_Join_l1u (K n : Nat) (t : sample_Join_l1h.T) : Option (Nat × Int × Int × Int × Int × Int × Int × Int × Int × Int × Int × Nat × Nat × Nat × (Nat → Int) × (Nat → Int) × (Nat → Int) × (Nat → Int) × (Nat → Int) × (Nat → Int) × (Nat → Int) × Unit) :=
  let u1 := t.2
  let u2 := u1.2
  let u3 := u2.2
  let u4 := u3.2
  let u5 := u4.2
  let u6 := u5.2
  let u7 := u6.2
  let u8 := u7.2
  let u9 := u8.2
  let u10 := u9.2
  let u11 := u10.2
  let u12 := u11.2
  let u13 := u12.2
  let u14 := u13.2
  let u15 := u14.2
  let u16 := u15.2
  let u17 := u16.2
  let u18 := u17.2
  let u19 := u18.2
  let u20 := u19.2
  let u21 := u20.2
  let u22 := u21.2
  let u23 := u22.2
  let u24 := u23.2
  sample_Join_l1 K n t.1 u1.1 u2.1 u3.1 u4.1 u5.1 u6.1 u7.1 u8.1 u9.1 u10.1 u11.1 u12.1 u13.1 u14.1 u15.1 u16.1 u17.1 u18.1 u19.1 u20.1 u21.1 u22.1 u23.1 u24.1
noncomputable def sample_Join_l1o (K : Nat) : LO := loopLO sample_Join_l1h sample_Join_l1O fun t => sample_Join_l1u K K t
noncomputable def sample_Join_l1C : Code := bodyOf Try.f17
noncomputable def sample_Join_l1B : Code := (findLoops 13 (loopsIn sample_Join_l1C)).headD .skip
theorem sample_Join_l1F : findLoops 13 (loopsIn sample_Join_l1C) = [sample_Join_l1B] := by kernel_rfl
theorem sample_Join_l1q (K n : Nat) (t : sample_Join_l1h.T) : exC (sample_Join_e0 K) (hdl (sample_Join_e0 K) 0) (17 :: []) sample_Join_l1B (sample_Join_l1h.put t) (fun s => (sample_Join_l1h.take s).bind fun t => sample_Join_l1u K n t) (fun id s => sample_Join_l1O.get (some id) s) (fun s => sample_Join_l1O.get none s) = sample_Join_l1u K (n + 1) t := by kernel_rfl
noncomputable def sample_Join_l1E (K : Nat) : LoopE Try.prog := ⟨[13, 17], sample_Join_l1o K, Try.f17, sample_Join_l1C, sample_Join_l1B, ⟨13, 17, [], rfl, Try.func17, by kernel_rfl, sample_Join_l1F⟩,
  loop_rule (F := fun n t => sample_Join_l1u K n t) (sample_Join_t0 K) (sample_Join_i0 K) (draws (sample_Join_t0 K)) 0 Try.func17 (c := sample_Join_l1C) (by kernel_rfl) (body_in sample_Join_l1F) (ctx' := []) (h := sample_Join_l1h) (O := sample_Join_l1O) (fun _ => rfl) (fun m t => sample_Join_l1q K m t) K⟩
noncomputable def sample_Join_e1 (K : Nat) : Env := ⟨tt, [(20, sample_take_o K), (21, sample_ticks_may_o K), (29, adc_Mean_o K)], [], [([13, 17], sample_Join_l1o K)], eqs⟩
theorem sample_Join_t1 (K : Nat) : EnvT Try.prog (sample_Join_e1 K) := envT_of tt_ok eqs_ok ⟨sample_take_ok K, sample_ticks_may_ok K, adc_Mean_ok K, trivial⟩
theorem sample_Join_i1 (K : Nat) : EnvI Try.prog (sample_Join_e1 K) := envI_of (es := [sample_Join_l1E K]) trivial ⟨⟨rfl, rfl⟩, trivial⟩
noncomputable def sample_Join_l0h : Sh := ⟨80, [(2, .sc (.lit (.p 0 0 0 []))), (4, .sc (.lit (.p 1 0 0 []))), (5, .sc (.lit (.p 2 0 0 []))), (20, .sc (.slr0 3)), (21, .sc (.i .i64)), (22, .sc (.i .i64))], [(0, [])], [(true, false, [.i .i64, .i .i64, .i .i64, .i .i64]), (true, false, [.i .i64, .i .i64, .i .i64, .i .i64]), (true, false, [.slr0 4, .slr0 5, .slr0 6]), (false, true, [.ir .i64, .ir .i64, .ir .i64, .ir .i64]), (true, true, [.ir .i64]), (true, true, [.ir .i64]), (true, true, [.ir .i64])]⟩
noncomputable def sample_Join_l0x0 : Sh := ⟨80, [(2, .sc (.lit (.p 0 0 0 []))), (4, .sc (.lit (.p 1 0 0 []))), (5, .sc (.lit (.p 2 0 0 [])))], [(0, [])], [(true, false, [.i .i64, .i .i64, .i .i64, .i .i64]), (true, false, [.i .i64, .i .i64, .i .i64, .i .i64]), (true, false, [.slr0 3, .slr0 4, .slr0 5]), (true, true, [.ir .i64]), (true, true, [.ir .i64]), (true, true, [.ir .i64])]⟩
noncomputable def sample_Join_l0x1 : Sh := ⟨80, [(2, .sc (.lit (.p 0 0 0 []))), (3, .sc (.i .i64))], [(0, [])], [(true, false, [.i .i64, .i .i64, .i .i64, .i .i64])]⟩
noncomputable def sample_Join_l0O : OutI ((Int × Int × Int × Int × Int × Int × Int × Int × Nat × Nat × Nat × (Nat → Int) × (Nat → Int) × (Nat → Int) × Unit) ⊕ (Int × Int × Int × Int × Int × Unit)) := (OutI.or (OutI.exit 0 sample_Join_l0x0) (OutI.ret sample_Join_l0x1))
noncomputable def sample_Join_l0r (K : Nat) (rec : Nat → Int → Int → Int → Int → Int → Int → Int → Int → Int → Int → Nat → Nat → Nat → (Nat → Int) → (Nat → Int) → (Nat → Int) → (Nat → Int) → (Nat → Int) → (Nat → Int) → (Nat → Int) → Option ((Int × Int × Int × Int × Int × Int × Int × Int × Nat × Nat × Nat × (Nat → Int) × (Nat → Int) × (Nat → Int) × Unit) ⊕ (Int × Int × Int × Int × Int × Unit))) (t_20n : Nat) (t_21 : Int) (t_22 : Int) (m0_0 : Int) (m0_1 : Int) (m0_2 : Int) (m0_3 : Int) (m1_0 : Int) (m1_1 : Int) (m1_2 : Int) (m1_3 : Int) (m2_0n : Nat) (m2_1n : Nat) (m2_2n : Nat) (m3_0 : (Nat → Int)) (m3_1 : (Nat → Int)) (m3_2 : (Nat → Int)) (m3_3 : (Nat → Int)) (m4_0 : (Nat → Int)) (m5_0 : (Nat → Int)) (m6_0 : (Nat → Int)) : Option ((Int × Int × Int × Int × Int × Int × Int × Int × Nat × Nat × Nat × (Nat → Int) × (Nat → Int) × (Nat → Int) × Unit) ⊕ (Int × Int × Int × Int × Int × Unit)) :=
  (bif (decide (t_22 < t_21)) then (bif ((decide (0 ≤ t_22)) && (decide (t_22 < ((t_20n : Nat) : Int)))) then ((sample_take_g K (m3_0 (Int.toNat t_22)) (m3_1 (Int.toNat t_22)) (m3_2 (Int.toNat t_22)) (m3_3 (Int.toNat t_22))).bind fun q1 => ((sample_ticks_may_g K q1.1).bind fun q2 => (bif (!q2.1) then (some (.inr (2, 0, 0, 0, 0, ()))) else ((sample_Join_l1 K K t_20n t_21 t_22 q1.2.1 q1.2.2.1 q1.2.2.2.1 0 m0_0 m0_1 m0_2 m0_3 m1_0 m1_1 m1_2 (wi64 (m1_3 + (m3_3 (Int.toNat t_22)))) m2_0n m2_1n m2_2n m3_0 m3_1 m3_2 m3_3 m4_0 m5_0 m6_0).bind fun q3 => (rec q3.1 q3.2.1 (wi64 (q3.2.2.1 + 1)) q3.2.2.2.1 q3.2.2.2.2.1 q3.2.2.2.2.2.1 q3.2.2.2.2.2.2.1 q3.2.2.2.2.2.2.2.1 q3.2.2.2.2.2.2.2.2.1 q3.2.2.2.2.2.2.2.2.2.1 q3.2.2.2.2.2.2.2.2.2.2.1 q3.2.2.2.2.2.2.2.2.2.2.2.1 q3.2.2.2.2.2.2.2.2.2.2.2.2.1 q3.2.2.2.2.2.2.2.2.2.2.2.2.2.1 q3.2.2.2.2.2.2.2.2.2.2.2.2.2.2.1 q3.2.2.2.2.2.2.2.2.2.2.2.2.2.2.2.1 q3.2.2.2.2.2.2.2.2.2.2.2.2.2.2.2.2.1 q3.2.2.2.2.2.2.2.2.2.2.2.2.2.2.2.2.2.1 q3.2.2.2.2.2.2.2.2.2.2.2.2.2.2.2.2.2.2.1 q3.2.2.2.2.2.2.2.2.2.2.2.2.2.2.2.2.2.2.2.1 q3.2.2.2.2.2.2.2.2.2.2.2.2.2.2.2.2.2.2.2.2.1))))) else none) else (some (.inl (m0_0, m0_1, m0_2, m0_3, m1_0, m1_1, m1_2, m1_3, m2_0n, m2_1n, m2_2n, m4_0, m5_0, m6_0, ()))))
noncomputable def sample_Join_l0 (K n : Nat) : Nat → Int → Int → Int → Int → Int → Int → Int → Int → Int → Int → Nat → Nat → Nat → (Nat → Int) → (Nat → Int) → (Nat → Int) → (Nat → Int) → (Nat → Int) → (Nat → Int) → (Nat → Int) → Option ((Int × Int × Int × Int × Int × Int × Int × Int × Nat × Nat × Nat × (Nat → Int) × (Nat → Int) × (Nat → Int) × Unit) ⊕ (Int × Int × Int × Int × Int × Unit)) := Nat.rec (motive := fun _ => Nat → Int → Int → Int → Int → Int → Int → Int → Int → Int → Int → Nat → Nat → Nat → (Nat → Int) → (Nat → Int) → (Nat → Int) → (Nat → Int) → (Nat → Int) → (Nat → Int) → (Nat → Int) → Option ((Int × Int × Int × Int × Int × Int × Int × Int × Nat × Nat × Nat × (Nat → Int) × (Nat → Int) × (Nat → Int) × Unit) ⊕ (Int × Int × Int × Int × Int × Unit))) (fun _ _ _ _ _ _ _ _ _ _ _ _ _ _ _ _ _ _ _ _ _ => none) (fun _ ih => sample_Join_l0r K ih) n
noncomputable def sample_Join_l0u (K n : Nat) (t : sample_Join_l0h.T) : Option ((Int × Int × Int × Int × Int × Int × Int × Int × Nat × Nat × Nat × (Nat → Int) × (Nat → Int) × (Nat → Int) × Unit) ⊕ (Int × Int × Int × Int × Int × Unit)) :=
  let u1 := t.2
  let u2 := u1.2
  let u3 := u2.2
  let u4 := u3.2
  let u5 := u4.2
  let u6 := u5.2
  let u7 := u6.2
  let u8 := u7.2
  let u9 := u8.2
  let u10 := u9.2
  let u11 := u10.2
  let u12 := u11.2
  let u13 := u12.2
  let u14 := u13.2
  let u15 := u14.2
  let u16 := u15.2
  let u17 := u16.2
  let u18 := u17.2
  let u19 := u18.2
  let u20 := u19.2
  sample_Join_l0 K n t.1 u1.1 u2.1 u3.1 u4.1 u5.1 u6.1 u7.1 u8.1 u9.1 u10.1 u11.1 u12.1 u13.1 u14.1 u15.1 u16.1 u17.1 u18.1 u19.1 u20.1
noncomputable def sample_Join_l0o (K : Nat) : LO := loopLO sample_Join_l0h sample_Join_l0O fun t => sample_Join_l0u K K t
noncomputable def sample_Join_l0C : Code := bodyOf Try.f17
noncomputable def sample_Join_l0B : Code := (findLoops 6 (loopsIn sample_Join_l0C)).headD .skip
theorem sample_Join_l0F : findLoops 6 (loopsIn sample_Join_l0C) = [sample_Join_l0B] := by kernel_rfl
theorem sample_Join_l0q (K n : Nat) (t : sample_Join_l0h.T) : exC (sample_Join_e1 K) (hdl (sample_Join_e1 K) 0) (17 :: []) sample_Join_l0B (sample_Join_l0h.put t) (fun s => (sample_Join_l0h.take s).bind fun t => sample_Join_l0u K n t) (fun id s => sample_Join_l0O.get (some id) s) (fun s => sample_Join_l0O.get none s) = sample_Join_l0u K (n + 1) t := by kernel_rfl
noncomputable def sample_Join_l0E (K : Nat) : LoopE Try.prog := ⟨[6, 17], sample_Join_l0o K, Try.f17, sample_Join_l0C, sample_Join_l0B, ⟨6, 17, [], rfl, Try.func17, by kernel_rfl, sample_Join_l0F⟩,
  loop_rule (F := fun n t => sample_Join_l0u K n t) (sample_Join_t1 K) (sample_Join_i1 K) (draws (sample_Join_t1 K)) 0 Try.func17 (c := sample_Join_l0C) (by kernel_rfl) (body_in sample_Join_l0F) (ctx' := []) (h := sample_Join_l0h) (O := sample_Join_l0O) (fun _ => rfl) (fun m t => sample_Join_l0q K m t) K⟩
noncomputable def sample_Join_e2 (K : Nat) : Env := ⟨tt, [(20, sample_take_o K), (21, sample_ticks_may_o K), (29, adc_Mean_o K)], [], [([13, 17], sample_Join_l1o K), ([6, 17], sample_Join_l0o K)], eqs⟩
theorem sample_Join_t2 (K : Nat) : EnvT Try.prog (sample_Join_e2 K) := envT_of tt_ok eqs_ok ⟨sample_take_ok K, sample_ticks_may_ok K, adc_Mean_ok K, trivial⟩
theorem sample_Join_i2 (K : Nat) : EnvI Try.prog (sample_Join_e2 K) := envI_of (es := [sample_Join_l1E K, sample_Join_l0E K]) trivial ⟨⟨rfl, rfl⟩, ⟨rfl, rfl⟩, trivial⟩
noncomputable def sample_Join_l2h : Sh := ⟨80, [(2, .sc (.lit (.p 0 0 0 []))), (4, .sc (.lit (.p 1 0 0 []))), (60, .ag [.slr0 2, .slr0 3, .slr0 4]), (61, .sc (.i .i64))], [(0, [])], [(true, false, [.i .i64, .i .i64, .i .i64, .i .i64]), (true, false, [.i .i64, .i .i64, .i .i64, .i .i64]), (true, true, [.ir .i64]), (true, true, [.ir .i64]), (true, true, [.ir .i64])]⟩
noncomputable def sample_Join_l2x0 : Sh := ⟨80, [(2, .sc (.lit (.p 0 0 0 []))), (4, .sc (.lit (.p 1 0 0 [])))], [(0, [])], [(true, false, [.i .i64, .i .i64, .i .i64, .i .i64]), (true, false, [.i .i64, .i .i64, .i .i64, .i .i64])]⟩
noncomputable def sample_Join_l2x1 : Sh := ⟨80, [(2, .sc (.lit (.p 0 0 0 []))), (3, .sc (.i .i64))], [(0, [])], [(true, false, [.i .i64, .i .i64, .i .i64, .i .i64])]⟩
noncomputable def sample_Join_l2O : OutI ((Int × Int × Int × Int × Int × Int × Int × Int × Unit) ⊕ (Int × Int × Int × Int × Int × Unit)) := (OutI.or (OutI.exit 4 sample_Join_l2x0) (OutI.ret sample_Join_l2x1))
noncomputable def sample_Join_l2r (K : Nat) (rec : Nat → Nat → Nat → Int → Int → Int → Int → Int → Int → Int → Int → Int → (Nat → Int) → (Nat → Int) → (Nat → Int) → Option ((Int × Int × Int × Int × Int × Int × Int × Int × Unit) ⊕ (Int × Int × Int × Int × Int × Unit))) (t_60_0n : Nat) (t_60_1n : Nat) (t_60_2n : Nat) (t_61 : Int) (m0_0 : Int) (m0_1 : Int) (m0_2 : Int) (m0_3 : Int) (m1_0 : Int) (m1_1 : Int) (m1_2 : Int) (m1_3 : Int) (m2_0 : (Nat → Int)) (m3_0 : (Nat → Int)) (m4_0 : (Nat → Int)) : Option ((Int × Int × Int × Int × Int × Int × Int × Int × Unit) ⊕ (Int × Int × Int × Int × Int × Unit)) :=
  (bif (decide (t_61 < 3)) then (bif ((decide (0 ≤ t_61)) && (decide (t_61 < 3))) then (bif (Nat.beq (Int.toNat t_61) 2) then ((adc_Mean_g K t_60_2n m4_0).bind fun q3 => (bif (q3.2.1 != 0) then (some (.inr (q3.2.1, 0, 0, 0, 0, ()))) else (bif ((decide (0 ≤ t_61)) && (decide (t_61 < 3))) then (rec t_60_0n t_60_1n t_60_2n (wi64 (t_61 + 1)) m0_0 m0_1 m0_2 m0_3 (bif (Nat.beq (Int.toNat t_61) 0) then q3.1 else m1_0) (bif (Nat.beq (Int.toNat t_61) 1) then q3.1 else m1_1) (bif (Nat.beq (Int.toNat t_61) 2) then q3.1 else m1_2) m1_3 m2_0 m3_0 m4_0) else none))) else (bif (Nat.beq (Int.toNat t_61) 1) then ((adc_Mean_g K t_60_1n m3_0).bind fun q2 => (bif (q2.2.1 != 0) then (some (.inr (q2.2.1, 0, 0, 0, 0, ()))) else (bif ((decide (0 ≤ t_61)) && (decide (t_61 < 3))) then (rec t_60_0n t_60_1n t_60_2n (wi64 (t_61 + 1)) m0_0 m0_1 m0_2 m0_3 (bif (Nat.beq (Int.toNat t_61) 0) then q2.1 else m1_0) (bif (Nat.beq (Int.toNat t_61) 1) then q2.1 else m1_1) (bif (Nat.beq (Int.toNat t_61) 2) then q2.1 else m1_2) m1_3 m2_0 m3_0 m4_0) else none))) else (bif (Nat.beq (Int.toNat t_61) 0) then ((adc_Mean_g K t_60_0n m2_0).bind fun q1 => (bif (q1.2.1 != 0) then (some (.inr (q1.2.1, 0, 0, 0, 0, ()))) else (bif ((decide (0 ≤ t_61)) && (decide (t_61 < 3))) then (rec t_60_0n t_60_1n t_60_2n (wi64 (t_61 + 1)) m0_0 m0_1 m0_2 m0_3 (bif (Nat.beq (Int.toNat t_61) 0) then q1.1 else m1_0) (bif (Nat.beq (Int.toNat t_61) 1) then q1.1 else m1_1) (bif (Nat.beq (Int.toNat t_61) 2) then q1.1 else m1_2) m1_3 m2_0 m3_0 m4_0) else none))) else none))) else none) else (some (.inl (m0_0, m0_1, m0_2, m0_3, m1_0, m1_1, m1_2, m1_3, ()))))
noncomputable def sample_Join_l2 (K n : Nat) : Nat → Nat → Nat → Int → Int → Int → Int → Int → Int → Int → Int → Int → (Nat → Int) → (Nat → Int) → (Nat → Int) → Option ((Int × Int × Int × Int × Int × Int × Int × Int × Unit) ⊕ (Int × Int × Int × Int × Int × Unit)) := Nat.rec (motive := fun _ => Nat → Nat → Nat → Int → Int → Int → Int → Int → Int → Int → Int → Int → (Nat → Int) → (Nat → Int) → (Nat → Int) → Option ((Int × Int × Int × Int × Int × Int × Int × Int × Unit) ⊕ (Int × Int × Int × Int × Int × Unit))) (fun _ _ _ _ _ _ _ _ _ _ _ _ _ _ _ => none) (fun _ ih => sample_Join_l2r K ih) n
noncomputable def sample_Join_l2u (K n : Nat) (t : sample_Join_l2h.T) : Option ((Int × Int × Int × Int × Int × Int × Int × Int × Unit) ⊕ (Int × Int × Int × Int × Int × Unit)) :=
  let u1 := t.2
  let u2 := u1.2
  let u3 := u2.2
  let u4 := u3.2
  let u5 := u4.2
  let u6 := u5.2
  let u7 := u6.2
  let u8 := u7.2
  let u9 := u8.2
  let u10 := u9.2
  let u11 := u10.2
  let u12 := u11.2
  let u13 := u12.2
  let u14 := u13.2
  sample_Join_l2 K n t.1 u1.1 u2.1 u3.1 u4.1 u5.1 u6.1 u7.1 u8.1 u9.1 u10.1 u11.1 u12.1 u13.1 u14.1
noncomputable def sample_Join_l2o (K : Nat) : LO := loopLO sample_Join_l2h sample_Join_l2O fun t => sample_Join_l2u K K t
noncomputable def sample_Join_l2C : Code := bodyOf Try.f17
noncomputable def sample_Join_l2B : Code := (findLoops 21 (loopsIn sample_Join_l2C)).headD .skip
theorem sample_Join_l2F : findLoops 21 (loopsIn sample_Join_l2C) = [sample_Join_l2B] := by kernel_rfl
theorem sample_Join_l2q (K n : Nat) (t : sample_Join_l2h.T) : exC (sample_Join_e2 K) (hdl (sample_Join_e2 K) 0) (17 :: []) sample_Join_l2B (sample_Join_l2h.put t) (fun s => (sample_Join_l2h.take s).bind fun t => sample_Join_l2u K n t) (fun id s => sample_Join_l2O.get (some id) s) (fun s => sample_Join_l2O.get none s) = sample_Join_l2u K (n + 1) t := by kernel_rfl
noncomputable def sample_Join_l2E (K : Nat) : LoopE Try.prog := ⟨[21, 17], sample_Join_l2o K, Try.f17, sample_Join_l2C, sample_Join_l2B, ⟨21, 17, [], rfl, Try.func17, by kernel_rfl, sample_Join_l2F⟩,
  loop_rule (F := fun n t => sample_Join_l2u K n t) (sample_Join_t2 K) (sample_Join_i2 K) (draws (sample_Join_t2 K)) 0 Try.func17 (c := sample_Join_l2C) (by kernel_rfl) (body_in sample_Join_l2F) (ctx' := []) (h := sample_Join_l2h) (O := sample_Join_l2O) (fun _ => rfl) (fun m t => sample_Join_l2q K m t) K⟩
noncomputable def sample_Join_e3 (K : Nat) : Env := ⟨tt, [(20, sample_take_o K), (21, sample_ticks_may_o K), (29, adc_Mean_o K)], [], [([13, 17], sample_Join_l1o K), ([6, 17], sample_Join_l0o K), ([21, 17], sample_Join_l2o K)], eqs⟩
theorem sample_Join_t3 (K : Nat) : EnvT Try.prog (sample_Join_e3 K) := envT_of tt_ok eqs_ok ⟨sample_take_ok K, sample_ticks_may_ok K, adc_Mean_ok K, trivial⟩
theorem sample_Join_i3 (K : Nat) : EnvI Try.prog (sample_Join_e3 K) := envI_of (es := [sample_Join_l1E K, sample_Join_l0E K, sample_Join_l2E K]) trivial ⟨⟨rfl, rfl⟩, ⟨rfl, rfl⟩, ⟨rfl, rfl⟩, trivial⟩
noncomputable def sample_Join_h : Sh := ⟨1, [(0, .sc (.slr0 0))], [], [(false, true, [.ir .i64, .ir .i64, .ir .i64, .ir .i64])]⟩
noncomputable def sample_Join_r : Sh := ⟨2, [(0, .ag [.i .i64, .i .i64, .i .i64, .i .i64]), (1, .sc (.i .i64))], [], []⟩
noncomputable def sample_Join_g (K : Nat) (l_0n : Nat) (m0_0 : (Nat → Int)) (m0_1 : (Nat → Int)) (m0_2 : (Nat → Int)) (m0_3 : (Nat → Int)) : Option (Int × Int × Int × Int × Int × Unit) :=
  (bif (decide (((l_0n : Nat) : Int) > 256)) then (some (0, 0, 0, 0, 2, ())) else ((sample_Join_l0 K K l_0n ((l_0n : Nat) : Int) 0 0 0 0 0 0 0 0 0 0 0 0 m0_0 m0_1 m0_2 m0_3 (fun _ => 0) (fun _ => 0) (fun _ => 0)).bind fun q1 => (Sum.elim (fun q2 => ((sample_ticks_may_g K q2.2.2.2.2.2.2.2.1).bind fun q4 => (bif (!q4.1) then (some (0, 0, 0, 0, 2, ())) else ((sample_Join_l2 K K q2.2.2.2.2.2.2.2.2.1 q2.2.2.2.2.2.2.2.2.2.1 q2.2.2.2.2.2.2.2.2.2.2.1 0 q2.1 q2.2.1 q2.2.2.1 q2.2.2.2.1 q2.2.2.2.2.1 q2.2.2.2.2.2.1 q2.2.2.2.2.2.2.1 q2.2.2.2.2.2.2.2.1 q2.2.2.2.2.2.2.2.2.2.2.2.1 q2.2.2.2.2.2.2.2.2.2.2.2.2.1 q2.2.2.2.2.2.2.2.2.2.2.2.2.2.1).bind fun q5 => (Sum.elim (fun q6 => (some (q6.2.2.2.2.1, q6.2.2.2.2.2.1, q6.2.2.2.2.2.2.1, q6.2.2.2.2.2.2.2.1, 0, ()))) (fun q7 => (some (q7.2.1, q7.2.2.1, q7.2.2.2.1, q7.2.2.2.2.1, q7.1, ()))) q5))))) (fun q3 => (some (q3.2.1, q3.2.2.1, q3.2.2.2.1, q3.2.2.2.2.1, q3.1, ()))) q1)))
noncomputable def sample_Join_gu (K : Nat) (t : sample_Join_h.T) : Option (Int × Int × Int × Int × Int × Unit) :=
  sample_Join_g K t.1 t.2.1 t.2.2.1 t.2.2.2.1 t.2.2.2.2.1
noncomputable def sample_Join_o (K : Nat) : FO := fnFO sample_Join_h sample_Join_r fun t => sample_Join_gu K t
theorem sample_Join_q (K : Nat) (t : sample_Join_h.T) : exFn (sample_Join_e3 K) (hdl (sample_Join_e3 K) 0) [17] Try.f17 (slVals (sample_Join_h.put t).fr.sl) ⟨⟨0, []⟩, [], (sample_Join_h.put t).mem⟩ (takeRes sample_Join_r) = sample_Join_gu K t := by kernel_rfl
theorem sample_Join_ok (K : Nat) : FOok Try.prog 17 (sample_Join_o K) :=
  fn_rule (sample_Join_t3 K) (sample_Join_i3 K) (draws (sample_Join_t3 K)) 0 Try.func17 (fnB_ok Try.func17 (by kernel_rfl)) rfl rfl (allOwn_ok false (by kernel_rfl)) rfl (allOwn_ok true (by kernel_rfl)) (fun t => sample_Join_q K t)
/-! rheostatbase_Among -/
noncomputable def rheostatbase_Among_e0 (K : Nat) : Env := ⟨tt, [], [], [], eqs⟩
theorem rheostatbase_Among_t0 (K : Nat) : EnvT Try.prog (rheostatbase_Among_e0 K) := envT_of tt_ok eqs_ok trivial
theorem rheostatbase_Among_i0 (K : Nat) : EnvI Try.prog (rheostatbase_Among_e0 K) := envI_of (es := []) trivial trivial
noncomputable def rheostatbase_Among_h : Sh := ⟨2, [(0, .sc (.i .i64)), (1, .sc (.i .i64))], [], []⟩
noncomputable def rheostatbase_Among_r : Sh := ⟨1, [(0, .sc (.i .i64))], [], []⟩
noncomputable def rheostatbase_Among_g (K : Nat) (x_0 : Int) (n_1 : Int) : Option (Int × Unit) :=
  (bif (decide (n_1 < 1)) then (some (0, ())) else (bif ((wu64 (n_1)) == 0) then none else (some ((wi64 ((Int.tmod (wu64 (x_0)) (wu64 (n_1))))), ()))))
noncomputable def rheostatbase_Among_o (K : Nat) : FO := fnFO rheostatbase_Among_h rheostatbase_Among_r fun t => rheostatbase_Among_g K t.1 t.2.1
theorem rheostatbase_Among_q (K : Nat) (t : rheostatbase_Among_h.T) : exFn (rheostatbase_Among_e0 K) (hdl (rheostatbase_Among_e0 K) 0) [16] Try.f16 (slVals (rheostatbase_Among_h.put t).fr.sl) ⟨⟨0, []⟩, [], (rheostatbase_Among_h.put t).mem⟩ (takeRes rheostatbase_Among_r) = rheostatbase_Among_g K t.1 t.2.1 := by kernel_rfl
theorem rheostatbase_Among_ok (K : Nat) : FOok Try.prog 16 (rheostatbase_Among_o K) :=
  fn_rule (rheostatbase_Among_t0 K) (rheostatbase_Among_i0 K) (draws (rheostatbase_Among_t0 K)) 0 Try.func16 (fnB_ok Try.func16 (by kernel_rfl)) rfl rfl (allOwn_ok false (by kernel_rfl)) rfl (allOwn_ok true (by kernel_rfl)) (fun t => rheostatbase_Among_q K t)
/-! rheostatlaw13_SampleOne -/
noncomputable def rheostatlaw13_SampleOne_e0 (K : Nat) : Env := ⟨tt, [(14, rheostatlaw13_works_o K), (17, sample_Join_o K), (16, rheostatbase_Among_o K)], [], [], eqs⟩
theorem rheostatlaw13_SampleOne_t0 (K : Nat) : EnvT Try.prog (rheostatlaw13_SampleOne_e0 K) := envT_of tt_ok eqs_ok ⟨rheostatlaw13_works_ok K, sample_Join_ok K, rheostatbase_Among_ok K, trivial⟩
theorem rheostatlaw13_SampleOne_i0 (K : Nat) : EnvI Try.prog (rheostatlaw13_SampleOne_e0 K) := envI_of (es := []) trivial trivial
noncomputable def rheostatlaw13_SampleOne_l0h : Sh := ⟨82, [(1, .sc (.i .i64)), (2, .sc (.lit (.p 0 0 0 []))), (5, .sc (.lit (.p 1 0 0 []))), (6, .sc (.i .i64)), (7, .sc (.slr0 2)), (8, .sc (.i .i64))], [(0, [])], [(true, false, [.i .i64, .i .i64, .i .i64, .i .i64]), (true, false, [.i .i64, .i .i64, .i .i64, .i .i64]), (true, true, [.ir .i64, .ir .i64, .ir .i64, .ir .i64])]⟩
noncomputable def rheostatlaw13_SampleOne_l0x0 : Sh := ⟨82, [(1, .sc (.i .i64)), (2, .sc (.lit (.p 0 0 0 []))), (5, .sc (.lit (.p 1 0 0 []))), (6, .sc (.i .i64)), (7, .sc (.slr0 2))], [(0, [])], [(true, false, [.i .i64, .i .i64, .i .i64, .i .i64]), (true, false, [.i .i64, .i .i64, .i .i64, .i .i64]), (true, true, [.ir .i64, .ir .i64, .ir .i64, .ir .i64])]⟩
noncomputable def rheostatlaw13_SampleOne_l0O : OutI (Int × Int × Nat × Int × Int × Int × Int × Int × Int × Int × Int × (Nat → Int) × (Nat → Int) × (Nat → Int) × (Nat → Int) × Unit) := (OutI.exit 0 rheostatlaw13_SampleOne_l0x0)
noncomputable def rheostatlaw13_SampleOne_l0r (K : Nat) (rec : Int → Int → Nat → Int → Int → Int → Int → Int → Int → Int → Int → Int → (Nat → Int) → (Nat → Int) → (Nat → Int) → (Nat → Int) → Option (Int × Int × Nat × Int × Int × Int × Int × Int × Int × Int × Int × (Nat → Int) × (Nat → Int) × (Nat → Int) × (Nat → Int) × Unit)) (n_1 : Int) (e_6 : Int) (l_7n : Nat) (i_8 : Int) (m0_0 : Int) (m0_1 : Int) (m0_2 : Int) (m0_3 : Int) (m1_0 : Int) (m1_1 : Int) (m1_2 : Int) (m1_3 : Int) (m2_0 : (Nat → Int)) (m2_1 : (Nat → Int)) (m2_2 : (Nat → Int)) (m2_3 : (Nat → Int)) : Option (Int × Int × Nat × Int × Int × Int × Int × Int × Int × Int × Int × (Nat → Int) × (Nat → Int) × (Nat → Int) × (Nat → Int) × Unit) :=
  (bif (decide (i_8 < n_1)) then (bif (Nat.ble ((l_7n + 1) * 32) 140737488355328) then (rec n_1 e_6 (l_7n + 1) (wi64 (i_8 + 1)) m0_0 m0_1 m0_2 m0_3 m1_0 m1_1 m1_2 m1_3 (fun j => (bif (Nat.blt j l_7n) then (m2_0 j) else (selI [m0_0] (j - l_7n)))) (fun j => (bif (Nat.blt j l_7n) then (m2_1 j) else (selI [m0_1] (j - l_7n)))) (fun j => (bif (Nat.blt j l_7n) then (m2_2 j) else (selI [m0_2] (j - l_7n)))) (fun j => (bif (Nat.blt j l_7n) then (m2_3 j) else (selI [m0_3] (j - l_7n))))) else none) else (some (n_1, e_6, l_7n, m0_0, m0_1, m0_2, m0_3, m1_0, m1_1, m1_2, m1_3, m2_0, m2_1, m2_2, m2_3, ())))
noncomputable def rheostatlaw13_SampleOne_l0 (K n : Nat) : Int → Int → Nat → Int → Int → Int → Int → Int → Int → Int → Int → Int → (Nat → Int) → (Nat → Int) → (Nat → Int) → (Nat → Int) → Option (Int × Int × Nat × Int × Int × Int × Int × Int × Int × Int × Int × (Nat → Int) × (Nat → Int) × (Nat → Int) × (Nat → Int) × Unit) := Nat.rec (motive := fun _ => Int → Int → Nat → Int → Int → Int → Int → Int → Int → Int → Int → Int → (Nat → Int) → (Nat → Int) → (Nat → Int) → (Nat → Int) → Option (Int × Int × Nat × Int × Int × Int × Int × Int × Int × Int × Int × (Nat → Int) × (Nat → Int) × (Nat → Int) × (Nat → Int) × Unit)) (fun _ _ _ _ _ _ _ _ _ _ _ _ _ _ _ _ => none) (fun _ ih => rheostatlaw13_SampleOne_l0r K ih) n
noncomputable def rheostatlaw13_SampleOne_l0u (K n : Nat) (t : rheostatlaw13_SampleOne_l0h.T) : Option (Int × Int × Nat × Int × Int × Int × Int × Int × Int × Int × Int × (Nat → Int) × (Nat → Int) × (Nat → Int) × (Nat → Int) × Unit) :=
  let u1 := t.2
  let u2 := u1.2
  let u3 := u2.2
  let u4 := u3.2
  let u5 := u4.2
  let u6 := u5.2
  let u7 := u6.2
  let u8 := u7.2
  let u9 := u8.2
  let u10 := u9.2
  let u11 := u10.2
  let u12 := u11.2
  let u13 := u12.2
  let u14 := u13.2
  let u15 := u14.2
  rheostatlaw13_SampleOne_l0 K n t.1 u1.1 u2.1 u3.1 u4.1 u5.1 u6.1 u7.1 u8.1 u9.1 u10.1 u11.1 u12.1 u13.1 u14.1 u15.1
noncomputable def rheostatlaw13_SampleOne_l0o (K : Nat) : LO := loopLO rheostatlaw13_SampleOne_l0h rheostatlaw13_SampleOne_l0O fun t => rheostatlaw13_SampleOne_l0u K K t
noncomputable def rheostatlaw13_SampleOne_l0C : Code := bodyOf Try.f7
noncomputable def rheostatlaw13_SampleOne_l0B : Code := (findLoops 7 (loopsIn rheostatlaw13_SampleOne_l0C)).headD .skip
theorem rheostatlaw13_SampleOne_l0F : findLoops 7 (loopsIn rheostatlaw13_SampleOne_l0C) = [rheostatlaw13_SampleOne_l0B] := by kernel_rfl
theorem rheostatlaw13_SampleOne_l0q (K n : Nat) (t : rheostatlaw13_SampleOne_l0h.T) : exC (rheostatlaw13_SampleOne_e0 K) (hdl (rheostatlaw13_SampleOne_e0 K) 0) (7 :: []) rheostatlaw13_SampleOne_l0B (rheostatlaw13_SampleOne_l0h.put t) (fun s => (rheostatlaw13_SampleOne_l0h.take s).bind fun t => rheostatlaw13_SampleOne_l0u K n t) (fun id s => rheostatlaw13_SampleOne_l0O.get (some id) s) (fun s => rheostatlaw13_SampleOne_l0O.get none s) = rheostatlaw13_SampleOne_l0u K (n + 1) t := by kernel_rfl
noncomputable def rheostatlaw13_SampleOne_l0E (K : Nat) : LoopE Try.prog := ⟨[7, 7], rheostatlaw13_SampleOne_l0o K, Try.f7, rheostatlaw13_SampleOne_l0C, rheostatlaw13_SampleOne_l0B, ⟨7, 7, [], rfl, Try.func7, by kernel_rfl, rheostatlaw13_SampleOne_l0F⟩,
  loop_rule (F := fun n t => rheostatlaw13_SampleOne_l0u K n t) (rheostatlaw13_SampleOne_t0 K) (rheostatlaw13_SampleOne_i0 K) (draws (rheostatlaw13_SampleOne_t0 K)) 0 Try.func7 (c := rheostatlaw13_SampleOne_l0C) (by kernel_rfl) (body_in rheostatlaw13_SampleOne_l0F) (ctx' := []) (h := rheostatlaw13_SampleOne_l0h) (O := rheostatlaw13_SampleOne_l0O) (fun _ => rfl) (fun m t => rheostatlaw13_SampleOne_l0q K m t) K⟩
noncomputable def rheostatlaw13_SampleOne_e1 (K : Nat) : Env := ⟨tt, [(14, rheostatlaw13_works_o K), (17, sample_Join_o K), (16, rheostatbase_Among_o K)], [], [([7, 7], rheostatlaw13_SampleOne_l0o K)], eqs⟩
theorem rheostatlaw13_SampleOne_t1 (K : Nat) : EnvT Try.prog (rheostatlaw13_SampleOne_e1 K) := envT_of tt_ok eqs_ok ⟨rheostatlaw13_works_ok K, sample_Join_ok K, rheostatbase_Among_ok K, trivial⟩
theorem rheostatlaw13_SampleOne_i1 (K : Nat) : EnvI Try.prog (rheostatlaw13_SampleOne_e1 K) := envI_of (es := [rheostatlaw13_SampleOne_l0E K]) trivial ⟨⟨rfl, rfl⟩, trivial⟩
noncomputable def rheostatlaw13_SampleOne_g (K : Nat) (s_0_0 : Int) (s_0_1 : Int) (s_0_2 : Int) (s_0_3 : Int) (n_1 : Int) : Option Bool :=
  ((rheostatlaw13_works_g K).bind fun q1 => (bif (!q1.1) then (some false) else ((sample_Join_g K 1 (fun j => (selI [s_0_0] j)) (fun j => (selI [s_0_1] j)) (fun j => (selI [s_0_2] j)) (fun j => (selI [s_0_3] j))).bind fun q2 => ((rheostatbase_Among_g K n_1 20).bind fun q3 => ((rheostatlaw13_SampleOne_l0 K K (wi64 (1 + q3.1)) q2.2.2.2.2.1 0 0 s_0_0 s_0_1 s_0_2 s_0_3 q2.1 q2.2.1 q2.2.2.1 q2.2.2.2.1 (fun _ => 0) (fun _ => 0) (fun _ => 0) (fun _ => 0)).bind fun q4 => ((sample_Join_g K q4.2.2.1 q4.2.2.2.2.2.2.2.2.2.2.2.1 q4.2.2.2.2.2.2.2.2.2.2.2.2.1 q4.2.2.2.2.2.2.2.2.2.2.2.2.2.1 q4.2.2.2.2.2.2.2.2.2.2.2.2.2.2.1).bind fun q5 => (bif (q4.2.1 != 0) then (bif ((q4.2.2.2.2.2.2.2.1 == 0) && ((q4.2.2.2.2.2.2.2.2.1 == 0) && ((q4.2.2.2.2.2.2.2.2.2.1 == 0) && (q4.2.2.2.2.2.2.2.2.2.2.1 == 0)))) then (some (q5.2.2.2.2.1 == q4.2.1)) else (some false)) else (bif (q4.1 == 0) then none else (bif (decide (q4.2.2.2.2.2.2.1 > (wi64 (Int.tdiv 60000 q4.1)))) then (bif ((q4.2.2.2.2.2.2.2.1 == q4.2.2.2.1) && ((q4.2.2.2.2.2.2.2.2.1 == q4.2.2.2.2.1) && ((q4.2.2.2.2.2.2.2.2.2.1 == q4.2.2.2.2.2.1) && (q4.2.2.2.2.2.2.2.2.2.2.1 == q4.2.2.2.2.2.2.1)))) then (some (q5.2.2.2.2.1 == 2)) else (some false)) else (bif ((q4.2.2.2.2.2.2.2.1 == q4.2.2.2.1) && ((q4.2.2.2.2.2.2.2.2.1 == q4.2.2.2.2.1) && ((q4.2.2.2.2.2.2.2.2.2.1 == q4.2.2.2.2.2.1) && (q4.2.2.2.2.2.2.2.2.2.2.1 == q4.2.2.2.2.2.2.1)))) then (bif (q5.2.2.2.2.1 == 0) then (bif ((q5.1 == q4.2.2.2.1) && ((q5.2.1 == q4.2.2.2.2.1) && (q5.2.2.1 == q4.2.2.2.2.2.1))) then (some (q5.2.2.2.1 == (wi64 (q4.1 * q4.2.2.2.2.2.2.1)))) else (some false)) else (some false)) else (some false)))))))))))
noncomputable def rheostatlaw13_SampleOne_ps : List (Bool × List WC) := [(true, [.sc (.i .i64), .sc (.i .i64), .sc (.i .i64), .sc (.i .i64)]), (false, [.sc (.i .i64)])]
theorem rheostatlaw13_SampleOne_q (K : Nat) (t : (shOf rheostatlaw13_SampleOne_ps).T) : exFn (rheostatlaw13_SampleOne_e1 K) (hdl (rheostatlaw13_SampleOne_e1 K) 0) [7] Try.f7 (slVals ((shOf rheostatlaw13_SampleOne_ps).put t).fr.sl) ⟨⟨0, []⟩, [], ((shOf rheostatlaw13_SampleOne_ps).put t).mem⟩ outBool = rheostatlaw13_SampleOne_g K t.1 t.2.1 t.2.2.1 t.2.2.2.1 t.2.2.2.2.1 := by kernel_rfl
theorem rheostatlaw13_SampleOne_call (K : Nat) (hb : ∀ t : (shOf rheostatlaw13_SampleOne_ps).T, argsBnd rheostatlaw13_SampleOne_ps t → rheostatlaw13_SampleOne_g K t.1 t.2.1 t.2.2.1 t.2.2.2.1 t.2.2.2.2.1 = some true) {w : World} {vals : List Value} (hp : PFits w rheostatlaw13_SampleOne_ps vals) :
    Calls Try.prog 7 vals.toArray w fun e w' => e = .returned (.bool true) ∧ RowKit.Below w.heap.size w w' :=
  call_of (rheostatlaw13_SampleOne_t1 K) (rheostatlaw13_SampleOne_i1 K) (draws (rheostatlaw13_SampleOne_t1 K)) 0 Try.func7 (by kernel_rfl) (by kernel_rfl) outBool_true (fun t ht => (rheostatlaw13_SampleOne_q K t).trans (hb t ht)) hp
/-! rheostatlaw13_SampleBounds -/
noncomputable def rheostatlaw13_SampleBounds_e0 (K : Nat) : Env := ⟨tt, [(14, rheostatlaw13_works_o K), (8, sample_Read_o K), (15, sample_Worst_o K)], [], [], eqs⟩
theorem rheostatlaw13_SampleBounds_t0 (K : Nat) : EnvT Try.prog (rheostatlaw13_SampleBounds_e0 K) := envT_of tt_ok eqs_ok ⟨rheostatlaw13_works_ok K, sample_Read_ok K, sample_Worst_ok K, trivial⟩
theorem rheostatlaw13_SampleBounds_i0 (K : Nat) : EnvI Try.prog (rheostatlaw13_SampleBounds_e0 K) := envI_of (es := []) trivial trivial
noncomputable def rheostatlaw13_SampleBounds_l0h : Sh := ⟨80, [(2, .sc (.lit (.p 0 0 0 []))), (3, .sc (.lit (.p 1 0 0 []))), (5, .sc (.lit (.p 2 0 0 []))), (7, .sc (.i .i64))], [(0, [])], [(true, false, [.i .i64, .i .i64, .i .i64, .i .i64, .i .i64, .i .i64, .i .i64, .i .i64, .i .i64, .i .i64, .i .i64, .i .i64, .i .i64, .i .i64, .i .i64]), (true, false, [.i .i64, .i .i64, .i .i64, .i .i64]), (true, false, [.i .i64, .i .i64, .i .i64, .i .i64])]⟩
noncomputable def rheostatlaw13_SampleBounds_l0x0 : Sh := ⟨80, [(2, .sc (.lit (.p 0 0 0 []))), (3, .sc (.lit (.p 1 0 0 []))), (5, .sc (.lit (.p 2 0 0 [])))], [(0, [])], [(true, false, [.i .i64, .i .i64, .i .i64, .i .i64, .i .i64, .i .i64, .i .i64, .i .i64, .i .i64, .i .i64, .i .i64, .i .i64, .i .i64, .i .i64, .i .i64]), (true, false, [.i .i64, .i .i64, .i .i64, .i .i64]), (true, false, [.i .i64, .i .i64, .i .i64, .i .i64])]⟩
noncomputable def rheostatlaw13_SampleBounds_l0x1 : Sh := ⟨80, [(4, .sc (.b))], [(0, [])], []⟩
noncomputable def rheostatlaw13_SampleBounds_l0O : OutI ((Int × Int × Int × Int × Int × Int × Int × Int × Int × Int × Int × Int × Int × Int × Int × Int × Int × Int × Int × Int × Int × Int × Int × Unit) ⊕ (Bool × Unit)) := (OutI.or (OutI.exit 0 rheostatlaw13_SampleBounds_l0x0) (OutI.ret rheostatlaw13_SampleBounds_l0x1))
noncomputable def rheostatlaw13_SampleBounds_l0r (K : Nat) (rec : Int → Int → Int → Int → Int → Int → Int → Int → Int → Int → Int → Int → Int → Int → Int → Int → Int → Int → Int → Int → Int → Int → Int → Int → Option ((Int × Int × Int × Int × Int × Int × Int × Int × Int × Int × Int × Int × Int × Int × Int × Int × Int × Int × Int × Int × Int × Int × Int × Unit) ⊕ (Bool × Unit))) (i_7 : Int) (m0_0 : Int) (m0_1 : Int) (m0_2 : Int) (m0_3 : Int) (m0_4 : Int) (m0_5 : Int) (m0_6 : Int) (m0_7 : Int) (m0_8 : Int) (m0_9 : Int) (m0_10 : Int) (m0_11 : Int) (m0_12 : Int) (m0_13 : Int) (m0_14 : Int) (m1_0 : Int) (m1_1 : Int) (m1_2 : Int) (m1_3 : Int) (m2_0 : Int) (m2_1 : Int) (m2_2 : Int) (m2_3 : Int) : Option ((Int × Int × Int × Int × Int × Int × Int × Int × Int × Int × Int × Int × Int × Int × Int × Int × Int × Int × Int × Int × Int × Int × Int × Unit) ⊕ (Bool × Unit)) :=
  (bif (decide (i_7 < 3)) then (bif ((decide (0 ≤ i_7)) && (decide (i_7 < 3))) then (bif ((decide (0 ≤ i_7)) && (decide (i_7 < 3))) then (bif (decide ((selI [m2_0, m2_1, m2_2] (Int.toNat i_7)) < (selI [m0_9, m0_11, m0_13] (Int.toNat i_7)))) then (some (.inr (false, ()))) else (bif ((decide (0 ≤ i_7)) && (decide (i_7 < 3))) then (bif ((decide (0 ≤ i_7)) && (decide (i_7 < 3))) then (bif (decide ((selI [m2_0, m2_1, m2_2] (Int.toNat i_7)) > (selI [m0_10, m0_12, m0_14] (Int.toNat i_7)))) then (some (.inr (false, ()))) else (rec (wi64 (i_7 + 1)) m0_0 m0_1 m0_2 m0_3 m0_4 m0_5 m0_6 m0_7 m0_8 m0_9 m0_10 m0_11 m0_12 m0_13 m0_14 m1_0 m1_1 m1_2 m1_3 m2_0 m2_1 m2_2 m2_3)) else none) else none)) else none) else none) else (some (.inl (m0_0, m0_1, m0_2, m0_3, m0_4, m0_5, m0_6, m0_7, m0_8, m0_9, m0_10, m0_11, m0_12, m0_13, m0_14, m1_0, m1_1, m1_2, m1_3, m2_0, m2_1, m2_2, m2_3, ()))))
noncomputable def rheostatlaw13_SampleBounds_l0 (K n : Nat) : Int → Int → Int → Int → Int → Int → Int → Int → Int → Int → Int → Int → Int → Int → Int → Int → Int → Int → Int → Int → Int → Int → Int → Int → Option ((Int × Int × Int × Int × Int × Int × Int × Int × Int × Int × Int × Int × Int × Int × Int × Int × Int × Int × Int × Int × Int × Int × Int × Unit) ⊕ (Bool × Unit)) := Nat.rec (motive := fun _ => Int → Int → Int → Int → Int → Int → Int → Int → Int → Int → Int → Int → Int → Int → Int → Int → Int → Int → Int → Int → Int → Int → Int → Int → Option ((Int × Int × Int × Int × Int × Int × Int × Int × Int × Int × Int × Int × Int × Int × Int × Int × Int × Int × Int × Int × Int × Int × Int × Unit) ⊕ (Bool × Unit))) (fun _ _ _ _ _ _ _ _ _ _ _ _ _ _ _ _ _ _ _ _ _ _ _ _ => none) (fun _ ih => rheostatlaw13_SampleBounds_l0r K ih) n
noncomputable def rheostatlaw13_SampleBounds_l0u (K n : Nat) (t : rheostatlaw13_SampleBounds_l0h.T) : Option ((Int × Int × Int × Int × Int × Int × Int × Int × Int × Int × Int × Int × Int × Int × Int × Int × Int × Int × Int × Int × Int × Int × Int × Unit) ⊕ (Bool × Unit)) :=
  let u1 := t.2
  let u2 := u1.2
  let u3 := u2.2
  let u4 := u3.2
  let u5 := u4.2
  let u6 := u5.2
  let u7 := u6.2
  let u8 := u7.2
  let u9 := u8.2
  let u10 := u9.2
  let u11 := u10.2
  let u12 := u11.2
  let u13 := u12.2
  let u14 := u13.2
  let u15 := u14.2
  let u16 := u15.2
  let u17 := u16.2
  let u18 := u17.2
  let u19 := u18.2
  let u20 := u19.2
  let u21 := u20.2
  let u22 := u21.2
  let u23 := u22.2
  rheostatlaw13_SampleBounds_l0 K n t.1 u1.1 u2.1 u3.1 u4.1 u5.1 u6.1 u7.1 u8.1 u9.1 u10.1 u11.1 u12.1 u13.1 u14.1 u15.1 u16.1 u17.1 u18.1 u19.1 u20.1 u21.1 u22.1 u23.1
noncomputable def rheostatlaw13_SampleBounds_l0o (K : Nat) : LO := loopLO rheostatlaw13_SampleBounds_l0h rheostatlaw13_SampleBounds_l0O fun t => rheostatlaw13_SampleBounds_l0u K K t
noncomputable def rheostatlaw13_SampleBounds_l0C : Code := bodyOf Try.f4
noncomputable def rheostatlaw13_SampleBounds_l0B : Code := (findLoops 7 (loopsIn rheostatlaw13_SampleBounds_l0C)).headD .skip
theorem rheostatlaw13_SampleBounds_l0F : findLoops 7 (loopsIn rheostatlaw13_SampleBounds_l0C) = [rheostatlaw13_SampleBounds_l0B] := by kernel_rfl
theorem rheostatlaw13_SampleBounds_l0q (K n : Nat) (t : rheostatlaw13_SampleBounds_l0h.T) : exC (rheostatlaw13_SampleBounds_e0 K) (hdl (rheostatlaw13_SampleBounds_e0 K) 0) (4 :: []) rheostatlaw13_SampleBounds_l0B (rheostatlaw13_SampleBounds_l0h.put t) (fun s => (rheostatlaw13_SampleBounds_l0h.take s).bind fun t => rheostatlaw13_SampleBounds_l0u K n t) (fun id s => rheostatlaw13_SampleBounds_l0O.get (some id) s) (fun s => rheostatlaw13_SampleBounds_l0O.get none s) = rheostatlaw13_SampleBounds_l0u K (n + 1) t := by kernel_rfl
noncomputable def rheostatlaw13_SampleBounds_l0E (K : Nat) : LoopE Try.prog := ⟨[7, 4], rheostatlaw13_SampleBounds_l0o K, Try.f4, rheostatlaw13_SampleBounds_l0C, rheostatlaw13_SampleBounds_l0B, ⟨7, 4, [], rfl, Try.func4, by kernel_rfl, rheostatlaw13_SampleBounds_l0F⟩,
  loop_rule (F := fun n t => rheostatlaw13_SampleBounds_l0u K n t) (rheostatlaw13_SampleBounds_t0 K) (rheostatlaw13_SampleBounds_i0 K) (draws (rheostatlaw13_SampleBounds_t0 K)) 0 Try.func4 (c := rheostatlaw13_SampleBounds_l0C) (by kernel_rfl) (body_in rheostatlaw13_SampleBounds_l0F) (ctx' := []) (h := rheostatlaw13_SampleBounds_l0h) (O := rheostatlaw13_SampleBounds_l0O) (fun _ => rfl) (fun m t => rheostatlaw13_SampleBounds_l0q K m t) K⟩
noncomputable def rheostatlaw13_SampleBounds_e1 (K : Nat) : Env := ⟨tt, [(14, rheostatlaw13_works_o K), (8, sample_Read_o K), (15, sample_Worst_o K)], [], [([7, 4], rheostatlaw13_SampleBounds_l0o K)], eqs⟩
theorem rheostatlaw13_SampleBounds_t1 (K : Nat) : EnvT Try.prog (rheostatlaw13_SampleBounds_e1 K) := envT_of tt_ok eqs_ok ⟨rheostatlaw13_works_ok K, sample_Read_ok K, sample_Worst_ok K, trivial⟩
theorem rheostatlaw13_SampleBounds_i1 (K : Nat) : EnvI Try.prog (rheostatlaw13_SampleBounds_e1 K) := envI_of (es := [rheostatlaw13_SampleBounds_l0E K]) trivial ⟨⟨rfl, rfl⟩, trivial⟩
noncomputable def rheostatlaw13_SampleBounds_g (K : Nat) (w_0_0 : Int) (w_0_1 : Int) (w_0_2 : Int) (w_0_3 : Int) (w_0_4 : Int) (w_0_5 : Int) (w_0_6 : Int) (w_0_7 : Int) (w_0_8 : Int) (w_0_9 : Int) (w_0_10 : Int) (w_0_11 : Int) (w_0_12 : Int) (w_0_13 : Int) (w_0_14 : Int) (s_1_0 : Int) (s_1_1 : Int) (s_1_2 : Int) (s_1_3 : Int) : Option Bool :=
  ((rheostatlaw13_works_g K).bind fun q1 => (bif (!q1.1) then (some false) else ((sample_Read_g K w_0_0 w_0_1 w_0_2 w_0_3 w_0_4 w_0_5 w_0_6 w_0_7 w_0_8 w_0_9 w_0_10 w_0_11 w_0_12 w_0_13 w_0_14 s_1_0 s_1_1 s_1_2 s_1_3).bind fun q2 => (bif (q2.2.2.2.2.1 != 0) then (bif ((q2.1 == 0) && ((q2.2.1 == 0) && ((q2.2.2.1 == 0) && (q2.2.2.2.1 == 0)))) then (bif (q2.2.2.2.2.1 == 120) then (some true) else (some (q2.2.2.2.2.1 == 130))) else (some false)) else ((rheostatlaw13_SampleBounds_l0 K K 0 w_0_0 w_0_1 w_0_2 w_0_3 w_0_4 w_0_5 w_0_6 w_0_7 w_0_8 w_0_9 w_0_10 w_0_11 w_0_12 w_0_13 w_0_14 s_1_0 s_1_1 s_1_2 s_1_3 q2.1 q2.2.1 q2.2.2.1 q2.2.2.2.1).bind fun q3 => (Sum.elim (fun q4 => (bif (q4.2.2.2.2.2.2.2.2.2.2.2.2.2.2.2.2.2.2.2.2.2.2.1 == q4.2.2.2.2.2.2.2.2.2.2.2.2.2.2.2.2.2.2.1) then ((sample_Worst_g K q4.2.2.2.2.2.2.2.2.2.1 q4.2.2.2.2.2.2.2.2.2.2.1 q4.2.2.2.2.2.2.2.2.2.2.2.1 q4.2.2.2.2.2.2.2.2.2.2.2.2.1 q4.2.2.2.2.2.2.2.2.2.2.2.2.2.1 q4.2.2.2.2.2.2.2.2.2.2.2.2.2.2.1).bind fun q6 => (some (decide ((bif (decide ((wi64 (0 - (wi64 (q4.2.2.2.2.2.2.2.2.2.2.2.2.2.2.2.2.2.2.2.1 * q4.2.2.2.2.2.2.2.2.2.2.2.2.2.2.2.2.2.2.2.2.2.2.1)))) > (wi64 (q4.2.2.2.2.2.2.2.2.2.2.2.2.2.2.2.2.2.2.2.1 * q4.2.2.2.2.2.2.2.2.2.2.2.2.2.2.2.2.2.2.2.2.2.2.1)))) then (wi64 (0 - (wi64 (q4.2.2.2.2.2.2.2.2.2.2.2.2.2.2.2.2.2.2.2.1 * q4.2.2.2.2.2.2.2.2.2.2.2.2.2.2.2.2.2.2.2.2.2.2.1)))) else (wi64 (q4.2.2.2.2.2.2.2.2.2.2.2.2.2.2.2.2.2.2.2.1 * q4.2.2.2.2.2.2.2.2.2.2.2.2.2.2.2.2.2.2.2.2.2.2.1))) ≤ q6.1)))) else (some false))) (fun q5 => (some q5.1)) q3))))))
noncomputable def rheostatlaw13_SampleBounds_ps : List (Bool × List WC) := [(true, [.sc (.i .i64), .sc (.i .i64), .sc (.i .i64), .sc (.i .i64), .sc (.i .i64), .sc (.i .i64), .sc (.i .i64), .sc (.i .i64), .sc (.i .i64), .sc (.i .i64), .sc (.i .i64), .sc (.i .i64), .sc (.i .i64), .sc (.i .i64), .sc (.i .i64)]), (true, [.sc (.i .i64), .sc (.i .i64), .sc (.i .i64), .sc (.i .i64)])]
theorem rheostatlaw13_SampleBounds_q (K : Nat) (t : (shOf rheostatlaw13_SampleBounds_ps).T) : exFn (rheostatlaw13_SampleBounds_e1 K) (hdl (rheostatlaw13_SampleBounds_e1 K) 0) [4] Try.f4 (slVals ((shOf rheostatlaw13_SampleBounds_ps).put t).fr.sl) ⟨⟨0, []⟩, [], ((shOf rheostatlaw13_SampleBounds_ps).put t).mem⟩ outBool = rheostatlaw13_SampleBounds_g K t.1 t.2.1 t.2.2.1 t.2.2.2.1 t.2.2.2.2.1 t.2.2.2.2.2.1 t.2.2.2.2.2.2.1 t.2.2.2.2.2.2.2.1 t.2.2.2.2.2.2.2.2.1 t.2.2.2.2.2.2.2.2.2.1 t.2.2.2.2.2.2.2.2.2.2.1 t.2.2.2.2.2.2.2.2.2.2.2.1 t.2.2.2.2.2.2.2.2.2.2.2.2.1 t.2.2.2.2.2.2.2.2.2.2.2.2.2.1 t.2.2.2.2.2.2.2.2.2.2.2.2.2.2.1 t.2.2.2.2.2.2.2.2.2.2.2.2.2.2.2.1 t.2.2.2.2.2.2.2.2.2.2.2.2.2.2.2.2.1 t.2.2.2.2.2.2.2.2.2.2.2.2.2.2.2.2.2.1 t.2.2.2.2.2.2.2.2.2.2.2.2.2.2.2.2.2.2.1 := by kernel_rfl
theorem rheostatlaw13_SampleBounds_call (K : Nat) (hb : ∀ t : (shOf rheostatlaw13_SampleBounds_ps).T, argsBnd rheostatlaw13_SampleBounds_ps t → rheostatlaw13_SampleBounds_g K t.1 t.2.1 t.2.2.1 t.2.2.2.1 t.2.2.2.2.1 t.2.2.2.2.2.1 t.2.2.2.2.2.2.1 t.2.2.2.2.2.2.2.1 t.2.2.2.2.2.2.2.2.1 t.2.2.2.2.2.2.2.2.2.1 t.2.2.2.2.2.2.2.2.2.2.1 t.2.2.2.2.2.2.2.2.2.2.2.1 t.2.2.2.2.2.2.2.2.2.2.2.2.1 t.2.2.2.2.2.2.2.2.2.2.2.2.2.1 t.2.2.2.2.2.2.2.2.2.2.2.2.2.2.1 t.2.2.2.2.2.2.2.2.2.2.2.2.2.2.2.1 t.2.2.2.2.2.2.2.2.2.2.2.2.2.2.2.2.1 t.2.2.2.2.2.2.2.2.2.2.2.2.2.2.2.2.2.1 t.2.2.2.2.2.2.2.2.2.2.2.2.2.2.2.2.2.2.1 = some true) {w : World} {vals : List Value} (hp : PFits w rheostatlaw13_SampleBounds_ps vals) :
    Calls Try.prog 4 vals.toArray w fun e w' => e = .returned (.bool true) ∧ RowKit.Below w.heap.size w w' :=
  call_of (rheostatlaw13_SampleBounds_t1 K) (rheostatlaw13_SampleBounds_i1 K) (draws (rheostatlaw13_SampleBounds_t1 K)) 0 Try.func4 (by kernel_rfl) (by kernel_rfl) outBool_true (fun t ht => (rheostatlaw13_SampleBounds_q K t).trans (hb t ht)) hp
/-! rheostatlaw13_SampleWider -/
noncomputable def rheostatlaw13_SampleWider_e0 (K : Nat) : Env := ⟨tt, [(14, rheostatlaw13_works_o K), (8, sample_Read_o K), (16, rheostatbase_Among_o K)], [], [], eqs⟩
theorem rheostatlaw13_SampleWider_t0 (K : Nat) : EnvT Try.prog (rheostatlaw13_SampleWider_e0 K) := envT_of tt_ok eqs_ok ⟨rheostatlaw13_works_ok K, sample_Read_ok K, rheostatbase_Among_ok K, trivial⟩
theorem rheostatlaw13_SampleWider_i0 (K : Nat) : EnvI Try.prog (rheostatlaw13_SampleWider_e0 K) := envI_of (es := []) trivial trivial
noncomputable def rheostatlaw13_SampleWider_l0h : Sh := ⟨69, [(3, .sc (.lit (.p 0 0 0 []))), (4, .sc (.lit (.p 1 0 0 []))), (5, .sc (.lit (.p 2 0 0 []))), (7, .sc (.lit (.p 3 0 0 []))), (9, .sc (.lit (.p 4 0 0 []))), (10, .sc (.i .i64))], [(0, [])], [(true, false, [.i .i64, .i .i64, .i .i64, .i .i64, .i .i64, .i .i64, .i .i64, .i .i64, .i .i64, .i .i64, .i .i64, .i .i64, .i .i64, .i .i64, .i .i64]), (true, false, [.i .i64, .i .i64, .i .i64, .i .i64]), (true, false, [.i .i64, .i .i64, .i .i64]), (true, false, [.i .i64, .i .i64, .i .i64, .i .i64]), (true, false, [.i .i64, .i .i64, .i .i64, .i .i64, .i .i64, .i .i64])]⟩
noncomputable def rheostatlaw13_SampleWider_l0x0 : Sh := ⟨69, [(3, .sc (.lit (.p 0 0 0 []))), (4, .sc (.lit (.p 1 0 0 []))), (7, .sc (.lit (.p 2 0 0 []))), (9, .sc (.lit (.p 3 0 0 [])))], [(0, [])], [(true, false, [.i .i64, .i .i64, .i .i64, .i .i64, .i .i64, .i .i64, .i .i64, .i .i64, .i .i64, .i .i64, .i .i64, .i .i64, .i .i64, .i .i64, .i .i64]), (true, false, [.i .i64, .i .i64, .i .i64, .i .i64]), (true, false, [.i .i64, .i .i64, .i .i64, .i .i64]), (true, false, [.i .i64, .i .i64, .i .i64, .i .i64, .i .i64, .i .i64])]⟩
noncomputable def rheostatlaw13_SampleWider_l0O : OutI (Int × Int × Int × Int × Int × Int × Int × Int × Int × Int × Int × Int × Int × Int × Int × Int × Int × Int × Int × Int × Int × Int × Int × Int × Int × Int × Int × Int × Int × Unit) := (OutI.exit 0 rheostatlaw13_SampleWider_l0x0)
noncomputable def rheostatlaw13_SampleWider_l0r (K : Nat) (rec : Int → Int → Int → Int → Int → Int → Int → Int → Int → Int → Int → Int → Int → Int → Int → Int → Int → Int → Int → Int → Int → Int → Int → Int → Int → Int → Int → Int → Int → Int → Int → Int → Int → Option (Int × Int × Int × Int × Int × Int × Int × Int × Int × Int × Int × Int × Int × Int × Int × Int × Int × Int × Int × Int × Int × Int × Int × Int × Int × Int × Int × Int × Int × Unit)) (i_10 : Int) (m0_0 : Int) (m0_1 : Int) (m0_2 : Int) (m0_3 : Int) (m0_4 : Int) (m0_5 : Int) (m0_6 : Int) (m0_7 : Int) (m0_8 : Int) (m0_9 : Int) (m0_10 : Int) (m0_11 : Int) (m0_12 : Int) (m0_13 : Int) (m0_14 : Int) (m1_0 : Int) (m1_1 : Int) (m1_2 : Int) (m1_3 : Int) (m2_0 : Int) (m2_1 : Int) (m2_2 : Int) (m3_0 : Int) (m3_1 : Int) (m3_2 : Int) (m3_3 : Int) (m4_0 : Int) (m4_1 : Int) (m4_2 : Int) (m4_3 : Int) (m4_4 : Int) (m4_5 : Int) : Option (Int × Int × Int × Int × Int × Int × Int × Int × Int × Int × Int × Int × Int × Int × Int × Int × Int × Int × Int × Int × Int × Int × Int × Int × Int × Int × Int × Int × Int × Unit) :=
  (bif (decide (i_10 < 3)) then (bif ((decide (0 ≤ i_10)) && (decide (i_10 < 3))) then ((rheostatbase_Among_g K (selI [m2_0, m2_1, m2_2] (Int.toNat i_10)) 1000).bind fun q1 => (bif ((decide (0 ≤ i_10)) && (decide (i_10 < 3))) then (bif ((decide (0 ≤ i_10)) && (decide (i_10 < 3))) then (bif ((decide (0 ≤ i_10)) && (decide (i_10 < 3))) then ((fun (q3 : Int) => ((fun (q2 : Int) => (rec (wi64 (i_10 + 1)) m0_0 m0_1 m0_2 m0_3 m0_4 m0_5 m0_6 m0_7 m0_8 m0_9 m0_10 m0_11 m0_12 m0_13 m0_14 m1_0 m1_1 m1_2 m1_3 m2_0 m2_1 m2_2 m3_0 m3_1 m3_2 m3_3 (bif (Nat.beq (Int.toNat i_10) 0) then q2 else m4_0) (bif (Nat.beq (Int.toNat i_10) 0) then q3 else m4_1) (bif (Nat.beq (Int.toNat i_10) 1) then q2 else m4_2) (bif (Nat.beq (Int.toNat i_10) 1) then q3 else m4_3) (bif (Nat.beq (Int.toNat i_10) 2) then q2 else m4_4) (bif (Nat.beq (Int.toNat i_10) 2) then q3 else m4_5))) ((bif (decide ((wi64 ((selI [m4_0, m4_2, m4_4] (Int.toNat i_10)) - q1.1)) > (-2147483648))) then (wi64 ((selI [m4_0, m4_2, m4_4] (Int.toNat i_10)) - q1.1)) else (-2147483648))))) ((bif (decide ((wi64 ((selI [m4_1, m4_3, m4_5] (Int.toNat i_10)) + q1.1)) < 2147483648)) then (wi64 ((selI [m4_1, m4_3, m4_5] (Int.toNat i_10)) + q1.1)) else 2147483648))) else none) else none) else none)) else none) else (some (m0_0, m0_1, m0_2, m0_3, m0_4, m0_5, m0_6, m0_7, m0_8, m0_9, m0_10, m0_11, m0_12, m0_13, m0_14, m1_0, m1_1, m1_2, m1_3, m3_0, m3_1, m3_2, m3_3, m4_0, m4_1, m4_2, m4_3, m4_4, m4_5, ())))
noncomputable def rheostatlaw13_SampleWider_l0 (K n : Nat) : Int → Int → Int → Int → Int → Int → Int → Int → Int → Int → Int → Int → Int → Int → Int → Int → Int → Int → Int → Int → Int → Int → Int → Int → Int → Int → Int → Int → Int → Int → Int → Int → Int → Option (Int × Int × Int × Int × Int × Int × Int × Int × Int × Int × Int × Int × Int × Int × Int × Int × Int × Int × Int × Int × Int × Int × Int × Int × Int × Int × Int × Int × Int × Unit) := Nat.rec (motive := fun _ => Int → Int → Int → Int → Int → Int → Int → Int → Int → Int → Int → Int → Int → Int → Int → Int → Int → Int → Int → Int → Int → Int → Int → Int → Int → Int → Int → Int → Int → Int → Int → Int → Int → Option (Int × Int × Int × Int × Int × Int × Int × Int × Int × Int × Int × Int × Int × Int × Int × Int × Int × Int × Int × Int × Int × Int × Int × Int × Int × Int × Int × Int × Int × Unit)) (fun _ _ _ _ _ _ _ _ _ _ _ _ _ _ _ _ _ _ _ _ _ _ _ _ _ _ _ _ _ _ _ _ _ => none) (fun _ ih => rheostatlaw13_SampleWider_l0r K ih) n
noncomputable def rheostatlaw13_SampleWider_l0u (K n : Nat) (t : rheostatlaw13_SampleWider_l0h.T) : Option (Int × Int × Int × Int × Int × Int × Int × Int × Int × Int × Int × Int × Int × Int × Int × Int × Int × Int × Int × Int × Int × Int × Int × Int × Int × Int × Int × Int × Int × Unit) :=
  let u1 := t.2
  let u2 := u1.2
  let u3 := u2.2
  let u4 := u3.2
  let u5 := u4.2
  let u6 := u5.2
  let u7 := u6.2
  let u8 := u7.2
  let u9 := u8.2
  let u10 := u9.2
  let u11 := u10.2
  let u12 := u11.2
  let u13 := u12.2
  let u14 := u13.2
  let u15 := u14.2
  let u16 := u15.2
  let u17 := u16.2
  let u18 := u17.2
  let u19 := u18.2
  let u20 := u19.2
  let u21 := u20.2
  let u22 := u21.2
  let u23 := u22.2
  let u24 := u23.2
  let u25 := u24.2
  let u26 := u25.2
  let u27 := u26.2
  let u28 := u27.2
  let u29 := u28.2
  let u30 := u29.2
  let u31 := u30.2
  let u32 := u31.2
  rheostatlaw13_SampleWider_l0 K n t.1 u1.1 u2.1 u3.1 u4.1 u5.1 u6.1 u7.1 u8.1 u9.1 u10.1 u11.1 u12.1 u13.1 u14.1 u15.1 u16.1 u17.1 u18.1 u19.1 u20.1 u21.1 u22.1 u23.1 u24.1 u25.1 u26.1 u27.1 u28.1 u29.1 u30.1 u31.1 u32.1
noncomputable def rheostatlaw13_SampleWider_l0o (K : Nat) : LO := loopLO rheostatlaw13_SampleWider_l0h rheostatlaw13_SampleWider_l0O fun t => rheostatlaw13_SampleWider_l0u K K t
noncomputable def rheostatlaw13_SampleWider_l0C : Code := bodyOf Try.f5
noncomputable def rheostatlaw13_SampleWider_l0B : Code := (findLoops 8 (loopsIn rheostatlaw13_SampleWider_l0C)).headD .skip
theorem rheostatlaw13_SampleWider_l0F : findLoops 8 (loopsIn rheostatlaw13_SampleWider_l0C) = [rheostatlaw13_SampleWider_l0B] := by kernel_rfl
theorem rheostatlaw13_SampleWider_l0q (K n : Nat) (t : rheostatlaw13_SampleWider_l0h.T) : exC (rheostatlaw13_SampleWider_e0 K) (hdl (rheostatlaw13_SampleWider_e0 K) 0) (5 :: []) rheostatlaw13_SampleWider_l0B (rheostatlaw13_SampleWider_l0h.put t) (fun s => (rheostatlaw13_SampleWider_l0h.take s).bind fun t => rheostatlaw13_SampleWider_l0u K n t) (fun id s => rheostatlaw13_SampleWider_l0O.get (some id) s) (fun s => rheostatlaw13_SampleWider_l0O.get none s) = rheostatlaw13_SampleWider_l0u K (n + 1) t := by kernel_rfl
noncomputable def rheostatlaw13_SampleWider_l0E (K : Nat) : LoopE Try.prog := ⟨[8, 5], rheostatlaw13_SampleWider_l0o K, Try.f5, rheostatlaw13_SampleWider_l0C, rheostatlaw13_SampleWider_l0B, ⟨8, 5, [], rfl, Try.func5, by kernel_rfl, rheostatlaw13_SampleWider_l0F⟩,
  loop_rule (F := fun n t => rheostatlaw13_SampleWider_l0u K n t) (rheostatlaw13_SampleWider_t0 K) (rheostatlaw13_SampleWider_i0 K) (draws (rheostatlaw13_SampleWider_t0 K)) 0 Try.func5 (c := rheostatlaw13_SampleWider_l0C) (by kernel_rfl) (body_in rheostatlaw13_SampleWider_l0F) (ctx' := []) (h := rheostatlaw13_SampleWider_l0h) (O := rheostatlaw13_SampleWider_l0O) (fun _ => rfl) (fun m t => rheostatlaw13_SampleWider_l0q K m t) K⟩
noncomputable def rheostatlaw13_SampleWider_e1 (K : Nat) : Env := ⟨tt, [(14, rheostatlaw13_works_o K), (8, sample_Read_o K), (16, rheostatbase_Among_o K)], [], [([8, 5], rheostatlaw13_SampleWider_l0o K)], eqs⟩
theorem rheostatlaw13_SampleWider_t1 (K : Nat) : EnvT Try.prog (rheostatlaw13_SampleWider_e1 K) := envT_of tt_ok eqs_ok ⟨rheostatlaw13_works_ok K, sample_Read_ok K, rheostatbase_Among_ok K, trivial⟩
theorem rheostatlaw13_SampleWider_i1 (K : Nat) : EnvI Try.prog (rheostatlaw13_SampleWider_e1 K) := envI_of (es := [rheostatlaw13_SampleWider_l0E K]) trivial ⟨⟨rfl, rfl⟩, trivial⟩
noncomputable def rheostatlaw13_SampleWider_g (K : Nat) (w_0_0 : Int) (w_0_1 : Int) (w_0_2 : Int) (w_0_3 : Int) (w_0_4 : Int) (w_0_5 : Int) (w_0_6 : Int) (w_0_7 : Int) (w_0_8 : Int) (w_0_9 : Int) (w_0_10 : Int) (w_0_11 : Int) (w_0_12 : Int) (w_0_13 : Int) (w_0_14 : Int) (s_1_0 : Int) (s_1_1 : Int) (s_1_2 : Int) (s_1_3 : Int) (more_2_0 : Int) (more_2_1 : Int) (more_2_2 : Int) : Option Bool :=
  ((rheostatlaw13_works_g K).bind fun q1 => (bif (!q1.1) then (some false) else ((sample_Read_g K w_0_0 w_0_1 w_0_2 w_0_3 w_0_4 w_0_5 w_0_6 w_0_7 w_0_8 w_0_9 w_0_10 w_0_11 w_0_12 w_0_13 w_0_14 s_1_0 s_1_1 s_1_2 s_1_3).bind fun q2 => (bif (q2.2.2.2.2.1 != 0) then (some true) else ((rheostatlaw13_SampleWider_l0 K K 0 w_0_0 w_0_1 w_0_2 w_0_3 w_0_4 w_0_5 w_0_6 w_0_7 w_0_8 w_0_9 w_0_10 w_0_11 w_0_12 w_0_13 w_0_14 s_1_0 s_1_1 s_1_2 s_1_3 more_2_0 more_2_1 more_2_2 q2.1 q2.2.1 q2.2.2.1 q2.2.2.2.1 w_0_9 w_0_10 w_0_11 w_0_12 w_0_13 w_0_14).bind fun q3 => ((sample_Read_g K q3.1 q3.2.1 q3.2.2.1 q3.2.2.2.1 q3.2.2.2.2.1 q3.2.2.2.2.2.1 q3.2.2.2.2.2.2.1 q3.2.2.2.2.2.2.2.1 q3.2.2.2.2.2.2.2.2.1 q3.2.2.2.2.2.2.2.2.2.2.2.2.2.2.2.2.2.2.2.2.2.2.2.1 q3.2.2.2.2.2.2.2.2.2.2.2.2.2.2.2.2.2.2.2.2.2.2.2.2.1 q3.2.2.2.2.2.2.2.2.2.2.2.2.2.2.2.2.2.2.2.2.2.2.2.2.2.1 q3.2.2.2.2.2.2.2.2.2.2.2.2.2.2.2.2.2.2.2.2.2.2.2.2.2.2.1 q3.2.2.2.2.2.2.2.2.2.2.2.2.2.2.2.2.2.2.2.2.2.2.2.2.2.2.2.1 q3.2.2.2.2.2.2.2.2.2.2.2.2.2.2.2.2.2.2.2.2.2.2.2.2.2.2.2.2.1 q3.2.2.2.2.2.2.2.2.2.2.2.2.2.2.2.1 q3.2.2.2.2.2.2.2.2.2.2.2.2.2.2.2.2.1 q3.2.2.2.2.2.2.2.2.2.2.2.2.2.2.2.2.2.1 q3.2.2.2.2.2.2.2.2.2.2.2.2.2.2.2.2.2.2.1).bind fun q4 => (bif (q4.2.2.2.2.1 == 0) then (some ((q3.2.2.2.2.2.2.2.2.2.2.2.2.2.2.2.2.2.2.2.1 == q4.1) && ((q3.2.2.2.2.2.2.2.2.2.2.2.2.2.2.2.2.2.2.2.2.1 == q4.2.1) && ((q3.2.2.2.2.2.2.2.2.2.2.2.2.2.2.2.2.2.2.2.2.2.1 == q4.2.2.1) && (q3.2.2.2.2.2.2.2.2.2.2.2.2.2.2.2.2.2.2.2.2.2.2.1 == q4.2.2.2.1))))) else (some false))))))))
noncomputable def rheostatlaw13_SampleWider_ps : List (Bool × List WC) := [(true, [.sc (.i .i64), .sc (.i .i64), .sc (.i .i64), .sc (.i .i64), .sc (.i .i64), .sc (.i .i64), .sc (.i .i64), .sc (.i .i64), .sc (.i .i64), .sc (.i .i64), .sc (.i .i64), .sc (.i .i64), .sc (.i .i64), .sc (.i .i64), .sc (.i .i64)]), (true, [.sc (.i .i64), .sc (.i .i64), .sc (.i .i64), .sc (.i .i64)]), (true, [.sc (.i .i64), .sc (.i .i64), .sc (.i .i64)])]
theorem rheostatlaw13_SampleWider_q (K : Nat) (t : (shOf rheostatlaw13_SampleWider_ps).T) : exFn (rheostatlaw13_SampleWider_e1 K) (hdl (rheostatlaw13_SampleWider_e1 K) 0) [5] Try.f5 (slVals ((shOf rheostatlaw13_SampleWider_ps).put t).fr.sl) ⟨⟨0, []⟩, [], ((shOf rheostatlaw13_SampleWider_ps).put t).mem⟩ outBool = rheostatlaw13_SampleWider_g K t.1 t.2.1 t.2.2.1 t.2.2.2.1 t.2.2.2.2.1 t.2.2.2.2.2.1 t.2.2.2.2.2.2.1 t.2.2.2.2.2.2.2.1 t.2.2.2.2.2.2.2.2.1 t.2.2.2.2.2.2.2.2.2.1 t.2.2.2.2.2.2.2.2.2.2.1 t.2.2.2.2.2.2.2.2.2.2.2.1 t.2.2.2.2.2.2.2.2.2.2.2.2.1 t.2.2.2.2.2.2.2.2.2.2.2.2.2.1 t.2.2.2.2.2.2.2.2.2.2.2.2.2.2.1 t.2.2.2.2.2.2.2.2.2.2.2.2.2.2.2.1 t.2.2.2.2.2.2.2.2.2.2.2.2.2.2.2.2.1 t.2.2.2.2.2.2.2.2.2.2.2.2.2.2.2.2.2.1 t.2.2.2.2.2.2.2.2.2.2.2.2.2.2.2.2.2.2.1 t.2.2.2.2.2.2.2.2.2.2.2.2.2.2.2.2.2.2.2.1 t.2.2.2.2.2.2.2.2.2.2.2.2.2.2.2.2.2.2.2.2.1 t.2.2.2.2.2.2.2.2.2.2.2.2.2.2.2.2.2.2.2.2.2.1 := by kernel_rfl
theorem rheostatlaw13_SampleWider_call (K : Nat) (hb : ∀ t : (shOf rheostatlaw13_SampleWider_ps).T, argsBnd rheostatlaw13_SampleWider_ps t → rheostatlaw13_SampleWider_g K t.1 t.2.1 t.2.2.1 t.2.2.2.1 t.2.2.2.2.1 t.2.2.2.2.2.1 t.2.2.2.2.2.2.1 t.2.2.2.2.2.2.2.1 t.2.2.2.2.2.2.2.2.1 t.2.2.2.2.2.2.2.2.2.1 t.2.2.2.2.2.2.2.2.2.2.1 t.2.2.2.2.2.2.2.2.2.2.2.1 t.2.2.2.2.2.2.2.2.2.2.2.2.1 t.2.2.2.2.2.2.2.2.2.2.2.2.2.1 t.2.2.2.2.2.2.2.2.2.2.2.2.2.2.1 t.2.2.2.2.2.2.2.2.2.2.2.2.2.2.2.1 t.2.2.2.2.2.2.2.2.2.2.2.2.2.2.2.2.1 t.2.2.2.2.2.2.2.2.2.2.2.2.2.2.2.2.2.1 t.2.2.2.2.2.2.2.2.2.2.2.2.2.2.2.2.2.2.1 t.2.2.2.2.2.2.2.2.2.2.2.2.2.2.2.2.2.2.2.1 t.2.2.2.2.2.2.2.2.2.2.2.2.2.2.2.2.2.2.2.2.1 t.2.2.2.2.2.2.2.2.2.2.2.2.2.2.2.2.2.2.2.2.2.1 = some true) {w : World} {vals : List Value} (hp : PFits w rheostatlaw13_SampleWider_ps vals) :
    Calls Try.prog 5 vals.toArray w fun e w' => e = .returned (.bool true) ∧ RowKit.Below w.heap.size w w' :=
  call_of (rheostatlaw13_SampleWider_t1 K) (rheostatlaw13_SampleWider_i1 K) (draws (rheostatlaw13_SampleWider_t1 K)) 0 Try.func5 (by kernel_rfl) (by kernel_rfl) outBool_true (fun t ht => (rheostatlaw13_SampleWider_q K t).trans (hb t ht)) hp
end Go.Proofs.Ytdcjkkgfimbodaa
