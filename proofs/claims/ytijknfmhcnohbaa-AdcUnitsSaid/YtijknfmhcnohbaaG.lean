/-
  The functions of law 12, as plain functions, and that the program does what they say. Printed by a program of ours.
-/
import Derived.Test.YtijknfmhcnohbaaChecked
import Derived.Test.YtijknfmhcnohbaaSyLib
import Derived.KernelRfl
namespace Go.Proofs.Ytijknfmhcnohbaa
open Go.Sy
set_option maxRecDepth 100000
set_option linter.unusedVariables false
noncomputable def tt : List TI := [
  ⟨0, [], .other⟩,
  ⟨0, [], .other⟩,
  ⟨0, [], .other⟩,
  ⟨1, [.i0 .i64 0], .int .i64⟩,
  ⟨1, [.b0 false], .bool⟩,
  ⟨1, [.i0 .u8 0], .int .u8⟩,
  ⟨0, [], .other⟩,
  ⟨0, [], .other⟩,
  ⟨0, [], .other⟩,
  ⟨1, [.s0 ⟨#[]⟩], .str⟩,
  ⟨0, [], .other⟩,
  ⟨0, [], .other⟩,
  ⟨0, [], .other⟩,
  ⟨0, [], .other⟩,
  ⟨0, [], .other⟩,
  ⟨0, [], .other⟩,
  ⟨0, [], .other⟩,
  ⟨0, [], .other⟩,
  ⟨0, [], .other⟩,
  ⟨0, [], .other⟩,
  ⟨0, [], .other⟩,
  ⟨0, [], .other⟩,
  ⟨1, [.sln], .sl 1 8 false [.i0 .i64 0]⟩,
  ⟨0, [], .other⟩,
  ⟨1, [.i0 .i64 0], .int .i64⟩,
  ⟨0, [], .other⟩,
  ⟨0, [], .other⟩,
  ⟨0, [], .other⟩,
  ⟨0, [], .other⟩,
  ⟨0, [], .other⟩,
  ⟨0, [], .other⟩,
  ⟨0, [], .other⟩,
  ⟨3, [.i0 .i64 0, .i0 .i64 0, .i0 .i64 0], .st [(0, 1, false), (1, 1, false), (2, 1, false)]⟩,
  ⟨0, [], .other⟩,
  ⟨0, [], .other⟩,
  ⟨0, [], .other⟩,
  ⟨0, [], .other⟩,
  ⟨0, [], .other⟩,
  ⟨0, [], .other⟩,
  ⟨0, [], .other⟩,
  ⟨0, [], .other⟩,
  ⟨0, [], .other⟩,
  ⟨0, [], .other⟩,
  ⟨0, [], .other⟩,
  ⟨0, [], .other⟩,
  ⟨0, [], .other⟩,
  ⟨0, [], .other⟩,
  ⟨0, [], .other⟩,
  ⟨0, [], .other⟩,
  ⟨1, [.i0 .u64 0], .int .u64⟩,
  ⟨0, [], .other⟩,
  ⟨4, [.i0 .i64 0, .i0 .i64 0, .i0 .i64 0, .i0 .i64 0], .st [(0, 3, true), (3, 1, false)]⟩,
  ⟨0, [], .other⟩,
  ⟨0, [], .other⟩,
  ⟨20, [.i0 .i64 0, .i0 .i64 0, .i0 .i64 0, .i0 .i64 0, .i0 .i64 0, .i0 .i64 0, .i0 .i64 0, .i0 .i64 0, .i0 .i64 0, .i0 .i64 0, .i0 .i64 0, .i0 .i64 0, .i0 .i64 0, .i0 .i64 0, .i0 .i64 0, .i0 .i64 0, .i0 .i64 0, .i0 .i64 0, .i0 .i64 0, .i0 .i64 0], .arr 20 1 false⟩,
  ⟨0, [], .other⟩,
  ⟨21, [.b0 false, .i0 .i64 0, .i0 .i64 0, .i0 .i64 0, .i0 .i64 0, .i0 .i64 0, .i0 .i64 0, .i0 .i64 0, .i0 .i64 0, .i0 .i64 0, .i0 .i64 0, .i0 .i64 0, .i0 .i64 0, .i0 .i64 0, .i0 .i64 0, .i0 .i64 0, .i0 .i64 0, .i0 .i64 0, .i0 .i64 0, .i0 .i64 0, .i0 .i64 0], .st [(0, 1, false), (1, 20, true)]⟩,
  ⟨0, [], .other⟩,
  ⟨0, [], .other⟩,
  ⟨0, [], .other⟩,
  ⟨0, [], .other⟩,
  ⟨0, [], .other⟩,
  ⟨0, [], .other⟩,
  ⟨0, [], .other⟩,
  ⟨0, [], .other⟩,
  ⟨0, [], .other⟩,
  ⟨0, [], .other⟩,
  ⟨0, [], .other⟩,
  ⟨0, [], .other⟩,
  ⟨0, [], .other⟩,
  ⟨0, [], .other⟩,
  ⟨0, [], .other⟩,
  ⟨0, [], .other⟩,
  ⟨1, [.i0 .u64 0], .int .u64⟩,
  ⟨0, [], .other⟩,
  ⟨2, [.i0 .i64 0, .i0 .u64 0], .st [(0, 1, false), (1, 1, false)]⟩,
  ⟨0, [], .other⟩,
  ⟨0, [], .other⟩,
  ⟨0, [], .other⟩,
  ⟨0, [], .other⟩,
  ⟨0, [], .other⟩,
  ⟨0, [], .other⟩,
  ⟨0, [], .other⟩,
  ⟨0, [], .other⟩,
  ⟨0, [], .other⟩,
  ⟨0, [], .other⟩,
  ⟨0, [], .other⟩,
  ⟨0, [], .other⟩,
  ⟨0, [], .other⟩,
  ⟨0, [], .other⟩,
  ⟨0, [], .other⟩,
  ⟨0, [], .other⟩,
  ⟨0, [], .other⟩,
  ⟨0, [], .other⟩,
  ⟨0, [], .other⟩,
  ⟨0, [], .other⟩,
  ⟨0, [], .other⟩]
theorem tt_ok : tabB Try.prog 0 tt = true := by kernel_rfl
def tab0 : List UInt8 := [0, 1, 2, 2, 3, 3, 3, 3, 4, 4, 4, 4, 4, 4, 4, 4, 5, 5, 5, 5, 5, 5, 5, 5, 5, 5, 5, 5, 5, 5, 5, 5, 6, 6, 6, 6, 6, 6, 6, 6, 6, 6, 6, 6, 6, 6, 6, 6, 6, 6, 6, 6, 6, 6, 6, 6, 6, 6, 6, 6, 6, 6, 6, 6, 7, 7, 7, 7, 7, 7, 7, 7, 7, 7, 7, 7, 7, 7, 7, 7, 7, 7, 7, 7, 7, 7, 7, 7, 7, 7, 7, 7, 7, 7, 7, 7, 7, 7, 7, 7, 7, 7, 7, 7, 7, 7, 7, 7, 7, 7, 7, 7, 7, 7, 7, 7, 7, 7, 7, 7, 7, 7, 7, 7, 7, 7, 7, 7, 8, 8, 8, 8, 8, 8, 8, 8, 8, 8, 8, 8, 8, 8, 8, 8, 8, 8, 8, 8, 8, 8, 8, 8, 8, 8, 8, 8, 8, 8, 8, 8, 8, 8, 8, 8, 8, 8, 8, 8, 8, 8, 8, 8, 8, 8, 8, 8, 8, 8, 8, 8, 8, 8, 8, 8, 8, 8, 8, 8, 8, 8, 8, 8, 8, 8, 8, 8, 8, 8, 8, 8, 8, 8, 8, 8, 8, 8, 8, 8, 8, 8, 8, 8, 8, 8, 8, 8, 8, 8, 8, 8, 8, 8, 8, 8, 8, 8, 8, 8, 8, 8, 8, 8, 8, 8, 8, 8, 8, 8, 8, 8, 8, 8, 8, 8, 8, 8, 8, 8, 8, 8, 8, 8, 8, 8, 8, 8]
noncomputable def eqs : List (Nat × List EK) := [(32, [.i .i64, .i .i64, .i .i64])]
theorem eqs_ok : eqsB Try.prog eqs = true := by kernel_rfl
theorem draws {E : Env} (h : EnvT Try.prog E) : DrawOk Try.prog E := draw_ok (Checked.mixed Try.checked) h
/-! rheostatbase_Ints -/
noncomputable def rheostatbase_Ints_e0 (K : Nat) : Env := ⟨tt, [], [], [], eqs⟩
theorem rheostatbase_Ints_t0 (K : Nat) : EnvT Try.prog (rheostatbase_Ints_e0 K) := envT_of tt_ok eqs_ok trivial
theorem rheostatbase_Ints_i0 (K : Nat) : EnvI Try.prog (rheostatbase_Ints_e0 K) := envI_of (es := []) trivial trivial
noncomputable def rheostatbase_Ints_h : Sh := ⟨1, [(0, .sc (.slr0 0))], [], [(false, true, [.ir .i64])]⟩
noncomputable def rheostatbase_Ints_r : Sh := ⟨1, [(0, .sc (.slr0 0))], [], [(true, true, [.ir .i64])]⟩
noncomputable def rheostatbase_Ints_g (K : Nat) (l_0n : Nat) (m0_0 : (Nat → Int)) : Option (Nat × (Nat → Int) × Unit) :=
  (bif (Nat.blt 0 l_0n) then (bif (Nat.ble ((0 + l_0n) * 8) 140737488355328) then (some ((0 + l_0n), (fun j => (m0_0 j)), ())) else none) else (some (0, (fun _ => 0), ())))
noncomputable def rheostatbase_Ints_o (K : Nat) : FO := fnFO rheostatbase_Ints_h rheostatbase_Ints_r fun t => rheostatbase_Ints_g K t.1 t.2.1
theorem rheostatbase_Ints_q (K : Nat) (t : rheostatbase_Ints_h.T) : exFn (rheostatbase_Ints_e0 K) (hdl (rheostatbase_Ints_e0 K) 0) [10] Try.f10 (slVals (rheostatbase_Ints_h.put t).fr.sl) ⟨⟨0, []⟩, [], (rheostatbase_Ints_h.put t).mem⟩ (takeRes rheostatbase_Ints_r) = rheostatbase_Ints_g K t.1 t.2.1 := by kernel_rfl
theorem rheostatbase_Ints_ok (K : Nat) : FOok Try.prog 10 (rheostatbase_Ints_o K) :=
  fn_rule (rheostatbase_Ints_t0 K) (rheostatbase_Ints_i0 K) (draws (rheostatbase_Ints_t0 K)) 0 Try.func10 (fnB_ok Try.func10 (by kernel_rfl)) rfl rfl (allOwn_ok false (by kernel_rfl)) rfl (allOwn_ok true (by kernel_rfl)) (fun t => rheostatbase_Ints_q K t)
/-! adc_raw_1 -/
noncomputable def adc_raw_1_e0 (K : Nat) : Env := ⟨tt, [], [], [], eqs⟩
theorem adc_raw_1_t0 (K : Nat) : EnvT Try.prog (adc_raw_1_e0 K) := envT_of tt_ok eqs_ok trivial
theorem adc_raw_1_i0 (K : Nat) : EnvI Try.prog (adc_raw_1_e0 K) := envI_of (es := []) trivial trivial
noncomputable def adc_raw_1_h : Sh := ⟨1, [(0, .sc (.i .i64))], [], []⟩
noncomputable def adc_raw_1_r : Sh := ⟨1, [(0, .sc (.b))], [], []⟩
noncomputable def adc_raw_1_g (K : Nat) (n_0 : Int) : Option (Bool × Unit) :=
  (bif (decide (n_0 < (-1048576))) then (some (true, ())) else (some ((decide (n_0 > 1048576)), ())))
noncomputable def adc_raw_1_o (K : Nat) : FO := fnFO adc_raw_1_h adc_raw_1_r fun t => adc_raw_1_g K t.1
theorem adc_raw_1_q (K : Nat) (t : adc_raw_1_h.T) : exFn (adc_raw_1_e0 K) (hdl (adc_raw_1_e0 K) 0) [35] Try.f35 (slVals (adc_raw_1_h.put t).fr.sl) ⟨⟨0, []⟩, [], (adc_raw_1_h.put t).mem⟩ (takeRes adc_raw_1_r) = adc_raw_1_g K t.1 := by kernel_rfl
theorem adc_raw_1_ok (K : Nat) : FOok Try.prog 35 (adc_raw_1_o K) :=
  fn_rule (adc_raw_1_t0 K) (adc_raw_1_i0 K) (draws (adc_raw_1_t0 K)) 0 Try.func35 (fnB_ok Try.func35 (by kernel_rfl)) rfl rfl (allOwn_ok false (by kernel_rfl)) rfl (allOwn_ok true (by kernel_rfl)) (fun t => adc_raw_1_q K t)
/-! adc_raw -/
noncomputable def adc_raw_e0 (K : Nat) : Env := ⟨tt, [(35, adc_raw_1_o K)], [(34, Try.f34), (48, Try.f48)], [], eqs⟩
theorem adc_raw_t0 (K : Nat) : EnvT Try.prog (adc_raw_e0 K) := envT_of tt_ok eqs_ok ⟨adc_raw_1_ok K, trivial⟩
theorem adc_raw_i0 (K : Nat) : EnvI Try.prog (adc_raw_e0 K) := envI_of (es := []) ⟨⟨Try.func34, by kernel_rfl⟩, ⟨Try.func48, by kernel_rfl⟩, trivial⟩ trivial
noncomputable def adc_raw_l0h : Sh := ⟨19, [(0, .sc (.slr0 0)), (1, .sc (.lit (.fn 35 []))), (7, .sc (.i .i64)), (8, .sc (.i .i64))], [(9, []), (6, []), (0, [])], [(false, true, [.ir .i64])]⟩
noncomputable def adc_raw_l0x0 : Sh := ⟨19, [], [(9, []), (6, []), (0, [])], []⟩
noncomputable def adc_raw_l0x1 : Sh := ⟨19, [(4, .sc (.i .i64))], [(9, []), (6, []), (0, [])], []⟩
noncomputable def adc_raw_l0O : OutI ((Unit) ⊕ (Int × Unit)) := (OutI.or (OutI.exit 0 adc_raw_l0x0) (OutI.ret adc_raw_l0x1))
noncomputable def adc_raw_l0r (K : Nat) (rec : Nat → Int → Int → (Nat → Int) → Option ((Unit) ⊕ (Int × Unit))) (s_0n : Nat) (t_7 : Int) (t_8 : Int) (m0_0 : (Nat → Int)) : Option ((Unit) ⊕ (Int × Unit)) :=
  (bif (decide (t_8 < t_7)) then (bif ((decide (0 ≤ t_8)) && (decide (t_8 < ((s_0n : Nat) : Int)))) then ((adc_raw_1_g K (m0_0 (Int.toNat t_8))).bind fun q1 => (bif q1.1 then (some (.inr (t_8, ()))) else (rec s_0n t_7 (wi64 (t_8 + 1)) m0_0))) else none) else (some (.inl (()))))
noncomputable def adc_raw_l0 (K n : Nat) : Nat → Int → Int → (Nat → Int) → Option ((Unit) ⊕ (Int × Unit)) := Nat.rec (motive := fun _ => Nat → Int → Int → (Nat → Int) → Option ((Unit) ⊕ (Int × Unit))) (fun _ _ _ _ => none) (fun _ ih => adc_raw_l0r K ih) n
noncomputable def adc_raw_l0u (K n : Nat) (t : adc_raw_l0h.T) : Option ((Unit) ⊕ (Int × Unit)) := adc_raw_l0 K n t.1 t.2.1 t.2.2.1 t.2.2.2.1
noncomputable def adc_raw_l0o (K : Nat) : LO := loopLO adc_raw_l0h adc_raw_l0O fun t => adc_raw_l0u K K t
noncomputable def adc_raw_l0C : Code := bodyOf Try.f48
noncomputable def adc_raw_l0B : Code := (findLoops 2 (loopsIn adc_raw_l0C)).headD .skip
theorem adc_raw_l0F : findLoops 2 (loopsIn adc_raw_l0C) = [adc_raw_l0B] := by kernel_rfl
theorem adc_raw_l0q (K n : Nat) (t : adc_raw_l0h.T) : exC (adc_raw_e0 K) (hdl (adc_raw_e0 K) 10) (48 :: [2, 1, 34, 1, 1, 26]) adc_raw_l0B (adc_raw_l0h.put t) (fun s => (adc_raw_l0h.take s).bind fun t => adc_raw_l0u K n t) (fun id s => adc_raw_l0O.get (some id) s) (fun s => adc_raw_l0O.get none s) = adc_raw_l0u K (n + 1) t := by kernel_rfl
noncomputable def adc_raw_l0E (K : Nat) : LoopE Try.prog := ⟨[2, 48, 2, 1, 34, 1, 1, 26], adc_raw_l0o K, Try.f48, adc_raw_l0C, adc_raw_l0B, ⟨2, 48, [2, 1, 34, 1, 1, 26], rfl, Try.func48, by kernel_rfl, adc_raw_l0F⟩,
  loop_rule (F := fun n t => adc_raw_l0u K n t) (adc_raw_t0 K) (adc_raw_i0 K) (draws (adc_raw_t0 K)) 10 Try.func48 (c := adc_raw_l0C) (by kernel_rfl) (body_in adc_raw_l0F) (ctx' := [2, 1, 34, 1, 1, 26]) (h := adc_raw_l0h) (O := adc_raw_l0O) (fun _ => rfl) (fun m t => adc_raw_l0q K m t) K⟩
noncomputable def adc_raw_e1 (K : Nat) : Env := ⟨tt, [(35, adc_raw_1_o K)], [(34, Try.f34), (48, Try.f48)], [([2, 48, 2, 1, 34, 1, 1, 26], adc_raw_l0o K)], eqs⟩
theorem adc_raw_t1 (K : Nat) : EnvT Try.prog (adc_raw_e1 K) := envT_of tt_ok eqs_ok ⟨adc_raw_1_ok K, trivial⟩
theorem adc_raw_i1 (K : Nat) : EnvI Try.prog (adc_raw_e1 K) := envI_of (es := [adc_raw_l0E K]) ⟨⟨Try.func34, by kernel_rfl⟩, ⟨Try.func48, by kernel_rfl⟩, trivial⟩ ⟨⟨rfl, rfl⟩, trivial⟩
noncomputable def adc_raw_h : Sh := ⟨1, [(0, .sc (.slr0 0))], [], [(false, true, [.ir .i64])]⟩
noncomputable def adc_raw_r : Sh := ⟨1, [(0, .sc (.b))], [], []⟩
noncomputable def adc_raw_g (K : Nat) (l_0n : Nat) (m0_0 : (Nat → Int)) : Option (Bool × Unit) :=
  ((adc_raw_l0 K K l_0n ((l_0n : Nat) : Int) 0 m0_0).bind fun q1 => (Sum.elim (fun q2 => (some (true, ()))) (fun q3 => (some ((!(decide (q3.1 ≥ 0))), ()))) q1))
noncomputable def adc_raw_o (K : Nat) : FO := fnFO adc_raw_h adc_raw_r fun t => adc_raw_g K t.1 t.2.1
theorem adc_raw_q (K : Nat) (t : adc_raw_h.T) : exFn (adc_raw_e1 K) (hdl (adc_raw_e1 K) 10) [26] Try.f26 (slVals (adc_raw_h.put t).fr.sl) ⟨⟨0, []⟩, [], (adc_raw_h.put t).mem⟩ (takeRes adc_raw_r) = adc_raw_g K t.1 t.2.1 := by kernel_rfl
theorem adc_raw_ok (K : Nat) : FOok Try.prog 26 (adc_raw_o K) :=
  fn_rule (adc_raw_t1 K) (adc_raw_i1 K) (draws (adc_raw_t1 K)) 10 Try.func26 (fnB_ok Try.func26 (by kernel_rfl)) rfl rfl (allOwn_ok false (by kernel_rfl)) rfl (allOwn_ok true (by kernel_rfl)) (fun t => adc_raw_q K t)
/-! fx_Near -/
noncomputable def fx_Near_e0 (K : Nat) : Env := ⟨tt, [], [(36, Try.f36), (37, Try.f37)], [], eqs⟩
theorem fx_Near_t0 (K : Nat) : EnvT Try.prog (fx_Near_e0 K) := envT_of tt_ok eqs_ok trivial
theorem fx_Near_i0 (K : Nat) : EnvI Try.prog (fx_Near_e0 K) := envI_of (es := []) ⟨⟨Try.func36, by kernel_rfl⟩, ⟨Try.func37, by kernel_rfl⟩, trivial⟩ trivial
noncomputable def fx_Near_h : Sh := ⟨2, [(0, .sc (.i .i64)), (1, .sc (.i .i64))], [], []⟩
noncomputable def fx_Near_r : Sh := ⟨2, [(0, .sc (.i .i64)), (1, .sc (.i .i64))], [], []⟩
noncomputable def fx_Near_g (K : Nat) (a_0 : Int) (b_1 : Int) : Option (Int × Int × Unit) :=
  (bif (decide (b_1 < 1)) then (some (0, 2, ())) else (bif (b_1 == 0) then none else (bif (b_1 == 0) then none else (bif (decide ((Int.tmod a_0 b_1) < 0)) then (bif (decide ((wi64 ((Int.tmod a_0 b_1) + b_1)) > (wi64 (b_1 - (wi64 ((Int.tmod a_0 b_1) + b_1)))))) then (some ((wi64 ((wi64 ((wi64 (Int.tdiv a_0 b_1)) - 1)) + 1)), 0, ())) else (bif ((wi64 ((Int.tmod a_0 b_1) + b_1)) == (wi64 (b_1 - (wi64 ((Int.tmod a_0 b_1) + b_1))))) then (bif (decide (a_0 > 0)) then (some ((wi64 ((wi64 ((wi64 (Int.tdiv a_0 b_1)) - 1)) + 1)), 0, ())) else (some ((wi64 ((wi64 (Int.tdiv a_0 b_1)) - 1)), 0, ()))) else (some ((wi64 ((wi64 (Int.tdiv a_0 b_1)) - 1)), 0, ())))) else (bif (decide ((Int.tmod a_0 b_1) > (wi64 (b_1 - (Int.tmod a_0 b_1))))) then (some ((wi64 ((wi64 (Int.tdiv a_0 b_1)) + 1)), 0, ())) else (bif ((Int.tmod a_0 b_1) == (wi64 (b_1 - (Int.tmod a_0 b_1)))) then (bif (decide (a_0 > 0)) then (some ((wi64 ((wi64 (Int.tdiv a_0 b_1)) + 1)), 0, ())) else (some ((wi64 (Int.tdiv a_0 b_1)), 0, ()))) else (some ((wi64 (Int.tdiv a_0 b_1)), 0, ()))))))))
noncomputable def fx_Near_o (K : Nat) : FO := fnFO fx_Near_h fx_Near_r fun t => fx_Near_g K t.1 t.2.1
theorem fx_Near_q (K : Nat) (t : fx_Near_h.T) : exFn (fx_Near_e0 K) (hdl (fx_Near_e0 K) 9) [27] Try.f27 (slVals (fx_Near_h.put t).fr.sl) ⟨⟨0, []⟩, [], (fx_Near_h.put t).mem⟩ (takeRes fx_Near_r) = fx_Near_g K t.1 t.2.1 := by kernel_rfl
theorem fx_Near_ok (K : Nat) : FOok Try.prog 27 (fx_Near_o K) :=
  fn_rule (fx_Near_t0 K) (fx_Near_i0 K) (draws (fx_Near_t0 K)) 9 Try.func27 (fnB_ok Try.func27 (by kernel_rfl)) rfl rfl (allOwn_ok false (by kernel_rfl)) rfl (allOwn_ok true (by kernel_rfl)) (fun t => fx_Near_q K t)
/-! adc_Mean -/
noncomputable def adc_Mean_e0 (K : Nat) : Env := ⟨tt, [(26, adc_raw_o K), (27, fx_Near_o K)], [], [], eqs⟩
theorem adc_Mean_t0 (K : Nat) : EnvT Try.prog (adc_Mean_e0 K) := envT_of tt_ok eqs_ok ⟨adc_raw_ok K, fx_Near_ok K, trivial⟩
theorem adc_Mean_i0 (K : Nat) : EnvI Try.prog (adc_Mean_e0 K) := envI_of (es := []) trivial trivial
noncomputable def adc_Mean_l0h : Sh := ⟨31, [(0, .sc (.slr0 0)), (4, .sc (.i .i64)), (15, .sc (.slr0 0)), (16, .sc (.i .i64)), (17, .sc (.i .i64))], [(0, [])], [(false, true, [.ir .i64])]⟩
noncomputable def adc_Mean_l0x0 : Sh := ⟨31, [(0, .sc (.slr0 0)), (4, .sc (.i .i64))], [(0, [])], [(false, true, [.ir .i64])]⟩
noncomputable def adc_Mean_l0O : OutI (Nat × Int × (Nat → Int) × Unit) := (OutI.exit 0 adc_Mean_l0x0)
noncomputable def adc_Mean_l0r (K : Nat) (rec : Nat → Int → Nat → Int → Int → (Nat → Int) → Option (Nat × Int × (Nat → Int) × Unit)) (counts_0n : Nat) (sum_4 : Int) (t_15n : Nat) (t_16 : Int) (t_17 : Int) (m0_0 : (Nat → Int)) : Option (Nat × Int × (Nat → Int) × Unit) :=
  (bif (decide (t_17 < t_16)) then (bif ((decide (0 ≤ t_17)) && (decide (t_17 < ((t_15n : Nat) : Int)))) then (rec counts_0n (wi64 (sum_4 + (m0_0 (Int.toNat t_17)))) t_15n t_16 (wi64 (t_17 + 1)) m0_0) else none) else (some (counts_0n, sum_4, m0_0, ())))
noncomputable def adc_Mean_l0 (K n : Nat) : Nat → Int → Nat → Int → Int → (Nat → Int) → Option (Nat × Int × (Nat → Int) × Unit) := Nat.rec (motive := fun _ => Nat → Int → Nat → Int → Int → (Nat → Int) → Option (Nat × Int × (Nat → Int) × Unit)) (fun _ _ _ _ _ _ => none) (fun _ ih => adc_Mean_l0r K ih) n
noncomputable def adc_Mean_l0u (K n : Nat) (t : adc_Mean_l0h.T) : Option (Nat × Int × (Nat → Int) × Unit) := adc_Mean_l0 K n t.1 t.2.1 t.2.2.1 t.2.2.2.1 t.2.2.2.2.1 t.2.2.2.2.2.1
noncomputable def adc_Mean_l0o (K : Nat) : LO := loopLO adc_Mean_l0h adc_Mean_l0O fun t => adc_Mean_l0u K K t
noncomputable def adc_Mean_l0C : Code := bodyOf Try.f11
noncomputable def adc_Mean_l0B : Code := (findLoops 5 (loopsIn adc_Mean_l0C)).headD .skip
theorem adc_Mean_l0F : findLoops 5 (loopsIn adc_Mean_l0C) = [adc_Mean_l0B] := by kernel_rfl
theorem adc_Mean_l0q (K n : Nat) (t : adc_Mean_l0h.T) : exC (adc_Mean_e0 K) (hdl (adc_Mean_e0 K) 0) (11 :: []) adc_Mean_l0B (adc_Mean_l0h.put t) (fun s => (adc_Mean_l0h.take s).bind fun t => adc_Mean_l0u K n t) (fun id s => adc_Mean_l0O.get (some id) s) (fun s => adc_Mean_l0O.get none s) = adc_Mean_l0u K (n + 1) t := by kernel_rfl
noncomputable def adc_Mean_l0E (K : Nat) : LoopE Try.prog := ⟨[5, 11], adc_Mean_l0o K, Try.f11, adc_Mean_l0C, adc_Mean_l0B, ⟨5, 11, [], rfl, Try.func11, by kernel_rfl, adc_Mean_l0F⟩,
  loop_rule (F := fun n t => adc_Mean_l0u K n t) (adc_Mean_t0 K) (adc_Mean_i0 K) (draws (adc_Mean_t0 K)) 0 Try.func11 (c := adc_Mean_l0C) (by kernel_rfl) (body_in adc_Mean_l0F) (ctx' := []) (h := adc_Mean_l0h) (O := adc_Mean_l0O) (fun _ => rfl) (fun m t => adc_Mean_l0q K m t) K⟩
noncomputable def adc_Mean_e1 (K : Nat) : Env := ⟨tt, [(26, adc_raw_o K), (27, fx_Near_o K)], [], [([5, 11], adc_Mean_l0o K)], eqs⟩
theorem adc_Mean_t1 (K : Nat) : EnvT Try.prog (adc_Mean_e1 K) := envT_of tt_ok eqs_ok ⟨adc_raw_ok K, fx_Near_ok K, trivial⟩
theorem adc_Mean_i1 (K : Nat) : EnvI Try.prog (adc_Mean_e1 K) := envI_of (es := [adc_Mean_l0E K]) trivial ⟨⟨rfl, rfl⟩, trivial⟩
noncomputable def adc_Mean_h : Sh := ⟨1, [(0, .sc (.slr0 0))], [], [(false, true, [.ir .i64])]⟩
noncomputable def adc_Mean_r : Sh := ⟨2, [(0, .sc (.i .i64)), (1, .sc (.i .i64))], [], []⟩
noncomputable def adc_Mean_g (K : Nat) (counts_0n : Nat) (m0_0 : (Nat → Int)) : Option (Int × Int × Unit) :=
  (bif (decide (((counts_0n : Nat) : Int) > 256)) then (some (0, 2, ())) else ((adc_raw_g K counts_0n m0_0).bind fun q1 => (bif (!q1.1) then (some (0, 2, ())) else ((adc_Mean_l0 K K counts_0n 0 counts_0n ((counts_0n : Nat) : Int) 0 m0_0).bind fun q2 => ((fx_Near_g K q2.2.1 ((q2.1 : Nat) : Int)).bind fun q3 => (some (q3.1, q3.2.1, ())))))))
noncomputable def adc_Mean_o (K : Nat) : FO := fnFO adc_Mean_h adc_Mean_r fun t => adc_Mean_g K t.1 t.2.1
theorem adc_Mean_q (K : Nat) (t : adc_Mean_h.T) : exFn (adc_Mean_e1 K) (hdl (adc_Mean_e1 K) 0) [11] Try.f11 (slVals (adc_Mean_h.put t).fr.sl) ⟨⟨0, []⟩, [], (adc_Mean_h.put t).mem⟩ (takeRes adc_Mean_r) = adc_Mean_g K t.1 t.2.1 := by kernel_rfl
theorem adc_Mean_ok (K : Nat) : FOok Try.prog 11 (adc_Mean_o K) :=
  fn_rule (adc_Mean_t1 K) (adc_Mean_i1 K) (draws (adc_Mean_t1 K)) 0 Try.func11 (fnB_ok Try.func11 (by kernel_rfl)) rfl rfl (allOwn_ok false (by kernel_rfl)) rfl (allOwn_ok true (by kernel_rfl)) (fun t => adc_Mean_q K t)
/-! rheostatref12_raw -/
noncomputable def rheostatref12_raw_e0 (K : Nat) : Env := ⟨tt, [], [], [], eqs⟩
theorem rheostatref12_raw_t0 (K : Nat) : EnvT Try.prog (rheostatref12_raw_e0 K) := envT_of tt_ok eqs_ok trivial
theorem rheostatref12_raw_i0 (K : Nat) : EnvI Try.prog (rheostatref12_raw_e0 K) := envI_of (es := []) trivial trivial
noncomputable def rheostatref12_raw_h : Sh := ⟨1, [(0, .sc (.i .i64))], [], []⟩
noncomputable def rheostatref12_raw_r : Sh := ⟨1, [(0, .sc (.b))], [], []⟩
noncomputable def rheostatref12_raw_g (K : Nat) (n_0 : Int) : Option (Bool × Unit) :=
  (bif (decide (n_0 ≥ (-1048576))) then (some ((decide (n_0 ≤ 1048576)), ())) else (some (false, ())))
noncomputable def rheostatref12_raw_o (K : Nat) : FO := fnFO rheostatref12_raw_h rheostatref12_raw_r fun t => rheostatref12_raw_g K t.1
theorem rheostatref12_raw_q (K : Nat) (t : rheostatref12_raw_h.T) : exFn (rheostatref12_raw_e0 K) (hdl (rheostatref12_raw_e0 K) 0) [28] Try.f28 (slVals (rheostatref12_raw_h.put t).fr.sl) ⟨⟨0, []⟩, [], (rheostatref12_raw_h.put t).mem⟩ (takeRes rheostatref12_raw_r) = rheostatref12_raw_g K t.1 := by kernel_rfl
theorem rheostatref12_raw_ok (K : Nat) : FOok Try.prog 28 (rheostatref12_raw_o K) :=
  fn_rule (rheostatref12_raw_t0 K) (rheostatref12_raw_i0 K) (draws (rheostatref12_raw_t0 K)) 0 Try.func28 (fnB_ok Try.func28 (by kernel_rfl)) rfl rfl (allOwn_ok false (by kernel_rfl)) rfl (allOwn_ok true (by kernel_rfl)) (fun t => rheostatref12_raw_q K t)
/-! rheostatref03_Down -/
noncomputable def rheostatref03_Down_e0 (K : Nat) : Env := ⟨tt, [], [], [], eqs⟩
theorem rheostatref03_Down_t0 (K : Nat) : EnvT Try.prog (rheostatref03_Down_e0 K) := envT_of tt_ok eqs_ok trivial
theorem rheostatref03_Down_i0 (K : Nat) : EnvI Try.prog (rheostatref03_Down_e0 K) := envI_of (es := []) trivial trivial
noncomputable def rheostatref03_Down_h : Sh := ⟨2, [(0, .sc (.i .i64)), (1, .sc (.i .i64))], [], []⟩
noncomputable def rheostatref03_Down_r : Sh := ⟨2, [(0, .sc (.i .i64)), (1, .sc (.i .i64))], [], []⟩
noncomputable def rheostatref03_Down_g (K : Nat) (a_0 : Int) (b_1 : Int) : Option (Int × Int × Unit) :=
  (bif (decide (b_1 < 1)) then (some (0, 2, ())) else (bif (b_1 == 0) then none else (bif (b_1 == 0) then none else (bif (decide ((Int.tmod a_0 b_1) < 0)) then (some ((wi64 ((wi64 (Int.tdiv a_0 b_1)) - 1)), 0, ())) else (some ((wi64 (Int.tdiv a_0 b_1)), 0, ()))))))
noncomputable def rheostatref03_Down_o (K : Nat) : FO := fnFO rheostatref03_Down_h rheostatref03_Down_r fun t => rheostatref03_Down_g K t.1 t.2.1
theorem rheostatref03_Down_q (K : Nat) (t : rheostatref03_Down_h.T) : exFn (rheostatref03_Down_e0 K) (hdl (rheostatref03_Down_e0 K) 0) [38] Try.f38 (slVals (rheostatref03_Down_h.put t).fr.sl) ⟨⟨0, []⟩, [], (rheostatref03_Down_h.put t).mem⟩ (takeRes rheostatref03_Down_r) = rheostatref03_Down_g K t.1 t.2.1 := by kernel_rfl
theorem rheostatref03_Down_ok (K : Nat) : FOok Try.prog 38 (rheostatref03_Down_o K) :=
  fn_rule (rheostatref03_Down_t0 K) (rheostatref03_Down_i0 K) (draws (rheostatref03_Down_t0 K)) 0 Try.func38 (fnB_ok Try.func38 (by kernel_rfl)) rfl rfl (allOwn_ok false (by kernel_rfl)) rfl (allOwn_ok true (by kernel_rfl)) (fun t => rheostatref03_Down_q K t)
/-! rheostatref03_Left -/
noncomputable def rheostatref03_Left_e0 (K : Nat) : Env := ⟨tt, [], [], [], eqs⟩
theorem rheostatref03_Left_t0 (K : Nat) : EnvT Try.prog (rheostatref03_Left_e0 K) := envT_of tt_ok eqs_ok trivial
theorem rheostatref03_Left_i0 (K : Nat) : EnvI Try.prog (rheostatref03_Left_e0 K) := envI_of (es := []) trivial trivial
noncomputable def rheostatref03_Left_h : Sh := ⟨2, [(0, .sc (.i .i64)), (1, .sc (.i .i64))], [], []⟩
noncomputable def rheostatref03_Left_r : Sh := ⟨2, [(0, .sc (.i .i64)), (1, .sc (.i .i64))], [], []⟩
noncomputable def rheostatref03_Left_g (K : Nat) (a_0 : Int) (b_1 : Int) : Option (Int × Int × Unit) :=
  (bif (decide (b_1 < 1)) then (some (0, 2, ())) else (bif (b_1 == 0) then none else (bif (decide ((Int.tmod a_0 b_1) < 0)) then (some ((wi64 ((Int.tmod a_0 b_1) + b_1)), 0, ())) else (some ((Int.tmod a_0 b_1), 0, ())))))
noncomputable def rheostatref03_Left_o (K : Nat) : FO := fnFO rheostatref03_Left_h rheostatref03_Left_r fun t => rheostatref03_Left_g K t.1 t.2.1
theorem rheostatref03_Left_q (K : Nat) (t : rheostatref03_Left_h.T) : exFn (rheostatref03_Left_e0 K) (hdl (rheostatref03_Left_e0 K) 0) [39] Try.f39 (slVals (rheostatref03_Left_h.put t).fr.sl) ⟨⟨0, []⟩, [], (rheostatref03_Left_h.put t).mem⟩ (takeRes rheostatref03_Left_r) = rheostatref03_Left_g K t.1 t.2.1 := by kernel_rfl
theorem rheostatref03_Left_ok (K : Nat) : FOok Try.prog 39 (rheostatref03_Left_o K) :=
  fn_rule (rheostatref03_Left_t0 K) (rheostatref03_Left_i0 K) (draws (rheostatref03_Left_t0 K)) 0 Try.func39 (fnB_ok Try.func39 (by kernel_rfl)) rfl rfl (allOwn_ok false (by kernel_rfl)) rfl (allOwn_ok true (by kernel_rfl)) (fun t => rheostatref03_Left_q K t)
/-! rheostatref03_Near -/
noncomputable def rheostatref03_Near_e0 (K : Nat) : Env := ⟨tt, [(38, rheostatref03_Down_o K), (39, rheostatref03_Left_o K)], [], [], eqs⟩
theorem rheostatref03_Near_t0 (K : Nat) : EnvT Try.prog (rheostatref03_Near_e0 K) := envT_of tt_ok eqs_ok ⟨rheostatref03_Down_ok K, rheostatref03_Left_ok K, trivial⟩
theorem rheostatref03_Near_i0 (K : Nat) : EnvI Try.prog (rheostatref03_Near_e0 K) := envI_of (es := []) trivial trivial
noncomputable def rheostatref03_Near_h : Sh := ⟨2, [(0, .sc (.i .i64)), (1, .sc (.i .i64))], [], []⟩
noncomputable def rheostatref03_Near_r : Sh := ⟨2, [(0, .sc (.i .i64)), (1, .sc (.i .i64))], [], []⟩
noncomputable def rheostatref03_Near_g (K : Nat) (a_0 : Int) (b_1 : Int) : Option (Int × Int × Unit) :=
  ((rheostatref03_Down_g K a_0 b_1).bind fun q1 => ((rheostatref03_Left_g K a_0 b_1).bind fun q2 => (bif (q1.2.1 == 0) then (bif (decide (q2.1 > (wi64 (b_1 - q2.1)))) then (some ((wi64 (q1.1 + 1)), q1.2.1, ())) else (bif (q2.1 == (wi64 (b_1 - q2.1))) then (bif (decide (a_0 > 0)) then (some ((wi64 (q1.1 + 1)), q1.2.1, ())) else (some (q1.1, q1.2.1, ()))) else (some (q1.1, q1.2.1, ())))) else (some (q1.1, q1.2.1, ())))))
noncomputable def rheostatref03_Near_o (K : Nat) : FO := fnFO rheostatref03_Near_h rheostatref03_Near_r fun t => rheostatref03_Near_g K t.1 t.2.1
theorem rheostatref03_Near_q (K : Nat) (t : rheostatref03_Near_h.T) : exFn (rheostatref03_Near_e0 K) (hdl (rheostatref03_Near_e0 K) 0) [29] Try.f29 (slVals (rheostatref03_Near_h.put t).fr.sl) ⟨⟨0, []⟩, [], (rheostatref03_Near_h.put t).mem⟩ (takeRes rheostatref03_Near_r) = rheostatref03_Near_g K t.1 t.2.1 := by kernel_rfl
theorem rheostatref03_Near_ok (K : Nat) : FOok Try.prog 29 (rheostatref03_Near_o K) :=
  fn_rule (rheostatref03_Near_t0 K) (rheostatref03_Near_i0 K) (draws (rheostatref03_Near_t0 K)) 0 Try.func29 (fnB_ok Try.func29 (by kernel_rfl)) rfl rfl (allOwn_ok false (by kernel_rfl)) rfl (allOwn_ok true (by kernel_rfl)) (fun t => rheostatref03_Near_q K t)
/-! rheostatref12_Mean -/
noncomputable def rheostatref12_Mean_e0 (K : Nat) : Env := ⟨tt, [(28, rheostatref12_raw_o K), (29, rheostatref03_Near_o K)], [], [], eqs⟩
theorem rheostatref12_Mean_t0 (K : Nat) : EnvT Try.prog (rheostatref12_Mean_e0 K) := envT_of tt_ok eqs_ok ⟨rheostatref12_raw_ok K, rheostatref03_Near_ok K, trivial⟩
theorem rheostatref12_Mean_i0 (K : Nat) : EnvI Try.prog (rheostatref12_Mean_e0 K) := envI_of (es := []) trivial trivial
noncomputable def rheostatref12_Mean_l0h : Sh := ⟨38, [(0, .sc (.slr0 0)), (4, .sc (.i .i64)), (5, .sc (.i .i64))], [(0, [])], [(false, true, [.ir .i64])]⟩
noncomputable def rheostatref12_Mean_l0x0 : Sh := ⟨38, [(0, .sc (.slr0 0)), (4, .sc (.i .i64))], [(0, [])], [(false, true, [.ir .i64])]⟩
noncomputable def rheostatref12_Mean_l0x1 : Sh := ⟨38, [(2, .sc (.i .i64)), (3, .sc (.i .i64))], [(0, [])], []⟩
noncomputable def rheostatref12_Mean_l0O : OutI ((Nat × Int × (Nat → Int) × Unit) ⊕ (Int × Int × Unit)) := (OutI.or (OutI.exit 0 rheostatref12_Mean_l0x0) (OutI.ret rheostatref12_Mean_l0x1))
noncomputable def rheostatref12_Mean_l0r (K : Nat) (rec : Nat → Int → Int → (Nat → Int) → Option ((Nat × Int × (Nat → Int) × Unit) ⊕ (Int × Int × Unit))) (counts_0n : Nat) (sum_4 : Int) (i_5 : Int) (m0_0 : (Nat → Int)) : Option ((Nat × Int × (Nat → Int) × Unit) ⊕ (Int × Int × Unit)) :=
  (bif (decide (i_5 < ((counts_0n : Nat) : Int))) then (bif ((decide (0 ≤ i_5)) && (decide (i_5 < ((counts_0n : Nat) : Int)))) then ((rheostatref12_raw_g K (m0_0 (Int.toNat i_5))).bind fun q1 => (bif (!q1.1) then (some (.inr (0, 2, ()))) else (bif ((decide (0 ≤ i_5)) && (decide (i_5 < ((counts_0n : Nat) : Int)))) then (rec counts_0n (wi64 (sum_4 + (m0_0 (Int.toNat i_5)))) (wi64 (i_5 + 1)) m0_0) else none))) else none) else (some (.inl (counts_0n, sum_4, m0_0, ()))))
noncomputable def rheostatref12_Mean_l0 (K n : Nat) : Nat → Int → Int → (Nat → Int) → Option ((Nat × Int × (Nat → Int) × Unit) ⊕ (Int × Int × Unit)) := Nat.rec (motive := fun _ => Nat → Int → Int → (Nat → Int) → Option ((Nat × Int × (Nat → Int) × Unit) ⊕ (Int × Int × Unit))) (fun _ _ _ _ => none) (fun _ ih => rheostatref12_Mean_l0r K ih) n
noncomputable def rheostatref12_Mean_l0u (K n : Nat) (t : rheostatref12_Mean_l0h.T) : Option ((Nat × Int × (Nat → Int) × Unit) ⊕ (Int × Int × Unit)) := rheostatref12_Mean_l0 K n t.1 t.2.1 t.2.2.1 t.2.2.2.1
noncomputable def rheostatref12_Mean_l0o (K : Nat) : LO := loopLO rheostatref12_Mean_l0h rheostatref12_Mean_l0O fun t => rheostatref12_Mean_l0u K K t
noncomputable def rheostatref12_Mean_l0C : Code := bodyOf Try.f12
noncomputable def rheostatref12_Mean_l0B : Code := (findLoops 5 (loopsIn rheostatref12_Mean_l0C)).headD .skip
theorem rheostatref12_Mean_l0F : findLoops 5 (loopsIn rheostatref12_Mean_l0C) = [rheostatref12_Mean_l0B] := by kernel_rfl
theorem rheostatref12_Mean_l0q (K n : Nat) (t : rheostatref12_Mean_l0h.T) : exC (rheostatref12_Mean_e0 K) (hdl (rheostatref12_Mean_e0 K) 0) (12 :: []) rheostatref12_Mean_l0B (rheostatref12_Mean_l0h.put t) (fun s => (rheostatref12_Mean_l0h.take s).bind fun t => rheostatref12_Mean_l0u K n t) (fun id s => rheostatref12_Mean_l0O.get (some id) s) (fun s => rheostatref12_Mean_l0O.get none s) = rheostatref12_Mean_l0u K (n + 1) t := by kernel_rfl
noncomputable def rheostatref12_Mean_l0E (K : Nat) : LoopE Try.prog := ⟨[5, 12], rheostatref12_Mean_l0o K, Try.f12, rheostatref12_Mean_l0C, rheostatref12_Mean_l0B, ⟨5, 12, [], rfl, Try.func12, by kernel_rfl, rheostatref12_Mean_l0F⟩,
  loop_rule (F := fun n t => rheostatref12_Mean_l0u K n t) (rheostatref12_Mean_t0 K) (rheostatref12_Mean_i0 K) (draws (rheostatref12_Mean_t0 K)) 0 Try.func12 (c := rheostatref12_Mean_l0C) (by kernel_rfl) (body_in rheostatref12_Mean_l0F) (ctx' := []) (h := rheostatref12_Mean_l0h) (O := rheostatref12_Mean_l0O) (fun _ => rfl) (fun m t => rheostatref12_Mean_l0q K m t) K⟩
noncomputable def rheostatref12_Mean_e1 (K : Nat) : Env := ⟨tt, [(28, rheostatref12_raw_o K), (29, rheostatref03_Near_o K)], [], [([5, 12], rheostatref12_Mean_l0o K)], eqs⟩
theorem rheostatref12_Mean_t1 (K : Nat) : EnvT Try.prog (rheostatref12_Mean_e1 K) := envT_of tt_ok eqs_ok ⟨rheostatref12_raw_ok K, rheostatref03_Near_ok K, trivial⟩
theorem rheostatref12_Mean_i1 (K : Nat) : EnvI Try.prog (rheostatref12_Mean_e1 K) := envI_of (es := [rheostatref12_Mean_l0E K]) trivial ⟨⟨rfl, rfl⟩, trivial⟩
noncomputable def rheostatref12_Mean_h : Sh := ⟨1, [(0, .sc (.slr0 0))], [], [(false, true, [.ir .i64])]⟩
noncomputable def rheostatref12_Mean_r : Sh := ⟨2, [(0, .sc (.i .i64)), (1, .sc (.i .i64))], [], []⟩
noncomputable def rheostatref12_Mean_g (K : Nat) (counts_0n : Nat) (m0_0 : (Nat → Int)) : Option (Int × Int × Unit) :=
  (bif (decide (((counts_0n : Nat) : Int) < 1)) then (some (0, 2, ())) else (bif (decide (((counts_0n : Nat) : Int) > 256)) then (some (0, 2, ())) else ((rheostatref12_Mean_l0 K K counts_0n 0 0 m0_0).bind fun q1 => (Sum.elim (fun q2 => ((rheostatref03_Near_g K q2.2.1 ((q2.1 : Nat) : Int)).bind fun q4 => (some (q4.1, q4.2.1, ())))) (fun q3 => (some (q3.1, q3.2.1, ()))) q1))))
noncomputable def rheostatref12_Mean_o (K : Nat) : FO := fnFO rheostatref12_Mean_h rheostatref12_Mean_r fun t => rheostatref12_Mean_g K t.1 t.2.1
theorem rheostatref12_Mean_q (K : Nat) (t : rheostatref12_Mean_h.T) : exFn (rheostatref12_Mean_e1 K) (hdl (rheostatref12_Mean_e1 K) 0) [12] Try.f12 (slVals (rheostatref12_Mean_h.put t).fr.sl) ⟨⟨0, []⟩, [], (rheostatref12_Mean_h.put t).mem⟩ (takeRes rheostatref12_Mean_r) = rheostatref12_Mean_g K t.1 t.2.1 := by kernel_rfl
theorem rheostatref12_Mean_ok (K : Nat) : FOok Try.prog 12 (rheostatref12_Mean_o K) :=
  fn_rule (rheostatref12_Mean_t1 K) (rheostatref12_Mean_i1 K) (draws (rheostatref12_Mean_t1 K)) 0 Try.func12 (fnB_ok Try.func12 (by kernel_rfl)) rfl rfl (allOwn_ok false (by kernel_rfl)) rfl (allOwn_ok true (by kernel_rfl)) (fun t => rheostatref12_Mean_q K t)
/-! rheostatbase_SameInts -/
noncomputable def rheostatbase_SameInts_e0 (K : Nat) : Env := ⟨tt, [], [], [], eqs⟩
theorem rheostatbase_SameInts_t0 (K : Nat) : EnvT Try.prog (rheostatbase_SameInts_e0 K) := envT_of tt_ok eqs_ok trivial
theorem rheostatbase_SameInts_i0 (K : Nat) : EnvI Try.prog (rheostatbase_SameInts_e0 K) := envI_of (es := []) trivial trivial
noncomputable def rheostatbase_SameInts_l0h : Sh := ⟨26, [(0, .sc (.slr0 0)), (1, .sc (.slr0 1)), (5, .sc (.i .i64))], [(0, [])], [(false, true, [.ir .i64]), (false, true, [.ir .i64])]⟩
noncomputable def rheostatbase_SameInts_l0x0 : Sh := ⟨26, [], [(0, [])], []⟩
noncomputable def rheostatbase_SameInts_l0x1 : Sh := ⟨26, [(4, .sc (.b))], [(0, [])], []⟩
noncomputable def rheostatbase_SameInts_l0O : OutI ((Unit) ⊕ (Bool × Unit)) := (OutI.or (OutI.exit 0 rheostatbase_SameInts_l0x0) (OutI.ret rheostatbase_SameInts_l0x1))
noncomputable def rheostatbase_SameInts_l0r (K : Nat) (rec : Nat → Nat → Int → (Nat → Int) → (Nat → Int) → Option ((Unit) ⊕ (Bool × Unit))) (a_0n : Nat) (b_1n : Nat) (i_5 : Int) (m0_0 : (Nat → Int)) (m1_0 : (Nat → Int)) : Option ((Unit) ⊕ (Bool × Unit)) :=
  (bif (decide (i_5 < ((a_0n : Nat) : Int))) then (bif ((decide (0 ≤ i_5)) && (decide (i_5 < ((a_0n : Nat) : Int)))) then (bif ((decide (0 ≤ i_5)) && (decide (i_5 < ((b_1n : Nat) : Int)))) then (bif ((m0_0 (Int.toNat i_5)) != (m1_0 (Int.toNat i_5))) then (some (.inr (false, ()))) else (rec a_0n b_1n (wi64 (i_5 + 1)) m0_0 m1_0)) else none) else none) else (some (.inl (()))))
noncomputable def rheostatbase_SameInts_l0 (K n : Nat) : Nat → Nat → Int → (Nat → Int) → (Nat → Int) → Option ((Unit) ⊕ (Bool × Unit)) := Nat.rec (motive := fun _ => Nat → Nat → Int → (Nat → Int) → (Nat → Int) → Option ((Unit) ⊕ (Bool × Unit))) (fun _ _ _ _ _ => none) (fun _ ih => rheostatbase_SameInts_l0r K ih) n
noncomputable def rheostatbase_SameInts_l0u (K n : Nat) (t : rheostatbase_SameInts_l0h.T) : Option ((Unit) ⊕ (Bool × Unit)) := rheostatbase_SameInts_l0 K n t.1 t.2.1 t.2.2.1 t.2.2.2.1 t.2.2.2.2.1
noncomputable def rheostatbase_SameInts_l0o (K : Nat) : LO := loopLO rheostatbase_SameInts_l0h rheostatbase_SameInts_l0O fun t => rheostatbase_SameInts_l0u K K t
noncomputable def rheostatbase_SameInts_l0C : Code := bodyOf Try.f13
noncomputable def rheostatbase_SameInts_l0B : Code := (findLoops 4 (loopsIn rheostatbase_SameInts_l0C)).headD .skip
theorem rheostatbase_SameInts_l0F : findLoops 4 (loopsIn rheostatbase_SameInts_l0C) = [rheostatbase_SameInts_l0B] := by kernel_rfl
theorem rheostatbase_SameInts_l0q (K n : Nat) (t : rheostatbase_SameInts_l0h.T) : exC (rheostatbase_SameInts_e0 K) (hdl (rheostatbase_SameInts_e0 K) 0) (13 :: []) rheostatbase_SameInts_l0B (rheostatbase_SameInts_l0h.put t) (fun s => (rheostatbase_SameInts_l0h.take s).bind fun t => rheostatbase_SameInts_l0u K n t) (fun id s => rheostatbase_SameInts_l0O.get (some id) s) (fun s => rheostatbase_SameInts_l0O.get none s) = rheostatbase_SameInts_l0u K (n + 1) t := by kernel_rfl
noncomputable def rheostatbase_SameInts_l0E (K : Nat) : LoopE Try.prog := ⟨[4, 13], rheostatbase_SameInts_l0o K, Try.f13, rheostatbase_SameInts_l0C, rheostatbase_SameInts_l0B, ⟨4, 13, [], rfl, Try.func13, by kernel_rfl, rheostatbase_SameInts_l0F⟩,
  loop_rule (F := fun n t => rheostatbase_SameInts_l0u K n t) (rheostatbase_SameInts_t0 K) (rheostatbase_SameInts_i0 K) (draws (rheostatbase_SameInts_t0 K)) 0 Try.func13 (c := rheostatbase_SameInts_l0C) (by kernel_rfl) (body_in rheostatbase_SameInts_l0F) (ctx' := []) (h := rheostatbase_SameInts_l0h) (O := rheostatbase_SameInts_l0O) (fun _ => rfl) (fun m t => rheostatbase_SameInts_l0q K m t) K⟩
noncomputable def rheostatbase_SameInts_e1 (K : Nat) : Env := ⟨tt, [], [], [([4, 13], rheostatbase_SameInts_l0o K)], eqs⟩
theorem rheostatbase_SameInts_t1 (K : Nat) : EnvT Try.prog (rheostatbase_SameInts_e1 K) := envT_of tt_ok eqs_ok trivial
theorem rheostatbase_SameInts_i1 (K : Nat) : EnvI Try.prog (rheostatbase_SameInts_e1 K) := envI_of (es := [rheostatbase_SameInts_l0E K]) trivial ⟨⟨rfl, rfl⟩, trivial⟩
noncomputable def rheostatbase_SameInts_h : Sh := ⟨2, [(0, .sc (.slr0 0)), (1, .sc (.slr0 1))], [], [(false, true, [.ir .i64]), (false, true, [.ir .i64])]⟩
noncomputable def rheostatbase_SameInts_r : Sh := ⟨1, [(0, .sc (.b))], [], []⟩
noncomputable def rheostatbase_SameInts_g (K : Nat) (a_0n : Nat) (b_1n : Nat) (m0_0 : (Nat → Int)) (m1_0 : (Nat → Int)) : Option (Bool × Unit) :=
  (bif (((a_0n : Nat) : Int) != ((b_1n : Nat) : Int)) then (some (false, ())) else ((rheostatbase_SameInts_l0 K K a_0n b_1n 0 m0_0 m1_0).bind fun q1 => (Sum.elim (fun q2 => (some (true, ()))) (fun q3 => (some (q3.1, ()))) q1)))
noncomputable def rheostatbase_SameInts_gu (K : Nat) (t : rheostatbase_SameInts_h.T) : Option (Bool × Unit) := rheostatbase_SameInts_g K t.1 t.2.1 t.2.2.1 t.2.2.2.1
noncomputable def rheostatbase_SameInts_o (K : Nat) : FO := fnFO rheostatbase_SameInts_h rheostatbase_SameInts_r fun t => rheostatbase_SameInts_gu K t
theorem rheostatbase_SameInts_q (K : Nat) (t : rheostatbase_SameInts_h.T) : exFn (rheostatbase_SameInts_e1 K) (hdl (rheostatbase_SameInts_e1 K) 0) [13] Try.f13 (slVals (rheostatbase_SameInts_h.put t).fr.sl) ⟨⟨0, []⟩, [], (rheostatbase_SameInts_h.put t).mem⟩ (takeRes rheostatbase_SameInts_r) = rheostatbase_SameInts_gu K t := by kernel_rfl
theorem rheostatbase_SameInts_ok (K : Nat) : FOok Try.prog 13 (rheostatbase_SameInts_o K) :=
  fn_rule (rheostatbase_SameInts_t1 K) (rheostatbase_SameInts_i1 K) (draws (rheostatbase_SameInts_t1 K)) 0 Try.func13 (fnB_ok Try.func13 (by kernel_rfl)) rfl rfl (allOwn_ok false (by kernel_rfl)) rfl (allOwn_ok true (by kernel_rfl)) (fun t => rheostatbase_SameInts_q K t)
/-! adc_Check -/
noncomputable def adc_Check_e0 (K : Nat) : Env := ⟨tt, [(26, adc_raw_o K)], [], [], eqs⟩
theorem adc_Check_t0 (K : Nat) : EnvT Try.prog (adc_Check_e0 K) := envT_of tt_ok eqs_ok ⟨adc_raw_ok K, trivial⟩
theorem adc_Check_i0 (K : Nat) : EnvI Try.prog (adc_Check_e0 K) := envI_of (es := []) trivial trivial
noncomputable def adc_Check_h : Sh := ⟨1, [(0, .ag [.i .i64, .i .i64, .i .i64])], [], []⟩
noncomputable def adc_Check_r : Sh := ⟨1, [(0, .sc (.i .i64))], [], []⟩
noncomputable def adc_Check_g (K : Nat) (l_0_0 : Int) (l_0_1 : Int) (l_0_2 : Int) : Option (Int × Unit) :=
  ((adc_raw_g K 3 (fun j => (selI [l_0_0, l_0_1, l_0_2] j))).bind fun q1 => (bif (!q1.1) then (some (120, ())) else (bif (decide (l_0_2 < 1)) then (some (120, ())) else (some (0, ())))))
noncomputable def adc_Check_o (K : Nat) : FO := fnFO adc_Check_h adc_Check_r fun t => adc_Check_g K t.1 t.2.1 t.2.2.1
theorem adc_Check_q (K : Nat) (t : adc_Check_h.T) : exFn (adc_Check_e0 K) (hdl (adc_Check_e0 K) 0) [15] Try.f15 (slVals (adc_Check_h.put t).fr.sl) ⟨⟨0, []⟩, [], (adc_Check_h.put t).mem⟩ (takeRes adc_Check_r) = adc_Check_g K t.1 t.2.1 t.2.2.1 := by kernel_rfl
theorem adc_Check_ok (K : Nat) : FOok Try.prog 15 (adc_Check_o K) :=
  fn_rule (adc_Check_t0 K) (adc_Check_i0 K) (draws (adc_Check_t0 K)) 0 Try.func15 (fnB_ok Try.func15 (by kernel_rfl)) rfl rfl (allOwn_ok false (by kernel_rfl)) rfl (allOwn_ok true (by kernel_rfl)) (fun t => adc_Check_q K t)
/-! wide_size -/
noncomputable def wide_size_e0 (K : Nat) : Env := ⟨tt, [], [], [], eqs⟩
theorem wide_size_t0 (K : Nat) : EnvT Try.prog (wide_size_e0 K) := envT_of tt_ok eqs_ok trivial
theorem wide_size_i0 (K : Nat) : EnvI Try.prog (wide_size_e0 K) := envI_of (es := []) trivial trivial
noncomputable def wide_size_h : Sh := ⟨1, [(0, .sc (.i .i64))], [], []⟩
noncomputable def wide_size_r : Sh := ⟨1, [(0, .sc (.i .u64))], [], []⟩
noncomputable def wide_size_g (K : Nat) (a_0 : Int) : Option (Int × Unit) :=
  (bif (decide (a_0 < 0)) then (some ((wu64 (0 - (wu64 (a_0)))), ())) else (some ((wu64 (a_0)), ())))
noncomputable def wide_size_o (K : Nat) : FO := fnFO wide_size_h wide_size_r fun t => wide_size_g K t.1
theorem wide_size_q (K : Nat) (t : wide_size_h.T) : exFn (wide_size_e0 K) (hdl (wide_size_e0 K) 0) [57] Try.f57 (slVals (wide_size_h.put t).fr.sl) ⟨⟨0, []⟩, [], (wide_size_h.put t).mem⟩ (takeRes wide_size_r) = wide_size_g K t.1 := by kernel_rfl
theorem wide_size_ok (K : Nat) : FOok Try.prog 57 (wide_size_o K) :=
  fn_rule (wide_size_t0 K) (wide_size_i0 K) (draws (wide_size_t0 K)) 0 Try.func57 (fnB_ok Try.func57 (by kernel_rfl)) rfl rfl (allOwn_ok false (by kernel_rfl)) rfl (allOwn_ok true (by kernel_rfl)) (fun t => wide_size_q K t)
/-! math_bits_Mul64 -/
noncomputable def math_bits_Mul64_e0 (K : Nat) : Env := ⟨tt, [], [], [], eqs⟩
theorem math_bits_Mul64_t0 (K : Nat) : EnvT Try.prog (math_bits_Mul64_e0 K) := envT_of tt_ok eqs_ok trivial
theorem math_bits_Mul64_i0 (K : Nat) : EnvI Try.prog (math_bits_Mul64_e0 K) := envI_of (es := []) trivial trivial
noncomputable def math_bits_Mul64_h : Sh := ⟨2, [(0, .sc (.i .u64)), (1, .sc (.i .u64))], [], []⟩
noncomputable def math_bits_Mul64_r : Sh := ⟨2, [(0, .sc (.i .u64)), (1, .sc (.i .u64))], [], []⟩
noncomputable def math_bits_Mul64_g (K : Nat) (x_0 : Int) (y_1 : Int) : Option (Int × Int × Unit) :=
  (some ((wu64 ((wu64 ((wu64 ((shR .u64 x_0 32) * (shR .u64 y_1 32))) + (shR .u64 (wu64 ((wu64 ((shR .u64 x_0 32) * (bitAnd .u64 y_1 4294967295))) + (shR .u64 (wu64 ((bitAnd .u64 x_0 4294967295) * (bitAnd .u64 y_1 4294967295))) 32))) 32))) + (shR .u64 (wu64 ((bitAnd .u64 (wu64 ((wu64 ((shR .u64 x_0 32) * (bitAnd .u64 y_1 4294967295))) + (shR .u64 (wu64 ((bitAnd .u64 x_0 4294967295) * (bitAnd .u64 y_1 4294967295))) 32))) 4294967295) + (wu64 ((bitAnd .u64 x_0 4294967295) * (shR .u64 y_1 32))))) 32))), (wu64 (x_0 * y_1)), ()))
noncomputable def math_bits_Mul64_o (K : Nat) : FO := fnFO math_bits_Mul64_h math_bits_Mul64_r fun t => math_bits_Mul64_g K t.1 t.2.1
theorem math_bits_Mul64_q (K : Nat) (t : math_bits_Mul64_h.T) : exFn (math_bits_Mul64_e0 K) (hdl (math_bits_Mul64_e0 K) 0) [62] Try.f62 (slVals (math_bits_Mul64_h.put t).fr.sl) ⟨⟨0, []⟩, [], (math_bits_Mul64_h.put t).mem⟩ (takeRes math_bits_Mul64_r) = math_bits_Mul64_g K t.1 t.2.1 := by kernel_rfl
theorem math_bits_Mul64_ok (K : Nat) : FOok Try.prog 62 (math_bits_Mul64_o K) :=
  fn_rule (math_bits_Mul64_t0 K) (math_bits_Mul64_i0 K) (draws (math_bits_Mul64_t0 K)) 0 Try.func62 (fnB_ok Try.func62 (by kernel_rfl)) rfl rfl (allOwn_ok false (by kernel_rfl)) rfl (allOwn_ok true (by kernel_rfl)) (fun t => math_bits_Mul64_q K t)
/-! math_bits_Mul -/
noncomputable def math_bits_Mul_e0 (K : Nat) : Env := ⟨tt, [(62, math_bits_Mul64_o K)], [], [], eqs⟩
theorem math_bits_Mul_t0 (K : Nat) : EnvT Try.prog (math_bits_Mul_e0 K) := envT_of tt_ok eqs_ok ⟨math_bits_Mul64_ok K, trivial⟩
theorem math_bits_Mul_i0 (K : Nat) : EnvI Try.prog (math_bits_Mul_e0 K) := envI_of (es := []) trivial trivial
noncomputable def math_bits_Mul_h : Sh := ⟨2, [(0, .sc (.i .u64)), (1, .sc (.i .u64))], [], []⟩
noncomputable def math_bits_Mul_r : Sh := ⟨2, [(0, .sc (.i .u64)), (1, .sc (.i .u64))], [], []⟩
noncomputable def math_bits_Mul_g (K : Nat) (x_0 : Int) (y_1 : Int) : Option (Int × Int × Unit) :=
  ((math_bits_Mul64_g K x_0 y_1).bind fun q1 => (some (q1.1, q1.2.1, ())))
noncomputable def math_bits_Mul_o (K : Nat) : FO := fnFO math_bits_Mul_h math_bits_Mul_r fun t => math_bits_Mul_g K t.1 t.2.1
theorem math_bits_Mul_q (K : Nat) (t : math_bits_Mul_h.T) : exFn (math_bits_Mul_e0 K) (hdl (math_bits_Mul_e0 K) 0) [56] Try.f56 (slVals (math_bits_Mul_h.put t).fr.sl) ⟨⟨0, []⟩, [], (math_bits_Mul_h.put t).mem⟩ (takeRes math_bits_Mul_r) = math_bits_Mul_g K t.1 t.2.1 := by kernel_rfl
theorem math_bits_Mul_ok (K : Nat) : FOok Try.prog 56 (math_bits_Mul_o K) :=
  fn_rule (math_bits_Mul_t0 K) (math_bits_Mul_i0 K) (draws (math_bits_Mul_t0 K)) 0 Try.func56 (fnB_ok Try.func56 (by kernel_rfl)) rfl rfl (allOwn_ok false (by kernel_rfl)) rfl (allOwn_ok true (by kernel_rfl)) (fun t => math_bits_Mul_q K t)
/-! math_bits_Sub64 -/
theorem math_bits_Sub64_x : ExtOk Try.prog 66 subRow := ⟨Try.f66, Try.func66, by kernel_rfl, by kernel_rfl, by kernel_rfl, by kernel_rfl⟩
noncomputable def math_bits_Sub64_o (K : Nat) : FO := extFO subV
theorem math_bits_Sub64_ok (K : Nat) : FOok Try.prog 66 (math_bits_Sub64_o K) := sub_ok math_bits_Sub64_x
/-! math_bits_Sub -/
noncomputable def math_bits_Sub_e0 (K : Nat) : Env := ⟨tt, [(66, math_bits_Sub64_o K)], [], [], eqs⟩
theorem math_bits_Sub_t0 (K : Nat) : EnvT Try.prog (math_bits_Sub_e0 K) := envT_of tt_ok eqs_ok ⟨math_bits_Sub64_ok K, trivial⟩
theorem math_bits_Sub_i0 (K : Nat) : EnvI Try.prog (math_bits_Sub_e0 K) := envI_of (es := []) trivial trivial
noncomputable def math_bits_Sub_h : Sh := ⟨3, [(0, .sc (.i .u64)), (1, .sc (.i .u64)), (2, .sc (.i .u64))], [], []⟩
noncomputable def math_bits_Sub_r : Sh := ⟨2, [(0, .sc (.i .u64)), (1, .sc (.i .u64))], [], []⟩
noncomputable def math_bits_Sub_g (K : Nat) (x_0 : Int) (y_1 : Int) (borrow_2 : Int) : Option (Int × Int × Unit) :=
  (bif (decide (borrow_2 ≤ 1)) then (some ((Int.ofNat (((Int.toNat x_0) + 18446744073709551616 - (Int.toNat y_1) - (Int.toNat borrow_2)) % 18446744073709551616)), (Int.ofNat (bif Nat.blt (Int.toNat x_0) ((Int.toNat y_1) + (Int.toNat borrow_2)) then 1 else 0)), ())) else none)
noncomputable def math_bits_Sub_o (K : Nat) : FO := fnFO math_bits_Sub_h math_bits_Sub_r fun t => math_bits_Sub_g K t.1 t.2.1 t.2.2.1
theorem math_bits_Sub_q (K : Nat) (t : math_bits_Sub_h.T) : exFn (math_bits_Sub_e0 K) (hdl (math_bits_Sub_e0 K) 0) [63] Try.f63 (slVals (math_bits_Sub_h.put t).fr.sl) ⟨⟨0, []⟩, [], (math_bits_Sub_h.put t).mem⟩ (takeRes math_bits_Sub_r) = math_bits_Sub_g K t.1 t.2.1 t.2.2.1 := by kernel_rfl
theorem math_bits_Sub_ok (K : Nat) : FOok Try.prog 63 (math_bits_Sub_o K) :=
  fn_rule (math_bits_Sub_t0 K) (math_bits_Sub_i0 K) (draws (math_bits_Sub_t0 K)) 0 Try.func63 (fnB_ok Try.func63 (by kernel_rfl)) rfl rfl (allOwn_ok false (by kernel_rfl)) rfl (allOwn_ok true (by kernel_rfl)) (fun t => math_bits_Sub_q K t)
/-! wide_Number_minus -/
noncomputable def wide_Number_minus_e0 (K : Nat) : Env := ⟨tt, [(63, math_bits_Sub_o K)], [], [], eqs⟩
theorem wide_Number_minus_t0 (K : Nat) : EnvT Try.prog (wide_Number_minus_e0 K) := envT_of tt_ok eqs_ok ⟨math_bits_Sub_ok K, trivial⟩
theorem wide_Number_minus_i0 (K : Nat) : EnvI Try.prog (wide_Number_minus_e0 K) := envI_of (es := []) trivial trivial
noncomputable def wide_Number_minus_h : Sh := ⟨1, [(0, .ag [.i .i64, .i .u64])], [], []⟩
noncomputable def wide_Number_minus_r : Sh := ⟨1, [(0, .ag [.i .i64, .i .u64])], [], []⟩
noncomputable def wide_Number_minus_g (K : Nat) (n_0_0 : Int) (n_0_1 : Int) : Option (Int × Int × Unit) :=
  ((math_bits_Sub_g K 0 n_0_1 0).bind fun q1 => ((math_bits_Sub_g K 0 (wu64 (n_0_0)) q1.2.1).bind fun q2 => (some ((wi64 (q2.1)), q1.1, ()))))
noncomputable def wide_Number_minus_o (K : Nat) : FO := fnFO wide_Number_minus_h wide_Number_minus_r fun t => wide_Number_minus_g K t.1 t.2.1
theorem wide_Number_minus_q (K : Nat) (t : wide_Number_minus_h.T) : exFn (wide_Number_minus_e0 K) (hdl (wide_Number_minus_e0 K) 0) [58] Try.f58 (slVals (wide_Number_minus_h.put t).fr.sl) ⟨⟨0, []⟩, [], (wide_Number_minus_h.put t).mem⟩ (takeRes wide_Number_minus_r) = wide_Number_minus_g K t.1 t.2.1 := by kernel_rfl
theorem wide_Number_minus_ok (K : Nat) : FOok Try.prog 58 (wide_Number_minus_o K) :=
  fn_rule (wide_Number_minus_t0 K) (wide_Number_minus_i0 K) (draws (wide_Number_minus_t0 K)) 0 Try.func58 (fnB_ok Try.func58 (by kernel_rfl)) rfl rfl (allOwn_ok false (by kernel_rfl)) rfl (allOwn_ok true (by kernel_rfl)) (fun t => wide_Number_minus_q K t)
/-! wide_Mul -/
noncomputable def wide_Mul_e0 (K : Nat) : Env := ⟨tt, [(57, wide_size_o K), (56, math_bits_Mul_o K), (58, wide_Number_minus_o K)], [], [], eqs⟩
theorem wide_Mul_t0 (K : Nat) : EnvT Try.prog (wide_Mul_e0 K) := envT_of tt_ok eqs_ok ⟨wide_size_ok K, math_bits_Mul_ok K, wide_Number_minus_ok K, trivial⟩
theorem wide_Mul_i0 (K : Nat) : EnvI Try.prog (wide_Mul_e0 K) := envI_of (es := []) trivial trivial
noncomputable def wide_Mul_h : Sh := ⟨2, [(0, .sc (.i .i64)), (1, .sc (.i .i64))], [], []⟩
noncomputable def wide_Mul_r : Sh := ⟨1, [(0, .ag [.i .i64, .i .u64])], [], []⟩
noncomputable def wide_Mul_g (K : Nat) (a_0 : Int) (b_1 : Int) : Option (Int × Int × Unit) :=
  ((wide_size_g K a_0).bind fun q1 => ((wide_size_g K b_1).bind fun q2 => ((math_bits_Mul_g K q1.1 q2.1).bind fun q3 => (bif (!((decide (a_0 < 0)) == (decide (b_1 < 0)))) then ((wide_Number_minus_g K (wi64 (q3.1)) q3.2.1).bind fun q4 => (some (q4.1, q4.2.1, ()))) else (some ((wi64 (q3.1)), q3.2.1, ()))))))
noncomputable def wide_Mul_o (K : Nat) : FO := fnFO wide_Mul_h wide_Mul_r fun t => wide_Mul_g K t.1 t.2.1
theorem wide_Mul_q (K : Nat) (t : wide_Mul_h.T) : exFn (wide_Mul_e0 K) (hdl (wide_Mul_e0 K) 0) [50] Try.f50 (slVals (wide_Mul_h.put t).fr.sl) ⟨⟨0, []⟩, [], (wide_Mul_h.put t).mem⟩ (takeRes wide_Mul_r) = wide_Mul_g K t.1 t.2.1 := by kernel_rfl
theorem wide_Mul_ok (K : Nat) : FOok Try.prog 50 (wide_Mul_o K) :=
  fn_rule (wide_Mul_t0 K) (wide_Mul_i0 K) (draws (wide_Mul_t0 K)) 0 Try.func50 (fnB_ok Try.func50 (by kernel_rfl)) rfl rfl (allOwn_ok false (by kernel_rfl)) rfl (allOwn_ok true (by kernel_rfl)) (fun t => wide_Mul_q K t)
/-! math_bits_Len64 -/
noncomputable def math_bits_Len64_e0 (K : Nat) : Env := ⟨tt, [], [], [], eqs⟩
theorem math_bits_Len64_t0 (K : Nat) : EnvT Try.prog (math_bits_Len64_e0 K) := envT_of tt_ok eqs_ok trivial
theorem math_bits_Len64_i0 (K : Nat) : EnvI Try.prog (math_bits_Len64_e0 K) := envI_of (es := []) trivial trivial
noncomputable def math_bits_Len64_h : Sh := ⟨1, [(0, .sc (.i .u64))], [], []⟩
noncomputable def math_bits_Len64_r : Sh := ⟨1, [(0, .sc (.i .i64))], [], []⟩
noncomputable def math_bits_Len64_g (K : Nat) (x_0 : Int) : Option (Int × Unit) :=
  (bif (decide (x_0 ≥ 4294967296)) then (bif (decide ((shR .u64 x_0 32) ≥ 65536)) then (bif (decide ((shR .u64 (shR .u64 x_0 32) 16) ≥ 256)) then (bif ((decide (0 ≤ (wu8 ((shR .u64 (shR .u64 (shR .u64 x_0 32) 16) 8))))) && (decide ((wu8 ((shR .u64 (shR .u64 (shR .u64 x_0 32) 16) 8))) < 256))) then (some ((wi64 (56 + (wi64 ((((tab0.getD (Int.toNat (wu8 ((shR .u64 (shR .u64 (shR .u64 x_0 32) 16) 8)))) 0).toNat : Nat) : Int))))), ())) else none) else (bif ((decide (0 ≤ (wu8 ((shR .u64 (shR .u64 x_0 32) 16))))) && (decide ((wu8 ((shR .u64 (shR .u64 x_0 32) 16))) < 256))) then (some ((wi64 (48 + (wi64 ((((tab0.getD (Int.toNat (wu8 ((shR .u64 (shR .u64 x_0 32) 16)))) 0).toNat : Nat) : Int))))), ())) else none)) else (bif (decide ((shR .u64 x_0 32) ≥ 256)) then (bif ((decide (0 ≤ (wu8 ((shR .u64 (shR .u64 x_0 32) 8))))) && (decide ((wu8 ((shR .u64 (shR .u64 x_0 32) 8))) < 256))) then (some ((wi64 (40 + (wi64 ((((tab0.getD (Int.toNat (wu8 ((shR .u64 (shR .u64 x_0 32) 8)))) 0).toNat : Nat) : Int))))), ())) else none) else (bif ((decide (0 ≤ (wu8 ((shR .u64 x_0 32))))) && (decide ((wu8 ((shR .u64 x_0 32))) < 256))) then (some ((wi64 (32 + (wi64 ((((tab0.getD (Int.toNat (wu8 ((shR .u64 x_0 32)))) 0).toNat : Nat) : Int))))), ())) else none))) else (bif (decide (x_0 ≥ 65536)) then (bif (decide ((shR .u64 x_0 16) ≥ 256)) then (bif ((decide (0 ≤ (wu8 ((shR .u64 (shR .u64 x_0 16) 8))))) && (decide ((wu8 ((shR .u64 (shR .u64 x_0 16) 8))) < 256))) then (some ((wi64 (24 + (wi64 ((((tab0.getD (Int.toNat (wu8 ((shR .u64 (shR .u64 x_0 16) 8)))) 0).toNat : Nat) : Int))))), ())) else none) else (bif ((decide (0 ≤ (wu8 ((shR .u64 x_0 16))))) && (decide ((wu8 ((shR .u64 x_0 16))) < 256))) then (some ((wi64 (16 + (wi64 ((((tab0.getD (Int.toNat (wu8 ((shR .u64 x_0 16)))) 0).toNat : Nat) : Int))))), ())) else none)) else (bif (decide (x_0 ≥ 256)) then (bif ((decide (0 ≤ (wu8 ((shR .u64 x_0 8))))) && (decide ((wu8 ((shR .u64 x_0 8))) < 256))) then (some ((wi64 (8 + (wi64 ((((tab0.getD (Int.toNat (wu8 ((shR .u64 x_0 8)))) 0).toNat : Nat) : Int))))), ())) else none) else (bif ((decide (0 ≤ (wu8 (x_0)))) && (decide ((wu8 (x_0)) < 256))) then (some ((wi64 (0 + (wi64 ((((tab0.getD (Int.toNat (wu8 (x_0))) 0).toNat : Nat) : Int))))), ())) else none))))
noncomputable def math_bits_Len64_o (K : Nat) : FO := fnFO math_bits_Len64_h math_bits_Len64_r fun t => math_bits_Len64_g K t.1
theorem math_bits_Len64_q (K : Nat) (t : math_bits_Len64_h.T) : exFn (math_bits_Len64_e0 K) (hdl (math_bits_Len64_e0 K) 0) [70] Try.f70 (slVals (math_bits_Len64_h.put t).fr.sl) ⟨⟨0, []⟩, [], (math_bits_Len64_h.put t).mem⟩ (takeRes math_bits_Len64_r) = math_bits_Len64_g K t.1 := by kernel_rfl
theorem math_bits_Len64_ok (K : Nat) : FOok Try.prog 70 (math_bits_Len64_o K) :=
  fn_rule (math_bits_Len64_t0 K) (math_bits_Len64_i0 K) (draws (math_bits_Len64_t0 K)) 0 Try.func70 (fnB_ok Try.func70 (by kernel_rfl)) rfl rfl (allOwn_ok false (by kernel_rfl)) rfl (allOwn_ok true (by kernel_rfl)) (fun t => math_bits_Len64_q K t)
/-! math_bits_LeadingZeros64 -/
noncomputable def math_bits_LeadingZeros64_e0 (K : Nat) : Env := ⟨tt, [(70, math_bits_Len64_o K)], [], [], eqs⟩
theorem math_bits_LeadingZeros64_t0 (K : Nat) : EnvT Try.prog (math_bits_LeadingZeros64_e0 K) := envT_of tt_ok eqs_ok ⟨math_bits_Len64_ok K, trivial⟩
theorem math_bits_LeadingZeros64_i0 (K : Nat) : EnvI Try.prog (math_bits_LeadingZeros64_e0 K) := envI_of (es := []) trivial trivial
noncomputable def math_bits_LeadingZeros64_h : Sh := ⟨1, [(0, .sc (.i .u64))], [], []⟩
noncomputable def math_bits_LeadingZeros64_r : Sh := ⟨1, [(0, .sc (.i .i64))], [], []⟩
noncomputable def math_bits_LeadingZeros64_g (K : Nat) (x_0 : Int) : Option (Int × Unit) :=
  ((math_bits_Len64_g K x_0).bind fun q1 => (some ((wi64 (64 - q1.1)), ())))
noncomputable def math_bits_LeadingZeros64_o (K : Nat) : FO := fnFO math_bits_LeadingZeros64_h math_bits_LeadingZeros64_r fun t => math_bits_LeadingZeros64_g K t.1
theorem math_bits_LeadingZeros64_q (K : Nat) (t : math_bits_LeadingZeros64_h.T) : exFn (math_bits_LeadingZeros64_e0 K) (hdl (math_bits_LeadingZeros64_e0 K) 0) [69] Try.f69 (slVals (math_bits_LeadingZeros64_h.put t).fr.sl) ⟨⟨0, []⟩, [], (math_bits_LeadingZeros64_h.put t).mem⟩ (takeRes math_bits_LeadingZeros64_r) = math_bits_LeadingZeros64_g K t.1 := by kernel_rfl
theorem math_bits_LeadingZeros64_ok (K : Nat) : FOok Try.prog 69 (math_bits_LeadingZeros64_o K) :=
  fn_rule (math_bits_LeadingZeros64_t0 K) (math_bits_LeadingZeros64_i0 K) (draws (math_bits_LeadingZeros64_t0 K)) 0 Try.func69 (fnB_ok Try.func69 (by kernel_rfl)) rfl rfl (allOwn_ok false (by kernel_rfl)) rfl (allOwn_ok true (by kernel_rfl)) (fun t => math_bits_LeadingZeros64_q K t)
/-! math_bits_Div64 -/
noncomputable def math_bits_Div64_e0 (K : Nat) : Env := ⟨tt, [(69, math_bits_LeadingZeros64_o K)], [], [], eqs⟩
theorem math_bits_Div64_t0 (K : Nat) : EnvT Try.prog (math_bits_Div64_e0 K) := envT_of tt_ok eqs_ok ⟨math_bits_LeadingZeros64_ok K, trivial⟩
theorem math_bits_Div64_i0 (K : Nat) : EnvI Try.prog (math_bits_Div64_e0 K) := envI_of (es := []) trivial trivial
noncomputable def math_bits_Div64_l0h : Sh := ⟨135, [(2, .sc (.i .u64)), (8, .sc (.i .u64)), (9, .sc (.i .u64)), (10, .sc (.i .u64)), (11, .sc (.i .u64)), (13, .sc (.i .u64)), (14, .sc (.i .u64)), (15, .sc (.i .u64)), (16, .sc (.i .u64))], [(0, [])], []⟩
noncomputable def math_bits_Div64_l0x0 : Sh := ⟨135, [(2, .sc (.i .u64)), (8, .sc (.i .u64)), (9, .sc (.i .u64)), (10, .sc (.i .u64)), (11, .sc (.i .u64)), (13, .sc (.i .u64)), (14, .sc (.i .u64)), (15, .sc (.i .u64))], [(0, [])], []⟩
noncomputable def math_bits_Div64_l0O : OutI (Int × Int × Int × Int × Int × Int × Int × Int × Unit) := (OutI.exit 0 math_bits_Div64_l0x0)
noncomputable def math_bits_Div64_l0r (K : Nat) (rec : Int → Int → Int → Int → Int → Int → Int → Int → Int → Option (Int × Int × Int × Int × Int × Int × Int × Int × Unit)) (y_2 : Int) (s_8 : Int) (yn1_9 : Int) (yn0_10 : Int) (un32_11 : Int) (un1_13 : Int) (un0_14 : Int) (q1_15 : Int) (rhat_16 : Int) : Option (Int × Int × Int × Int × Int × Int × Int × Int × Unit) :=
  (bif (decide (q1_15 ≥ 4294967296)) then (bif (decide ((wu64 (rhat_16 + yn1_9)) ≥ 4294967296)) then (some (y_2, s_8, yn1_9, yn0_10, un32_11, un1_13, un0_14, (wu64 (q1_15 - 1)), ())) else (rec y_2 s_8 yn1_9 yn0_10 un32_11 un1_13 un0_14 (wu64 (q1_15 - 1)) (wu64 (rhat_16 + yn1_9)))) else (bif (decide ((wu64 (q1_15 * yn0_10)) > (wu64 ((wu64 (4294967296 * rhat_16)) + un1_13)))) then (bif (decide ((wu64 (rhat_16 + yn1_9)) ≥ 4294967296)) then (some (y_2, s_8, yn1_9, yn0_10, un32_11, un1_13, un0_14, (wu64 (q1_15 - 1)), ())) else (rec y_2 s_8 yn1_9 yn0_10 un32_11 un1_13 un0_14 (wu64 (q1_15 - 1)) (wu64 (rhat_16 + yn1_9)))) else (some (y_2, s_8, yn1_9, yn0_10, un32_11, un1_13, un0_14, q1_15, ()))))
noncomputable def math_bits_Div64_l0 (K n : Nat) : Int → Int → Int → Int → Int → Int → Int → Int → Int → Option (Int × Int × Int × Int × Int × Int × Int × Int × Unit) := Nat.rec (motive := fun _ => Int → Int → Int → Int → Int → Int → Int → Int → Int → Option (Int × Int × Int × Int × Int × Int × Int × Int × Unit)) (fun _ _ _ _ _ _ _ _ _ => none) (fun _ ih => math_bits_Div64_l0r K ih) n
noncomputable def math_bits_Div64_l0u (K n : Nat) (t : math_bits_Div64_l0h.T) : Option (Int × Int × Int × Int × Int × Int × Int × Int × Unit) := math_bits_Div64_l0 K n t.1 t.2.1 t.2.2.1 t.2.2.2.1 t.2.2.2.2.1 t.2.2.2.2.2.1 t.2.2.2.2.2.2.1 t.2.2.2.2.2.2.2.1 t.2.2.2.2.2.2.2.2.1
noncomputable def math_bits_Div64_l0o (K : Nat) : LO := loopLO math_bits_Div64_l0h math_bits_Div64_l0O fun t => math_bits_Div64_l0u K K t
noncomputable def math_bits_Div64_l0C : Code := bodyOf Try.f68
noncomputable def math_bits_Div64_l0B : Code := (findLoops 17 (loopsIn math_bits_Div64_l0C)).headD .skip
theorem math_bits_Div64_l0F : findLoops 17 (loopsIn math_bits_Div64_l0C) = [math_bits_Div64_l0B] := by kernel_rfl
theorem math_bits_Div64_l0q (K n : Nat) (t : math_bits_Div64_l0h.T) : exC (math_bits_Div64_e0 K) (hdl (math_bits_Div64_e0 K) 0) (68 :: []) math_bits_Div64_l0B (math_bits_Div64_l0h.put t) (fun s => (math_bits_Div64_l0h.take s).bind fun t => math_bits_Div64_l0u K n t) (fun id s => math_bits_Div64_l0O.get (some id) s) (fun s => math_bits_Div64_l0O.get none s) = math_bits_Div64_l0u K (n + 1) t := by kernel_rfl
noncomputable def math_bits_Div64_l0E (K : Nat) : LoopE Try.prog := ⟨[17, 68], math_bits_Div64_l0o K, Try.f68, math_bits_Div64_l0C, math_bits_Div64_l0B, ⟨17, 68, [], rfl, Try.func68, by kernel_rfl, math_bits_Div64_l0F⟩,
  loop_rule (F := fun n t => math_bits_Div64_l0u K n t) (math_bits_Div64_t0 K) (math_bits_Div64_i0 K) (draws (math_bits_Div64_t0 K)) 0 Try.func68 (c := math_bits_Div64_l0C) (by kernel_rfl) (body_in math_bits_Div64_l0F) (ctx' := []) (h := math_bits_Div64_l0h) (O := math_bits_Div64_l0O) (fun _ => rfl) (fun m t => math_bits_Div64_l0q K m t) K⟩
noncomputable def math_bits_Div64_e1 (K : Nat) : Env := ⟨tt, [(69, math_bits_LeadingZeros64_o K)], [], [([17, 68], math_bits_Div64_l0o K)], eqs⟩
theorem math_bits_Div64_t1 (K : Nat) : EnvT Try.prog (math_bits_Div64_e1 K) := envT_of tt_ok eqs_ok ⟨math_bits_LeadingZeros64_ok K, trivial⟩
theorem math_bits_Div64_i1 (K : Nat) : EnvI Try.prog (math_bits_Div64_e1 K) := envI_of (es := [math_bits_Div64_l0E K]) trivial ⟨⟨rfl, rfl⟩, trivial⟩
noncomputable def math_bits_Div64_l1h : Sh := ⟨135, [(2, .sc (.i .u64)), (8, .sc (.i .u64)), (9, .sc (.i .u64)), (10, .sc (.i .u64)), (14, .sc (.i .u64)), (15, .sc (.i .u64)), (16, .sc (.i .u64)), (17, .sc (.i .u64)), (18, .sc (.i .u64))], [(0, [])], []⟩
noncomputable def math_bits_Div64_l1x0 : Sh := ⟨135, [(2, .sc (.i .u64)), (8, .sc (.i .u64)), (14, .sc (.i .u64)), (15, .sc (.i .u64)), (17, .sc (.i .u64)), (18, .sc (.i .u64))], [(0, [])], []⟩
noncomputable def math_bits_Div64_l1O : OutI (Int × Int × Int × Int × Int × Int × Unit) := (OutI.exit 2 math_bits_Div64_l1x0)
noncomputable def math_bits_Div64_l1r (K : Nat) (rec : Int → Int → Int → Int → Int → Int → Int → Int → Int → Option (Int × Int × Int × Int × Int × Int × Unit)) (y_2 : Int) (s_8 : Int) (yn1_9 : Int) (yn0_10 : Int) (un0_14 : Int) (q1_15 : Int) (rhat_16 : Int) (un21_17 : Int) (q0_18 : Int) : Option (Int × Int × Int × Int × Int × Int × Unit) :=
  (bif (decide (q0_18 ≥ 4294967296)) then (bif (decide ((wu64 (rhat_16 + yn1_9)) ≥ 4294967296)) then (some (y_2, s_8, un0_14, q1_15, un21_17, (wu64 (q0_18 - 1)), ())) else (rec y_2 s_8 yn1_9 yn0_10 un0_14 q1_15 (wu64 (rhat_16 + yn1_9)) un21_17 (wu64 (q0_18 - 1)))) else (bif (decide ((wu64 (q0_18 * yn0_10)) > (wu64 ((wu64 (4294967296 * rhat_16)) + un0_14)))) then (bif (decide ((wu64 (rhat_16 + yn1_9)) ≥ 4294967296)) then (some (y_2, s_8, un0_14, q1_15, un21_17, (wu64 (q0_18 - 1)), ())) else (rec y_2 s_8 yn1_9 yn0_10 un0_14 q1_15 (wu64 (rhat_16 + yn1_9)) un21_17 (wu64 (q0_18 - 1)))) else (some (y_2, s_8, un0_14, q1_15, un21_17, q0_18, ()))))
noncomputable def math_bits_Div64_l1 (K n : Nat) : Int → Int → Int → Int → Int → Int → Int → Int → Int → Option (Int × Int × Int × Int × Int × Int × Unit) := Nat.rec (motive := fun _ => Int → Int → Int → Int → Int → Int → Int → Int → Int → Option (Int × Int × Int × Int × Int × Int × Unit)) (fun _ _ _ _ _ _ _ _ _ => none) (fun _ ih => math_bits_Div64_l1r K ih) n
noncomputable def math_bits_Div64_l1u (K n : Nat) (t : math_bits_Div64_l1h.T) : Option (Int × Int × Int × Int × Int × Int × Unit) := math_bits_Div64_l1 K n t.1 t.2.1 t.2.2.1 t.2.2.2.1 t.2.2.2.2.1 t.2.2.2.2.2.1 t.2.2.2.2.2.2.1 t.2.2.2.2.2.2.2.1 t.2.2.2.2.2.2.2.2.1
noncomputable def math_bits_Div64_l1o (K : Nat) : LO := loopLO math_bits_Div64_l1h math_bits_Div64_l1O fun t => math_bits_Div64_l1u K K t
noncomputable def math_bits_Div64_l1C : Code := bodyOf Try.f68
noncomputable def math_bits_Div64_l1B : Code := (findLoops 24 (loopsIn math_bits_Div64_l1C)).headD .skip
theorem math_bits_Div64_l1F : findLoops 24 (loopsIn math_bits_Div64_l1C) = [math_bits_Div64_l1B] := by kernel_rfl
theorem math_bits_Div64_l1q (K n : Nat) (t : math_bits_Div64_l1h.T) : exC (math_bits_Div64_e1 K) (hdl (math_bits_Div64_e1 K) 0) (68 :: []) math_bits_Div64_l1B (math_bits_Div64_l1h.put t) (fun s => (math_bits_Div64_l1h.take s).bind fun t => math_bits_Div64_l1u K n t) (fun id s => math_bits_Div64_l1O.get (some id) s) (fun s => math_bits_Div64_l1O.get none s) = math_bits_Div64_l1u K (n + 1) t := by kernel_rfl
noncomputable def math_bits_Div64_l1E (K : Nat) : LoopE Try.prog := ⟨[24, 68], math_bits_Div64_l1o K, Try.f68, math_bits_Div64_l1C, math_bits_Div64_l1B, ⟨24, 68, [], rfl, Try.func68, by kernel_rfl, math_bits_Div64_l1F⟩,
  loop_rule (F := fun n t => math_bits_Div64_l1u K n t) (math_bits_Div64_t1 K) (math_bits_Div64_i1 K) (draws (math_bits_Div64_t1 K)) 0 Try.func68 (c := math_bits_Div64_l1C) (by kernel_rfl) (body_in math_bits_Div64_l1F) (ctx' := []) (h := math_bits_Div64_l1h) (O := math_bits_Div64_l1O) (fun _ => rfl) (fun m t => math_bits_Div64_l1q K m t) K⟩
noncomputable def math_bits_Div64_e2 (K : Nat) : Env := ⟨tt, [(69, math_bits_LeadingZeros64_o K)], [], [([17, 68], math_bits_Div64_l0o K), ([24, 68], math_bits_Div64_l1o K)], eqs⟩
theorem math_bits_Div64_t2 (K : Nat) : EnvT Try.prog (math_bits_Div64_e2 K) := envT_of tt_ok eqs_ok ⟨math_bits_LeadingZeros64_ok K, trivial⟩
theorem math_bits_Div64_i2 (K : Nat) : EnvI Try.prog (math_bits_Div64_e2 K) := envI_of (es := [math_bits_Div64_l0E K, math_bits_Div64_l1E K]) trivial ⟨⟨rfl, rfl⟩, ⟨rfl, rfl⟩, trivial⟩
noncomputable def math_bits_Div64_h : Sh := ⟨3, [(0, .sc (.i .u64)), (1, .sc (.i .u64)), (2, .sc (.i .u64))], [], []⟩
noncomputable def math_bits_Div64_r : Sh := ⟨2, [(0, .sc (.i .u64)), (1, .sc (.i .u64))], [], []⟩
noncomputable def math_bits_Div64_g (K : Nat) (hi_0 : Int) (lo_1 : Int) (y_2 : Int) : Option (Int × Int × Unit) :=
  (bif (y_2 == 0) then none else (bif (decide (y_2 ≤ hi_0)) then none else (bif (hi_0 == 0) then (bif (y_2 == 0) then none else (bif (y_2 == 0) then none else (some ((wu64 (Int.tdiv lo_1 y_2)), (Int.tmod lo_1 y_2), ())))) else ((math_bits_LeadingZeros64_g K y_2).bind fun q1 => (bif (decide ((wu64 (q1.1)) < 0)) then none else (bif (decide ((wu64 (q1.1)) < 0)) then none else (bif (decide ((wu64 (64 - (wu64 (q1.1)))) < 0)) then none else (bif (decide ((wu64 (q1.1)) < 0)) then none else (bif ((shR .u64 (shL .u64 y_2 (wu64 (q1.1))) 32) == 0) then none else ((math_bits_Div64_l0 K K (shL .u64 y_2 (wu64 (q1.1))) (wu64 (q1.1)) (shR .u64 (shL .u64 y_2 (wu64 (q1.1))) 32) (bitAnd .u64 (shL .u64 y_2 (wu64 (q1.1))) 4294967295) (bitOr .u64 (shL .u64 hi_0 (wu64 (q1.1))) (shR .u64 lo_1 (wu64 (64 - (wu64 (q1.1)))))) (shR .u64 (shL .u64 lo_1 (wu64 (q1.1))) 32) (bitAnd .u64 (shL .u64 lo_1 (wu64 (q1.1))) 4294967295) (wu64 (Int.tdiv (bitOr .u64 (shL .u64 hi_0 (wu64 (q1.1))) (shR .u64 lo_1 (wu64 (64 - (wu64 (q1.1)))))) (shR .u64 (shL .u64 y_2 (wu64 (q1.1))) 32))) (wu64 ((bitOr .u64 (shL .u64 hi_0 (wu64 (q1.1))) (shR .u64 lo_1 (wu64 (64 - (wu64 (q1.1)))))) - (wu64 ((wu64 (Int.tdiv (bitOr .u64 (shL .u64 hi_0 (wu64 (q1.1))) (shR .u64 lo_1 (wu64 (64 - (wu64 (q1.1)))))) (shR .u64 (shL .u64 y_2 (wu64 (q1.1))) 32))) * (shR .u64 (shL .u64 y_2 (wu64 (q1.1))) 32)))))).bind fun q2 => (bif (q2.2.2.1 == 0) then none else ((math_bits_Div64_l1 K K q2.1 q2.2.1 q2.2.2.1 q2.2.2.2.1 q2.2.2.2.2.2.2.1 q2.2.2.2.2.2.2.2.1 (wu64 ((wu64 ((wu64 ((wu64 (q2.2.2.2.2.1 * 4294967296)) + q2.2.2.2.2.2.1)) - (wu64 (q2.2.2.2.2.2.2.2.1 * q2.1)))) - (wu64 ((wu64 (Int.tdiv (wu64 ((wu64 ((wu64 (q2.2.2.2.2.1 * 4294967296)) + q2.2.2.2.2.2.1)) - (wu64 (q2.2.2.2.2.2.2.2.1 * q2.1)))) q2.2.2.1)) * q2.2.2.1)))) (wu64 ((wu64 ((wu64 (q2.2.2.2.2.1 * 4294967296)) + q2.2.2.2.2.2.1)) - (wu64 (q2.2.2.2.2.2.2.2.1 * q2.1)))) (wu64 (Int.tdiv (wu64 ((wu64 ((wu64 (q2.2.2.2.2.1 * 4294967296)) + q2.2.2.2.2.2.1)) - (wu64 (q2.2.2.2.2.2.2.2.1 * q2.1)))) q2.2.2.1))).bind fun q3 => (bif (decide (q3.2.1 < 0)) then none else (some ((wu64 ((wu64 (q3.2.2.2.1 * 4294967296)) + q3.2.2.2.2.2.1)), (shR .u64 (wu64 ((wu64 ((wu64 (q3.2.2.2.2.1 * 4294967296)) + q3.2.2.1)) - (wu64 (q3.2.2.2.2.2.1 * q3.1)))) q3.2.1), ())))))))))))))))
noncomputable def math_bits_Div64_o (K : Nat) : FO := fnFO math_bits_Div64_h math_bits_Div64_r fun t => math_bits_Div64_g K t.1 t.2.1 t.2.2.1
theorem math_bits_Div64_q (K : Nat) (t : math_bits_Div64_h.T) : exFn (math_bits_Div64_e2 K) (hdl (math_bits_Div64_e2 K) 0) [68] Try.f68 (slVals (math_bits_Div64_h.put t).fr.sl) ⟨⟨0, []⟩, [], (math_bits_Div64_h.put t).mem⟩ (takeRes math_bits_Div64_r) = math_bits_Div64_g K t.1 t.2.1 t.2.2.1 := by kernel_rfl
theorem math_bits_Div64_ok (K : Nat) : FOok Try.prog 68 (math_bits_Div64_o K) :=
  fn_rule (math_bits_Div64_t2 K) (math_bits_Div64_i2 K) (draws (math_bits_Div64_t2 K)) 0 Try.func68 (fnB_ok Try.func68 (by kernel_rfl)) rfl rfl (allOwn_ok false (by kernel_rfl)) rfl (allOwn_ok true (by kernel_rfl)) (fun t => math_bits_Div64_q K t)
/-! math_bits_Div -/
noncomputable def math_bits_Div_e0 (K : Nat) : Env := ⟨tt, [(68, math_bits_Div64_o K)], [], [], eqs⟩
theorem math_bits_Div_t0 (K : Nat) : EnvT Try.prog (math_bits_Div_e0 K) := envT_of tt_ok eqs_ok ⟨math_bits_Div64_ok K, trivial⟩
theorem math_bits_Div_i0 (K : Nat) : EnvI Try.prog (math_bits_Div_e0 K) := envI_of (es := []) trivial trivial
noncomputable def math_bits_Div_h : Sh := ⟨3, [(0, .sc (.i .u64)), (1, .sc (.i .u64)), (2, .sc (.i .u64))], [], []⟩
noncomputable def math_bits_Div_r : Sh := ⟨2, [(0, .sc (.i .u64)), (1, .sc (.i .u64))], [], []⟩
noncomputable def math_bits_Div_g (K : Nat) (hi_0 : Int) (lo_1 : Int) (y_2 : Int) : Option (Int × Int × Unit) :=
  ((math_bits_Div64_g K hi_0 lo_1 y_2).bind fun q1 => (some (q1.1, q1.2.1, ())))
noncomputable def math_bits_Div_o (K : Nat) : FO := fnFO math_bits_Div_h math_bits_Div_r fun t => math_bits_Div_g K t.1 t.2.1 t.2.2.1
theorem math_bits_Div_q (K : Nat) (t : math_bits_Div_h.T) : exFn (math_bits_Div_e0 K) (hdl (math_bits_Div_e0 K) 0) [64] Try.f64 (slVals (math_bits_Div_h.put t).fr.sl) ⟨⟨0, []⟩, [], (math_bits_Div_h.put t).mem⟩ (takeRes math_bits_Div_r) = math_bits_Div_g K t.1 t.2.1 t.2.2.1 := by kernel_rfl
theorem math_bits_Div_ok (K : Nat) : FOok Try.prog 64 (math_bits_Div_o K) :=
  fn_rule (math_bits_Div_t0 K) (math_bits_Div_i0 K) (draws (math_bits_Div_t0 K)) 0 Try.func64 (fnB_ok Try.func64 (by kernel_rfl)) rfl rfl (allOwn_ok false (by kernel_rfl)) rfl (allOwn_ok true (by kernel_rfl)) (fun t => math_bits_Div_q K t)
/-! wide_Number_by -/
noncomputable def wide_Number_by_e0 (K : Nat) : Env := ⟨tt, [(58, wide_Number_minus_o K), (64, math_bits_Div_o K)], [], [], eqs⟩
theorem wide_Number_by_t0 (K : Nat) : EnvT Try.prog (wide_Number_by_e0 K) := envT_of tt_ok eqs_ok ⟨wide_Number_minus_ok K, math_bits_Div_ok K, trivial⟩
theorem wide_Number_by_i0 (K : Nat) : EnvI Try.prog (wide_Number_by_e0 K) := envI_of (es := []) trivial trivial
noncomputable def wide_Number_by_h : Sh := ⟨2, [(0, .ag [.i .i64, .i .u64]), (1, .sc (.i .u64))], [], []⟩
noncomputable def wide_Number_by_r : Sh := ⟨3, [(0, .sc (.i .u64)), (1, .sc (.i .u64)), (2, .sc (.b))], [], []⟩
noncomputable def wide_Number_by_g (K : Nat) (n_0_0 : Int) (n_0_1 : Int) (c_1 : Int) : Option (Int × Int × Bool × Unit) :=
  (bif (decide (n_0_0 < 0)) then ((wide_Number_minus_g K n_0_0 n_0_1).bind fun q1 => (bif (decide ((wu64 (q1.1)) ≥ c_1)) then (some (0, 0, false, ())) else ((math_bits_Div_g K (wu64 (q1.1)) q1.2.1 c_1).bind fun q2 => (some (q2.1, q2.2.1, true, ()))))) else (bif (decide ((wu64 (n_0_0)) ≥ c_1)) then (some (0, 0, false, ())) else ((math_bits_Div_g K (wu64 (n_0_0)) n_0_1 c_1).bind fun q3 => (some (q3.1, q3.2.1, true, ())))))
noncomputable def wide_Number_by_o (K : Nat) : FO := fnFO wide_Number_by_h wide_Number_by_r fun t => wide_Number_by_g K t.1 t.2.1 t.2.2.1
theorem wide_Number_by_q (K : Nat) (t : wide_Number_by_h.T) : exFn (wide_Number_by_e0 K) (hdl (wide_Number_by_e0 K) 0) [59] Try.f59 (slVals (wide_Number_by_h.put t).fr.sl) ⟨⟨0, []⟩, [], (wide_Number_by_h.put t).mem⟩ (takeRes wide_Number_by_r) = wide_Number_by_g K t.1 t.2.1 t.2.2.1 := by kernel_rfl
theorem wide_Number_by_ok (K : Nat) : FOok Try.prog 59 (wide_Number_by_o K) :=
  fn_rule (wide_Number_by_t0 K) (wide_Number_by_i0 K) (draws (wide_Number_by_t0 K)) 0 Try.func59 (fnB_ok Try.func59 (by kernel_rfl)) rfl rfl (allOwn_ok false (by kernel_rfl)) rfl (allOwn_ok true (by kernel_rfl)) (fun t => wide_Number_by_q K t)
/-! wide_signed -/
noncomputable def wide_signed_e0 (K : Nat) : Env := ⟨tt, [], [], [], eqs⟩
theorem wide_signed_t0 (K : Nat) : EnvT Try.prog (wide_signed_e0 K) := envT_of tt_ok eqs_ok trivial
theorem wide_signed_i0 (K : Nat) : EnvI Try.prog (wide_signed_e0 K) := envI_of (es := []) trivial trivial
noncomputable def wide_signed_h : Sh := ⟨2, [(0, .sc (.i .u64)), (1, .sc (.b))], [], []⟩
noncomputable def wide_signed_r : Sh := ⟨2, [(0, .sc (.i .i64)), (1, .sc (.b))], [], []⟩
noncomputable def wide_signed_g (K : Nat) (q_0 : Int) (below_1 : Bool) : Option (Int × Bool × Unit) :=
  (bif below_1 then (some ((wi64 ((wu64 (0 - q_0)))), (decide (q_0 ≤ 9223372036854775808)), ())) else (some ((wi64 (q_0)), (decide (q_0 < 9223372036854775808)), ())))
noncomputable def wide_signed_o (K : Nat) : FO := fnFO wide_signed_h wide_signed_r fun t => wide_signed_g K t.1 t.2.1
theorem wide_signed_q (K : Nat) (t : wide_signed_h.T) : exFn (wide_signed_e0 K) (hdl (wide_signed_e0 K) 0) [60] Try.f60 (slVals (wide_signed_h.put t).fr.sl) ⟨⟨0, []⟩, [], (wide_signed_h.put t).mem⟩ (takeRes wide_signed_r) = wide_signed_g K t.1 t.2.1 := by kernel_rfl
theorem wide_signed_ok (K : Nat) : FOok Try.prog 60 (wide_signed_o K) :=
  fn_rule (wide_signed_t0 K) (wide_signed_i0 K) (draws (wide_signed_t0 K)) 0 Try.func60 (fnB_ok Try.func60 (by kernel_rfl)) rfl rfl (allOwn_ok false (by kernel_rfl)) rfl (allOwn_ok true (by kernel_rfl)) (fun t => wide_signed_q K t)
/-! wide_Near -/
noncomputable def wide_Near_e0 (K : Nat) : Env := ⟨tt, [(59, wide_Number_by_o K), (60, wide_signed_o K)], [(54, Try.f54), (55, Try.f55)], [], eqs⟩
theorem wide_Near_t0 (K : Nat) : EnvT Try.prog (wide_Near_e0 K) := envT_of tt_ok eqs_ok ⟨wide_Number_by_ok K, wide_signed_ok K, trivial⟩
theorem wide_Near_i0 (K : Nat) : EnvI Try.prog (wide_Near_e0 K) := envI_of (es := []) ⟨⟨Try.func54, by kernel_rfl⟩, ⟨Try.func55, by kernel_rfl⟩, trivial⟩ trivial
noncomputable def wide_Near_h : Sh := ⟨2, [(0, .ag [.i .i64, .i .u64]), (1, .sc (.i .i64))], [], []⟩
noncomputable def wide_Near_r : Sh := ⟨2, [(0, .sc (.i .i64)), (1, .sc (.i .i64))], [], []⟩
noncomputable def wide_Near_g (K : Nat) (n_0_0 : Int) (n_0_1 : Int) (c_1 : Int) : Option (Int × Int × Unit) :=
  (bif (decide (c_1 < 1)) then (some (0, 2, ())) else ((wide_Number_by_g K n_0_0 n_0_1 (wu64 (c_1))).bind fun q1 => (bif (!q1.2.2.1) then (some (0, 3, ())) else (bif (decide (q1.1 > 9223372036854775808)) then (some (0, 3, ())) else (bif (decide (q1.2.1 ≥ (wu64 ((wu64 (c_1)) - q1.2.1)))) then ((wide_signed_g K (wu64 (q1.1 + 1)) (decide (n_0_0 < 0))).bind fun q2 => (bif (!q2.2.1) then (some (0, 3, ())) else (some (q2.1, 0, ())))) else ((wide_signed_g K q1.1 (decide (n_0_0 < 0))).bind fun q3 => (bif (!q3.2.1) then (some (0, 3, ())) else (some (q3.1, 0, ())))))))))
noncomputable def wide_Near_o (K : Nat) : FO := fnFO wide_Near_h wide_Near_r fun t => wide_Near_g K t.1 t.2.1 t.2.2.1
theorem wide_Near_q (K : Nat) (t : wide_Near_h.T) : exFn (wide_Near_e0 K) (hdl (wide_Near_e0 K) 9) [49] Try.f49 (slVals (wide_Near_h.put t).fr.sl) ⟨⟨0, []⟩, [], (wide_Near_h.put t).mem⟩ (takeRes wide_Near_r) = wide_Near_g K t.1 t.2.1 t.2.2.1 := by kernel_rfl
theorem wide_Near_ok (K : Nat) : FOok Try.prog 49 (wide_Near_o K) :=
  fn_rule (wide_Near_t0 K) (wide_Near_i0 K) (draws (wide_Near_t0 K)) 9 Try.func49 (fnB_ok Try.func49 (by kernel_rfl)) rfl rfl (allOwn_ok false (by kernel_rfl)) rfl (allOwn_ok true (by kernel_rfl)) (fun t => wide_Near_q K t)
/-! wide_MulNear -/
noncomputable def wide_MulNear_e0 (K : Nat) : Env := ⟨tt, [(50, wide_Mul_o K), (49, wide_Near_o K)], [], [], eqs⟩
theorem wide_MulNear_t0 (K : Nat) : EnvT Try.prog (wide_MulNear_e0 K) := envT_of tt_ok eqs_ok ⟨wide_Mul_ok K, wide_Near_ok K, trivial⟩
theorem wide_MulNear_i0 (K : Nat) : EnvI Try.prog (wide_MulNear_e0 K) := envI_of (es := []) trivial trivial
noncomputable def wide_MulNear_h : Sh := ⟨3, [(0, .sc (.i .i64)), (1, .sc (.i .i64)), (2, .sc (.i .i64))], [], []⟩
noncomputable def wide_MulNear_r : Sh := ⟨2, [(0, .sc (.i .i64)), (1, .sc (.i .i64))], [], []⟩
noncomputable def wide_MulNear_g (K : Nat) (a_0 : Int) (b_1 : Int) (c_2 : Int) : Option (Int × Int × Unit) :=
  ((wide_Mul_g K a_0 b_1).bind fun q1 => ((wide_Near_g K q1.1 q1.2.1 c_2).bind fun q2 => (some (q2.1, q2.2.1, ()))))
noncomputable def wide_MulNear_o (K : Nat) : FO := fnFO wide_MulNear_h wide_MulNear_r fun t => wide_MulNear_g K t.1 t.2.1 t.2.2.1
theorem wide_MulNear_q (K : Nat) (t : wide_MulNear_h.T) : exFn (wide_MulNear_e0 K) (hdl (wide_MulNear_e0 K) 0) [40] Try.f40 (slVals (wide_MulNear_h.put t).fr.sl) ⟨⟨0, []⟩, [], (wide_MulNear_h.put t).mem⟩ (takeRes wide_MulNear_r) = wide_MulNear_g K t.1 t.2.1 t.2.2.1 := by kernel_rfl
theorem wide_MulNear_ok (K : Nat) : FOok Try.prog 40 (wide_MulNear_o K) :=
  fn_rule (wide_MulNear_t0 K) (wide_MulNear_i0 K) (draws (wide_MulNear_t0 K)) 0 Try.func40 (fnB_ok Try.func40 (by kernel_rfl)) rfl rfl (allOwn_ok false (by kernel_rfl)) rfl (allOwn_ok true (by kernel_rfl)) (fun t => wide_MulNear_q K t)
/-! fx_bound -/
noncomputable def fx_bound_e0 (K : Nat) : Env := ⟨tt, [], [], [], eqs⟩
theorem fx_bound_t0 (K : Nat) : EnvT Try.prog (fx_bound_e0 K) := envT_of tt_ok eqs_ok trivial
theorem fx_bound_i0 (K : Nat) : EnvI Try.prog (fx_bound_e0 K) := envI_of (es := []) trivial trivial
noncomputable def fx_bound_h : Sh := ⟨1, [(0, .sc (.i .i64))], [], []⟩
noncomputable def fx_bound_r : Sh := ⟨1, [(0, .sc (.i .i64))], [], []⟩
noncomputable def fx_bound_g (K : Nat) (b_0 : Int) : Option (Int × Unit) :=
  (bif (decide (b_0 < 1)) then (some (2, ())) else (bif (decide (b_0 > 2305843009213693952)) then (some (2, ())) else (some (0, ()))))
noncomputable def fx_bound_o (K : Nat) : FO := fnFO fx_bound_h fx_bound_r fun t => fx_bound_g K t.1
theorem fx_bound_q (K : Nat) (t : fx_bound_h.T) : exFn (fx_bound_e0 K) (hdl (fx_bound_e0 K) 0) [51] Try.f51 (slVals (fx_bound_h.put t).fr.sl) ⟨⟨0, []⟩, [], (fx_bound_h.put t).mem⟩ (takeRes fx_bound_r) = fx_bound_g K t.1 := by kernel_rfl
theorem fx_bound_ok (K : Nat) : FOok Try.prog 51 (fx_bound_o K) :=
  fn_rule (fx_bound_t0 K) (fx_bound_i0 K) (draws (fx_bound_t0 K)) 0 Try.func51 (fnB_ok Try.func51 (by kernel_rfl)) rfl rfl (allOwn_ok false (by kernel_rfl)) rfl (allOwn_ok true (by kernel_rfl)) (fun t => fx_bound_q K t)
/-! fx_Between -/
noncomputable def fx_Between_e0 (K : Nat) : Env := ⟨tt, [], [], [], eqs⟩
theorem fx_Between_t0 (K : Nat) : EnvT Try.prog (fx_Between_e0 K) := envT_of tt_ok eqs_ok trivial
theorem fx_Between_i0 (K : Nat) : EnvI Try.prog (fx_Between_e0 K) := envI_of (es := []) trivial trivial
noncomputable def fx_Between_h : Sh := ⟨3, [(0, .sc (.i .i64)), (1, .sc (.i .i64)), (2, .sc (.i .i64))], [], []⟩
noncomputable def fx_Between_r : Sh := ⟨1, [(0, .sc (.i .i64))], [], []⟩
noncomputable def fx_Between_g (K : Nat) (low_0 : Int) (high_1 : Int) (n_2 : Int) : Option (Int × Unit) :=
  (bif (decide (n_2 < low_0)) then (some (low_0, ())) else (bif (decide (n_2 > high_1)) then (some (high_1, ())) else (some (n_2, ()))))
noncomputable def fx_Between_o (K : Nat) : FO := fnFO fx_Between_h fx_Between_r fun t => fx_Between_g K t.1 t.2.1 t.2.2.1
theorem fx_Between_q (K : Nat) (t : fx_Between_h.T) : exFn (fx_Between_e0 K) (hdl (fx_Between_e0 K) 0) [52] Try.f52 (slVals (fx_Between_h.put t).fr.sl) ⟨⟨0, []⟩, [], (fx_Between_h.put t).mem⟩ (takeRes fx_Between_r) = fx_Between_g K t.1 t.2.1 t.2.2.1 := by kernel_rfl
theorem fx_Between_ok (K : Nat) : FOok Try.prog 52 (fx_Between_o K) :=
  fn_rule (fx_Between_t0 K) (fx_Between_i0 K) (draws (fx_Between_t0 K)) 0 Try.func52 (fnB_ok Try.func52 (by kernel_rfl)) rfl rfl (allOwn_ok false (by kernel_rfl)) rfl (allOwn_ok true (by kernel_rfl)) (fun t => fx_Between_q K t)
/-! fx_Clamp -/
noncomputable def fx_Clamp_e0 (K : Nat) : Env := ⟨tt, [(51, fx_bound_o K), (52, fx_Between_o K)], [], [], eqs⟩
theorem fx_Clamp_t0 (K : Nat) : EnvT Try.prog (fx_Clamp_e0 K) := envT_of tt_ok eqs_ok ⟨fx_bound_ok K, fx_Between_ok K, trivial⟩
theorem fx_Clamp_i0 (K : Nat) : EnvI Try.prog (fx_Clamp_e0 K) := envI_of (es := []) trivial trivial
noncomputable def fx_Clamp_h : Sh := ⟨2, [(0, .sc (.i .i64)), (1, .sc (.i .i64))], [], []⟩
noncomputable def fx_Clamp_r : Sh := ⟨2, [(0, .sc (.i .i64)), (1, .sc (.i .i64))], [], []⟩
noncomputable def fx_Clamp_g (K : Nat) (b_0 : Int) (n_1 : Int) : Option (Int × Int × Unit) :=
  ((fx_bound_g K b_0).bind fun q1 => (bif (q1.1 != 0) then (some (0, q1.1, ())) else ((fx_Between_g K (wi64 (0 - b_0)) b_0 n_1).bind fun q2 => (some (q2.1, 0, ())))))
noncomputable def fx_Clamp_o (K : Nat) : FO := fnFO fx_Clamp_h fx_Clamp_r fun t => fx_Clamp_g K t.1 t.2.1
theorem fx_Clamp_q (K : Nat) (t : fx_Clamp_h.T) : exFn (fx_Clamp_e0 K) (hdl (fx_Clamp_e0 K) 0) [41] Try.f41 (slVals (fx_Clamp_h.put t).fr.sl) ⟨⟨0, []⟩, [], (fx_Clamp_h.put t).mem⟩ (takeRes fx_Clamp_r) = fx_Clamp_g K t.1 t.2.1 := by kernel_rfl
theorem fx_Clamp_ok (K : Nat) : FOok Try.prog 41 (fx_Clamp_o K) :=
  fn_rule (fx_Clamp_t0 K) (fx_Clamp_i0 K) (draws (fx_Clamp_t0 K)) 0 Try.func41 (fnB_ok Try.func41 (by kernel_rfl)) rfl rfl (allOwn_ok false (by kernel_rfl)) rfl (allOwn_ok true (by kernel_rfl)) (fun t => fx_Clamp_q K t)
/-! adc_told_unit -/
noncomputable def adc_told_unit_e0 (K : Nat) : Env := ⟨tt, [(40, wide_MulNear_o K), (41, fx_Clamp_o K)], [], [], eqs⟩
theorem adc_told_unit_t0 (K : Nat) : EnvT Try.prog (adc_told_unit_e0 K) := envT_of tt_ok eqs_ok ⟨wide_MulNear_ok K, fx_Clamp_ok K, trivial⟩
theorem adc_told_unit_i0 (K : Nat) : EnvI Try.prog (adc_told_unit_e0 K) := envI_of (es := []) trivial trivial
noncomputable def adc_told_unit_h : Sh := ⟨1, [(0, .ag [.i .i64, .i .i64, .i .i64, .i .i64])], [], []⟩
noncomputable def adc_told_unit_r : Sh := ⟨1, [(0, .sc (.i .i64))], [], []⟩
noncomputable def adc_told_unit_g (K : Nat) (t_0_0 : Int) (t_0_1 : Int) (t_0_2 : Int) (t_0_3 : Int) : Option (Int × Unit) :=
  ((wide_MulNear_g K (wi64 (t_0_3 - t_0_0)) t_0_1 t_0_2).bind fun q1 => ((fx_Clamp_g K 2147483648 q1.1).bind fun q2 => (some (q2.1, ()))))
noncomputable def adc_told_unit_gu (K : Nat) (t : adc_told_unit_h.T) : Option (Int × Unit) := adc_told_unit_g K t.1 t.2.1 t.2.2.1 t.2.2.2.1
noncomputable def adc_told_unit_o (K : Nat) : FO := fnFO adc_told_unit_h adc_told_unit_r fun t => adc_told_unit_gu K t
theorem adc_told_unit_q (K : Nat) (t : adc_told_unit_h.T) : exFn (adc_told_unit_e0 K) (hdl (adc_told_unit_e0 K) 0) [30] Try.f30 (slVals (adc_told_unit_h.put t).fr.sl) ⟨⟨0, []⟩, [], (adc_told_unit_h.put t).mem⟩ (takeRes adc_told_unit_r) = adc_told_unit_gu K t := by kernel_rfl
theorem adc_told_unit_ok (K : Nat) : FOok Try.prog 30 (adc_told_unit_o K) :=
  fn_rule (adc_told_unit_t0 K) (adc_told_unit_i0 K) (draws (adc_told_unit_t0 K)) 0 Try.func30 (fnB_ok Try.func30 (by kernel_rfl)) rfl rfl (allOwn_ok false (by kernel_rfl)) rfl (allOwn_ok true (by kernel_rfl)) (fun t => adc_told_unit_q K t)
/-! adc_Unit -/
noncomputable def adc_Unit_e0 (K : Nat) : Env := ⟨tt, [(15, adc_Check_o K), (26, adc_raw_o K), (30, adc_told_unit_o K)], [], [], eqs⟩
theorem adc_Unit_t0 (K : Nat) : EnvT Try.prog (adc_Unit_e0 K) := envT_of tt_ok eqs_ok ⟨adc_Check_ok K, adc_raw_ok K, adc_told_unit_ok K, trivial⟩
theorem adc_Unit_i0 (K : Nat) : EnvI Try.prog (adc_Unit_e0 K) := envI_of (es := []) trivial trivial
noncomputable def adc_Unit_h : Sh := ⟨2, [(0, .ag [.i .i64, .i .i64, .i .i64]), (1, .sc (.i .i64))], [], []⟩
noncomputable def adc_Unit_r : Sh := ⟨2, [(0, .sc (.i .i64)), (1, .sc (.i .i64))], [], []⟩
noncomputable def adc_Unit_g (K : Nat) (l_0_0 : Int) (l_0_1 : Int) (l_0_2 : Int) (count_1 : Int) : Option (Int × Int × Unit) :=
  ((adc_Check_g K l_0_0 l_0_1 l_0_2).bind fun q1 => (bif (q1.1 != 0) then (some (0, q1.1, ())) else ((adc_raw_g K 1 (fun j => (selI [count_1] j))).bind fun q2 => (bif (!q2.1) then (some (0, 2, ())) else ((adc_told_unit_g K l_0_0 l_0_1 l_0_2 count_1).bind fun q3 => (some (q3.1, 0, ())))))))
noncomputable def adc_Unit_gu (K : Nat) (t : adc_Unit_h.T) : Option (Int × Int × Unit) := adc_Unit_g K t.1 t.2.1 t.2.2.1 t.2.2.2.1
noncomputable def adc_Unit_o (K : Nat) : FO := fnFO adc_Unit_h adc_Unit_r fun t => adc_Unit_gu K t
theorem adc_Unit_q (K : Nat) (t : adc_Unit_h.T) : exFn (adc_Unit_e0 K) (hdl (adc_Unit_e0 K) 0) [17] Try.f17 (slVals (adc_Unit_h.put t).fr.sl) ⟨⟨0, []⟩, [], (adc_Unit_h.put t).mem⟩ (takeRes adc_Unit_r) = adc_Unit_gu K t := by kernel_rfl
theorem adc_Unit_ok (K : Nat) : FOok Try.prog 17 (adc_Unit_o K) :=
  fn_rule (adc_Unit_t0 K) (adc_Unit_i0 K) (draws (adc_Unit_t0 K)) 0 Try.func17 (fnB_ok Try.func17 (by kernel_rfl)) rfl rfl (allOwn_ok false (by kernel_rfl)) rfl (allOwn_ok true (by kernel_rfl)) (fun t => adc_Unit_q K t)
/-! rheostatlaw12_works -/
noncomputable def rheostatlaw12_works_e0 (K : Nat) : Env := ⟨tt, [(17, adc_Unit_o K), (11, adc_Mean_o K), (15, adc_Check_o K)], [], [], eqs⟩
theorem rheostatlaw12_works_t0 (K : Nat) : EnvT Try.prog (rheostatlaw12_works_e0 K) := envT_of tt_ok eqs_ok ⟨adc_Unit_ok K, adc_Mean_ok K, adc_Check_ok K, trivial⟩
theorem rheostatlaw12_works_i0 (K : Nat) : EnvI Try.prog (rheostatlaw12_works_e0 K) := envI_of (es := []) trivial trivial
noncomputable def rheostatlaw12_works_h : Sh := ⟨0, [], [], []⟩
noncomputable def rheostatlaw12_works_r : Sh := ⟨1, [(0, .sc (.b))], [], []⟩
noncomputable def rheostatlaw12_works_g (K : Nat)  : Option (Bool × Unit) :=
  ((adc_Unit_g K 100 5 2 103).bind fun q1 => ((adc_Unit_g K 100 5 2 99).bind fun q2 => ((adc_Mean_g K 2 (fun j => (selI [1, 2] j))).bind fun q3 => (bif (q1.1 == 8) then (bif (q1.2.1 == 0) then (bif (q2.1 == (-3)) then (bif (q3.1 == 2) then (bif (q3.2.1 == 0) then ((adc_Check_g K 100 5 2).bind fun q4 => (some ((q4.1 == 0), ()))) else (some (false, ()))) else (some (false, ()))) else (some (false, ()))) else (some (false, ()))) else (some (false, ()))))))
noncomputable def rheostatlaw12_works_o (K : Nat) : FO := fnFO rheostatlaw12_works_h rheostatlaw12_works_r fun t => rheostatlaw12_works_g K
theorem rheostatlaw12_works_q (K : Nat) (t : rheostatlaw12_works_h.T) : exFn (rheostatlaw12_works_e0 K) (hdl (rheostatlaw12_works_e0 K) 0) [14] Try.f14 (slVals (rheostatlaw12_works_h.put t).fr.sl) ⟨⟨0, []⟩, [], (rheostatlaw12_works_h.put t).mem⟩ (takeRes rheostatlaw12_works_r) = rheostatlaw12_works_g K := by kernel_rfl
theorem rheostatlaw12_works_ok (K : Nat) : FOok Try.prog 14 (rheostatlaw12_works_o K) :=
  fn_rule (rheostatlaw12_works_t0 K) (rheostatlaw12_works_i0 K) (draws (rheostatlaw12_works_t0 K)) 0 Try.func14 (fnB_ok Try.func14 (by kernel_rfl)) rfl rfl (allOwn_ok false (by kernel_rfl)) rfl (allOwn_ok true (by kernel_rfl)) (fun t => rheostatlaw12_works_q K t)
/-! rheostatlaw12_AdcMeans -/
noncomputable def rheostatlaw12_AdcMeans_e0 (K : Nat) : Env := ⟨tt, [(10, rheostatbase_Ints_o K), (11, adc_Mean_o K), (12, rheostatref12_Mean_o K), (13, rheostatbase_SameInts_o K), (14, rheostatlaw12_works_o K)], [(9, Try.f9)], [], eqs⟩
theorem rheostatlaw12_AdcMeans_t0 (K : Nat) : EnvT Try.prog (rheostatlaw12_AdcMeans_e0 K) := envT_of tt_ok eqs_ok ⟨rheostatbase_Ints_ok K, adc_Mean_ok K, rheostatref12_Mean_ok K, rheostatbase_SameInts_ok K, rheostatlaw12_works_ok K, trivial⟩
theorem rheostatlaw12_AdcMeans_i0 (K : Nat) : EnvI Try.prog (rheostatlaw12_AdcMeans_e0 K) := envI_of (es := []) ⟨⟨Try.func9, by kernel_rfl⟩, trivial⟩ trivial
noncomputable def rheostatlaw12_AdcMeans_g (K : Nat) (counts_0n : Nat) (m0_0 : (Nat → Int)) : Option Bool :=
  (bif ((decide (0 ≤ (bif (decide (257 < ((counts_0n : Nat) : Int))) then 257 else ((counts_0n : Nat) : Int)))) && (decide ((bif (decide (257 < ((counts_0n : Nat) : Int))) then 257 else ((counts_0n : Nat) : Int)) ≤ ((counts_0n : Nat) : Int)))) then ((rheostatbase_Ints_g K (Int.toNat (bif (decide (257 < ((counts_0n : Nat) : Int))) then 257 else ((counts_0n : Nat) : Int))) m0_0).bind fun q1 => ((adc_Mean_g K q1.1 q1.2.1).bind fun q2 => ((rheostatref12_Mean_g K (Int.toNat (bif (decide (257 < ((counts_0n : Nat) : Int))) then 257 else ((counts_0n : Nat) : Int))) m0_0).bind fun q3 => (bif (q2.1 == q3.1) then (bif (q2.2.1 == q3.2.1) then ((rheostatbase_SameInts_g K q1.1 (Int.toNat (bif (decide (257 < ((counts_0n : Nat) : Int))) then 257 else ((counts_0n : Nat) : Int))) q1.2.1 m0_0).bind fun q4 => (bif q4.1 then ((rheostatlaw12_works_g K).bind fun q5 => (some q5.1)) else (some false))) else (some false)) else (some false))))) else none)
noncomputable def rheostatlaw12_AdcMeans_ps : List (Bool × List WC) := [(false, [.slc [.i .i64]])]
theorem rheostatlaw12_AdcMeans_q (K : Nat) (t : (shOf rheostatlaw12_AdcMeans_ps).T) : exFn (rheostatlaw12_AdcMeans_e0 K) (hdl (rheostatlaw12_AdcMeans_e0 K) 9) [3] Try.f3 (slVals ((shOf rheostatlaw12_AdcMeans_ps).put t).fr.sl) ⟨⟨0, []⟩, [], ((shOf rheostatlaw12_AdcMeans_ps).put t).mem⟩ outBool = rheostatlaw12_AdcMeans_g K t.1 t.2.1 := by kernel_rfl
theorem rheostatlaw12_AdcMeans_call (K : Nat) (hb : ∀ t : (shOf rheostatlaw12_AdcMeans_ps).T, argsBnd rheostatlaw12_AdcMeans_ps t → rheostatlaw12_AdcMeans_g K t.1 t.2.1 = some true) {w : World} {vals : List Value} (hp : PFits w rheostatlaw12_AdcMeans_ps vals) :
    Calls Try.prog 3 vals.toArray w fun e w' => e = .returned (.bool true) ∧ RowKit.Below w.heap.size w w' :=
  call_of (rheostatlaw12_AdcMeans_t0 K) (rheostatlaw12_AdcMeans_i0 K) (draws (rheostatlaw12_AdcMeans_t0 K)) 9 Try.func3 (by kernel_rfl) (by kernel_rfl) outBool_true (fun t ht => (rheostatlaw12_AdcMeans_q K t).trans (hb t ht)) hp
/-! rheostatbase_Among -/
noncomputable def rheostatbase_Among_e0 (K : Nat) : Env := ⟨tt, [], [], [], eqs⟩
theorem rheostatbase_Among_t0 (K : Nat) : EnvT Try.prog (rheostatbase_Among_e0 K) := envT_of tt_ok eqs_ok trivial
theorem rheostatbase_Among_i0 (K : Nat) : EnvI Try.prog (rheostatbase_Among_e0 K) := envI_of (es := []) trivial trivial
noncomputable def rheostatbase_Among_h : Sh := ⟨2, [(0, .sc (.i .i64)), (1, .sc (.i .i64))], [], []⟩
noncomputable def rheostatbase_Among_r : Sh := ⟨1, [(0, .sc (.i .i64))], [], []⟩
noncomputable def rheostatbase_Among_g (K : Nat) (x_0 : Int) (n_1 : Int) : Option (Int × Unit) :=
  (bif (decide (n_1 < 1)) then (some (0, ())) else (bif ((wu64 (n_1)) == 0) then none else (some ((wi64 ((Int.tmod (wu64 (x_0)) (wu64 (n_1))))), ()))))
noncomputable def rheostatbase_Among_o (K : Nat) : FO := fnFO rheostatbase_Among_h rheostatbase_Among_r fun t => rheostatbase_Among_g K t.1 t.2.1
theorem rheostatbase_Among_q (K : Nat) (t : rheostatbase_Among_h.T) : exFn (rheostatbase_Among_e0 K) (hdl (rheostatbase_Among_e0 K) 0) [16] Try.f16 (slVals (rheostatbase_Among_h.put t).fr.sl) ⟨⟨0, []⟩, [], (rheostatbase_Among_h.put t).mem⟩ (takeRes rheostatbase_Among_r) = rheostatbase_Among_g K t.1 t.2.1 := by kernel_rfl
theorem rheostatbase_Among_ok (K : Nat) : FOok Try.prog 16 (rheostatbase_Among_o K) :=
  fn_rule (rheostatbase_Among_t0 K) (rheostatbase_Among_i0 K) (draws (rheostatbase_Among_t0 K)) 0 Try.func16 (fnB_ok Try.func16 (by kernel_rfl)) rfl rfl (allOwn_ok false (by kernel_rfl)) rfl (allOwn_ok true (by kernel_rfl)) (fun t => rheostatbase_Among_q K t)
/-! rheostatlaw12_AdcRises -/
noncomputable def rheostatlaw12_AdcRises_e0 (K : Nat) : Env := ⟨tt, [(14, rheostatlaw12_works_o K), (15, adc_Check_o K), (16, rheostatbase_Among_o K), (17, adc_Unit_o K)], [], [], eqs⟩
theorem rheostatlaw12_AdcRises_t0 (K : Nat) : EnvT Try.prog (rheostatlaw12_AdcRises_e0 K) := envT_of tt_ok eqs_ok ⟨rheostatlaw12_works_ok K, adc_Check_ok K, rheostatbase_Among_ok K, adc_Unit_ok K, trivial⟩
theorem rheostatlaw12_AdcRises_i0 (K : Nat) : EnvI Try.prog (rheostatlaw12_AdcRises_e0 K) := envI_of (es := []) trivial trivial
noncomputable def rheostatlaw12_AdcRises_g (K : Nat) (l_0_0 : Int) (l_0_1 : Int) (l_0_2 : Int) (x_1 : Int) (y_2 : Int) : Option Bool :=
  ((rheostatlaw12_works_g K).bind fun q1 => (bif (!q1.1) then (some false) else ((adc_Check_g K l_0_0 l_0_1 l_0_2).bind fun q2 => (bif (q2.1 != 0) then (some true) else ((rheostatbase_Among_g K x_1 2097153).bind fun q3 => ((rheostatbase_Among_g K y_2 2097153).bind fun q4 => ((adc_Unit_g K l_0_0 l_0_1 l_0_2 l_0_0).bind fun q5 => ((adc_Unit_g K l_0_0 l_0_1 l_0_2 (bif (decide ((wi64 (q4.1 - 1048576)) < (wi64 (q3.1 - 1048576)))) then (wi64 (q4.1 - 1048576)) else (wi64 (q3.1 - 1048576)))).bind fun q6 => ((adc_Unit_g K l_0_0 l_0_1 l_0_2 (bif (decide ((wi64 (q4.1 - 1048576)) > (wi64 (q3.1 - 1048576)))) then (wi64 (q4.1 - 1048576)) else (wi64 (q3.1 - 1048576)))).bind fun q7 => (bif (q5.1 == 0) then (bif (q5.2.1 == 0) then (bif (q6.2.1 == 0) then (bif (q7.2.1 == 0) then (bif (decide (l_0_1 < 0)) then (bif (decide (l_0_1 > 0)) then (some true) else (some (decide (q6.1 ≥ q7.1)))) else (bif (decide (q6.1 ≤ q7.1)) then (bif (decide (l_0_1 > 0)) then (some true) else (some (decide (q6.1 ≥ q7.1)))) else (some false))) else (some false)) else (some false)) else (some false)) else (some false)))))))))))
noncomputable def rheostatlaw12_AdcRises_ps : List (Bool × List WC) := [(true, [.sc (.i .i64), .sc (.i .i64), .sc (.i .i64)]), (false, [.sc (.i .i64)]), (false, [.sc (.i .i64)])]
theorem rheostatlaw12_AdcRises_q (K : Nat) (t : (shOf rheostatlaw12_AdcRises_ps).T) : exFn (rheostatlaw12_AdcRises_e0 K) (hdl (rheostatlaw12_AdcRises_e0 K) 0) [4] Try.f4 (slVals ((shOf rheostatlaw12_AdcRises_ps).put t).fr.sl) ⟨⟨0, []⟩, [], ((shOf rheostatlaw12_AdcRises_ps).put t).mem⟩ outBool = rheostatlaw12_AdcRises_g K t.1 t.2.1 t.2.2.1 t.2.2.2.1 t.2.2.2.2.1 := by kernel_rfl
theorem rheostatlaw12_AdcRises_call (K : Nat) (hb : ∀ t : (shOf rheostatlaw12_AdcRises_ps).T, argsBnd rheostatlaw12_AdcRises_ps t → rheostatlaw12_AdcRises_g K t.1 t.2.1 t.2.2.1 t.2.2.2.1 t.2.2.2.2.1 = some true) {w : World} {vals : List Value} (hp : PFits w rheostatlaw12_AdcRises_ps vals) :
    Calls Try.prog 4 vals.toArray w fun e w' => e = .returned (.bool true) ∧ RowKit.Below w.heap.size w w' :=
  call_of (rheostatlaw12_AdcRises_t0 K) (rheostatlaw12_AdcRises_i0 K) (draws (rheostatlaw12_AdcRises_t0 K)) 0 Try.func4 (by kernel_rfl) (by kernel_rfl) outBool_true (fun t ht => (rheostatlaw12_AdcRises_q K t).trans (hb t ht)) hp
/-! adc_Reach -/
noncomputable def adc_Reach_e0 (K : Nat) : Env := ⟨tt, [(15, adc_Check_o K), (30, adc_told_unit_o K)], [], [], eqs⟩
theorem adc_Reach_t0 (K : Nat) : EnvT Try.prog (adc_Reach_e0 K) := envT_of tt_ok eqs_ok ⟨adc_Check_ok K, adc_told_unit_ok K, trivial⟩
theorem adc_Reach_i0 (K : Nat) : EnvI Try.prog (adc_Reach_e0 K) := envI_of (es := []) trivial trivial
noncomputable def adc_Reach_h : Sh := ⟨1, [(0, .ag [.i .i64, .i .i64, .i .i64])], [], []⟩
noncomputable def adc_Reach_r : Sh := ⟨3, [(0, .sc (.i .i64)), (1, .sc (.i .i64)), (2, .sc (.i .i64))], [], []⟩
noncomputable def adc_Reach_g (K : Nat) (l_0_0 : Int) (l_0_1 : Int) (l_0_2 : Int) : Option (Int × Int × Int × Unit) :=
  ((adc_Check_g K l_0_0 l_0_1 l_0_2).bind fun q1 => (bif (q1.1 != 0) then (some (0, 0, q1.1, ())) else ((adc_told_unit_g K l_0_0 l_0_1 l_0_2 (-1048576)).bind fun q2 => ((adc_told_unit_g K l_0_0 l_0_1 l_0_2 1048576).bind fun q3 => (some ((bif (decide (q3.1 < q2.1)) then q3.1 else q2.1), (bif (decide (q3.1 > q2.1)) then q3.1 else q2.1), 0, ()))))))
noncomputable def adc_Reach_o (K : Nat) : FO := fnFO adc_Reach_h adc_Reach_r fun t => adc_Reach_g K t.1 t.2.1 t.2.2.1
theorem adc_Reach_q (K : Nat) (t : adc_Reach_h.T) : exFn (adc_Reach_e0 K) (hdl (adc_Reach_e0 K) 0) [19] Try.f19 (slVals (adc_Reach_h.put t).fr.sl) ⟨⟨0, []⟩, [], (adc_Reach_h.put t).mem⟩ (takeRes adc_Reach_r) = adc_Reach_g K t.1 t.2.1 t.2.2.1 := by kernel_rfl
theorem adc_Reach_ok (K : Nat) : FOok Try.prog 19 (adc_Reach_o K) :=
  fn_rule (adc_Reach_t0 K) (adc_Reach_i0 K) (draws (adc_Reach_t0 K)) 0 Try.func19 (fnB_ok Try.func19 (by kernel_rfl)) rfl rfl (allOwn_ok false (by kernel_rfl)) rfl (allOwn_ok true (by kernel_rfl)) (fun t => adc_Reach_q K t)
/-! rheostatlaw12_AdcBounds -/
noncomputable def rheostatlaw12_AdcBounds_e0 (K : Nat) : Env := ⟨tt, [(14, rheostatlaw12_works_o K), (11, adc_Mean_o K), (19, adc_Reach_o K), (17, adc_Unit_o K)], [(9, Try.f9)], [], eqs⟩
theorem rheostatlaw12_AdcBounds_t0 (K : Nat) : EnvT Try.prog (rheostatlaw12_AdcBounds_e0 K) := envT_of tt_ok eqs_ok ⟨rheostatlaw12_works_ok K, adc_Mean_ok K, adc_Reach_ok K, adc_Unit_ok K, trivial⟩
theorem rheostatlaw12_AdcBounds_i0 (K : Nat) : EnvI Try.prog (rheostatlaw12_AdcBounds_e0 K) := envI_of (es := []) ⟨⟨Try.func9, by kernel_rfl⟩, trivial⟩ trivial
noncomputable def rheostatlaw12_AdcBounds_l0h : Sh := ⟨112, [(1, .sc (.slr0 0)), (2, .sc (.lit (.p 1 0 0 []))), (5, .sc (.i .i64)), (7, .sc (.i .i64)), (8, .sc (.i .i64)), (9, .sc (.i .i64))], [(0, [])], [(false, true, [.ir .i64]), (true, false, [.i .i64, .i .i64, .i .i64])]⟩
noncomputable def rheostatlaw12_AdcBounds_l0x0 : Sh := ⟨112, [(1, .sc (.slr0 0)), (2, .sc (.lit (.p 1 0 0 []))), (5, .sc (.i .i64)), (7, .sc (.i .i64)), (8, .sc (.i .i64))], [(0, [])], [(false, true, [.ir .i64]), (true, false, [.i .i64, .i .i64, .i .i64])]⟩
noncomputable def rheostatlaw12_AdcBounds_l0O : OutI (Nat × Int × Int × Int × (Nat → Int) × Int × Int × Int × Unit) := (OutI.exit 0 rheostatlaw12_AdcBounds_l0x0)
noncomputable def rheostatlaw12_AdcBounds_l0r (K : Nat) (rec : Nat → Int → Int → Int → Int → (Nat → Int) → Int → Int → Int → Option (Nat × Int × Int × Int × (Nat → Int) × Int × Int × Int × Unit)) (counts_1n : Nat) (m_5 : Int) (low_7 : Int) (high_8 : Int) (i_9 : Int) (m0_0 : (Nat → Int)) (m1_0 : Int) (m1_1 : Int) (m1_2 : Int) : Option (Nat × Int × Int × Int × (Nat → Int) × Int × Int × Int × Unit) :=
  (bif (decide (i_9 < ((counts_1n : Nat) : Int))) then (bif ((decide (0 ≤ i_9)) && (decide (i_9 < ((counts_1n : Nat) : Int)))) then (bif ((decide (0 ≤ i_9)) && (decide (i_9 < ((counts_1n : Nat) : Int)))) then (rec counts_1n m_5 (bif (decide ((m0_0 (Int.toNat i_9)) < low_7)) then (m0_0 (Int.toNat i_9)) else low_7) (bif (decide ((m0_0 (Int.toNat i_9)) > high_8)) then (m0_0 (Int.toNat i_9)) else high_8) (wi64 (i_9 + 1)) m0_0 m1_0 m1_1 m1_2) else none) else none) else (some (counts_1n, m_5, low_7, high_8, m0_0, m1_0, m1_1, m1_2, ())))
noncomputable def rheostatlaw12_AdcBounds_l0 (K n : Nat) : Nat → Int → Int → Int → Int → (Nat → Int) → Int → Int → Int → Option (Nat × Int × Int × Int × (Nat → Int) × Int × Int × Int × Unit) := Nat.rec (motive := fun _ => Nat → Int → Int → Int → Int → (Nat → Int) → Int → Int → Int → Option (Nat × Int × Int × Int × (Nat → Int) × Int × Int × Int × Unit)) (fun _ _ _ _ _ _ _ _ _ => none) (fun _ ih => rheostatlaw12_AdcBounds_l0r K ih) n
noncomputable def rheostatlaw12_AdcBounds_l0u (K n : Nat) (t : rheostatlaw12_AdcBounds_l0h.T) : Option (Nat × Int × Int × Int × (Nat → Int) × Int × Int × Int × Unit) := rheostatlaw12_AdcBounds_l0 K n t.1 t.2.1 t.2.2.1 t.2.2.2.1 t.2.2.2.2.1 t.2.2.2.2.2.1 t.2.2.2.2.2.2.1 t.2.2.2.2.2.2.2.1 t.2.2.2.2.2.2.2.2.1
noncomputable def rheostatlaw12_AdcBounds_l0o (K : Nat) : LO := loopLO rheostatlaw12_AdcBounds_l0h rheostatlaw12_AdcBounds_l0O fun t => rheostatlaw12_AdcBounds_l0u K K t
noncomputable def rheostatlaw12_AdcBounds_l0C : Code := bodyOf Try.f6
noncomputable def rheostatlaw12_AdcBounds_l0B : Code := (findLoops 9 (loopsIn rheostatlaw12_AdcBounds_l0C)).headD .skip
theorem rheostatlaw12_AdcBounds_l0F : findLoops 9 (loopsIn rheostatlaw12_AdcBounds_l0C) = [rheostatlaw12_AdcBounds_l0B] := by kernel_rfl
theorem rheostatlaw12_AdcBounds_l0q (K n : Nat) (t : rheostatlaw12_AdcBounds_l0h.T) : exC (rheostatlaw12_AdcBounds_e0 K) (hdl (rheostatlaw12_AdcBounds_e0 K) 9) (6 :: []) rheostatlaw12_AdcBounds_l0B (rheostatlaw12_AdcBounds_l0h.put t) (fun s => (rheostatlaw12_AdcBounds_l0h.take s).bind fun t => rheostatlaw12_AdcBounds_l0u K n t) (fun id s => rheostatlaw12_AdcBounds_l0O.get (some id) s) (fun s => rheostatlaw12_AdcBounds_l0O.get none s) = rheostatlaw12_AdcBounds_l0u K (n + 1) t := by kernel_rfl
noncomputable def rheostatlaw12_AdcBounds_l0E (K : Nat) : LoopE Try.prog := ⟨[9, 6], rheostatlaw12_AdcBounds_l0o K, Try.f6, rheostatlaw12_AdcBounds_l0C, rheostatlaw12_AdcBounds_l0B, ⟨9, 6, [], rfl, Try.func6, by kernel_rfl, rheostatlaw12_AdcBounds_l0F⟩,
  loop_rule (F := fun n t => rheostatlaw12_AdcBounds_l0u K n t) (rheostatlaw12_AdcBounds_t0 K) (rheostatlaw12_AdcBounds_i0 K) (draws (rheostatlaw12_AdcBounds_t0 K)) 9 Try.func6 (c := rheostatlaw12_AdcBounds_l0C) (by kernel_rfl) (body_in rheostatlaw12_AdcBounds_l0F) (ctx' := []) (h := rheostatlaw12_AdcBounds_l0h) (O := rheostatlaw12_AdcBounds_l0O) (fun _ => rfl) (fun m t => rheostatlaw12_AdcBounds_l0q K m t) K⟩
noncomputable def rheostatlaw12_AdcBounds_e1 (K : Nat) : Env := ⟨tt, [(14, rheostatlaw12_works_o K), (11, adc_Mean_o K), (19, adc_Reach_o K), (17, adc_Unit_o K)], [(9, Try.f9)], [([9, 6], rheostatlaw12_AdcBounds_l0o K)], eqs⟩
theorem rheostatlaw12_AdcBounds_t1 (K : Nat) : EnvT Try.prog (rheostatlaw12_AdcBounds_e1 K) := envT_of tt_ok eqs_ok ⟨rheostatlaw12_works_ok K, adc_Mean_ok K, adc_Reach_ok K, adc_Unit_ok K, trivial⟩
theorem rheostatlaw12_AdcBounds_i1 (K : Nat) : EnvI Try.prog (rheostatlaw12_AdcBounds_e1 K) := envI_of (es := [rheostatlaw12_AdcBounds_l0E K]) ⟨⟨Try.func9, by kernel_rfl⟩, trivial⟩ ⟨⟨rfl, rfl⟩, trivial⟩
noncomputable def rheostatlaw12_AdcBounds_l1h : Sh := ⟨112, [(1, .sc (.slr0 0)), (2, .sc (.lit (.p 1 0 0 []))), (5, .sc (.i .i64)), (7, .sc (.i .i64)), (8, .sc (.i .i64)), (10, .sc (.i .i64)), (11, .sc (.i .i64)), (13, .sc (.i .i64))], [(0, [])], [(false, true, [.ir .i64]), (true, false, [.i .i64, .i .i64, .i .i64])]⟩
noncomputable def rheostatlaw12_AdcBounds_l1x0 : Sh := ⟨112, [(5, .sc (.i .i64)), (7, .sc (.i .i64)), (8, .sc (.i .i64)), (10, .sc (.i .i64)), (11, .sc (.i .i64))], [(0, [])], []⟩
noncomputable def rheostatlaw12_AdcBounds_l1x1 : Sh := ⟨112, [(4, .sc (.b))], [(0, [])], []⟩
noncomputable def rheostatlaw12_AdcBounds_l1O : OutI ((Int × Int × Int × Int × Int × Unit) ⊕ (Bool × Unit)) := (OutI.or (OutI.exit 2 rheostatlaw12_AdcBounds_l1x0) (OutI.ret rheostatlaw12_AdcBounds_l1x1))
noncomputable def rheostatlaw12_AdcBounds_l1r (K : Nat) (rec : Nat → Int → Int → Int → Int → Int → Int → (Nat → Int) → Int → Int → Int → Option ((Int × Int × Int × Int × Int × Unit) ⊕ (Bool × Unit))) (counts_1n : Nat) (m_5 : Int) (low_7 : Int) (high_8 : Int) (p_10 : Int) (q_11 : Int) (i_13 : Int) (m0_0 : (Nat → Int)) (m1_0 : Int) (m1_1 : Int) (m1_2 : Int) : Option ((Int × Int × Int × Int × Int × Unit) ⊕ (Bool × Unit)) :=
  (bif (decide (i_13 < ((counts_1n : Nat) : Int))) then (bif ((decide (0 ≤ i_13)) && (decide (i_13 < ((counts_1n : Nat) : Int)))) then ((adc_Unit_g K m1_0 m1_1 m1_2 (m0_0 (Int.toNat i_13))).bind fun q1 => (bif (q1.2.1 != 0) then (some (.inr (false, ()))) else (bif (decide (q1.1 < p_10)) then (some (.inr (false, ()))) else (bif (decide (q1.1 > q_11)) then (some (.inr (false, ()))) else (rec counts_1n m_5 low_7 high_8 p_10 q_11 (wi64 (i_13 + 1)) m0_0 m1_0 m1_1 m1_2))))) else none) else (some (.inl (m_5, low_7, high_8, p_10, q_11, ()))))
noncomputable def rheostatlaw12_AdcBounds_l1 (K n : Nat) : Nat → Int → Int → Int → Int → Int → Int → (Nat → Int) → Int → Int → Int → Option ((Int × Int × Int × Int × Int × Unit) ⊕ (Bool × Unit)) := Nat.rec (motive := fun _ => Nat → Int → Int → Int → Int → Int → Int → (Nat → Int) → Int → Int → Int → Option ((Int × Int × Int × Int × Int × Unit) ⊕ (Bool × Unit))) (fun _ _ _ _ _ _ _ _ _ _ _ => none) (fun _ ih => rheostatlaw12_AdcBounds_l1r K ih) n
noncomputable def rheostatlaw12_AdcBounds_l1u (K n : Nat) (t : rheostatlaw12_AdcBounds_l1h.T) : Option ((Int × Int × Int × Int × Int × Unit) ⊕ (Bool × Unit)) := rheostatlaw12_AdcBounds_l1 K n t.1 t.2.1 t.2.2.1 t.2.2.2.1 t.2.2.2.2.1 t.2.2.2.2.2.1 t.2.2.2.2.2.2.1 t.2.2.2.2.2.2.2.1 t.2.2.2.2.2.2.2.2.1 t.2.2.2.2.2.2.2.2.2.1 t.2.2.2.2.2.2.2.2.2.2.1
noncomputable def rheostatlaw12_AdcBounds_l1o (K : Nat) : LO := loopLO rheostatlaw12_AdcBounds_l1h rheostatlaw12_AdcBounds_l1O fun t => rheostatlaw12_AdcBounds_l1u K K t
noncomputable def rheostatlaw12_AdcBounds_l1C : Code := bodyOf Try.f6
noncomputable def rheostatlaw12_AdcBounds_l1B : Code := (findLoops 16 (loopsIn rheostatlaw12_AdcBounds_l1C)).headD .skip
theorem rheostatlaw12_AdcBounds_l1F : findLoops 16 (loopsIn rheostatlaw12_AdcBounds_l1C) = [rheostatlaw12_AdcBounds_l1B] := by kernel_rfl
theorem rheostatlaw12_AdcBounds_l1q (K n : Nat) (t : rheostatlaw12_AdcBounds_l1h.T) : exC (rheostatlaw12_AdcBounds_e1 K) (hdl (rheostatlaw12_AdcBounds_e1 K) 9) (6 :: []) rheostatlaw12_AdcBounds_l1B (rheostatlaw12_AdcBounds_l1h.put t) (fun s => (rheostatlaw12_AdcBounds_l1h.take s).bind fun t => rheostatlaw12_AdcBounds_l1u K n t) (fun id s => rheostatlaw12_AdcBounds_l1O.get (some id) s) (fun s => rheostatlaw12_AdcBounds_l1O.get none s) = rheostatlaw12_AdcBounds_l1u K (n + 1) t := by kernel_rfl
noncomputable def rheostatlaw12_AdcBounds_l1E (K : Nat) : LoopE Try.prog := ⟨[16, 6], rheostatlaw12_AdcBounds_l1o K, Try.f6, rheostatlaw12_AdcBounds_l1C, rheostatlaw12_AdcBounds_l1B, ⟨16, 6, [], rfl, Try.func6, by kernel_rfl, rheostatlaw12_AdcBounds_l1F⟩,
  loop_rule (F := fun n t => rheostatlaw12_AdcBounds_l1u K n t) (rheostatlaw12_AdcBounds_t1 K) (rheostatlaw12_AdcBounds_i1 K) (draws (rheostatlaw12_AdcBounds_t1 K)) 9 Try.func6 (c := rheostatlaw12_AdcBounds_l1C) (by kernel_rfl) (body_in rheostatlaw12_AdcBounds_l1F) (ctx' := []) (h := rheostatlaw12_AdcBounds_l1h) (O := rheostatlaw12_AdcBounds_l1O) (fun _ => rfl) (fun m t => rheostatlaw12_AdcBounds_l1q K m t) K⟩
noncomputable def rheostatlaw12_AdcBounds_e2 (K : Nat) : Env := ⟨tt, [(14, rheostatlaw12_works_o K), (11, adc_Mean_o K), (19, adc_Reach_o K), (17, adc_Unit_o K)], [(9, Try.f9)], [([9, 6], rheostatlaw12_AdcBounds_l0o K), ([16, 6], rheostatlaw12_AdcBounds_l1o K)], eqs⟩
theorem rheostatlaw12_AdcBounds_t2 (K : Nat) : EnvT Try.prog (rheostatlaw12_AdcBounds_e2 K) := envT_of tt_ok eqs_ok ⟨rheostatlaw12_works_ok K, adc_Mean_ok K, adc_Reach_ok K, adc_Unit_ok K, trivial⟩
theorem rheostatlaw12_AdcBounds_i2 (K : Nat) : EnvI Try.prog (rheostatlaw12_AdcBounds_e2 K) := envI_of (es := [rheostatlaw12_AdcBounds_l0E K, rheostatlaw12_AdcBounds_l1E K]) ⟨⟨Try.func9, by kernel_rfl⟩, trivial⟩ ⟨⟨rfl, rfl⟩, ⟨rfl, rfl⟩, trivial⟩
noncomputable def rheostatlaw12_AdcBounds_g (K : Nat) (l_0_0 : Int) (l_0_1 : Int) (l_0_2 : Int) (counts_1n : Nat) (m0_0 : (Nat → Int)) : Option Bool :=
  ((rheostatlaw12_works_g K).bind fun q1 => (bif (!q1.1) then (some false) else (bif ((decide (0 ≤ (bif (decide (257 < ((counts_1n : Nat) : Int))) then 257 else ((counts_1n : Nat) : Int)))) && (decide ((bif (decide (257 < ((counts_1n : Nat) : Int))) then 257 else ((counts_1n : Nat) : Int)) ≤ ((counts_1n : Nat) : Int)))) then ((adc_Mean_g K (Int.toNat (bif (decide (257 < ((counts_1n : Nat) : Int))) then 257 else ((counts_1n : Nat) : Int))) m0_0).bind fun q2 => (bif (q2.2.1 != 0) then (some (q2.1 == 0)) else (bif (decide (0 < (((Int.toNat (bif (decide (257 < ((counts_1n : Nat) : Int))) then 257 else ((counts_1n : Nat) : Int))) : Nat) : Int))) then (bif (decide (0 < (((Int.toNat (bif (decide (257 < ((counts_1n : Nat) : Int))) then 257 else ((counts_1n : Nat) : Int))) : Nat) : Int))) then ((rheostatlaw12_AdcBounds_l0 K K (Int.toNat (bif (decide (257 < ((counts_1n : Nat) : Int))) then 257 else ((counts_1n : Nat) : Int))) q2.1 (m0_0 0) (m0_0 0) 0 m0_0 l_0_0 l_0_1 l_0_2).bind fun q3 => ((adc_Reach_g K q3.2.2.2.2.2.1 q3.2.2.2.2.2.2.1 q3.2.2.2.2.2.2.2.1).bind fun q4 => (bif (q4.2.2.1 != 0) then (bif (decide (q3.2.1 ≥ q3.2.2.1)) then (some (decide (q3.2.1 ≤ q3.2.2.2.1))) else (some false)) else ((rheostatlaw12_AdcBounds_l1 K K q3.1 q3.2.1 q3.2.2.1 q3.2.2.2.1 q4.1 q4.2.1 0 q3.2.2.2.2.1 q3.2.2.2.2.2.1 q3.2.2.2.2.2.2.1 q3.2.2.2.2.2.2.2.1).bind fun q5 => (Sum.elim (fun q6 => (bif (decide (q6.1 ≥ q6.2.1)) then (bif (decide (q6.1 ≤ q6.2.2.1)) then (bif (decide (q6.2.2.2.1 ≥ (-2147483648))) then (some (decide (q6.2.2.2.2.1 ≤ 2147483648))) else (some false)) else (some false)) else (some false))) (fun q7 => (some q7.1)) q5))))) else none) else none))) else none)))
noncomputable def rheostatlaw12_AdcBounds_ps : List (Bool × List WC) := [(true, [.sc (.i .i64), .sc (.i .i64), .sc (.i .i64)]), (false, [.slc [.i .i64]])]
theorem rheostatlaw12_AdcBounds_q (K : Nat) (t : (shOf rheostatlaw12_AdcBounds_ps).T) : exFn (rheostatlaw12_AdcBounds_e2 K) (hdl (rheostatlaw12_AdcBounds_e2 K) 9) [6] Try.f6 (slVals ((shOf rheostatlaw12_AdcBounds_ps).put t).fr.sl) ⟨⟨0, []⟩, [], ((shOf rheostatlaw12_AdcBounds_ps).put t).mem⟩ outBool = rheostatlaw12_AdcBounds_g K t.1 t.2.1 t.2.2.1 t.2.2.2.1 t.2.2.2.2.1 := by kernel_rfl
theorem rheostatlaw12_AdcBounds_call (K : Nat) (hb : ∀ t : (shOf rheostatlaw12_AdcBounds_ps).T, argsBnd rheostatlaw12_AdcBounds_ps t → rheostatlaw12_AdcBounds_g K t.1 t.2.1 t.2.2.1 t.2.2.2.1 t.2.2.2.2.1 = some true) {w : World} {vals : List Value} (hp : PFits w rheostatlaw12_AdcBounds_ps vals) :
    Calls Try.prog 6 vals.toArray w fun e w' => e = .returned (.bool true) ∧ RowKit.Below w.heap.size w w' :=
  call_of (rheostatlaw12_AdcBounds_t2 K) (rheostatlaw12_AdcBounds_i2 K) (draws (rheostatlaw12_AdcBounds_t2 K)) 9 Try.func6 (by kernel_rfl) (by kernel_rfl) outBool_true (fun t ht => (rheostatlaw12_AdcBounds_q K t).trans (hb t ht)) hp
/-! adc_Zeroed -/
noncomputable def adc_Zeroed_e0 (K : Nat) : Env := ⟨tt, [(15, adc_Check_o K), (11, adc_Mean_o K)], [], [], eqs⟩
theorem adc_Zeroed_t0 (K : Nat) : EnvT Try.prog (adc_Zeroed_e0 K) := envT_of tt_ok eqs_ok ⟨adc_Check_ok K, adc_Mean_ok K, trivial⟩
theorem adc_Zeroed_i0 (K : Nat) : EnvI Try.prog (adc_Zeroed_e0 K) := envI_of (es := []) trivial trivial
noncomputable def adc_Zeroed_h : Sh := ⟨2, [(0, .ag [.i .i64, .i .i64, .i .i64]), (1, .sc (.slr0 0))], [], [(false, true, [.ir .i64])]⟩
noncomputable def adc_Zeroed_r : Sh := ⟨2, [(0, .ag [.i .i64, .i .i64, .i .i64]), (1, .sc (.i .i64))], [], []⟩
noncomputable def adc_Zeroed_g (K : Nat) (l_0_0 : Int) (l_0_1 : Int) (l_0_2 : Int) (counts_1n : Nat) (m0_0 : (Nat → Int)) : Option (Int × Int × Int × Int × Unit) :=
  ((adc_Check_g K l_0_0 l_0_1 l_0_2).bind fun q1 => (bif (q1.1 == 0) then ((adc_Mean_g K counts_1n m0_0).bind fun q2 => (bif (q2.2.1 != 0) then (some (0, 0, 0, q2.2.1, ())) else (some (q2.1, l_0_1, l_0_2, q2.2.1, ())))) else (bif (q1.1 != 0) then (some (0, 0, 0, q1.1, ())) else (some (l_0_0, l_0_1, l_0_2, q1.1, ())))))
noncomputable def adc_Zeroed_gu (K : Nat) (t : adc_Zeroed_h.T) : Option (Int × Int × Int × Int × Unit) := adc_Zeroed_g K t.1 t.2.1 t.2.2.1 t.2.2.2.1 t.2.2.2.2.1
noncomputable def adc_Zeroed_o (K : Nat) : FO := fnFO adc_Zeroed_h adc_Zeroed_r fun t => adc_Zeroed_gu K t
theorem adc_Zeroed_q (K : Nat) (t : adc_Zeroed_h.T) : exFn (adc_Zeroed_e0 K) (hdl (adc_Zeroed_e0 K) 0) [22] Try.f22 (slVals (adc_Zeroed_h.put t).fr.sl) ⟨⟨0, []⟩, [], (adc_Zeroed_h.put t).mem⟩ (takeRes adc_Zeroed_r) = adc_Zeroed_gu K t := by kernel_rfl
theorem adc_Zeroed_ok (K : Nat) : FOok Try.prog 22 (adc_Zeroed_o K) :=
  fn_rule (adc_Zeroed_t0 K) (adc_Zeroed_i0 K) (draws (adc_Zeroed_t0 K)) 0 Try.func22 (fnB_ok Try.func22 (by kernel_rfl)) rfl rfl (allOwn_ok false (by kernel_rfl)) rfl (allOwn_ok true (by kernel_rfl)) (fun t => adc_Zeroed_q K t)
/-! rheostatref12_Check -/
noncomputable def rheostatref12_Check_e0 (K : Nat) : Env := ⟨tt, [(28, rheostatref12_raw_o K)], [], [], eqs⟩
theorem rheostatref12_Check_t0 (K : Nat) : EnvT Try.prog (rheostatref12_Check_e0 K) := envT_of tt_ok eqs_ok ⟨rheostatref12_raw_ok K, trivial⟩
theorem rheostatref12_Check_i0 (K : Nat) : EnvI Try.prog (rheostatref12_Check_e0 K) := envI_of (es := []) trivial trivial
noncomputable def rheostatref12_Check_h : Sh := ⟨1, [(0, .ag [.i .i64, .i .i64, .i .i64])], [], []⟩
noncomputable def rheostatref12_Check_r : Sh := ⟨1, [(0, .sc (.i .i64))], [], []⟩
noncomputable def rheostatref12_Check_g (K : Nat) (l_0_0 : Int) (l_0_1 : Int) (l_0_2 : Int) : Option (Int × Unit) :=
  ((rheostatref12_raw_g K l_0_0).bind fun q1 => (bif (!q1.1) then (some (120, ())) else ((rheostatref12_raw_g K l_0_1).bind fun q2 => (bif (!q2.1) then (some (120, ())) else (bif (decide (l_0_2 < 1)) then (some (120, ())) else (bif (decide (l_0_2 > 1048576)) then (some (120, ())) else (some (0, ()))))))))
noncomputable def rheostatref12_Check_o (K : Nat) : FO := fnFO rheostatref12_Check_h rheostatref12_Check_r fun t => rheostatref12_Check_g K t.1 t.2.1 t.2.2.1
theorem rheostatref12_Check_q (K : Nat) (t : rheostatref12_Check_h.T) : exFn (rheostatref12_Check_e0 K) (hdl (rheostatref12_Check_e0 K) 0) [21] Try.f21 (slVals (rheostatref12_Check_h.put t).fr.sl) ⟨⟨0, []⟩, [], (rheostatref12_Check_h.put t).mem⟩ (takeRes rheostatref12_Check_r) = rheostatref12_Check_g K t.1 t.2.1 t.2.2.1 := by kernel_rfl
theorem rheostatref12_Check_ok (K : Nat) : FOok Try.prog 21 (rheostatref12_Check_o K) :=
  fn_rule (rheostatref12_Check_t0 K) (rheostatref12_Check_i0 K) (draws (rheostatref12_Check_t0 K)) 0 Try.func21 (fnB_ok Try.func21 (by kernel_rfl)) rfl rfl (allOwn_ok false (by kernel_rfl)) rfl (allOwn_ok true (by kernel_rfl)) (fun t => rheostatref12_Check_q K t)
/-! rheostatref12_Zeroed -/
noncomputable def rheostatref12_Zeroed_e0 (K : Nat) : Env := ⟨tt, [(21, rheostatref12_Check_o K), (12, rheostatref12_Mean_o K)], [], [], eqs⟩
theorem rheostatref12_Zeroed_t0 (K : Nat) : EnvT Try.prog (rheostatref12_Zeroed_e0 K) := envT_of tt_ok eqs_ok ⟨rheostatref12_Check_ok K, rheostatref12_Mean_ok K, trivial⟩
theorem rheostatref12_Zeroed_i0 (K : Nat) : EnvI Try.prog (rheostatref12_Zeroed_e0 K) := envI_of (es := []) trivial trivial
noncomputable def rheostatref12_Zeroed_h : Sh := ⟨2, [(0, .ag [.i .i64, .i .i64, .i .i64]), (1, .sc (.slr0 0))], [], [(false, true, [.ir .i64])]⟩
noncomputable def rheostatref12_Zeroed_r : Sh := ⟨2, [(0, .ag [.i .i64, .i .i64, .i .i64]), (1, .sc (.i .i64))], [], []⟩
noncomputable def rheostatref12_Zeroed_g (K : Nat) (l_0_0 : Int) (l_0_1 : Int) (l_0_2 : Int) (counts_1n : Nat) (m0_0 : (Nat → Int)) : Option (Int × Int × Int × Int × Unit) :=
  ((rheostatref12_Check_g K l_0_0 l_0_1 l_0_2).bind fun q1 => (bif (q1.1 != 0) then (some (0, 0, 0, q1.1, ())) else ((rheostatref12_Mean_g K counts_1n m0_0).bind fun q2 => (bif (q2.2.1 != 0) then (some (0, 0, 0, q2.2.1, ())) else (some (q2.1, l_0_1, l_0_2, 0, ()))))))
noncomputable def rheostatref12_Zeroed_gu (K : Nat) (t : rheostatref12_Zeroed_h.T) : Option (Int × Int × Int × Int × Unit) := rheostatref12_Zeroed_g K t.1 t.2.1 t.2.2.1 t.2.2.2.1 t.2.2.2.2.1
noncomputable def rheostatref12_Zeroed_o (K : Nat) : FO := fnFO rheostatref12_Zeroed_h rheostatref12_Zeroed_r fun t => rheostatref12_Zeroed_gu K t
theorem rheostatref12_Zeroed_q (K : Nat) (t : rheostatref12_Zeroed_h.T) : exFn (rheostatref12_Zeroed_e0 K) (hdl (rheostatref12_Zeroed_e0 K) 0) [23] Try.f23 (slVals (rheostatref12_Zeroed_h.put t).fr.sl) ⟨⟨0, []⟩, [], (rheostatref12_Zeroed_h.put t).mem⟩ (takeRes rheostatref12_Zeroed_r) = rheostatref12_Zeroed_gu K t := by kernel_rfl
theorem rheostatref12_Zeroed_ok (K : Nat) : FOok Try.prog 23 (rheostatref12_Zeroed_o K) :=
  fn_rule (rheostatref12_Zeroed_t0 K) (rheostatref12_Zeroed_i0 K) (draws (rheostatref12_Zeroed_t0 K)) 0 Try.func23 (fnB_ok Try.func23 (by kernel_rfl)) rfl rfl (allOwn_ok false (by kernel_rfl)) rfl (allOwn_ok true (by kernel_rfl)) (fun t => rheostatref12_Zeroed_q K t)
/-! adc_Gained -/
noncomputable def adc_Gained_e0 (K : Nat) : Env := ⟨tt, [(15, adc_Check_o K), (26, adc_raw_o K)], [], [], eqs⟩
theorem adc_Gained_t0 (K : Nat) : EnvT Try.prog (adc_Gained_e0 K) := envT_of tt_ok eqs_ok ⟨adc_Check_ok K, adc_raw_ok K, trivial⟩
theorem adc_Gained_i0 (K : Nat) : EnvI Try.prog (adc_Gained_e0 K) := envI_of (es := []) trivial trivial
noncomputable def adc_Gained_h : Sh := ⟨3, [(0, .ag [.i .i64, .i .i64, .i .i64]), (1, .sc (.i .i64)), (2, .sc (.i .i64))], [], []⟩
noncomputable def adc_Gained_r : Sh := ⟨2, [(0, .ag [.i .i64, .i .i64, .i .i64]), (1, .sc (.i .i64))], [], []⟩
noncomputable def adc_Gained_g (K : Nat) (l_0_0 : Int) (l_0_1 : Int) (l_0_2 : Int) (count_1 : Int) (unit_2 : Int) : Option (Int × Int × Int × Int × Unit) :=
  ((adc_Check_g K l_0_0 l_0_1 l_0_2).bind fun q1 => (bif (q1.1 != 0) then (some (0, 0, 0, q1.1, ())) else ((adc_raw_g K 2 (fun j => (selI [count_1, unit_2] j))).bind fun q2 => (bif (!q2.1) then (some (0, 0, 0, 2, ())) else (bif (decide ((wi64 (count_1 - l_0_0)) < 0)) then ((adc_Check_g K l_0_0 (wi64 (0 - unit_2)) (wi64 (0 - (wi64 (count_1 - l_0_0))))).bind fun q3 => (bif (q3.1 != 0) then (some (0, 0, 0, q3.1, ())) else (some (l_0_0, (wi64 (0 - unit_2)), (wi64 (0 - (wi64 (count_1 - l_0_0)))), 0, ())))) else ((adc_Check_g K l_0_0 unit_2 (wi64 (count_1 - l_0_0))).bind fun q4 => (bif (q4.1 != 0) then (some (0, 0, 0, q4.1, ())) else (some (l_0_0, unit_2, (wi64 (count_1 - l_0_0)), 0, ())))))))))
noncomputable def adc_Gained_gu (K : Nat) (t : adc_Gained_h.T) : Option (Int × Int × Int × Int × Unit) := adc_Gained_g K t.1 t.2.1 t.2.2.1 t.2.2.2.1 t.2.2.2.2.1
noncomputable def adc_Gained_o (K : Nat) : FO := fnFO adc_Gained_h adc_Gained_r fun t => adc_Gained_gu K t
theorem adc_Gained_q (K : Nat) (t : adc_Gained_h.T) : exFn (adc_Gained_e0 K) (hdl (adc_Gained_e0 K) 0) [24] Try.f24 (slVals (adc_Gained_h.put t).fr.sl) ⟨⟨0, []⟩, [], (adc_Gained_h.put t).mem⟩ (takeRes adc_Gained_r) = adc_Gained_gu K t := by kernel_rfl
theorem adc_Gained_ok (K : Nat) : FOok Try.prog 24 (adc_Gained_o K) :=
  fn_rule (adc_Gained_t0 K) (adc_Gained_i0 K) (draws (adc_Gained_t0 K)) 0 Try.func24 (fnB_ok Try.func24 (by kernel_rfl)) rfl rfl (allOwn_ok false (by kernel_rfl)) rfl (allOwn_ok true (by kernel_rfl)) (fun t => adc_Gained_q K t)
/-! rheostatref12_Gained -/
noncomputable def rheostatref12_Gained_e0 (K : Nat) : Env := ⟨tt, [(21, rheostatref12_Check_o K), (28, rheostatref12_raw_o K)], [], [], eqs⟩
theorem rheostatref12_Gained_t0 (K : Nat) : EnvT Try.prog (rheostatref12_Gained_e0 K) := envT_of tt_ok eqs_ok ⟨rheostatref12_Check_ok K, rheostatref12_raw_ok K, trivial⟩
theorem rheostatref12_Gained_i0 (K : Nat) : EnvI Try.prog (rheostatref12_Gained_e0 K) := envI_of (es := []) trivial trivial
noncomputable def rheostatref12_Gained_h : Sh := ⟨3, [(0, .ag [.i .i64, .i .i64, .i .i64]), (1, .sc (.i .i64)), (2, .sc (.i .i64))], [], []⟩
noncomputable def rheostatref12_Gained_r : Sh := ⟨2, [(0, .ag [.i .i64, .i .i64, .i .i64]), (1, .sc (.i .i64))], [], []⟩
noncomputable def rheostatref12_Gained_g (K : Nat) (l_0_0 : Int) (l_0_1 : Int) (l_0_2 : Int) (count_1 : Int) (unit_2 : Int) : Option (Int × Int × Int × Int × Unit) :=
  ((rheostatref12_Check_g K l_0_0 l_0_1 l_0_2).bind fun q1 => (bif (q1.1 != 0) then (some (0, 0, 0, q1.1, ())) else ((rheostatref12_raw_g K count_1).bind fun q2 => (bif (!q2.1) then (some (0, 0, 0, 2, ())) else ((rheostatref12_raw_g K unit_2).bind fun q3 => (bif (!q3.1) then (some (0, 0, 0, 2, ())) else (bif (decide ((wi64 (count_1 - l_0_0)) < 0)) then ((rheostatref12_Check_g K l_0_0 (wi64 (0 - unit_2)) (wi64 (0 - (wi64 (count_1 - l_0_0))))).bind fun q4 => (bif (q4.1 != 0) then (some (0, 0, 0, 120, ())) else (some (l_0_0, (wi64 (0 - unit_2)), (wi64 (0 - (wi64 (count_1 - l_0_0)))), 0, ())))) else ((rheostatref12_Check_g K l_0_0 unit_2 (wi64 (count_1 - l_0_0))).bind fun q5 => (bif (q5.1 != 0) then (some (0, 0, 0, 120, ())) else (some (l_0_0, unit_2, (wi64 (count_1 - l_0_0)), 0, ())))))))))))
noncomputable def rheostatref12_Gained_gu (K : Nat) (t : rheostatref12_Gained_h.T) : Option (Int × Int × Int × Int × Unit) := rheostatref12_Gained_g K t.1 t.2.1 t.2.2.1 t.2.2.2.1 t.2.2.2.2.1
noncomputable def rheostatref12_Gained_o (K : Nat) : FO := fnFO rheostatref12_Gained_h rheostatref12_Gained_r fun t => rheostatref12_Gained_gu K t
theorem rheostatref12_Gained_q (K : Nat) (t : rheostatref12_Gained_h.T) : exFn (rheostatref12_Gained_e0 K) (hdl (rheostatref12_Gained_e0 K) 0) [25] Try.f25 (slVals (rheostatref12_Gained_h.put t).fr.sl) ⟨⟨0, []⟩, [], (rheostatref12_Gained_h.put t).mem⟩ (takeRes rheostatref12_Gained_r) = rheostatref12_Gained_gu K t := by kernel_rfl
theorem rheostatref12_Gained_ok (K : Nat) : FOok Try.prog 25 (rheostatref12_Gained_o K) :=
  fn_rule (rheostatref12_Gained_t0 K) (rheostatref12_Gained_i0 K) (draws (rheostatref12_Gained_t0 K)) 0 Try.func25 (fnB_ok Try.func25 (by kernel_rfl)) rfl rfl (allOwn_ok false (by kernel_rfl)) rfl (allOwn_ok true (by kernel_rfl)) (fun t => rheostatref12_Gained_q K t)
/-! rheostatlaw12_AdcFinds -/
noncomputable def rheostatlaw12_AdcFinds_e0 (K : Nat) : Env := ⟨tt, [(10, rheostatbase_Ints_o K), (22, adc_Zeroed_o K), (23, rheostatref12_Zeroed_o K), (24, adc_Gained_o K), (25, rheostatref12_Gained_o K), (14, rheostatlaw12_works_o K)], [(9, Try.f9)], [], eqs⟩
theorem rheostatlaw12_AdcFinds_t0 (K : Nat) : EnvT Try.prog (rheostatlaw12_AdcFinds_e0 K) := envT_of tt_ok eqs_ok ⟨rheostatbase_Ints_ok K, adc_Zeroed_ok K, rheostatref12_Zeroed_ok K, adc_Gained_ok K, rheostatref12_Gained_ok K, rheostatlaw12_works_ok K, trivial⟩
theorem rheostatlaw12_AdcFinds_i0 (K : Nat) : EnvI Try.prog (rheostatlaw12_AdcFinds_e0 K) := envI_of (es := []) ⟨⟨Try.func9, by kernel_rfl⟩, trivial⟩ trivial
noncomputable def rheostatlaw12_AdcFinds_g (K : Nat) (l_0_0 : Int) (l_0_1 : Int) (l_0_2 : Int) (counts_1n : Nat) (count_2 : Int) (unit_3 : Int) (m0_0 : (Nat → Int)) : Option Bool :=
  (bif ((decide (0 ≤ (bif (decide (257 < ((counts_1n : Nat) : Int))) then 257 else ((counts_1n : Nat) : Int)))) && (decide ((bif (decide (257 < ((counts_1n : Nat) : Int))) then 257 else ((counts_1n : Nat) : Int)) ≤ ((counts_1n : Nat) : Int)))) then ((rheostatbase_Ints_g K (Int.toNat (bif (decide (257 < ((counts_1n : Nat) : Int))) then 257 else ((counts_1n : Nat) : Int))) m0_0).bind fun q1 => ((adc_Zeroed_g K l_0_0 l_0_1 l_0_2 q1.1 q1.2.1).bind fun q2 => ((rheostatref12_Zeroed_g K l_0_0 l_0_1 l_0_2 (Int.toNat (bif (decide (257 < ((counts_1n : Nat) : Int))) then 257 else ((counts_1n : Nat) : Int))) m0_0).bind fun q3 => ((adc_Gained_g K l_0_0 l_0_1 l_0_2 count_2 unit_3).bind fun q4 => ((rheostatref12_Gained_g K l_0_0 l_0_1 l_0_2 count_2 unit_3).bind fun q5 => (bif ((q2.1 == q3.1) && ((q2.2.1 == q3.2.1) && (q2.2.2.1 == q3.2.2.1))) then (bif (q2.2.2.2.1 == q3.2.2.2.1) then (bif ((q4.1 == q5.1) && ((q4.2.1 == q5.2.1) && (q4.2.2.1 == q5.2.2.1))) then (bif (q4.2.2.2.1 == q5.2.2.2.1) then ((rheostatlaw12_works_g K).bind fun q6 => (some q6.1)) else (some false)) else (some false)) else (some false)) else (some false))))))) else none)
noncomputable def rheostatlaw12_AdcFinds_ps : List (Bool × List WC) := [(true, [.sc (.i .i64), .sc (.i .i64), .sc (.i .i64)]), (false, [.slc [.i .i64]]), (false, [.sc (.i .i64)]), (false, [.sc (.i .i64)])]
theorem rheostatlaw12_AdcFinds_q (K : Nat) (t : (shOf rheostatlaw12_AdcFinds_ps).T) : exFn (rheostatlaw12_AdcFinds_e0 K) (hdl (rheostatlaw12_AdcFinds_e0 K) 9) [7] Try.f7 (slVals ((shOf rheostatlaw12_AdcFinds_ps).put t).fr.sl) ⟨⟨0, []⟩, [], ((shOf rheostatlaw12_AdcFinds_ps).put t).mem⟩ outBool = rheostatlaw12_AdcFinds_g K t.1 t.2.1 t.2.2.1 t.2.2.2.1 t.2.2.2.2.1 t.2.2.2.2.2.1 t.2.2.2.2.2.2.1 := by kernel_rfl
theorem rheostatlaw12_AdcFinds_call (K : Nat) (hb : ∀ t : (shOf rheostatlaw12_AdcFinds_ps).T, argsBnd rheostatlaw12_AdcFinds_ps t → rheostatlaw12_AdcFinds_g K t.1 t.2.1 t.2.2.1 t.2.2.2.1 t.2.2.2.2.1 t.2.2.2.2.2.1 t.2.2.2.2.2.2.1 = some true) {w : World} {vals : List Value} (hp : PFits w rheostatlaw12_AdcFinds_ps vals) :
    Calls Try.prog 7 vals.toArray w fun e w' => e = .returned (.bool true) ∧ RowKit.Below w.heap.size w w' :=
  call_of (rheostatlaw12_AdcFinds_t0 K) (rheostatlaw12_AdcFinds_i0 K) (draws (rheostatlaw12_AdcFinds_t0 K)) 9 Try.func7 (by kernel_rfl) (by kernel_rfl) outBool_true (fun t ht => (rheostatlaw12_AdcFinds_q K t).trans (hb t ht)) hp
/-! rheostatlaw12_AdcFound -/
noncomputable def rheostatlaw12_AdcFound_e0 (K : Nat) : Env := ⟨tt, [(14, rheostatlaw12_works_o K), (22, adc_Zeroed_o K), (11, adc_Mean_o K), (17, adc_Unit_o K), (24, adc_Gained_o K)], [(9, Try.f9)], [], eqs⟩
theorem rheostatlaw12_AdcFound_t0 (K : Nat) : EnvT Try.prog (rheostatlaw12_AdcFound_e0 K) := envT_of tt_ok eqs_ok ⟨rheostatlaw12_works_ok K, adc_Zeroed_ok K, adc_Mean_ok K, adc_Unit_ok K, adc_Gained_ok K, trivial⟩
theorem rheostatlaw12_AdcFound_i0 (K : Nat) : EnvI Try.prog (rheostatlaw12_AdcFound_e0 K) := envI_of (es := []) ⟨⟨Try.func9, by kernel_rfl⟩, trivial⟩ trivial
noncomputable def rheostatlaw12_AdcFound_g (K : Nat) (l_0_0 : Int) (l_0_1 : Int) (l_0_2 : Int) (counts_1n : Nat) (count_2 : Int) (unit_3 : Int) (m0_0 : (Nat → Int)) : Option Bool :=
  ((rheostatlaw12_works_g K).bind fun q1 => (bif (!q1.1) then (some false) else (bif ((decide (0 ≤ (bif (decide (257 < ((counts_1n : Nat) : Int))) then 257 else ((counts_1n : Nat) : Int)))) && (decide ((bif (decide (257 < ((counts_1n : Nat) : Int))) then 257 else ((counts_1n : Nat) : Int)) ≤ ((counts_1n : Nat) : Int)))) then ((adc_Zeroed_g K l_0_0 l_0_1 l_0_2 (Int.toNat (bif (decide (257 < ((counts_1n : Nat) : Int))) then 257 else ((counts_1n : Nat) : Int))) m0_0).bind fun q2 => (bif (q2.2.2.2.1 == 0) then ((adc_Mean_g K (Int.toNat (bif (decide (257 < ((counts_1n : Nat) : Int))) then 257 else ((counts_1n : Nat) : Int))) m0_0).bind fun q3 => ((adc_Unit_g K q2.1 q2.2.1 q2.2.2.1 q3.1).bind fun q4 => (bif (q3.2.1 != 0) then (some false) else (bif (q4.2.1 != 0) then (some false) else (bif (q4.1 != 0) then (some false) else (bif (q2.2.1 != l_0_1) then (some false) else (bif (q2.2.2.1 != l_0_2) then (some false) else ((adc_Gained_g K l_0_0 l_0_1 l_0_2 count_2 unit_3).bind fun q5 => (bif (q5.2.2.2.1 != 0) then (some ((q5.1 == 0) && ((q5.2.1 == 0) && (q5.2.2.1 == 0)))) else ((adc_Unit_g K q5.1 q5.2.1 q5.2.2.1 count_2).bind fun q6 => ((adc_Unit_g K q5.1 q5.2.1 q5.2.2.1 q5.1).bind fun q7 => (bif (q6.2.1 == 0) then (bif (q6.1 == unit_3) then (bif (q7.2.1 == 0) then (bif (q7.1 == 0) then (some (q5.1 == l_0_0)) else (some false)) else (some false)) else (some false)) else (some false))))))))))))) else ((adc_Gained_g K l_0_0 l_0_1 l_0_2 count_2 unit_3).bind fun q8 => (bif (q8.2.2.2.1 != 0) then (some ((q8.1 == 0) && ((q8.2.1 == 0) && (q8.2.2.1 == 0)))) else ((adc_Unit_g K q8.1 q8.2.1 q8.2.2.1 count_2).bind fun q9 => ((adc_Unit_g K q8.1 q8.2.1 q8.2.2.1 q8.1).bind fun q10 => (bif (q9.2.1 == 0) then (bif (q9.1 == unit_3) then (bif (q10.2.1 == 0) then (bif (q10.1 == 0) then (some (q8.1 == l_0_0)) else (some false)) else (some false)) else (some false)) else (some false)))))))) else none)))
noncomputable def rheostatlaw12_AdcFound_ps : List (Bool × List WC) := [(true, [.sc (.i .i64), .sc (.i .i64), .sc (.i .i64)]), (false, [.slc [.i .i64]]), (false, [.sc (.i .i64)]), (false, [.sc (.i .i64)])]
theorem rheostatlaw12_AdcFound_q (K : Nat) (t : (shOf rheostatlaw12_AdcFound_ps).T) : exFn (rheostatlaw12_AdcFound_e0 K) (hdl (rheostatlaw12_AdcFound_e0 K) 9) [8] Try.f8 (slVals ((shOf rheostatlaw12_AdcFound_ps).put t).fr.sl) ⟨⟨0, []⟩, [], ((shOf rheostatlaw12_AdcFound_ps).put t).mem⟩ outBool = rheostatlaw12_AdcFound_g K t.1 t.2.1 t.2.2.1 t.2.2.2.1 t.2.2.2.2.1 t.2.2.2.2.2.1 t.2.2.2.2.2.2.1 := by kernel_rfl
theorem rheostatlaw12_AdcFound_call (K : Nat) (hb : ∀ t : (shOf rheostatlaw12_AdcFound_ps).T, argsBnd rheostatlaw12_AdcFound_ps t → rheostatlaw12_AdcFound_g K t.1 t.2.1 t.2.2.1 t.2.2.2.1 t.2.2.2.2.1 t.2.2.2.2.2.1 t.2.2.2.2.2.2.1 = some true) {w : World} {vals : List Value} (hp : PFits w rheostatlaw12_AdcFound_ps vals) :
    Calls Try.prog 8 vals.toArray w fun e w' => e = .returned (.bool true) ∧ RowKit.Below w.heap.size w w' :=
  call_of (rheostatlaw12_AdcFound_t0 K) (rheostatlaw12_AdcFound_i0 K) (draws (rheostatlaw12_AdcFound_t0 K)) 9 Try.func8 (by kernel_rfl) (by kernel_rfl) outBool_true (fun t ht => (rheostatlaw12_AdcFound_q K t).trans (hb t ht)) hp
end Go.Proofs.Ytijknfmhcnohbaa
