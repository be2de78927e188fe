/-
  The functions of law 20, as plain functions, and that the program does what they say. Printed by a program of ours.
-/
import Derived.Test.YthjjjifpiibmeaaChecked
import Derived.Test.YthjjjifpiibmeaaSyLib
import Derived.KernelRfl
namespace Go.Proofs.Ythjjjifpiibmeaa
open Go.Sy
set_option maxRecDepth 100000
set_option linter.unusedVariables false
noncomputable def tt : List TI := [
  ⟨0, [], .other⟩,
  ⟨0, [], .other⟩,
  ⟨0, [], .other⟩,
  ⟨1, [.i0 .i64 0], .int .i64⟩,
  ⟨1, [.b0 false], .bool⟩,
  ⟨0, [], .other⟩,
  ⟨0, [], .other⟩,
  ⟨0, [], .other⟩,
  ⟨0, [], .other⟩,
  ⟨0, [], .other⟩,
  ⟨0, [], .other⟩,
  ⟨0, [], .other⟩,
  ⟨0, [], .other⟩,
  ⟨0, [], .other⟩,
  ⟨0, [], .other⟩,
  ⟨0, [], .other⟩,
  ⟨0, [], .other⟩,
  ⟨0, [], .other⟩,
  ⟨0, [], .other⟩,
  ⟨0, [], .other⟩,
  ⟨0, [], .other⟩,
  ⟨0, [], .other⟩,
  ⟨0, [], .other⟩,
  ⟨4, [.i0 .i64 0, .b0 false, .i0 .i64 0, .i0 .i64 0], .st [(0, 1, false), (1, 1, false), (2, 1, false), (3, 1, false)]⟩,
  ⟨1, [.i0 .i64 0], .int .i64⟩,
  ⟨0, [], .other⟩,
  ⟨0, [], .other⟩,
  ⟨0, [], .other⟩,
  ⟨0, [], .other⟩,
  ⟨0, [], .other⟩,
  ⟨1, [.sln], .sl 1 8 false [.i0 .i64 0]⟩,
  ⟨0, [], .other⟩,
  ⟨0, [], .other⟩,
  ⟨0, [], .other⟩,
  ⟨0, [], .other⟩,
  ⟨0, [], .other⟩,
  ⟨0, [], .other⟩,
  ⟨0, [], .other⟩,
  ⟨0, [], .other⟩,
  ⟨0, [], .other⟩,
  ⟨0, [], .other⟩,
  ⟨0, [], .other⟩,
  ⟨0, [], .other⟩,
  ⟨0, [], .other⟩,
  ⟨0, [], .other⟩,
  ⟨0, [], .other⟩,
  ⟨0, [], .other⟩,
  ⟨6, [.i0 .i64 0, .b0 false, .i0 .i64 0, .i0 .i64 0, .b0 false, .i0 .i64 0], .st [(0, 4, true), (4, 1, false), (5, 1, false)]⟩,
  ⟨0, [], .other⟩,
  ⟨0, [], .other⟩,
  ⟨0, [], .other⟩,
  ⟨1, [.i0 .u64 0], .int .u64⟩]
theorem tt_ok : tabB Try.prog 0 tt = true := by kernel_rfl
theorem draws {E : Env} (h : EnvT Try.prog E) : DrawOk Try.prog E := draw_ok (Checked.mixed Try.checked) h
/-! guard_within -/
noncomputable def guard_within_e0 (K : Nat) : Env := ⟨tt, [], [], []⟩
theorem guard_within_t0 (K : Nat) : EnvT Try.prog (guard_within_e0 K) := envT_of tt_ok trivial
theorem guard_within_i0 (K : Nat) : EnvI Try.prog (guard_within_e0 K) := envI_of (es := []) trivial trivial
noncomputable def guard_within_l0h : Sh := ⟨24, [(0, .sc (.i .i64)), (1, .sc (.i .i64)), (9, .sc (.slr0 0)), (10, .sc (.i .i64)), (11, .sc (.i .i64))], [(0, [])], [(false, true, [.ir .i64])]⟩
noncomputable def guard_within_l0x0 : Sh := ⟨24, [], [(0, [])], []⟩
noncomputable def guard_within_l0x1 : Sh := ⟨24, [(6, .sc (.b))], [(0, [])], []⟩
noncomputable def guard_within_l0O : OutI ((Unit) ⊕ (Bool × Unit)) := (OutI.or (OutI.exit 0 guard_within_l0x0) (OutI.ret guard_within_l0x1))
noncomputable def guard_within_l0r (K : Nat) (rec : Int → Int → Nat → Int → Int → (Nat → Int) → Option ((Unit) ⊕ (Bool × Unit))) (low_0 : Int) (high_1 : Int) (t_9n : Nat) (t_10 : Int) (t_11 : Int) (m0_0 : (Nat → Int)) : Option ((Unit) ⊕ (Bool × Unit)) :=
  (bif (decide (t_11 < t_10)) then (bif ((decide (0 ≤ t_11)) && (decide (t_11 < ((t_9n : Nat) : Int)))) then (bif (decide ((m0_0 (Int.toNat t_11)) < low_0)) then (some (.inr (false, ()))) else (bif (decide ((m0_0 (Int.toNat t_11)) > high_1)) then (some (.inr (false, ()))) else (rec low_0 high_1 t_9n t_10 (wi64 (t_11 + 1)) m0_0))) else none) else (some (.inl (()))))
noncomputable def guard_within_l0 (K n : Nat) : Int → Int → Nat → Int → Int → (Nat → Int) → Option ((Unit) ⊕ (Bool × Unit)) := Nat.rec (motive := fun _ => Int → Int → Nat → Int → Int → (Nat → Int) → Option ((Unit) ⊕ (Bool × Unit))) (fun _ _ _ _ _ _ => none) (fun _ ih => guard_within_l0r K ih) n
noncomputable def guard_within_l0o (K : Nat) : LO := loopLO guard_within_l0h guard_within_l0O fun t => guard_within_l0 K K t.1 t.2.1 t.2.2.1 t.2.2.2.1 t.2.2.2.2.1 t.2.2.2.2.2.1
noncomputable def guard_within_l0C : Code := bodyOf Try.f26
noncomputable def guard_within_l0B : Code := (findLoops 2 (loopsIn guard_within_l0C)).headD .skip
theorem guard_within_l0F : findLoops 2 (loopsIn guard_within_l0C) = [guard_within_l0B] := by kernel_rfl
theorem guard_within_l0q (K n : Nat) (t : guard_within_l0h.T) : exC (guard_within_e0 K) (hdl (guard_within_e0 K) 0) (26 :: []) guard_within_l0B (guard_within_l0h.put t) (fun s => (guard_within_l0h.take s).bind fun t => guard_within_l0 K n t.1 t.2.1 t.2.2.1 t.2.2.2.1 t.2.2.2.2.1 t.2.2.2.2.2.1) (fun id s => guard_within_l0O.get (some id) s) (fun s => guard_within_l0O.get none s) = guard_within_l0 K (n + 1) t.1 t.2.1 t.2.2.1 t.2.2.2.1 t.2.2.2.2.1 t.2.2.2.2.2.1 := by kernel_rfl
noncomputable def guard_within_l0E (K : Nat) : LoopE Try.prog := ⟨[2, 26], guard_within_l0o K, Try.f26, guard_within_l0C, guard_within_l0B, ⟨2, 26, [], rfl, Try.func26, by kernel_rfl, guard_within_l0F⟩,
  loop_rule (F := fun n t => guard_within_l0 K n t.1 t.2.1 t.2.2.1 t.2.2.2.1 t.2.2.2.2.1 t.2.2.2.2.2.1) (guard_within_t0 K) (guard_within_i0 K) (draws (guard_within_t0 K)) 0 Try.func26 (c := guard_within_l0C) (by kernel_rfl) (body_in guard_within_l0F) (ctx' := []) (h := guard_within_l0h) (O := guard_within_l0O) (fun _ => rfl) (fun m t => guard_within_l0q K m t) K⟩
noncomputable def guard_within_e1 (K : Nat) : Env := ⟨tt, [], [], [([2, 26], guard_within_l0o K)]⟩
theorem guard_within_t1 (K : Nat) : EnvT Try.prog (guard_within_e1 K) := envT_of tt_ok trivial
theorem guard_within_i1 (K : Nat) : EnvI Try.prog (guard_within_e1 K) := envI_of (es := [guard_within_l0E K]) trivial ⟨⟨rfl, rfl⟩, trivial⟩
noncomputable def guard_within_h : Sh := ⟨3, [(0, .sc (.i .i64)), (1, .sc (.i .i64)), (2, .sc (.slr0 0))], [], [(false, true, [.ir .i64])]⟩
noncomputable def guard_within_r : Sh := ⟨1, [(0, .sc (.b))], [], []⟩
noncomputable def guard_within_g (K : Nat) (low_0 : Int) (high_1 : Int) (l_2n : Nat) (m0_0 : (Nat → Int)) : Option (Bool × Unit) :=
  ((guard_within_l0 K K low_0 high_1 l_2n ((l_2n : Nat) : Int) 0 m0_0).bind fun q1 => (Sum.elim (fun q2 => (some (true, ()))) (fun q3 => (some (q3.1, ()))) q1))
noncomputable def guard_within_o (K : Nat) : FO := fnFO guard_within_h guard_within_r fun t => guard_within_g K t.1 t.2.1 t.2.2.1 t.2.2.2.1
theorem guard_within_q (K : Nat) (t : guard_within_h.T) : exFn (guard_within_e1 K) (hdl (guard_within_e1 K) 0) [26] Try.f26 (slVals (guard_within_h.put t).fr.sl) ⟨⟨0, []⟩, [], (guard_within_h.put t).mem⟩ (takeRes guard_within_r) = guard_within_g K t.1 t.2.1 t.2.2.1 t.2.2.2.1 := by kernel_rfl
theorem guard_within_ok (K : Nat) : FOok Try.prog 26 (guard_within_o K) :=
  fn_rule (guard_within_t1 K) (guard_within_i1 K) (draws (guard_within_t1 K)) 0 Try.func26 (fnB_ok Try.func26 (by kernel_rfl)) rfl rfl (allOwn_ok false (by kernel_rfl)) rfl (allOwn_ok true (by kernel_rfl)) (fun t => guard_within_q K t)
/-! guard_alarm_may -/
noncomputable def guard_alarm_may_e0 (K : Nat) : Env := ⟨tt, [(26, guard_within_o K)], [], []⟩
theorem guard_alarm_may_t0 (K : Nat) : EnvT Try.prog (guard_alarm_may_e0 K) := envT_of tt_ok ⟨guard_within_ok K, trivial⟩
theorem guard_alarm_may_i0 (K : Nat) : EnvI Try.prog (guard_alarm_may_e0 K) := envI_of (es := []) trivial trivial
noncomputable def guard_alarm_may_h : Sh := ⟨1, [(0, .ag [.i .i64, .b, .i .i64, .i .i64, .b, .i .i64])], [], []⟩
noncomputable def guard_alarm_may_r : Sh := ⟨1, [(0, .sc (.b))], [], []⟩
noncomputable def guard_alarm_may_g (K : Nat) (a_0_0 : Int) (a_0_1 : Bool) (a_0_2 : Int) (a_0_3 : Int) (a_0_4 : Bool) (a_0_5 : Int) : Option (Bool × Unit) :=
  ((guard_within_g K 0 3 1 (fun j => (selI [a_0_0] j))).bind fun q1 => (bif q1.1 then ((guard_within_g K (-2147483648) 2147483648 1 (fun j => (selI [a_0_2] j))).bind fun q2 => (bif q2.1 then ((guard_within_g K 0 2147483648 1 (fun j => (selI [a_0_3] j))).bind fun q3 => (some (q3.1, ()))) else (some (false, ())))) else (some (false, ()))))
noncomputable def guard_alarm_may_o (K : Nat) : FO := fnFO guard_alarm_may_h guard_alarm_may_r fun t => guard_alarm_may_g K t.1 t.2.1 t.2.2.1 t.2.2.2.1 t.2.2.2.2.1 t.2.2.2.2.2.1
theorem guard_alarm_may_q (K : Nat) (t : guard_alarm_may_h.T) : exFn (guard_alarm_may_e0 K) (hdl (guard_alarm_may_e0 K) 0) [25] Try.f25 (slVals (guard_alarm_may_h.put t).fr.sl) ⟨⟨0, []⟩, [], (guard_alarm_may_h.put t).mem⟩ (takeRes guard_alarm_may_r) = guard_alarm_may_g K t.1 t.2.1 t.2.2.1 t.2.2.2.1 t.2.2.2.2.1 t.2.2.2.2.2.1 := by kernel_rfl
theorem guard_alarm_may_ok (K : Nat) : FOok Try.prog 25 (guard_alarm_may_o K) :=
  fn_rule (guard_alarm_may_t0 K) (guard_alarm_may_i0 K) (draws (guard_alarm_may_t0 K)) 0 Try.func25 (fnB_ok Try.func25 (by kernel_rfl)) rfl rfl (allOwn_ok false (by kernel_rfl)) rfl (allOwn_ok true (by kernel_rfl)) (fun t => guard_alarm_may_q K t)
/-! guard_Back -/
noncomputable def guard_Back_e0 (K : Nat) : Env := ⟨tt, [], [], []⟩
theorem guard_Back_t0 (K : Nat) : EnvT Try.prog (guard_Back_e0 K) := envT_of tt_ok trivial
theorem guard_Back_i0 (K : Nat) : EnvI Try.prog (guard_Back_e0 K) := envI_of (es := []) trivial trivial
noncomputable def guard_Back_h : Sh := ⟨2, [(0, .ag [.i .i64, .b, .i .i64, .i .i64]), (1, .sc (.i .i64))], [], []⟩
noncomputable def guard_Back_r : Sh := ⟨1, [(0, .sc (.b))], [], []⟩
noncomputable def guard_Back_g (K : Nat) (l_0_0 : Int) (l_0_1 : Bool) (l_0_2 : Int) (l_0_3 : Int) (v_1 : Int) : Option (Bool × Unit) :=
  (bif l_0_1 then (some ((decide (v_1 ≤ (wi64 (l_0_2 - l_0_3)))), ())) else (some ((decide (v_1 ≥ (wi64 (l_0_2 + l_0_3)))), ())))
noncomputable def guard_Back_o (K : Nat) : FO := fnFO guard_Back_h guard_Back_r fun t => guard_Back_g K t.1 t.2.1 t.2.2.1 t.2.2.2.1 t.2.2.2.2.1
theorem guard_Back_q (K : Nat) (t : guard_Back_h.T) : exFn (guard_Back_e0 K) (hdl (guard_Back_e0 K) 0) [13] Try.f13 (slVals (guard_Back_h.put t).fr.sl) ⟨⟨0, []⟩, [], (guard_Back_h.put t).mem⟩ (takeRes guard_Back_r) = guard_Back_g K t.1 t.2.1 t.2.2.1 t.2.2.2.1 t.2.2.2.2.1 := by kernel_rfl
theorem guard_Back_ok (K : Nat) : FOok Try.prog 13 (guard_Back_o K) :=
  fn_rule (guard_Back_t0 K) (guard_Back_i0 K) (draws (guard_Back_t0 K)) 0 Try.func13 (fnB_ok Try.func13 (by kernel_rfl)) rfl rfl (allOwn_ok false (by kernel_rfl)) rfl (allOwn_ok true (by kernel_rfl)) (fun t => guard_Back_q K t)
/-! guard_Beyond -/
noncomputable def guard_Beyond_e0 (K : Nat) : Env := ⟨tt, [], [], []⟩
theorem guard_Beyond_t0 (K : Nat) : EnvT Try.prog (guard_Beyond_e0 K) := envT_of tt_ok trivial
theorem guard_Beyond_i0 (K : Nat) : EnvI Try.prog (guard_Beyond_e0 K) := envI_of (es := []) trivial trivial
noncomputable def guard_Beyond_h : Sh := ⟨2, [(0, .ag [.i .i64, .b, .i .i64, .i .i64]), (1, .sc (.i .i64))], [], []⟩
noncomputable def guard_Beyond_r : Sh := ⟨1, [(0, .sc (.b))], [], []⟩
noncomputable def guard_Beyond_g (K : Nat) (l_0_0 : Int) (l_0_1 : Bool) (l_0_2 : Int) (l_0_3 : Int) (v_1 : Int) : Option (Bool × Unit) :=
  (bif l_0_1 then (some ((decide (v_1 > l_0_2)), ())) else (some ((decide (v_1 < l_0_2)), ())))
noncomputable def guard_Beyond_o (K : Nat) : FO := fnFO guard_Beyond_h guard_Beyond_r fun t => guard_Beyond_g K t.1 t.2.1 t.2.2.1 t.2.2.2.1 t.2.2.2.2.1
theorem guard_Beyond_q (K : Nat) (t : guard_Beyond_h.T) : exFn (guard_Beyond_e0 K) (hdl (guard_Beyond_e0 K) 0) [11] Try.f11 (slVals (guard_Beyond_h.put t).fr.sl) ⟨⟨0, []⟩, [], (guard_Beyond_h.put t).mem⟩ (takeRes guard_Beyond_r) = guard_Beyond_g K t.1 t.2.1 t.2.2.1 t.2.2.2.1 t.2.2.2.2.1 := by kernel_rfl
theorem guard_Beyond_ok (K : Nat) : FOok Try.prog 11 (guard_Beyond_o K) :=
  fn_rule (guard_Beyond_t0 K) (guard_Beyond_i0 K) (draws (guard_Beyond_t0 K)) 0 Try.func11 (fnB_ok Try.func11 (by kernel_rfl)) rfl rfl (allOwn_ok false (by kernel_rfl)) rfl (allOwn_ok true (by kernel_rfl)) (fun t => guard_Beyond_q K t)
/-! guard_alarm_holds -/
noncomputable def guard_alarm_holds_e0 (K : Nat) : Env := ⟨tt, [(13, guard_Back_o K), (11, guard_Beyond_o K)], [], []⟩
theorem guard_alarm_holds_t0 (K : Nat) : EnvT Try.prog (guard_alarm_holds_e0 K) := envT_of tt_ok ⟨guard_Back_ok K, guard_Beyond_ok K, trivial⟩
theorem guard_alarm_holds_i0 (K : Nat) : EnvI Try.prog (guard_alarm_holds_e0 K) := envI_of (es := []) trivial trivial
noncomputable def guard_alarm_holds_h : Sh := ⟨2, [(0, .ag [.i .i64, .b, .i .i64, .i .i64, .b, .i .i64]), (1, .sc (.i .i64))], [], []⟩
noncomputable def guard_alarm_holds_r : Sh := ⟨1, [(0, .sc (.b))], [], []⟩
noncomputable def guard_alarm_holds_g (K : Nat) (a_0_0 : Int) (a_0_1 : Bool) (a_0_2 : Int) (a_0_3 : Int) (a_0_4 : Bool) (a_0_5 : Int) (v_1 : Int) : Option (Bool × Unit) :=
  (bif a_0_4 then ((guard_Back_g K a_0_0 a_0_1 a_0_2 a_0_3 v_1).bind fun q1 => (some (q1.1, ()))) else ((guard_Beyond_g K a_0_0 a_0_1 a_0_2 a_0_3 v_1).bind fun q2 => (some (q2.1, ()))))
noncomputable def guard_alarm_holds_o (K : Nat) : FO := fnFO guard_alarm_holds_h guard_alarm_holds_r fun t => guard_alarm_holds_g K t.1 t.2.1 t.2.2.1 t.2.2.2.1 t.2.2.2.2.1 t.2.2.2.2.2.1 t.2.2.2.2.2.2.1
theorem guard_alarm_holds_q (K : Nat) (t : guard_alarm_holds_h.T) : exFn (guard_alarm_holds_e0 K) (hdl (guard_alarm_holds_e0 K) 0) [30] Try.f30 (slVals (guard_alarm_holds_h.put t).fr.sl) ⟨⟨0, []⟩, [], (guard_alarm_holds_h.put t).mem⟩ (takeRes guard_alarm_holds_r) = guard_alarm_holds_g K t.1 t.2.1 t.2.2.1 t.2.2.2.1 t.2.2.2.2.1 t.2.2.2.2.2.1 t.2.2.2.2.2.2.1 := by kernel_rfl
theorem guard_alarm_holds_ok (K : Nat) : FOok Try.prog 30 (guard_alarm_holds_o K) :=
  fn_rule (guard_alarm_holds_t0 K) (guard_alarm_holds_i0 K) (draws (guard_alarm_holds_t0 K)) 0 Try.func30 (fnB_ok Try.func30 (by kernel_rfl)) rfl rfl (allOwn_ok false (by kernel_rfl)) rfl (allOwn_ok true (by kernel_rfl)) (fun t => guard_alarm_holds_q K t)
/-! guard_One -/
noncomputable def guard_One_e0 (K : Nat) : Env := ⟨tt, [(25, guard_alarm_may_o K), (26, guard_within_o K), (30, guard_alarm_holds_o K)], [(27, Try.f27)], []⟩
theorem guard_One_t0 (K : Nat) : EnvT Try.prog (guard_One_e0 K) := envT_of tt_ok ⟨guard_alarm_may_ok K, guard_within_ok K, guard_alarm_holds_ok K, trivial⟩
theorem guard_One_i0 (K : Nat) : EnvI Try.prog (guard_One_e0 K) := envI_of (es := []) ⟨⟨Try.func27, by kernel_rfl⟩, trivial⟩ trivial
noncomputable def guard_One_h : Sh := ⟨5, [(0, .ag [.i .i64, .b, .i .i64, .i .i64]), (1, .sc (.i .i64)), (2, .sc (.b)), (3, .sc (.i .i64)), (4, .sc (.i .i64))], [], []⟩
noncomputable def guard_One_r : Sh := ⟨3, [(0, .sc (.b)), (1, .sc (.i .i64)), (2, .sc (.i .i64))], [], []⟩
noncomputable def guard_One_g (K : Nat) (l_0_0 : Int) (l_0_1 : Bool) (l_0_2 : Int) (l_0_3 : Int) (debounce_1 : Int) (raised_2 : Bool) (run_3 : Int) (v_4 : Int) : Option (Bool × Int × Int × Unit) :=
  ((guard_alarm_may_g K l_0_0 l_0_1 l_0_2 l_0_3 raised_2 run_3).bind fun q1 => (bif (!q1.1) then (some (false, 0, 2, ())) else ((guard_within_g K 1 31 1 (fun j => (selI [debounce_1] j))).bind fun q2 => (bif (!q2.1) then (some (false, 0, 2, ())) else ((guard_within_g K 0 (wi64 (debounce_1 - 1)) 1 (fun j => (selI [run_3] j))).bind fun q3 => (bif (!q3.1) then (some (false, 0, 2, ())) else ((guard_alarm_holds_g K l_0_0 l_0_1 l_0_2 l_0_3 raised_2 run_3 v_4).bind fun q4 => (bif (!q4.1) then (some (raised_2, 0, 0, ())) else (bif ((wi64 (run_3 + 1)) == debounce_1) then (some ((!raised_2), 0, 0, ())) else (some (raised_2, (wi64 (run_3 + 1)), 0, ())))))))))))
noncomputable def guard_One_o (K : Nat) : FO := fnFO guard_One_h guard_One_r fun t => guard_One_g K t.1 t.2.1 t.2.2.1 t.2.2.2.1 t.2.2.2.2.1 t.2.2.2.2.2.1 t.2.2.2.2.2.2.1 t.2.2.2.2.2.2.2.1
theorem guard_One_q (K : Nat) (t : guard_One_h.T) : exFn (guard_One_e0 K) (hdl (guard_One_e0 K) 9) [9] Try.f9 (slVals (guard_One_h.put t).fr.sl) ⟨⟨0, []⟩, [], (guard_One_h.put t).mem⟩ (takeRes guard_One_r) = guard_One_g K t.1 t.2.1 t.2.2.1 t.2.2.2.1 t.2.2.2.2.1 t.2.2.2.2.2.1 t.2.2.2.2.2.2.1 t.2.2.2.2.2.2.2.1 := by kernel_rfl
theorem guard_One_ok (K : Nat) : FOok Try.prog 9 (guard_One_o K) :=
  fn_rule (guard_One_t0 K) (guard_One_i0 K) (draws (guard_One_t0 K)) 9 Try.func9 (fnB_ok Try.func9 (by kernel_rfl)) rfl rfl (allOwn_ok false (by kernel_rfl)) rfl (allOwn_ok true (by kernel_rfl)) (fun t => guard_One_q K t)
/-! rheostatref20_may -/
noncomputable def rheostatref20_may_e0 (K : Nat) : Env := ⟨tt, [], [], []⟩
theorem rheostatref20_may_t0 (K : Nat) : EnvT Try.prog (rheostatref20_may_e0 K) := envT_of tt_ok trivial
theorem rheostatref20_may_i0 (K : Nat) : EnvI Try.prog (rheostatref20_may_e0 K) := envI_of (es := []) trivial trivial
noncomputable def rheostatref20_may_h : Sh := ⟨1, [(0, .ag [.i .i64, .b, .i .i64, .i .i64])], [], []⟩
noncomputable def rheostatref20_may_r : Sh := ⟨1, [(0, .sc (.b))], [], []⟩
noncomputable def rheostatref20_may_g (K : Nat) (l_0_0 : Int) (l_0_1 : Bool) (l_0_2 : Int) (l_0_3 : Int) : Option (Bool × Unit) :=
  (bif (decide (l_0_0 ≥ 0)) then (bif (decide (l_0_0 ≤ 3)) then (bif (decide (l_0_2 ≥ (-2147483648))) then (bif (decide (l_0_2 ≤ 2147483648)) then (bif (decide (l_0_3 ≥ 0)) then (some ((decide (l_0_3 ≤ 2147483648)), ())) else (some (false, ()))) else (some (false, ()))) else (some (false, ()))) else (some (false, ()))) else (some (false, ())))
noncomputable def rheostatref20_may_o (K : Nat) : FO := fnFO rheostatref20_may_h rheostatref20_may_r fun t => rheostatref20_may_g K t.1 t.2.1 t.2.2.1 t.2.2.2.1
theorem rheostatref20_may_q (K : Nat) (t : rheostatref20_may_h.T) : exFn (rheostatref20_may_e0 K) (hdl (rheostatref20_may_e0 K) 0) [28] Try.f28 (slVals (rheostatref20_may_h.put t).fr.sl) ⟨⟨0, []⟩, [], (rheostatref20_may_h.put t).mem⟩ (takeRes rheostatref20_may_r) = rheostatref20_may_g K t.1 t.2.1 t.2.2.1 t.2.2.2.1 := by kernel_rfl
theorem rheostatref20_may_ok (K : Nat) : FOok Try.prog 28 (rheostatref20_may_o K) :=
  fn_rule (rheostatref20_may_t0 K) (rheostatref20_may_i0 K) (draws (rheostatref20_may_t0 K)) 0 Try.func28 (fnB_ok Try.func28 (by kernel_rfl)) rfl rfl (allOwn_ok false (by kernel_rfl)) rfl (allOwn_ok true (by kernel_rfl)) (fun t => rheostatref20_may_q K t)
/-! rheostatref20_Beyond -/
noncomputable def rheostatref20_Beyond_e0 (K : Nat) : Env := ⟨tt, [], [], []⟩
theorem rheostatref20_Beyond_t0 (K : Nat) : EnvT Try.prog (rheostatref20_Beyond_e0 K) := envT_of tt_ok trivial
theorem rheostatref20_Beyond_i0 (K : Nat) : EnvI Try.prog (rheostatref20_Beyond_e0 K) := envI_of (es := []) trivial trivial
noncomputable def rheostatref20_Beyond_h : Sh := ⟨2, [(0, .ag [.i .i64, .b, .i .i64, .i .i64]), (1, .sc (.i .i64))], [], []⟩
noncomputable def rheostatref20_Beyond_r : Sh := ⟨1, [(0, .sc (.b))], [], []⟩
noncomputable def rheostatref20_Beyond_g (K : Nat) (l_0_0 : Int) (l_0_1 : Bool) (l_0_2 : Int) (l_0_3 : Int) (v_1 : Int) : Option (Bool × Unit) :=
  (bif l_0_1 then (some ((decide (v_1 > l_0_2)), ())) else (some ((decide (v_1 < l_0_2)), ())))
noncomputable def rheostatref20_Beyond_o (K : Nat) : FO := fnFO rheostatref20_Beyond_h rheostatref20_Beyond_r fun t => rheostatref20_Beyond_g K t.1 t.2.1 t.2.2.1 t.2.2.2.1 t.2.2.2.2.1
theorem rheostatref20_Beyond_q (K : Nat) (t : rheostatref20_Beyond_h.T) : exFn (rheostatref20_Beyond_e0 K) (hdl (rheostatref20_Beyond_e0 K) 0) [12] Try.f12 (slVals (rheostatref20_Beyond_h.put t).fr.sl) ⟨⟨0, []⟩, [], (rheostatref20_Beyond_h.put t).mem⟩ (takeRes rheostatref20_Beyond_r) = rheostatref20_Beyond_g K t.1 t.2.1 t.2.2.1 t.2.2.2.1 t.2.2.2.2.1 := by kernel_rfl
theorem rheostatref20_Beyond_ok (K : Nat) : FOok Try.prog 12 (rheostatref20_Beyond_o K) :=
  fn_rule (rheostatref20_Beyond_t0 K) (rheostatref20_Beyond_i0 K) (draws (rheostatref20_Beyond_t0 K)) 0 Try.func12 (fnB_ok Try.func12 (by kernel_rfl)) rfl rfl (allOwn_ok false (by kernel_rfl)) rfl (allOwn_ok true (by kernel_rfl)) (fun t => rheostatref20_Beyond_q K t)
/-! rheostatref20_Back -/
noncomputable def rheostatref20_Back_e0 (K : Nat) : Env := ⟨tt, [], [], []⟩
theorem rheostatref20_Back_t0 (K : Nat) : EnvT Try.prog (rheostatref20_Back_e0 K) := envT_of tt_ok trivial
theorem rheostatref20_Back_i0 (K : Nat) : EnvI Try.prog (rheostatref20_Back_e0 K) := envI_of (es := []) trivial trivial
noncomputable def rheostatref20_Back_h : Sh := ⟨2, [(0, .ag [.i .i64, .b, .i .i64, .i .i64]), (1, .sc (.i .i64))], [], []⟩
noncomputable def rheostatref20_Back_r : Sh := ⟨1, [(0, .sc (.b))], [], []⟩
noncomputable def rheostatref20_Back_g (K : Nat) (l_0_0 : Int) (l_0_1 : Bool) (l_0_2 : Int) (l_0_3 : Int) (v_1 : Int) : Option (Bool × Unit) :=
  (bif l_0_1 then (some ((decide (v_1 ≤ (wi64 (l_0_2 - l_0_3)))), ())) else (some ((decide (v_1 ≥ (wi64 (l_0_2 + l_0_3)))), ())))
noncomputable def rheostatref20_Back_o (K : Nat) : FO := fnFO rheostatref20_Back_h rheostatref20_Back_r fun t => rheostatref20_Back_g K t.1 t.2.1 t.2.2.1 t.2.2.2.1 t.2.2.2.2.1
theorem rheostatref20_Back_q (K : Nat) (t : rheostatref20_Back_h.T) : exFn (rheostatref20_Back_e0 K) (hdl (rheostatref20_Back_e0 K) 0) [14] Try.f14 (slVals (rheostatref20_Back_h.put t).fr.sl) ⟨⟨0, []⟩, [], (rheostatref20_Back_h.put t).mem⟩ (takeRes rheostatref20_Back_r) = rheostatref20_Back_g K t.1 t.2.1 t.2.2.1 t.2.2.2.1 t.2.2.2.2.1 := by kernel_rfl
theorem rheostatref20_Back_ok (K : Nat) : FOok Try.prog 14 (rheostatref20_Back_o K) :=
  fn_rule (rheostatref20_Back_t0 K) (rheostatref20_Back_i0 K) (draws (rheostatref20_Back_t0 K)) 0 Try.func14 (fnB_ok Try.func14 (by kernel_rfl)) rfl rfl (allOwn_ok false (by kernel_rfl)) rfl (allOwn_ok true (by kernel_rfl)) (fun t => rheostatref20_Back_q K t)
/-! rheostatref20_One -/
noncomputable def rheostatref20_One_e0 (K : Nat) : Env := ⟨tt, [(28, rheostatref20_may_o K), (12, rheostatref20_Beyond_o K), (14, rheostatref20_Back_o K)], [], []⟩
theorem rheostatref20_One_t0 (K : Nat) : EnvT Try.prog (rheostatref20_One_e0 K) := envT_of tt_ok ⟨rheostatref20_may_ok K, rheostatref20_Beyond_ok K, rheostatref20_Back_ok K, trivial⟩
theorem rheostatref20_One_i0 (K : Nat) : EnvI Try.prog (rheostatref20_One_e0 K) := envI_of (es := []) trivial trivial
noncomputable def rheostatref20_One_h : Sh := ⟨5, [(0, .ag [.i .i64, .b, .i .i64, .i .i64]), (1, .sc (.i .i64)), (2, .sc (.b)), (3, .sc (.i .i64)), (4, .sc (.i .i64))], [], []⟩
noncomputable def rheostatref20_One_r : Sh := ⟨3, [(0, .sc (.b)), (1, .sc (.i .i64)), (2, .sc (.i .i64))], [], []⟩
noncomputable def rheostatref20_One_g (K : Nat) (l_0_0 : Int) (l_0_1 : Bool) (l_0_2 : Int) (l_0_3 : Int) (debounce_1 : Int) (raised_2 : Bool) (run_3 : Int) (v_4 : Int) : Option (Bool × Int × Int × Unit) :=
  ((rheostatref20_may_g K l_0_0 l_0_1 l_0_2 l_0_3).bind fun q1 => (bif (!q1.1) then (some (false, 0, 2, ())) else (bif (decide (debounce_1 < 1)) then (some (false, 0, 2, ())) else (bif (decide (debounce_1 > 31)) then (some (false, 0, 2, ())) else (bif (decide (run_3 < 0)) then (some (false, 0, 2, ())) else (bif (decide (run_3 ≥ debounce_1)) then (some (false, 0, 2, ())) else ((rheostatref20_Beyond_g K l_0_0 l_0_1 l_0_2 l_0_3 v_4).bind fun q2 => (bif raised_2 then ((rheostatref20_Back_g K l_0_0 l_0_1 l_0_2 l_0_3 v_4).bind fun q3 => (bif (!q3.1) then (some (raised_2, 0, 0, ())) else (bif ((wi64 (run_3 + 1)) == debounce_1) then (some ((!raised_2), 0, 0, ())) else (some (raised_2, (wi64 (run_3 + 1)), 0, ()))))) else (bif (!q2.1) then (some (raised_2, 0, 0, ())) else (bif ((wi64 (run_3 + 1)) == debounce_1) then (some ((!raised_2), 0, 0, ())) else (some (raised_2, (wi64 (run_3 + 1)), 0, ()))))))))))))
noncomputable def rheostatref20_One_o (K : Nat) : FO := fnFO rheostatref20_One_h rheostatref20_One_r fun t => rheostatref20_One_g K t.1 t.2.1 t.2.2.1 t.2.2.2.1 t.2.2.2.2.1 t.2.2.2.2.2.1 t.2.2.2.2.2.2.1 t.2.2.2.2.2.2.2.1
theorem rheostatref20_One_q (K : Nat) (t : rheostatref20_One_h.T) : exFn (rheostatref20_One_e0 K) (hdl (rheostatref20_One_e0 K) 0) [10] Try.f10 (slVals (rheostatref20_One_h.put t).fr.sl) ⟨⟨0, []⟩, [], (rheostatref20_One_h.put t).mem⟩ (takeRes rheostatref20_One_r) = rheostatref20_One_g K t.1 t.2.1 t.2.2.1 t.2.2.2.1 t.2.2.2.2.1 t.2.2.2.2.2.1 t.2.2.2.2.2.2.1 t.2.2.2.2.2.2.2.1 := by kernel_rfl
theorem rheostatref20_One_ok (K : Nat) : FOok Try.prog 10 (rheostatref20_One_o K) :=
  fn_rule (rheostatref20_One_t0 K) (rheostatref20_One_i0 K) (draws (rheostatref20_One_t0 K)) 0 Try.func10 (fnB_ok Try.func10 (by kernel_rfl)) rfl rfl (allOwn_ok false (by kernel_rfl)) rfl (allOwn_ok true (by kernel_rfl)) (fun t => rheostatref20_One_q K t)
/-! guard_List -/
noncomputable def guard_List_e0 (K : Nat) : Env := ⟨tt, [(26, guard_within_o K)], [], []⟩
theorem guard_List_t0 (K : Nat) : EnvT Try.prog (guard_List_e0 K) := envT_of tt_ok ⟨guard_within_ok K, trivial⟩
theorem guard_List_i0 (K : Nat) : EnvI Try.prog (guard_List_e0 K) := envI_of (es := []) trivial trivial
noncomputable def guard_List_l0h : Sh := ⟨23, [(0, .sc (.i .i64)), (3, .sc (.slr0 0)), (9, .sc (.i .i64))], [(0, [])], [(true, true, [.ir .i64])]⟩
noncomputable def guard_List_l0x0 : Sh := ⟨23, [(3, .sc (.slr0 0))], [(0, [])], [(true, true, [.ir .i64])]⟩
noncomputable def guard_List_l0O : OutI (Nat × (Nat → Int) × Unit) := (OutI.exit 0 guard_List_l0x0)
noncomputable def guard_List_l0r (K : Nat) (rec : Int → Nat → Int → (Nat → Int) → Option (Nat × (Nat → Int) × Unit)) (raised_0 : Int) (l_3n : Nat) (t_9 : Int) (m0_0 : (Nat → Int)) : Option (Nat × (Nat → Int) × Unit) :=
  (bif (decide (t_9 < 6)) then (bif (decide (t_9 < 0)) then none else (bif ((bitAnd .i64 (shR .i64 raised_0 t_9) 1) == 1) then (bif (Nat.ble ((l_3n + 1) * 8) 140737488355328) then (rec raised_0 (l_3n + 1) (wi64 (t_9 + 1)) (fun j => (bif (Nat.blt j l_3n) then (m0_0 j) else (selI [t_9] (j - l_3n))))) else none) else (rec raised_0 l_3n (wi64 (t_9 + 1)) m0_0))) else (some (l_3n, m0_0, ())))
noncomputable def guard_List_l0 (K n : Nat) : Int → Nat → Int → (Nat → Int) → Option (Nat × (Nat → Int) × Unit) := Nat.rec (motive := fun _ => Int → Nat → Int → (Nat → Int) → Option (Nat × (Nat → Int) × Unit)) (fun _ _ _ _ => none) (fun _ ih => guard_List_l0r K ih) n
noncomputable def guard_List_l0o (K : Nat) : LO := loopLO guard_List_l0h guard_List_l0O fun t => guard_List_l0 K K t.1 t.2.1 t.2.2.1 t.2.2.2.1
noncomputable def guard_List_l0C : Code := bodyOf Try.f22
noncomputable def guard_List_l0B : Code := (findLoops 5 (loopsIn guard_List_l0C)).headD .skip
theorem guard_List_l0F : findLoops 5 (loopsIn guard_List_l0C) = [guard_List_l0B] := by kernel_rfl
theorem guard_List_l0q (K n : Nat) (t : guard_List_l0h.T) : exC (guard_List_e0 K) (hdl (guard_List_e0 K) 0) (22 :: []) guard_List_l0B (guard_List_l0h.put t) (fun s => (guard_List_l0h.take s).bind fun t => guard_List_l0 K n t.1 t.2.1 t.2.2.1 t.2.2.2.1) (fun id s => guard_List_l0O.get (some id) s) (fun s => guard_List_l0O.get none s) = guard_List_l0 K (n + 1) t.1 t.2.1 t.2.2.1 t.2.2.2.1 := by kernel_rfl
noncomputable def guard_List_l0E (K : Nat) : LoopE Try.prog := ⟨[5, 22], guard_List_l0o K, Try.f22, guard_List_l0C, guard_List_l0B, ⟨5, 22, [], rfl, Try.func22, by kernel_rfl, guard_List_l0F⟩,
  loop_rule (F := fun n t => guard_List_l0 K n t.1 t.2.1 t.2.2.1 t.2.2.2.1) (guard_List_t0 K) (guard_List_i0 K) (draws (guard_List_t0 K)) 0 Try.func22 (c := guard_List_l0C) (by kernel_rfl) (body_in guard_List_l0F) (ctx' := []) (h := guard_List_l0h) (O := guard_List_l0O) (fun _ => rfl) (fun m t => guard_List_l0q K m t) K⟩
noncomputable def guard_List_e1 (K : Nat) : Env := ⟨tt, [(26, guard_within_o K)], [], [([5, 22], guard_List_l0o K)]⟩
theorem guard_List_t1 (K : Nat) : EnvT Try.prog (guard_List_e1 K) := envT_of tt_ok ⟨guard_within_ok K, trivial⟩
theorem guard_List_i1 (K : Nat) : EnvI Try.prog (guard_List_e1 K) := envI_of (es := [guard_List_l0E K]) trivial ⟨⟨rfl, rfl⟩, trivial⟩
noncomputable def guard_List_h : Sh := ⟨1, [(0, .sc (.i .i64))], [], []⟩
noncomputable def guard_List_r : Sh := ⟨1, [(0, .sc (.slr0 0))], [], [(true, true, [.ir .i64])]⟩
noncomputable def guard_List_g (K : Nat) (raised_0 : Int) : Option (Nat × (Nat → Int) × Unit) :=
  ((guard_within_g K 0 63 1 (fun j => (selI [raised_0] j))).bind fun q1 => (bif (!q1.1) then (some (0, (fun _ => 0), ())) else ((guard_List_l0 K K raised_0 0 0 (fun _ => 0)).bind fun q2 => (some (q2.1, q2.2.1, ())))))
noncomputable def guard_List_o (K : Nat) : FO := fnFO guard_List_h guard_List_r fun t => guard_List_g K t.1
theorem guard_List_q (K : Nat) (t : guard_List_h.T) : exFn (guard_List_e1 K) (hdl (guard_List_e1 K) 0) [22] Try.f22 (slVals (guard_List_h.put t).fr.sl) ⟨⟨0, []⟩, [], (guard_List_h.put t).mem⟩ (takeRes guard_List_r) = guard_List_g K t.1 := by kernel_rfl
theorem guard_List_ok (K : Nat) : FOok Try.prog 22 (guard_List_o K) :=
  fn_rule (guard_List_t1 K) (guard_List_i1 K) (draws (guard_List_t1 K)) 0 Try.func22 (fnB_ok Try.func22 (by kernel_rfl)) rfl rfl (allOwn_ok false (by kernel_rfl)) rfl (allOwn_ok true (by kernel_rfl)) (fun t => guard_List_q K t)
/-! rheostatbase_SameInts -/
noncomputable def rheostatbase_SameInts_e0 (K : Nat) : Env := ⟨tt, [], [], []⟩
theorem rheostatbase_SameInts_t0 (K : Nat) : EnvT Try.prog (rheostatbase_SameInts_e0 K) := envT_of tt_ok trivial
theorem rheostatbase_SameInts_i0 (K : Nat) : EnvI Try.prog (rheostatbase_SameInts_e0 K) := envI_of (es := []) trivial trivial
noncomputable def rheostatbase_SameInts_l0h : Sh := ⟨26, [(0, .sc (.slr0 0)), (1, .sc (.slr0 1)), (5, .sc (.i .i64))], [(0, [])], [(false, true, [.ir .i64]), (false, true, [.ir .i64])]⟩
noncomputable def rheostatbase_SameInts_l0x0 : Sh := ⟨26, [], [(0, [])], []⟩
noncomputable def rheostatbase_SameInts_l0x1 : Sh := ⟨26, [(4, .sc (.b))], [(0, [])], []⟩
noncomputable def rheostatbase_SameInts_l0O : OutI ((Unit) ⊕ (Bool × Unit)) := (OutI.or (OutI.exit 0 rheostatbase_SameInts_l0x0) (OutI.ret rheostatbase_SameInts_l0x1))
noncomputable def rheostatbase_SameInts_l0r (K : Nat) (rec : Nat → Nat → Int → (Nat → Int) → (Nat → Int) → Option ((Unit) ⊕ (Bool × Unit))) (a_0n : Nat) (b_1n : Nat) (i_5 : Int) (m0_0 : (Nat → Int)) (m1_0 : (Nat → Int)) : Option ((Unit) ⊕ (Bool × Unit)) :=
  (bif (decide (i_5 < ((a_0n : Nat) : Int))) then (bif ((decide (0 ≤ i_5)) && (decide (i_5 < ((a_0n : Nat) : Int)))) then (bif ((decide (0 ≤ i_5)) && (decide (i_5 < ((b_1n : Nat) : Int)))) then (bif ((m0_0 (Int.toNat i_5)) != (m1_0 (Int.toNat i_5))) then (some (.inr (false, ()))) else (rec a_0n b_1n (wi64 (i_5 + 1)) m0_0 m1_0)) else none) else none) else (some (.inl (()))))
noncomputable def rheostatbase_SameInts_l0 (K n : Nat) : Nat → Nat → Int → (Nat → Int) → (Nat → Int) → Option ((Unit) ⊕ (Bool × Unit)) := Nat.rec (motive := fun _ => Nat → Nat → Int → (Nat → Int) → (Nat → Int) → Option ((Unit) ⊕ (Bool × Unit))) (fun _ _ _ _ _ => none) (fun _ ih => rheostatbase_SameInts_l0r K ih) n
noncomputable def rheostatbase_SameInts_l0o (K : Nat) : LO := loopLO rheostatbase_SameInts_l0h rheostatbase_SameInts_l0O fun t => rheostatbase_SameInts_l0 K K t.1 t.2.1 t.2.2.1 t.2.2.2.1 t.2.2.2.2.1
noncomputable def rheostatbase_SameInts_l0C : Code := bodyOf Try.f21
noncomputable def rheostatbase_SameInts_l0B : Code := (findLoops 4 (loopsIn rheostatbase_SameInts_l0C)).headD .skip
theorem rheostatbase_SameInts_l0F : findLoops 4 (loopsIn rheostatbase_SameInts_l0C) = [rheostatbase_SameInts_l0B] := by kernel_rfl
theorem rheostatbase_SameInts_l0q (K n : Nat) (t : rheostatbase_SameInts_l0h.T) : exC (rheostatbase_SameInts_e0 K) (hdl (rheostatbase_SameInts_e0 K) 0) (21 :: []) rheostatbase_SameInts_l0B (rheostatbase_SameInts_l0h.put t) (fun s => (rheostatbase_SameInts_l0h.take s).bind fun t => rheostatbase_SameInts_l0 K n t.1 t.2.1 t.2.2.1 t.2.2.2.1 t.2.2.2.2.1) (fun id s => rheostatbase_SameInts_l0O.get (some id) s) (fun s => rheostatbase_SameInts_l0O.get none s) = rheostatbase_SameInts_l0 K (n + 1) t.1 t.2.1 t.2.2.1 t.2.2.2.1 t.2.2.2.2.1 := by kernel_rfl
noncomputable def rheostatbase_SameInts_l0E (K : Nat) : LoopE Try.prog := ⟨[4, 21], rheostatbase_SameInts_l0o K, Try.f21, rheostatbase_SameInts_l0C, rheostatbase_SameInts_l0B, ⟨4, 21, [], rfl, Try.func21, by kernel_rfl, rheostatbase_SameInts_l0F⟩,
  loop_rule (F := fun n t => rheostatbase_SameInts_l0 K n t.1 t.2.1 t.2.2.1 t.2.2.2.1 t.2.2.2.2.1) (rheostatbase_SameInts_t0 K) (rheostatbase_SameInts_i0 K) (draws (rheostatbase_SameInts_t0 K)) 0 Try.func21 (c := rheostatbase_SameInts_l0C) (by kernel_rfl) (body_in rheostatbase_SameInts_l0F) (ctx' := []) (h := rheostatbase_SameInts_l0h) (O := rheostatbase_SameInts_l0O) (fun _ => rfl) (fun m t => rheostatbase_SameInts_l0q K m t) K⟩
noncomputable def rheostatbase_SameInts_e1 (K : Nat) : Env := ⟨tt, [], [], [([4, 21], rheostatbase_SameInts_l0o K)]⟩
theorem rheostatbase_SameInts_t1 (K : Nat) : EnvT Try.prog (rheostatbase_SameInts_e1 K) := envT_of tt_ok trivial
theorem rheostatbase_SameInts_i1 (K : Nat) : EnvI Try.prog (rheostatbase_SameInts_e1 K) := envI_of (es := [rheostatbase_SameInts_l0E K]) trivial ⟨⟨rfl, rfl⟩, trivial⟩
noncomputable def rheostatbase_SameInts_h : Sh := ⟨2, [(0, .sc (.slr0 0)), (1, .sc (.slr0 1))], [], [(false, true, [.ir .i64]), (false, true, [.ir .i64])]⟩
noncomputable def rheostatbase_SameInts_r : Sh := ⟨1, [(0, .sc (.b))], [], []⟩
noncomputable def rheostatbase_SameInts_g (K : Nat) (a_0n : Nat) (b_1n : Nat) (m0_0 : (Nat → Int)) (m1_0 : (Nat → Int)) : Option (Bool × Unit) :=
  (bif (((a_0n : Nat) : Int) != ((b_1n : Nat) : Int)) then (some (false, ())) else ((rheostatbase_SameInts_l0 K K a_0n b_1n 0 m0_0 m1_0).bind fun q1 => (Sum.elim (fun q2 => (some (true, ()))) (fun q3 => (some (q3.1, ()))) q1)))
noncomputable def rheostatbase_SameInts_o (K : Nat) : FO := fnFO rheostatbase_SameInts_h rheostatbase_SameInts_r fun t => rheostatbase_SameInts_g K t.1 t.2.1 t.2.2.1 t.2.2.2.1
theorem rheostatbase_SameInts_q (K : Nat) (t : rheostatbase_SameInts_h.T) : exFn (rheostatbase_SameInts_e1 K) (hdl (rheostatbase_SameInts_e1 K) 0) [21] Try.f21 (slVals (rheostatbase_SameInts_h.put t).fr.sl) ⟨⟨0, []⟩, [], (rheostatbase_SameInts_h.put t).mem⟩ (takeRes rheostatbase_SameInts_r) = rheostatbase_SameInts_g K t.1 t.2.1 t.2.2.1 t.2.2.2.1 := by kernel_rfl
theorem rheostatbase_SameInts_ok (K : Nat) : FOok Try.prog 21 (rheostatbase_SameInts_o K) :=
  fn_rule (rheostatbase_SameInts_t1 K) (rheostatbase_SameInts_i1 K) (draws (rheostatbase_SameInts_t1 K)) 0 Try.func21 (fnB_ok Try.func21 (by kernel_rfl)) rfl rfl (allOwn_ok false (by kernel_rfl)) rfl (allOwn_ok true (by kernel_rfl)) (fun t => rheostatbase_SameInts_q K t)
/-! rheostatlaw20_works -/
noncomputable def rheostatlaw20_works_e0 (K : Nat) : Env := ⟨tt, [(9, guard_One_o K), (11, guard_Beyond_o K), (13, guard_Back_o K), (22, guard_List_o K), (21, rheostatbase_SameInts_o K)], [], []⟩
theorem rheostatlaw20_works_t0 (K : Nat) : EnvT Try.prog (rheostatlaw20_works_e0 K) := envT_of tt_ok ⟨guard_One_ok K, guard_Beyond_ok K, guard_Back_ok K, guard_List_ok K, rheostatbase_SameInts_ok K, trivial⟩
theorem rheostatlaw20_works_i0 (K : Nat) : EnvI Try.prog (rheostatlaw20_works_e0 K) := envI_of (es := []) trivial trivial
noncomputable def rheostatlaw20_works_l0h : Sh := ⟨52, [(1, .sc (.lit (.p 0 0 0 []))), (2, .sc (.b)), (3, .sc (.i .i64)), (10, .sc (.slf 1 0 1 5)), (11, .sc (.i .i64)), (12, .sc (.i .i64))], [(0, [])], [(true, false, [.i .i64, .b, .i .i64, .i .i64]), (true, false, [.i .i64, .i .i64, .i .i64, .i .i64, .i .i64])]⟩
noncomputable def rheostatlaw20_works_l0x0 : Sh := ⟨52, [(1, .sc (.lit (.p 0 0 0 [])))], [(0, [])], [(true, false, [.i .i64, .b, .i .i64, .i .i64])]⟩
noncomputable def rheostatlaw20_works_l0x1 : Sh := ⟨52, [(0, .sc (.b))], [(0, [])], []⟩
noncomputable def rheostatlaw20_works_l0O : OutI ((Int × Bool × Int × Int × Unit) ⊕ (Bool × Unit)) := (OutI.or (OutI.exit 0 rheostatlaw20_works_l0x0) (OutI.ret rheostatlaw20_works_l0x1))
noncomputable def rheostatlaw20_works_l0r (K : Nat) (rec : Bool → Int → Nat → Nat → Int → Int → Int → Bool → Int → Int → Int → Int → Int → Int → Int → Option ((Int × Bool × Int × Int × Unit) ⊕ (Bool × Unit))) (up_2 : Bool) (run_3 : Int) (t_10f : Nat) (t_10n : Nat) (t_11 : Int) (t_12 : Int) (m0_0 : Int) (m0_1 : Bool) (m0_2 : Int) (m0_3 : Int) (m1_0 : Int) (m1_1 : Int) (m1_2 : Int) (m1_3 : Int) (m1_4 : Int) : Option ((Int × Bool × Int × Int × Unit) ⊕ (Bool × Unit)) :=
  (bif (decide (t_12 < t_11)) then (bif ((decide (0 ≤ t_12)) && (decide (t_12 < ((t_10n : Nat) : Int)))) then ((guard_One_g K m0_0 m0_1 m0_2 m0_3 2 up_2 run_3 (selI [m1_0, m1_1, m1_2, m1_3, m1_4] ((Int.toNat t_12) + t_10f))).bind fun q1 => (bif (q1.2.2.1 != 0) then (some (.inr (false, ()))) else (bif (decide (t_12 ≥ 1)) then (bif (!(q1.1 == (decide (t_12 ≤ 3)))) then (some (.inr (false, ()))) else (rec q1.1 q1.2.1 t_10f t_10n t_11 (wi64 (t_12 + 1)) m0_0 m0_1 m0_2 m0_3 m1_0 m1_1 m1_2 m1_3 m1_4)) else (bif (!(q1.1 == false)) then (some (.inr (false, ()))) else (rec q1.1 q1.2.1 t_10f t_10n t_11 (wi64 (t_12 + 1)) m0_0 m0_1 m0_2 m0_3 m1_0 m1_1 m1_2 m1_3 m1_4))))) else none) else (some (.inl (m0_0, m0_1, m0_2, m0_3, ()))))
noncomputable def rheostatlaw20_works_l0 (K n : Nat) : Bool → Int → Nat → Nat → Int → Int → Int → Bool → Int → Int → Int → Int → Int → Int → Int → Option ((Int × Bool × Int × Int × Unit) ⊕ (Bool × Unit)) := Nat.rec (motive := fun _ => Bool → Int → Nat → Nat → Int → Int → Int → Bool → Int → Int → Int → Int → Int → Int → Int → Option ((Int × Bool × Int × Int × Unit) ⊕ (Bool × Unit))) (fun _ _ _ _ _ _ _ _ _ _ _ _ _ _ _ => none) (fun _ ih => rheostatlaw20_works_l0r K ih) n
noncomputable def rheostatlaw20_works_l0o (K : Nat) : LO := loopLO rheostatlaw20_works_l0h rheostatlaw20_works_l0O fun t => rheostatlaw20_works_l0 K K t.1 t.2.1 t.2.2.1 t.2.2.2.1 t.2.2.2.2.1 t.2.2.2.2.2.1 t.2.2.2.2.2.2.1 t.2.2.2.2.2.2.2.1 t.2.2.2.2.2.2.2.2.1 t.2.2.2.2.2.2.2.2.2.1 t.2.2.2.2.2.2.2.2.2.2.1 t.2.2.2.2.2.2.2.2.2.2.2.1 t.2.2.2.2.2.2.2.2.2.2.2.2.1 t.2.2.2.2.2.2.2.2.2.2.2.2.2.1 t.2.2.2.2.2.2.2.2.2.2.2.2.2.2.1
noncomputable def rheostatlaw20_works_l0C : Code := bodyOf Try.f15
noncomputable def rheostatlaw20_works_l0B : Code := (findLoops 4 (loopsIn rheostatlaw20_works_l0C)).headD .skip
theorem rheostatlaw20_works_l0F : findLoops 4 (loopsIn rheostatlaw20_works_l0C) = [rheostatlaw20_works_l0B] := by kernel_rfl
theorem rheostatlaw20_works_l0q (K n : Nat) (t : rheostatlaw20_works_l0h.T) : exC (rheostatlaw20_works_e0 K) (hdl (rheostatlaw20_works_e0 K) 0) (15 :: []) rheostatlaw20_works_l0B (rheostatlaw20_works_l0h.put t) (fun s => (rheostatlaw20_works_l0h.take s).bind fun t => rheostatlaw20_works_l0 K n t.1 t.2.1 t.2.2.1 t.2.2.2.1 t.2.2.2.2.1 t.2.2.2.2.2.1 t.2.2.2.2.2.2.1 t.2.2.2.2.2.2.2.1 t.2.2.2.2.2.2.2.2.1 t.2.2.2.2.2.2.2.2.2.1 t.2.2.2.2.2.2.2.2.2.2.1 t.2.2.2.2.2.2.2.2.2.2.2.1 t.2.2.2.2.2.2.2.2.2.2.2.2.1 t.2.2.2.2.2.2.2.2.2.2.2.2.2.1 t.2.2.2.2.2.2.2.2.2.2.2.2.2.2.1) (fun id s => rheostatlaw20_works_l0O.get (some id) s) (fun s => rheostatlaw20_works_l0O.get none s) = rheostatlaw20_works_l0 K (n + 1) t.1 t.2.1 t.2.2.1 t.2.2.2.1 t.2.2.2.2.1 t.2.2.2.2.2.1 t.2.2.2.2.2.2.1 t.2.2.2.2.2.2.2.1 t.2.2.2.2.2.2.2.2.1 t.2.2.2.2.2.2.2.2.2.1 t.2.2.2.2.2.2.2.2.2.2.1 t.2.2.2.2.2.2.2.2.2.2.2.1 t.2.2.2.2.2.2.2.2.2.2.2.2.1 t.2.2.2.2.2.2.2.2.2.2.2.2.2.1 t.2.2.2.2.2.2.2.2.2.2.2.2.2.2.1 := by kernel_rfl
noncomputable def rheostatlaw20_works_l0E (K : Nat) : LoopE Try.prog := ⟨[4, 15], rheostatlaw20_works_l0o K, Try.f15, rheostatlaw20_works_l0C, rheostatlaw20_works_l0B, ⟨4, 15, [], rfl, Try.func15, by kernel_rfl, rheostatlaw20_works_l0F⟩,
  loop_rule (F := fun n t => rheostatlaw20_works_l0 K n t.1 t.2.1 t.2.2.1 t.2.2.2.1 t.2.2.2.2.1 t.2.2.2.2.2.1 t.2.2.2.2.2.2.1 t.2.2.2.2.2.2.2.1 t.2.2.2.2.2.2.2.2.1 t.2.2.2.2.2.2.2.2.2.1 t.2.2.2.2.2.2.2.2.2.2.1 t.2.2.2.2.2.2.2.2.2.2.2.1 t.2.2.2.2.2.2.2.2.2.2.2.2.1 t.2.2.2.2.2.2.2.2.2.2.2.2.2.1 t.2.2.2.2.2.2.2.2.2.2.2.2.2.2.1) (rheostatlaw20_works_t0 K) (rheostatlaw20_works_i0 K) (draws (rheostatlaw20_works_t0 K)) 0 Try.func15 (c := rheostatlaw20_works_l0C) (by kernel_rfl) (body_in rheostatlaw20_works_l0F) (ctx' := []) (h := rheostatlaw20_works_l0h) (O := rheostatlaw20_works_l0O) (fun _ => rfl) (fun m t => rheostatlaw20_works_l0q K m t) K⟩
noncomputable def rheostatlaw20_works_e1 (K : Nat) : Env := ⟨tt, [(9, guard_One_o K), (11, guard_Beyond_o K), (13, guard_Back_o K), (22, guard_List_o K), (21, rheostatbase_SameInts_o K)], [], [([4, 15], rheostatlaw20_works_l0o K)]⟩
theorem rheostatlaw20_works_t1 (K : Nat) : EnvT Try.prog (rheostatlaw20_works_e1 K) := envT_of tt_ok ⟨guard_One_ok K, guard_Beyond_ok K, guard_Back_ok K, guard_List_ok K, rheostatbase_SameInts_ok K, trivial⟩
theorem rheostatlaw20_works_i1 (K : Nat) : EnvI Try.prog (rheostatlaw20_works_e1 K) := envI_of (es := [rheostatlaw20_works_l0E K]) trivial ⟨⟨rfl, rfl⟩, trivial⟩
noncomputable def rheostatlaw20_works_h : Sh := ⟨0, [], [], []⟩
noncomputable def rheostatlaw20_works_r : Sh := ⟨1, [(0, .sc (.b))], [], []⟩
noncomputable def rheostatlaw20_works_g (K : Nat)  : Option (Bool × Unit) :=
  ((rheostatlaw20_works_l0 K K false 0 0 5 5 0 0 true 100 10 101 101 95 90 90).bind fun q1 => (Sum.elim (fun q2 => ((guard_Beyond_g K q2.1 q2.2.1 q2.2.2.1 q2.2.2.2.1 101).bind fun q4 => (bif q4.1 then ((guard_Back_g K q2.1 q2.2.1 q2.2.2.1 q2.2.2.2.1 90).bind fun q5 => (bif q5.1 then ((guard_List_g K 5).bind fun q6 => ((rheostatbase_SameInts_g K q6.1 2 q6.2.1 (fun j => (selI [0, 2] j))).bind fun q7 => (some (q7.1, ())))) else (some (false, ())))) else (some (false, ()))))) (fun q3 => (some (q3.1, ()))) q1))
noncomputable def rheostatlaw20_works_o (K : Nat) : FO := fnFO rheostatlaw20_works_h rheostatlaw20_works_r fun t => rheostatlaw20_works_g K
theorem rheostatlaw20_works_q (K : Nat) (t : rheostatlaw20_works_h.T) : exFn (rheostatlaw20_works_e1 K) (hdl (rheostatlaw20_works_e1 K) 0) [15] Try.f15 (slVals (rheostatlaw20_works_h.put t).fr.sl) ⟨⟨0, []⟩, [], (rheostatlaw20_works_h.put t).mem⟩ (takeRes rheostatlaw20_works_r) = rheostatlaw20_works_g K := by kernel_rfl
theorem rheostatlaw20_works_ok (K : Nat) : FOok Try.prog 15 (rheostatlaw20_works_o K) :=
  fn_rule (rheostatlaw20_works_t1 K) (rheostatlaw20_works_i1 K) (draws (rheostatlaw20_works_t1 K)) 0 Try.func15 (fnB_ok Try.func15 (by kernel_rfl)) rfl rfl (allOwn_ok false (by kernel_rfl)) rfl (allOwn_ok true (by kernel_rfl)) (fun t => rheostatlaw20_works_q K t)
/-! rheostatlaw20_GuardOnes -/
noncomputable def rheostatlaw20_GuardOnes_e0 (K : Nat) : Env := ⟨tt, [(9, guard_One_o K), (10, rheostatref20_One_o K), (11, guard_Beyond_o K), (12, rheostatref20_Beyond_o K), (13, guard_Back_o K), (14, rheostatref20_Back_o K), (15, rheostatlaw20_works_o K)], [], []⟩
theorem rheostatlaw20_GuardOnes_t0 (K : Nat) : EnvT Try.prog (rheostatlaw20_GuardOnes_e0 K) := envT_of tt_ok ⟨guard_One_ok K, rheostatref20_One_ok K, guard_Beyond_ok K, rheostatref20_Beyond_ok K, guard_Back_ok K, rheostatref20_Back_ok K, rheostatlaw20_works_ok K, trivial⟩
theorem rheostatlaw20_GuardOnes_i0 (K : Nat) : EnvI Try.prog (rheostatlaw20_GuardOnes_e0 K) := envI_of (es := []) trivial trivial
noncomputable def rheostatlaw20_GuardOnes_g (K : Nat) (l_0_0 : Int) (l_0_1 : Bool) (l_0_2 : Int) (l_0_3 : Int) (debounce_1 : Int) (raised_2 : Bool) (run_3 : Int) (v_4 : Int) : Option Bool :=
  ((guard_One_g K l_0_0 l_0_1 l_0_2 l_0_3 debounce_1 raised_2 run_3 v_4).bind fun q1 => ((rheostatref20_One_g K l_0_0 l_0_1 l_0_2 l_0_3 debounce_1 raised_2 run_3 v_4).bind fun q2 => (bif (q1.1 == q2.1) then (bif (q1.2.1 == q2.2.1) then (bif (q1.2.2.1 == q2.2.2.1) then ((guard_Beyond_g K l_0_0 l_0_1 l_0_2 l_0_3 v_4).bind fun q3 => ((rheostatref20_Beyond_g K l_0_0 l_0_1 l_0_2 l_0_3 v_4).bind fun q4 => (bif (q3.1 == q4.1) then ((guard_Back_g K l_0_0 l_0_1 l_0_2 l_0_3 v_4).bind fun q5 => ((rheostatref20_Back_g K l_0_0 l_0_1 l_0_2 l_0_3 v_4).bind fun q6 => (bif (q5.1 == q6.1) then ((rheostatlaw20_works_g K).bind fun q7 => (some q7.1)) else (some false)))) else (some false)))) else (some false)) else (some false)) else (some false))))
noncomputable def rheostatlaw20_GuardOnes_ps : List (Bool × List WC) := [(true, [.sc (.i .i64), .sc .b, .sc (.i .i64), .sc (.i .i64)]), (false, [.sc (.i .i64)]), (false, [.sc .b]), (false, [.sc (.i .i64)]), (false, [.sc (.i .i64)])]
theorem rheostatlaw20_GuardOnes_q (K : Nat) (t : (shOf rheostatlaw20_GuardOnes_ps).T) : exFn (rheostatlaw20_GuardOnes_e0 K) (hdl (rheostatlaw20_GuardOnes_e0 K) 0) [3] Try.f3 (slVals ((shOf rheostatlaw20_GuardOnes_ps).put t).fr.sl) ⟨⟨0, []⟩, [], ((shOf rheostatlaw20_GuardOnes_ps).put t).mem⟩ outBool = rheostatlaw20_GuardOnes_g K t.1 t.2.1 t.2.2.1 t.2.2.2.1 t.2.2.2.2.1 t.2.2.2.2.2.1 t.2.2.2.2.2.2.1 t.2.2.2.2.2.2.2.1 := by kernel_rfl
theorem rheostatlaw20_GuardOnes_call (K : Nat) (hb : ∀ t : (shOf rheostatlaw20_GuardOnes_ps).T, argsBnd rheostatlaw20_GuardOnes_ps t → rheostatlaw20_GuardOnes_g K t.1 t.2.1 t.2.2.1 t.2.2.2.1 t.2.2.2.2.1 t.2.2.2.2.2.1 t.2.2.2.2.2.2.1 t.2.2.2.2.2.2.2.1 = some true) {w : World} {vals : List Value} (hp : PFits w rheostatlaw20_GuardOnes_ps vals) :
    Calls Try.prog 3 vals.toArray w fun e w' => e = .returned (.bool true) ∧ RowKit.Below w.heap.size w w' :=
  call_of (rheostatlaw20_GuardOnes_t0 K) (rheostatlaw20_GuardOnes_i0 K) (draws (rheostatlaw20_GuardOnes_t0 K)) 0 Try.func3 (by kernel_rfl) (by kernel_rfl) outBool_true (fun t ht => (rheostatlaw20_GuardOnes_q K t).trans (hb t ht)) hp
/-! rheostatlaw20_GuardApart -/
noncomputable def rheostatlaw20_GuardApart_e0 (K : Nat) : Env := ⟨tt, [(15, rheostatlaw20_works_o K), (9, guard_One_o K), (11, guard_Beyond_o K), (13, guard_Back_o K)], [], []⟩
theorem rheostatlaw20_GuardApart_t0 (K : Nat) : EnvT Try.prog (rheostatlaw20_GuardApart_e0 K) := envT_of tt_ok ⟨rheostatlaw20_works_ok K, guard_One_ok K, guard_Beyond_ok K, guard_Back_ok K, trivial⟩
theorem rheostatlaw20_GuardApart_i0 (K : Nat) : EnvI Try.prog (rheostatlaw20_GuardApart_e0 K) := envI_of (es := []) trivial trivial
noncomputable def rheostatlaw20_GuardApart_g (K : Nat) (l_0_0 : Int) (l_0_1 : Bool) (l_0_2 : Int) (l_0_3 : Int) (v_1 : Int) : Option Bool :=
  ((rheostatlaw20_works_g K).bind fun q1 => (bif (!q1.1) then (some false) else ((guard_One_g K l_0_0 l_0_1 l_0_2 l_0_3 1 false 0 v_1).bind fun q2 => (bif (q2.2.2.1 != 0) then (some true) else ((guard_Beyond_g K l_0_0 l_0_1 l_0_2 l_0_3 v_1).bind fun q3 => (bif (!q3.1) then (some true) else ((guard_Back_g K l_0_0 l_0_1 l_0_2 l_0_3 v_1).bind fun q4 => (some (!q4.1)))))))))
noncomputable def rheostatlaw20_GuardApart_ps : List (Bool × List WC) := [(true, [.sc (.i .i64), .sc .b, .sc (.i .i64), .sc (.i .i64)]), (false, [.sc (.i .i64)])]
theorem rheostatlaw20_GuardApart_q (K : Nat) (t : (shOf rheostatlaw20_GuardApart_ps).T) : exFn (rheostatlaw20_GuardApart_e0 K) (hdl (rheostatlaw20_GuardApart_e0 K) 0) [5] Try.f5 (slVals ((shOf rheostatlaw20_GuardApart_ps).put t).fr.sl) ⟨⟨0, []⟩, [], ((shOf rheostatlaw20_GuardApart_ps).put t).mem⟩ outBool = rheostatlaw20_GuardApart_g K t.1 t.2.1 t.2.2.1 t.2.2.2.1 t.2.2.2.2.1 := by kernel_rfl
theorem rheostatlaw20_GuardApart_call (K : Nat) (hb : ∀ t : (shOf rheostatlaw20_GuardApart_ps).T, argsBnd rheostatlaw20_GuardApart_ps t → rheostatlaw20_GuardApart_g K t.1 t.2.1 t.2.2.1 t.2.2.2.1 t.2.2.2.2.1 = some true) {w : World} {vals : List Value} (hp : PFits w rheostatlaw20_GuardApart_ps vals) :
    Calls Try.prog 5 vals.toArray w fun e w' => e = .returned (.bool true) ∧ RowKit.Below w.heap.size w w' :=
  call_of (rheostatlaw20_GuardApart_t0 K) (rheostatlaw20_GuardApart_i0 K) (draws (rheostatlaw20_GuardApart_t0 K)) 0 Try.func5 (by kernel_rfl) (by kernel_rfl) outBool_true (fun t ht => (rheostatlaw20_GuardApart_q K t).trans (hb t ht)) hp
/-! rheostatlaw20_GuardOften -/
noncomputable def rheostatlaw20_GuardOften_e0 (K : Nat) : Env := ⟨tt, [(15, rheostatlaw20_works_o K), (9, guard_One_o K), (11, guard_Beyond_o K), (13, guard_Back_o K)], [], []⟩
theorem rheostatlaw20_GuardOften_t0 (K : Nat) : EnvT Try.prog (rheostatlaw20_GuardOften_e0 K) := envT_of tt_ok ⟨rheostatlaw20_works_ok K, guard_One_ok K, guard_Beyond_ok K, guard_Back_ok K, trivial⟩
theorem rheostatlaw20_GuardOften_i0 (K : Nat) : EnvI Try.prog (rheostatlaw20_GuardOften_e0 K) := envI_of (es := []) trivial trivial
noncomputable def rheostatlaw20_GuardOften_l0h : Sh := ⟨86, [(1, .sc (.slr0 0)), (2, .sc (.lit (.p 1 0 0 []))), (5, .sc (.b)), (6, .sc (.i .i64))], [(0, [])], [(false, true, [.ir .i64]), (true, false, [.i .i64, .b, .i .i64, .i .i64])]⟩
noncomputable def rheostatlaw20_GuardOften_l0x0 : Sh := ⟨86, [], [(0, [])], []⟩
noncomputable def rheostatlaw20_GuardOften_l0x1 : Sh := ⟨86, [(4, .sc (.b))], [(0, [])], []⟩
noncomputable def rheostatlaw20_GuardOften_l0O : OutI ((Unit) ⊕ (Bool × Unit)) := (OutI.or (OutI.exit 0 rheostatlaw20_GuardOften_l0x0) (OutI.ret rheostatlaw20_GuardOften_l0x1))
noncomputable def rheostatlaw20_GuardOften_l0r (K : Nat) (rec : Nat → Bool → Int → (Nat → Int) → Int → Bool → Int → Int → Option ((Unit) ⊕ (Bool × Unit))) (values_1n : Nat) (up_5 : Bool) (i_6 : Int) (m0_0 : (Nat → Int)) (m1_0 : Int) (m1_1 : Bool) (m1_2 : Int) (m1_3 : Int) : Option ((Unit) ⊕ (Bool × Unit)) :=
  (bif (decide (i_6 < ((values_1n : Nat) : Int))) then (bif (decide (i_6 < 200)) then (bif ((decide (0 ≤ i_6)) && (decide (i_6 < ((values_1n : Nat) : Int)))) then ((guard_One_g K m1_0 m1_1 m1_2 m1_3 1 up_5 0 (m0_0 (Int.toNat i_6))).bind fun q1 => (bif (q1.2.2.1 != 0) then (some (.inr ((q1.2.1 == 0), ()))) else (bif (q1.2.1 != 0) then (some (.inr (false, ()))) else (bif ((decide (0 ≤ i_6)) && (decide (i_6 < ((values_1n : Nat) : Int)))) then ((guard_Beyond_g K m1_0 m1_1 m1_2 m1_3 (m0_0 (Int.toNat i_6))).bind fun q2 => (bif q2.1 then (bif (!q1.1) then (some (.inr (false, ()))) else (bif ((decide (0 ≤ i_6)) && (decide (i_6 < ((values_1n : Nat) : Int)))) then ((guard_Back_g K m1_0 m1_1 m1_2 m1_3 (m0_0 (Int.toNat i_6))).bind fun q3 => (bif q3.1 then (bif q1.1 then (some (.inr (false, ()))) else (bif ((decide (0 ≤ i_6)) && (decide (i_6 < ((values_1n : Nat) : Int)))) then ((guard_Beyond_g K m1_0 m1_1 m1_2 m1_3 (m0_0 (Int.toNat i_6))).bind fun q4 => (bif (!q4.1) then (bif ((decide (0 ≤ i_6)) && (decide (i_6 < ((values_1n : Nat) : Int)))) then ((guard_Back_g K m1_0 m1_1 m1_2 m1_3 (m0_0 (Int.toNat i_6))).bind fun q5 => (bif (!q5.1) then (bif (!(q1.1 == up_5)) then (some (.inr (false, ()))) else (rec values_1n q1.1 (wi64 (i_6 + 1)) m0_0 m1_0 m1_1 m1_2 m1_3)) else (rec values_1n q1.1 (wi64 (i_6 + 1)) m0_0 m1_0 m1_1 m1_2 m1_3))) else none) else (rec values_1n q1.1 (wi64 (i_6 + 1)) m0_0 m1_0 m1_1 m1_2 m1_3))) else none)) else (bif ((decide (0 ≤ i_6)) && (decide (i_6 < ((values_1n : Nat) : Int)))) then ((guard_Beyond_g K m1_0 m1_1 m1_2 m1_3 (m0_0 (Int.toNat i_6))).bind fun q6 => (bif (!q6.1) then (bif ((decide (0 ≤ i_6)) && (decide (i_6 < ((values_1n : Nat) : Int)))) then ((guard_Back_g K m1_0 m1_1 m1_2 m1_3 (m0_0 (Int.toNat i_6))).bind fun q7 => (bif (!q7.1) then (bif (!(q1.1 == up_5)) then (some (.inr (false, ()))) else (rec values_1n q1.1 (wi64 (i_6 + 1)) m0_0 m1_0 m1_1 m1_2 m1_3)) else (rec values_1n q1.1 (wi64 (i_6 + 1)) m0_0 m1_0 m1_1 m1_2 m1_3))) else none) else (rec values_1n q1.1 (wi64 (i_6 + 1)) m0_0 m1_0 m1_1 m1_2 m1_3))) else none))) else none)) else (bif ((decide (0 ≤ i_6)) && (decide (i_6 < ((values_1n : Nat) : Int)))) then ((guard_Back_g K m1_0 m1_1 m1_2 m1_3 (m0_0 (Int.toNat i_6))).bind fun q8 => (bif q8.1 then (bif q1.1 then (some (.inr (false, ()))) else (bif ((decide (0 ≤ i_6)) && (decide (i_6 < ((values_1n : Nat) : Int)))) then ((guard_Beyond_g K m1_0 m1_1 m1_2 m1_3 (m0_0 (Int.toNat i_6))).bind fun q9 => (bif (!q9.1) then (bif ((decide (0 ≤ i_6)) && (decide (i_6 < ((values_1n : Nat) : Int)))) then ((guard_Back_g K m1_0 m1_1 m1_2 m1_3 (m0_0 (Int.toNat i_6))).bind fun q10 => (bif (!q10.1) then (bif (!(q1.1 == up_5)) then (some (.inr (false, ()))) else (rec values_1n q1.1 (wi64 (i_6 + 1)) m0_0 m1_0 m1_1 m1_2 m1_3)) else (rec values_1n q1.1 (wi64 (i_6 + 1)) m0_0 m1_0 m1_1 m1_2 m1_3))) else none) else (rec values_1n q1.1 (wi64 (i_6 + 1)) m0_0 m1_0 m1_1 m1_2 m1_3))) else none)) else (bif ((decide (0 ≤ i_6)) && (decide (i_6 < ((values_1n : Nat) : Int)))) then ((guard_Beyond_g K m1_0 m1_1 m1_2 m1_3 (m0_0 (Int.toNat i_6))).bind fun q11 => (bif (!q11.1) then (bif ((decide (0 ≤ i_6)) && (decide (i_6 < ((values_1n : Nat) : Int)))) then ((guard_Back_g K m1_0 m1_1 m1_2 m1_3 (m0_0 (Int.toNat i_6))).bind fun q12 => (bif (!q12.1) then (bif (!(q1.1 == up_5)) then (some (.inr (false, ()))) else (rec values_1n q1.1 (wi64 (i_6 + 1)) m0_0 m1_0 m1_1 m1_2 m1_3)) else (rec values_1n q1.1 (wi64 (i_6 + 1)) m0_0 m1_0 m1_1 m1_2 m1_3))) else none) else (rec values_1n q1.1 (wi64 (i_6 + 1)) m0_0 m1_0 m1_1 m1_2 m1_3))) else none))) else none))) else none)))) else none) else (some (.inl (())))) else (some (.inl (()))))
noncomputable def rheostatlaw20_GuardOften_l0 (K n : Nat) : Nat → Bool → Int → (Nat → Int) → Int → Bool → Int → Int → Option ((Unit) ⊕ (Bool × Unit)) := Nat.rec (motive := fun _ => Nat → Bool → Int → (Nat → Int) → Int → Bool → Int → Int → Option ((Unit) ⊕ (Bool × Unit))) (fun _ _ _ _ _ _ _ _ => none) (fun _ ih => rheostatlaw20_GuardOften_l0r K ih) n
noncomputable def rheostatlaw20_GuardOften_l0o (K : Nat) : LO := loopLO rheostatlaw20_GuardOften_l0h rheostatlaw20_GuardOften_l0O fun t => rheostatlaw20_GuardOften_l0 K K t.1 t.2.1 t.2.2.1 t.2.2.2.1 t.2.2.2.2.1 t.2.2.2.2.2.1 t.2.2.2.2.2.2.1 t.2.2.2.2.2.2.2.1
noncomputable def rheostatlaw20_GuardOften_l0C : Code := bodyOf Try.f6
noncomputable def rheostatlaw20_GuardOften_l0B : Code := (findLoops 5 (loopsIn rheostatlaw20_GuardOften_l0C)).headD .skip
theorem rheostatlaw20_GuardOften_l0F : findLoops 5 (loopsIn rheostatlaw20_GuardOften_l0C) = [rheostatlaw20_GuardOften_l0B] := by kernel_rfl
theorem rheostatlaw20_GuardOften_l0q (K n : Nat) (t : rheostatlaw20_GuardOften_l0h.T) : exC (rheostatlaw20_GuardOften_e0 K) (hdl (rheostatlaw20_GuardOften_e0 K) 0) (6 :: []) rheostatlaw20_GuardOften_l0B (rheostatlaw20_GuardOften_l0h.put t) (fun s => (rheostatlaw20_GuardOften_l0h.take s).bind fun t => rheostatlaw20_GuardOften_l0 K n t.1 t.2.1 t.2.2.1 t.2.2.2.1 t.2.2.2.2.1 t.2.2.2.2.2.1 t.2.2.2.2.2.2.1 t.2.2.2.2.2.2.2.1) (fun id s => rheostatlaw20_GuardOften_l0O.get (some id) s) (fun s => rheostatlaw20_GuardOften_l0O.get none s) = rheostatlaw20_GuardOften_l0 K (n + 1) t.1 t.2.1 t.2.2.1 t.2.2.2.1 t.2.2.2.2.1 t.2.2.2.2.2.1 t.2.2.2.2.2.2.1 t.2.2.2.2.2.2.2.1 := by kernel_rfl
noncomputable def rheostatlaw20_GuardOften_l0E (K : Nat) : LoopE Try.prog := ⟨[5, 6], rheostatlaw20_GuardOften_l0o K, Try.f6, rheostatlaw20_GuardOften_l0C, rheostatlaw20_GuardOften_l0B, ⟨5, 6, [], rfl, Try.func6, by kernel_rfl, rheostatlaw20_GuardOften_l0F⟩,
  loop_rule (F := fun n t => rheostatlaw20_GuardOften_l0 K n t.1 t.2.1 t.2.2.1 t.2.2.2.1 t.2.2.2.2.1 t.2.2.2.2.2.1 t.2.2.2.2.2.2.1 t.2.2.2.2.2.2.2.1) (rheostatlaw20_GuardOften_t0 K) (rheostatlaw20_GuardOften_i0 K) (draws (rheostatlaw20_GuardOften_t0 K)) 0 Try.func6 (c := rheostatlaw20_GuardOften_l0C) (by kernel_rfl) (body_in rheostatlaw20_GuardOften_l0F) (ctx' := []) (h := rheostatlaw20_GuardOften_l0h) (O := rheostatlaw20_GuardOften_l0O) (fun _ => rfl) (fun m t => rheostatlaw20_GuardOften_l0q K m t) K⟩
noncomputable def rheostatlaw20_GuardOften_e1 (K : Nat) : Env := ⟨tt, [(15, rheostatlaw20_works_o K), (9, guard_One_o K), (11, guard_Beyond_o K), (13, guard_Back_o K)], [], [([5, 6], rheostatlaw20_GuardOften_l0o K)]⟩
theorem rheostatlaw20_GuardOften_t1 (K : Nat) : EnvT Try.prog (rheostatlaw20_GuardOften_e1 K) := envT_of tt_ok ⟨rheostatlaw20_works_ok K, guard_One_ok K, guard_Beyond_ok K, guard_Back_ok K, trivial⟩
theorem rheostatlaw20_GuardOften_i1 (K : Nat) : EnvI Try.prog (rheostatlaw20_GuardOften_e1 K) := envI_of (es := [rheostatlaw20_GuardOften_l0E K]) trivial ⟨⟨rfl, rfl⟩, trivial⟩
noncomputable def rheostatlaw20_GuardOften_g (K : Nat) (l_0_0 : Int) (l_0_1 : Bool) (l_0_2 : Int) (l_0_3 : Int) (values_1n : Nat) (m0_0 : (Nat → Int)) : Option Bool :=
  ((rheostatlaw20_works_g K).bind fun q1 => (bif (!q1.1) then (some false) else ((rheostatlaw20_GuardOften_l0 K K values_1n false 0 m0_0 l_0_0 l_0_1 l_0_2 l_0_3).bind fun q2 => (Sum.elim (fun q3 => (some true)) (fun q4 => (some q4.1)) q2))))
noncomputable def rheostatlaw20_GuardOften_ps : List (Bool × List WC) := [(true, [.sc (.i .i64), .sc .b, .sc (.i .i64), .sc (.i .i64)]), (false, [.slc [.i .i64]])]
theorem rheostatlaw20_GuardOften_q (K : Nat) (t : (shOf rheostatlaw20_GuardOften_ps).T) : exFn (rheostatlaw20_GuardOften_e1 K) (hdl (rheostatlaw20_GuardOften_e1 K) 0) [6] Try.f6 (slVals ((shOf rheostatlaw20_GuardOften_ps).put t).fr.sl) ⟨⟨0, []⟩, [], ((shOf rheostatlaw20_GuardOften_ps).put t).mem⟩ outBool = rheostatlaw20_GuardOften_g K t.1 t.2.1 t.2.2.1 t.2.2.2.1 t.2.2.2.2.1 t.2.2.2.2.2.1 := by kernel_rfl
theorem rheostatlaw20_GuardOften_call (K : Nat) (hb : ∀ t : (shOf rheostatlaw20_GuardOften_ps).T, argsBnd rheostatlaw20_GuardOften_ps t → rheostatlaw20_GuardOften_g K t.1 t.2.1 t.2.2.1 t.2.2.2.1 t.2.2.2.2.1 t.2.2.2.2.2.1 = some true) {w : World} {vals : List Value} (hp : PFits w rheostatlaw20_GuardOften_ps vals) :
    Calls Try.prog 6 vals.toArray w fun e w' => e = .returned (.bool true) ∧ RowKit.Below w.heap.size w w' :=
  call_of (rheostatlaw20_GuardOften_t1 K) (rheostatlaw20_GuardOften_i1 K) (draws (rheostatlaw20_GuardOften_t1 K)) 0 Try.func6 (by kernel_rfl) (by kernel_rfl) outBool_true (fun t ht => (rheostatlaw20_GuardOften_q K t).trans (hb t ht)) hp
/-! rheostatbase_Among -/
noncomputable def rheostatbase_Among_e0 (K : Nat) : Env := ⟨tt, [], [], []⟩
theorem rheostatbase_Among_t0 (K : Nat) : EnvT Try.prog (rheostatbase_Among_e0 K) := envT_of tt_ok trivial
theorem rheostatbase_Among_i0 (K : Nat) : EnvI Try.prog (rheostatbase_Among_e0 K) := envI_of (es := []) trivial trivial
noncomputable def rheostatbase_Among_h : Sh := ⟨2, [(0, .sc (.i .i64)), (1, .sc (.i .i64))], [], []⟩
noncomputable def rheostatbase_Among_r : Sh := ⟨1, [(0, .sc (.i .i64))], [], []⟩
noncomputable def rheostatbase_Among_g (K : Nat) (x_0 : Int) (n_1 : Int) : Option (Int × Unit) :=
  (bif (decide (n_1 < 1)) then (some (0, ())) else (bif ((wu64 (n_1)) == 0) then none else (some ((wi64 ((Int.tmod (wu64 (x_0)) (wu64 (n_1))))), ()))))
noncomputable def rheostatbase_Among_o (K : Nat) : FO := fnFO rheostatbase_Among_h rheostatbase_Among_r fun t => rheostatbase_Among_g K t.1 t.2.1
theorem rheostatbase_Among_q (K : Nat) (t : rheostatbase_Among_h.T) : exFn (rheostatbase_Among_e0 K) (hdl (rheostatbase_Among_e0 K) 0) [16] Try.f16 (slVals (rheostatbase_Among_h.put t).fr.sl) ⟨⟨0, []⟩, [], (rheostatbase_Among_h.put t).mem⟩ (takeRes rheostatbase_Among_r) = rheostatbase_Among_g K t.1 t.2.1 := by kernel_rfl
theorem rheostatbase_Among_ok (K : Nat) : FOok Try.prog 16 (rheostatbase_Among_o K) :=
  fn_rule (rheostatbase_Among_t0 K) (rheostatbase_Among_i0 K) (draws (rheostatbase_Among_t0 K)) 0 Try.func16 (fnB_ok Try.func16 (by kernel_rfl)) rfl rfl (allOwn_ok false (by kernel_rfl)) rfl (allOwn_ok true (by kernel_rfl)) (fun t => rheostatbase_Among_q K t)
/-! rheostatlaw20_GuardTimes -/
noncomputable def rheostatlaw20_GuardTimes_e0 (K : Nat) : Env := ⟨tt, [(15, rheostatlaw20_works_o K), (16, rheostatbase_Among_o K), (9, guard_One_o K)], [], []⟩
theorem rheostatlaw20_GuardTimes_t0 (K : Nat) : EnvT Try.prog (rheostatlaw20_GuardTimes_e0 K) := envT_of tt_ok ⟨rheostatlaw20_works_ok K, rheostatbase_Among_ok K, guard_One_ok K, trivial⟩
theorem rheostatlaw20_GuardTimes_i0 (K : Nat) : EnvI Try.prog (rheostatlaw20_GuardTimes_e0 K) := envI_of (es := []) trivial trivial
noncomputable def rheostatlaw20_GuardTimes_l1h : Sh := ⟨127, [(1, .sc (.i .i64)), (2, .sc (.slr0 0)), (3, .sc (.lit (.p 1 0 0 []))), (7, .sc (.b)), (9, .sc (.i .i64)), (10, .sc (.i .i64)), (11, .sc (.b)), (12, .sc (.i .i64)), (14, .sc (.i .i64)), (15, .sc (.i .i64))], [(0, [])], [(false, true, [.ir .i64]), (true, false, [.i .i64, .b, .i .i64, .i .i64])]⟩
noncomputable def rheostatlaw20_GuardTimes_l1x0 : Sh := ⟨127, [(1, .sc (.i .i64)), (2, .sc (.slr0 0)), (3, .sc (.lit (.p 1 0 0 []))), (7, .sc (.b)), (9, .sc (.i .i64)), (10, .sc (.i .i64)), (11, .sc (.b)), (12, .sc (.i .i64)), (14, .sc (.i .i64))], [(0, [])], [(false, true, [.ir .i64]), (true, false, [.i .i64, .b, .i .i64, .i .i64])]⟩
noncomputable def rheostatlaw20_GuardTimes_l1O : OutI (Int × Nat × Bool × Int × Int × Bool × Int × Int × (Nat → Int) × Int × Bool × Int × Int × Unit) := (OutI.exit 2 rheostatlaw20_GuardTimes_l1x0)
noncomputable def rheostatlaw20_GuardTimes_l1r (K : Nat) (rec : Int → Nat → Bool → Int → Int → Bool → Int → Int → Int → (Nat → Int) → Int → Bool → Int → Int → Option (Int × Nat × Bool × Int × Int × Bool × Int × Int × (Nat → Int) × Int × Bool × Int × Int × Unit)) (debounce_1 : Int) (values_2n : Nat) (up_7 : Bool) (since_9 : Int) (i_10 : Int) (x_11 : Bool) (n_12 : Int) (held_14 : Int) (k_15 : Int) (m0_0 : (Nat → Int)) (m1_0 : Int) (m1_1 : Bool) (m1_2 : Int) (m1_3 : Int) : Option (Int × Nat × Bool × Int × Int × Bool × Int × Int × (Nat → Int) × Int × Bool × Int × Int × Unit) :=
  (bif (decide (k_15 ≥ since_9)) then (bif ((decide (0 ≤ k_15)) && (decide (k_15 < ((values_2n : Nat) : Int)))) then (bif m1_1 then (bif (decide ((m0_0 (Int.toNat k_15)) > m1_2)) then (bif up_7 then (bif m1_1 then (bif (decide ((m0_0 (Int.toNat k_15)) ≤ (wi64 (m1_2 - m1_3)))) then (rec debounce_1 values_2n up_7 since_9 i_10 x_11 n_12 (wi64 (held_14 + 1)) (wi64 (k_15 - 1)) m0_0 m1_0 m1_1 m1_2 m1_3) else (bif (!m1_1) then (bif (!(decide ((m0_0 (Int.toNat k_15)) ≥ (wi64 (m1_2 + m1_3))))) then (some (debounce_1, values_2n, up_7, since_9, i_10, x_11, n_12, held_14, m0_0, m1_0, m1_1, m1_2, m1_3, ())) else (rec debounce_1 values_2n up_7 since_9 i_10 x_11 n_12 (wi64 (held_14 + 1)) (wi64 (k_15 - 1)) m0_0 m1_0 m1_1 m1_2 m1_3)) else (some (debounce_1, values_2n, up_7, since_9, i_10, x_11, n_12, held_14, m0_0, m1_0, m1_1, m1_2, m1_3, ())))) else (bif (!m1_1) then (bif (!(decide ((m0_0 (Int.toNat k_15)) ≥ (wi64 (m1_2 + m1_3))))) then (some (debounce_1, values_2n, up_7, since_9, i_10, x_11, n_12, held_14, m0_0, m1_0, m1_1, m1_2, m1_3, ())) else (rec debounce_1 values_2n up_7 since_9 i_10 x_11 n_12 (wi64 (held_14 + 1)) (wi64 (k_15 - 1)) m0_0 m1_0 m1_1 m1_2 m1_3)) else (some (debounce_1, values_2n, up_7, since_9, i_10, x_11, n_12, held_14, m0_0, m1_0, m1_1, m1_2, m1_3, ())))) else (rec debounce_1 values_2n up_7 since_9 i_10 x_11 n_12 (wi64 (held_14 + 1)) (wi64 (k_15 - 1)) m0_0 m1_0 m1_1 m1_2 m1_3)) else (bif (!m1_1) then (bif up_7 then (bif m1_1 then (bif (decide ((m0_0 (Int.toNat k_15)) ≤ (wi64 (m1_2 - m1_3)))) then (rec debounce_1 values_2n up_7 since_9 i_10 x_11 n_12 (wi64 (held_14 + 1)) (wi64 (k_15 - 1)) m0_0 m1_0 m1_1 m1_2 m1_3) else (bif (!m1_1) then (bif (!(decide ((m0_0 (Int.toNat k_15)) ≥ (wi64 (m1_2 + m1_3))))) then (some (debounce_1, values_2n, up_7, since_9, i_10, x_11, n_12, held_14, m0_0, m1_0, m1_1, m1_2, m1_3, ())) else (rec debounce_1 values_2n up_7 since_9 i_10 x_11 n_12 (wi64 (held_14 + 1)) (wi64 (k_15 - 1)) m0_0 m1_0 m1_1 m1_2 m1_3)) else (some (debounce_1, values_2n, up_7, since_9, i_10, x_11, n_12, held_14, m0_0, m1_0, m1_1, m1_2, m1_3, ())))) else (bif (!m1_1) then (bif (!(decide ((m0_0 (Int.toNat k_15)) ≥ (wi64 (m1_2 + m1_3))))) then (some (debounce_1, values_2n, up_7, since_9, i_10, x_11, n_12, held_14, m0_0, m1_0, m1_1, m1_2, m1_3, ())) else (rec debounce_1 values_2n up_7 since_9 i_10 x_11 n_12 (wi64 (held_14 + 1)) (wi64 (k_15 - 1)) m0_0 m1_0 m1_1 m1_2 m1_3)) else (some (debounce_1, values_2n, up_7, since_9, i_10, x_11, n_12, held_14, m0_0, m1_0, m1_1, m1_2, m1_3, ())))) else (bif (!(decide ((m0_0 (Int.toNat k_15)) < m1_2))) then (some (debounce_1, values_2n, up_7, since_9, i_10, x_11, n_12, held_14, m0_0, m1_0, m1_1, m1_2, m1_3, ())) else (rec debounce_1 values_2n up_7 since_9 i_10 x_11 n_12 (wi64 (held_14 + 1)) (wi64 (k_15 - 1)) m0_0 m1_0 m1_1 m1_2 m1_3))) else (bif up_7 then (bif m1_1 then (bif (decide ((m0_0 (Int.toNat k_15)) ≤ (wi64 (m1_2 - m1_3)))) then (rec debounce_1 values_2n up_7 since_9 i_10 x_11 n_12 (wi64 (held_14 + 1)) (wi64 (k_15 - 1)) m0_0 m1_0 m1_1 m1_2 m1_3) else (bif (!m1_1) then (bif (!(decide ((m0_0 (Int.toNat k_15)) ≥ (wi64 (m1_2 + m1_3))))) then (some (debounce_1, values_2n, up_7, since_9, i_10, x_11, n_12, held_14, m0_0, m1_0, m1_1, m1_2, m1_3, ())) else (rec debounce_1 values_2n up_7 since_9 i_10 x_11 n_12 (wi64 (held_14 + 1)) (wi64 (k_15 - 1)) m0_0 m1_0 m1_1 m1_2 m1_3)) else (some (debounce_1, values_2n, up_7, since_9, i_10, x_11, n_12, held_14, m0_0, m1_0, m1_1, m1_2, m1_3, ())))) else (bif (!m1_1) then (bif (!(decide ((m0_0 (Int.toNat k_15)) ≥ (wi64 (m1_2 + m1_3))))) then (some (debounce_1, values_2n, up_7, since_9, i_10, x_11, n_12, held_14, m0_0, m1_0, m1_1, m1_2, m1_3, ())) else (rec debounce_1 values_2n up_7 since_9 i_10 x_11 n_12 (wi64 (held_14 + 1)) (wi64 (k_15 - 1)) m0_0 m1_0 m1_1 m1_2 m1_3)) else (some (debounce_1, values_2n, up_7, since_9, i_10, x_11, n_12, held_14, m0_0, m1_0, m1_1, m1_2, m1_3, ())))) else (some (debounce_1, values_2n, up_7, since_9, i_10, x_11, n_12, held_14, m0_0, m1_0, m1_1, m1_2, m1_3, ()))))) else (bif (!m1_1) then (bif up_7 then (bif m1_1 then (bif (decide ((m0_0 (Int.toNat k_15)) ≤ (wi64 (m1_2 - m1_3)))) then (rec debounce_1 values_2n up_7 since_9 i_10 x_11 n_12 (wi64 (held_14 + 1)) (wi64 (k_15 - 1)) m0_0 m1_0 m1_1 m1_2 m1_3) else (bif (!m1_1) then (bif (!(decide ((m0_0 (Int.toNat k_15)) ≥ (wi64 (m1_2 + m1_3))))) then (some (debounce_1, values_2n, up_7, since_9, i_10, x_11, n_12, held_14, m0_0, m1_0, m1_1, m1_2, m1_3, ())) else (rec debounce_1 values_2n up_7 since_9 i_10 x_11 n_12 (wi64 (held_14 + 1)) (wi64 (k_15 - 1)) m0_0 m1_0 m1_1 m1_2 m1_3)) else (some (debounce_1, values_2n, up_7, since_9, i_10, x_11, n_12, held_14, m0_0, m1_0, m1_1, m1_2, m1_3, ())))) else (bif (!m1_1) then (bif (!(decide ((m0_0 (Int.toNat k_15)) ≥ (wi64 (m1_2 + m1_3))))) then (some (debounce_1, values_2n, up_7, since_9, i_10, x_11, n_12, held_14, m0_0, m1_0, m1_1, m1_2, m1_3, ())) else (rec debounce_1 values_2n up_7 since_9 i_10 x_11 n_12 (wi64 (held_14 + 1)) (wi64 (k_15 - 1)) m0_0 m1_0 m1_1 m1_2 m1_3)) else (some (debounce_1, values_2n, up_7, since_9, i_10, x_11, n_12, held_14, m0_0, m1_0, m1_1, m1_2, m1_3, ())))) else (bif (!(decide ((m0_0 (Int.toNat k_15)) < m1_2))) then (some (debounce_1, values_2n, up_7, since_9, i_10, x_11, n_12, held_14, m0_0, m1_0, m1_1, m1_2, m1_3, ())) else (rec debounce_1 values_2n up_7 since_9 i_10 x_11 n_12 (wi64 (held_14 + 1)) (wi64 (k_15 - 1)) m0_0 m1_0 m1_1 m1_2 m1_3))) else (bif up_7 then (bif m1_1 then (bif (decide ((m0_0 (Int.toNat k_15)) ≤ (wi64 (m1_2 - m1_3)))) then (rec debounce_1 values_2n up_7 since_9 i_10 x_11 n_12 (wi64 (held_14 + 1)) (wi64 (k_15 - 1)) m0_0 m1_0 m1_1 m1_2 m1_3) else (bif (!m1_1) then (bif (!(decide ((m0_0 (Int.toNat k_15)) ≥ (wi64 (m1_2 + m1_3))))) then (some (debounce_1, values_2n, up_7, since_9, i_10, x_11, n_12, held_14, m0_0, m1_0, m1_1, m1_2, m1_3, ())) else (rec debounce_1 values_2n up_7 since_9 i_10 x_11 n_12 (wi64 (held_14 + 1)) (wi64 (k_15 - 1)) m0_0 m1_0 m1_1 m1_2 m1_3)) else (some (debounce_1, values_2n, up_7, since_9, i_10, x_11, n_12, held_14, m0_0, m1_0, m1_1, m1_2, m1_3, ())))) else (bif (!m1_1) then (bif (!(decide ((m0_0 (Int.toNat k_15)) ≥ (wi64 (m1_2 + m1_3))))) then (some (debounce_1, values_2n, up_7, since_9, i_10, x_11, n_12, held_14, m0_0, m1_0, m1_1, m1_2, m1_3, ())) else (rec debounce_1 values_2n up_7 since_9 i_10 x_11 n_12 (wi64 (held_14 + 1)) (wi64 (k_15 - 1)) m0_0 m1_0 m1_1 m1_2 m1_3)) else (some (debounce_1, values_2n, up_7, since_9, i_10, x_11, n_12, held_14, m0_0, m1_0, m1_1, m1_2, m1_3, ())))) else (some (debounce_1, values_2n, up_7, since_9, i_10, x_11, n_12, held_14, m0_0, m1_0, m1_1, m1_2, m1_3, ()))))) else none) else (some (debounce_1, values_2n, up_7, since_9, i_10, x_11, n_12, held_14, m0_0, m1_0, m1_1, m1_2, m1_3, ())))
noncomputable def rheostatlaw20_GuardTimes_l1 (K n : Nat) : Int → Nat → Bool → Int → Int → Bool → Int → Int → Int → (Nat → Int) → Int → Bool → Int → Int → Option (Int × Nat × Bool × Int × Int × Bool × Int × Int × (Nat → Int) × Int × Bool × Int × Int × Unit) := Nat.rec (motive := fun _ => Int → Nat → Bool → Int → Int → Bool → Int → Int → Int → (Nat → Int) → Int → Bool → Int → Int → Option (Int × Nat × Bool × Int × Int × Bool × Int × Int × (Nat → Int) × Int × Bool × Int × Int × Unit)) (fun _ _ _ _ _ _ _ _ _ _ _ _ _ _ => none) (fun _ ih => rheostatlaw20_GuardTimes_l1r K ih) n
noncomputable def rheostatlaw20_GuardTimes_l1o (K : Nat) : LO := loopLO rheostatlaw20_GuardTimes_l1h rheostatlaw20_GuardTimes_l1O fun t => rheostatlaw20_GuardTimes_l1 K K t.1 t.2.1 t.2.2.1 t.2.2.2.1 t.2.2.2.2.1 t.2.2.2.2.2.1 t.2.2.2.2.2.2.1 t.2.2.2.2.2.2.2.1 t.2.2.2.2.2.2.2.2.1 t.2.2.2.2.2.2.2.2.2.1 t.2.2.2.2.2.2.2.2.2.2.1 t.2.2.2.2.2.2.2.2.2.2.2.1 t.2.2.2.2.2.2.2.2.2.2.2.2.1 t.2.2.2.2.2.2.2.2.2.2.2.2.2.1
noncomputable def rheostatlaw20_GuardTimes_l1C : Code := bodyOf Try.f4
noncomputable def rheostatlaw20_GuardTimes_l1B : Code := (findLoops 14 (loopsIn rheostatlaw20_GuardTimes_l1C)).headD .skip
theorem rheostatlaw20_GuardTimes_l1F : findLoops 14 (loopsIn rheostatlaw20_GuardTimes_l1C) = [rheostatlaw20_GuardTimes_l1B] := by kernel_rfl
theorem rheostatlaw20_GuardTimes_l1q (K n : Nat) (t : rheostatlaw20_GuardTimes_l1h.T) : exC (rheostatlaw20_GuardTimes_e0 K) (hdl (rheostatlaw20_GuardTimes_e0 K) 0) (4 :: []) rheostatlaw20_GuardTimes_l1B (rheostatlaw20_GuardTimes_l1h.put t) (fun s => (rheostatlaw20_GuardTimes_l1h.take s).bind fun t => rheostatlaw20_GuardTimes_l1 K n t.1 t.2.1 t.2.2.1 t.2.2.2.1 t.2.2.2.2.1 t.2.2.2.2.2.1 t.2.2.2.2.2.2.1 t.2.2.2.2.2.2.2.1 t.2.2.2.2.2.2.2.2.1 t.2.2.2.2.2.2.2.2.2.1 t.2.2.2.2.2.2.2.2.2.2.1 t.2.2.2.2.2.2.2.2.2.2.2.1 t.2.2.2.2.2.2.2.2.2.2.2.2.1 t.2.2.2.2.2.2.2.2.2.2.2.2.2.1) (fun id s => rheostatlaw20_GuardTimes_l1O.get (some id) s) (fun s => rheostatlaw20_GuardTimes_l1O.get none s) = rheostatlaw20_GuardTimes_l1 K (n + 1) t.1 t.2.1 t.2.2.1 t.2.2.2.1 t.2.2.2.2.1 t.2.2.2.2.2.1 t.2.2.2.2.2.2.1 t.2.2.2.2.2.2.2.1 t.2.2.2.2.2.2.2.2.1 t.2.2.2.2.2.2.2.2.2.1 t.2.2.2.2.2.2.2.2.2.2.1 t.2.2.2.2.2.2.2.2.2.2.2.1 t.2.2.2.2.2.2.2.2.2.2.2.2.1 t.2.2.2.2.2.2.2.2.2.2.2.2.2.1 := by kernel_rfl
noncomputable def rheostatlaw20_GuardTimes_l1E (K : Nat) : LoopE Try.prog := ⟨[14, 4], rheostatlaw20_GuardTimes_l1o K, Try.f4, rheostatlaw20_GuardTimes_l1C, rheostatlaw20_GuardTimes_l1B, ⟨14, 4, [], rfl, Try.func4, by kernel_rfl, rheostatlaw20_GuardTimes_l1F⟩,
  loop_rule (F := fun n t => rheostatlaw20_GuardTimes_l1 K n t.1 t.2.1 t.2.2.1 t.2.2.2.1 t.2.2.2.2.1 t.2.2.2.2.2.1 t.2.2.2.2.2.2.1 t.2.2.2.2.2.2.2.1 t.2.2.2.2.2.2.2.2.1 t.2.2.2.2.2.2.2.2.2.1 t.2.2.2.2.2.2.2.2.2.2.1 t.2.2.2.2.2.2.2.2.2.2.2.1 t.2.2.2.2.2.2.2.2.2.2.2.2.1 t.2.2.2.2.2.2.2.2.2.2.2.2.2.1) (rheostatlaw20_GuardTimes_t0 K) (rheostatlaw20_GuardTimes_i0 K) (draws (rheostatlaw20_GuardTimes_t0 K)) 0 Try.func4 (c := rheostatlaw20_GuardTimes_l1C) (by kernel_rfl) (body_in rheostatlaw20_GuardTimes_l1F) (ctx' := []) (h := rheostatlaw20_GuardTimes_l1h) (O := rheostatlaw20_GuardTimes_l1O) (fun _ => rfl) (fun m t => rheostatlaw20_GuardTimes_l1q K m t) K⟩
noncomputable def rheostatlaw20_GuardTimes_e1 (K : Nat) : Env := ⟨tt, [(15, rheostatlaw20_works_o K), (16, rheostatbase_Among_o K), (9, guard_One_o K)], [], [([14, 4], rheostatlaw20_GuardTimes_l1o K)]⟩
theorem rheostatlaw20_GuardTimes_t1 (K : Nat) : EnvT Try.prog (rheostatlaw20_GuardTimes_e1 K) := envT_of tt_ok ⟨rheostatlaw20_works_ok K, rheostatbase_Among_ok K, guard_One_ok K, trivial⟩
theorem rheostatlaw20_GuardTimes_i1 (K : Nat) : EnvI Try.prog (rheostatlaw20_GuardTimes_e1 K) := envI_of (es := [rheostatlaw20_GuardTimes_l1E K]) trivial ⟨⟨rfl, rfl⟩, trivial⟩
noncomputable def rheostatlaw20_GuardTimes_l0h : Sh := ⟨127, [(1, .sc (.i .i64)), (2, .sc (.slr0 0)), (3, .sc (.lit (.p 1 0 0 []))), (7, .sc (.b)), (8, .sc (.i .i64)), (9, .sc (.i .i64)), (10, .sc (.i .i64))], [(0, [])], [(false, true, [.ir .i64]), (true, false, [.i .i64, .b, .i .i64, .i .i64])]⟩
noncomputable def rheostatlaw20_GuardTimes_l0x0 : Sh := ⟨127, [], [(0, [])], []⟩
noncomputable def rheostatlaw20_GuardTimes_l0x1 : Sh := ⟨127, [(6, .sc (.b))], [(0, [])], []⟩
noncomputable def rheostatlaw20_GuardTimes_l0O : OutI ((Unit) ⊕ (Bool × Unit)) := (OutI.or (OutI.exit 0 rheostatlaw20_GuardTimes_l0x0) (OutI.ret rheostatlaw20_GuardTimes_l0x1))
noncomputable def rheostatlaw20_GuardTimes_l0r (K : Nat) (rec : Int → Nat → Bool → Int → Int → Int → (Nat → Int) → Int → Bool → Int → Int → Option ((Unit) ⊕ (Bool × Unit))) (debounce_1 : Int) (values_2n : Nat) (up_7 : Bool) (run_8 : Int) (since_9 : Int) (i_10 : Int) (m0_0 : (Nat → Int)) (m1_0 : Int) (m1_1 : Bool) (m1_2 : Int) (m1_3 : Int) : Option ((Unit) ⊕ (Bool × Unit)) :=
  (bif (decide (i_10 < ((values_2n : Nat) : Int))) then (bif (decide (i_10 < 200)) then (bif ((decide (0 ≤ i_10)) && (decide (i_10 < ((values_2n : Nat) : Int)))) then ((guard_One_g K m1_0 m1_1 m1_2 m1_3 debounce_1 up_7 run_8 (m0_0 (Int.toNat i_10))).bind fun q1 => (bif (q1.2.2.1 != 0) then (bif (!q1.1) then (some (.inr ((q1.2.1 == 0), ()))) else (some (.inr (false, ())))) else ((rheostatlaw20_GuardTimes_l1 K K debounce_1 values_2n up_7 since_9 i_10 q1.1 q1.2.1 0 i_10 m0_0 m1_0 m1_1 m1_2 m1_3).bind fun q2 => (bif (!((!(q2.2.2.2.2.2.1 == q2.2.2.1)) == (decide (q2.2.2.2.2.2.2.2.1 ≥ q2.1)))) then (some (.inr (false, ()))) else (bif (!(q2.2.2.2.2.2.1 == q2.2.2.1)) then (rec q2.1 q2.2.1 q2.2.2.2.2.2.1 q2.2.2.2.2.2.2.1 (wi64 (q2.2.2.2.2.1 + 1)) (wi64 (q2.2.2.2.2.1 + 1)) q2.2.2.2.2.2.2.2.2.1 q2.2.2.2.2.2.2.2.2.2.1 q2.2.2.2.2.2.2.2.2.2.2.1 q2.2.2.2.2.2.2.2.2.2.2.2.1 q2.2.2.2.2.2.2.2.2.2.2.2.2.1) else (rec q2.1 q2.2.1 q2.2.2.2.2.2.1 q2.2.2.2.2.2.2.1 q2.2.2.2.1 (wi64 (q2.2.2.2.2.1 + 1)) q2.2.2.2.2.2.2.2.2.1 q2.2.2.2.2.2.2.2.2.2.1 q2.2.2.2.2.2.2.2.2.2.2.1 q2.2.2.2.2.2.2.2.2.2.2.2.1 q2.2.2.2.2.2.2.2.2.2.2.2.2.1)))))) else none) else (some (.inl (())))) else (some (.inl (()))))
noncomputable def rheostatlaw20_GuardTimes_l0 (K n : Nat) : Int → Nat → Bool → Int → Int → Int → (Nat → Int) → Int → Bool → Int → Int → Option ((Unit) ⊕ (Bool × Unit)) := Nat.rec (motive := fun _ => Int → Nat → Bool → Int → Int → Int → (Nat → Int) → Int → Bool → Int → Int → Option ((Unit) ⊕ (Bool × Unit))) (fun _ _ _ _ _ _ _ _ _ _ _ => none) (fun _ ih => rheostatlaw20_GuardTimes_l0r K ih) n
noncomputable def rheostatlaw20_GuardTimes_l0o (K : Nat) : LO := loopLO rheostatlaw20_GuardTimes_l0h rheostatlaw20_GuardTimes_l0O fun t => rheostatlaw20_GuardTimes_l0 K K t.1 t.2.1 t.2.2.1 t.2.2.2.1 t.2.2.2.2.1 t.2.2.2.2.2.1 t.2.2.2.2.2.2.1 t.2.2.2.2.2.2.2.1 t.2.2.2.2.2.2.2.2.1 t.2.2.2.2.2.2.2.2.2.1 t.2.2.2.2.2.2.2.2.2.2.1
noncomputable def rheostatlaw20_GuardTimes_l0C : Code := bodyOf Try.f4
noncomputable def rheostatlaw20_GuardTimes_l0B : Code := (findLoops 7 (loopsIn rheostatlaw20_GuardTimes_l0C)).headD .skip
theorem rheostatlaw20_GuardTimes_l0F : findLoops 7 (loopsIn rheostatlaw20_GuardTimes_l0C) = [rheostatlaw20_GuardTimes_l0B] := by kernel_rfl
theorem rheostatlaw20_GuardTimes_l0q (K n : Nat) (t : rheostatlaw20_GuardTimes_l0h.T) : exC (rheostatlaw20_GuardTimes_e1 K) (hdl (rheostatlaw20_GuardTimes_e1 K) 0) (4 :: []) rheostatlaw20_GuardTimes_l0B (rheostatlaw20_GuardTimes_l0h.put t) (fun s => (rheostatlaw20_GuardTimes_l0h.take s).bind fun t => rheostatlaw20_GuardTimes_l0 K n t.1 t.2.1 t.2.2.1 t.2.2.2.1 t.2.2.2.2.1 t.2.2.2.2.2.1 t.2.2.2.2.2.2.1 t.2.2.2.2.2.2.2.1 t.2.2.2.2.2.2.2.2.1 t.2.2.2.2.2.2.2.2.2.1 t.2.2.2.2.2.2.2.2.2.2.1) (fun id s => rheostatlaw20_GuardTimes_l0O.get (some id) s) (fun s => rheostatlaw20_GuardTimes_l0O.get none s) = rheostatlaw20_GuardTimes_l0 K (n + 1) t.1 t.2.1 t.2.2.1 t.2.2.2.1 t.2.2.2.2.1 t.2.2.2.2.2.1 t.2.2.2.2.2.2.1 t.2.2.2.2.2.2.2.1 t.2.2.2.2.2.2.2.2.1 t.2.2.2.2.2.2.2.2.2.1 t.2.2.2.2.2.2.2.2.2.2.1 := by kernel_rfl
noncomputable def rheostatlaw20_GuardTimes_l0E (K : Nat) : LoopE Try.prog := ⟨[7, 4], rheostatlaw20_GuardTimes_l0o K, Try.f4, rheostatlaw20_GuardTimes_l0C, rheostatlaw20_GuardTimes_l0B, ⟨7, 4, [], rfl, Try.func4, by kernel_rfl, rheostatlaw20_GuardTimes_l0F⟩,
  loop_rule (F := fun n t => rheostatlaw20_GuardTimes_l0 K n t.1 t.2.1 t.2.2.1 t.2.2.2.1 t.2.2.2.2.1 t.2.2.2.2.2.1 t.2.2.2.2.2.2.1 t.2.2.2.2.2.2.2.1 t.2.2.2.2.2.2.2.2.1 t.2.2.2.2.2.2.2.2.2.1 t.2.2.2.2.2.2.2.2.2.2.1) (rheostatlaw20_GuardTimes_t1 K) (rheostatlaw20_GuardTimes_i1 K) (draws (rheostatlaw20_GuardTimes_t1 K)) 0 Try.func4 (c := rheostatlaw20_GuardTimes_l0C) (by kernel_rfl) (body_in rheostatlaw20_GuardTimes_l0F) (ctx' := []) (h := rheostatlaw20_GuardTimes_l0h) (O := rheostatlaw20_GuardTimes_l0O) (fun _ => rfl) (fun m t => rheostatlaw20_GuardTimes_l0q K m t) K⟩
noncomputable def rheostatlaw20_GuardTimes_e2 (K : Nat) : Env := ⟨tt, [(15, rheostatlaw20_works_o K), (16, rheostatbase_Among_o K), (9, guard_One_o K)], [], [([14, 4], rheostatlaw20_GuardTimes_l1o K), ([7, 4], rheostatlaw20_GuardTimes_l0o K)]⟩
theorem rheostatlaw20_GuardTimes_t2 (K : Nat) : EnvT Try.prog (rheostatlaw20_GuardTimes_e2 K) := envT_of tt_ok ⟨rheostatlaw20_works_ok K, rheostatbase_Among_ok K, guard_One_ok K, trivial⟩
theorem rheostatlaw20_GuardTimes_i2 (K : Nat) : EnvI Try.prog (rheostatlaw20_GuardTimes_e2 K) := envI_of (es := [rheostatlaw20_GuardTimes_l1E K, rheostatlaw20_GuardTimes_l0E K]) trivial ⟨⟨rfl, rfl⟩, ⟨rfl, rfl⟩, trivial⟩
noncomputable def rheostatlaw20_GuardTimes_g (K : Nat) (l_0_0 : Int) (l_0_1 : Bool) (l_0_2 : Int) (l_0_3 : Int) (debounce_1 : Int) (values_2n : Nat) (m0_0 : (Nat → Int)) : Option Bool :=
  ((rheostatlaw20_works_g K).bind fun q1 => (bif (!q1.1) then (some false) else ((rheostatbase_Among_g K debounce_1 31).bind fun q2 => ((rheostatlaw20_GuardTimes_l0 K K (wi64 (1 + q2.1)) values_2n false 0 0 0 m0_0 l_0_0 l_0_1 l_0_2 l_0_3).bind fun q3 => (Sum.elim (fun q4 => (some true)) (fun q5 => (some q5.1)) q3)))))
noncomputable def rheostatlaw20_GuardTimes_ps : List (Bool × List WC) := [(true, [.sc (.i .i64), .sc .b, .sc (.i .i64), .sc (.i .i64)]), (false, [.sc (.i .i64)]), (false, [.slc [.i .i64]])]
theorem rheostatlaw20_GuardTimes_q (K : Nat) (t : (shOf rheostatlaw20_GuardTimes_ps).T) : exFn (rheostatlaw20_GuardTimes_e2 K) (hdl (rheostatlaw20_GuardTimes_e2 K) 0) [4] Try.f4 (slVals ((shOf rheostatlaw20_GuardTimes_ps).put t).fr.sl) ⟨⟨0, []⟩, [], ((shOf rheostatlaw20_GuardTimes_ps).put t).mem⟩ outBool = rheostatlaw20_GuardTimes_g K t.1 t.2.1 t.2.2.1 t.2.2.2.1 t.2.2.2.2.1 t.2.2.2.2.2.1 t.2.2.2.2.2.2.1 := by kernel_rfl
theorem rheostatlaw20_GuardTimes_call (K : Nat) (hb : ∀ t : (shOf rheostatlaw20_GuardTimes_ps).T, argsBnd rheostatlaw20_GuardTimes_ps t → rheostatlaw20_GuardTimes_g K t.1 t.2.1 t.2.2.1 t.2.2.2.1 t.2.2.2.2.1 t.2.2.2.2.2.1 t.2.2.2.2.2.2.1 = some true) {w : World} {vals : List Value} (hp : PFits w rheostatlaw20_GuardTimes_ps vals) :
    Calls Try.prog 4 vals.toArray w fun e w' => e = .returned (.bool true) ∧ RowKit.Below w.heap.size w w' :=
  call_of (rheostatlaw20_GuardTimes_t2 K) (rheostatlaw20_GuardTimes_i2 K) (draws (rheostatlaw20_GuardTimes_t2 K)) 0 Try.func4 (by kernel_rfl) (by kernel_rfl) outBool_true (fun t ht => (rheostatlaw20_GuardTimes_q K t).trans (hb t ht)) hp
end Go.Proofs.Ythjjjifpiibmeaa
