/-
  The functions of law 17, as plain functions, and that the program does what they say. Printed by a program of ours.
-/
import Derived.Test.YtffmgpdbpfehkaaI
namespace Go.Proofs.Ytffmgpdbpfehkaa
open Go.Sy
set_option maxRecDepth 100000
set_option linter.unusedVariables false
/-! rheostatref17_Correct -/
noncomputable def rheostatref17_Correct_e0 (K : Nat) : Env := ⟨tt, [(30, rheostatref17_soc_o K), (31, rheostatref03_Toward_o K)], [], [], eqs⟩
theorem rheostatref17_Correct_t0 (K : Nat) : EnvT Try.prog (rheostatref17_Correct_e0 K) := envT_of tt_ok eqs_ok ⟨rheostatref17_soc_ok K, rheostatref03_Toward_ok K, trivial⟩
theorem rheostatref17_Correct_i0 (K : Nat) : EnvI Try.prog (rheostatref17_Correct_e0 K) := envI_of (es := []) trivial trivial
noncomputable def rheostatref17_Correct_h : Sh := ⟨3, [(0, .sc (.i .i64)), (1, .sc (.i .i64)), (2, .sc (.i .i64))], [], []⟩
noncomputable def rheostatref17_Correct_r : Sh := ⟨2, [(0, .sc (.i .i64)), (1, .sc (.i .i64))], [], []⟩
noncomputable def rheostatref17_Correct_g (K : Nat) (n_0 : Int) (told_1 : Int) (slew_2 : Int) : Option (Int × Int × Unit) :=
  ((rheostatref17_soc_g K n_0).bind fun q1 => (bif (!q1.1) then (some (0, 2, ())) else ((rheostatref17_soc_g K told_1).bind fun q2 => (bif (!q2.1) then (some (0, 2, ())) else (bif (decide (slew_2 < 1)) then (some (0, 2, ())) else (bif (decide (slew_2 > 10000)) then (some (0, 2, ())) else ((rheostatref03_Toward_g K n_0 told_1 slew_2).bind fun q3 => (some (q3.1, 0, ())))))))))
noncomputable def rheostatref17_Correct_o (K : Nat) : FO := fnFO rheostatref17_Correct_h rheostatref17_Correct_r fun t => rheostatref17_Correct_g K t.1 t.2.1 t.2.2.1
theorem rheostatref17_Correct_q (K : Nat) (t : rheostatref17_Correct_h.T) : exFn (rheostatref17_Correct_e0 K) (hdl (rheostatref17_Correct_e0 K) 0) [16] Try.f16 (slVals (rheostatref17_Correct_h.put t).fr.sl) ⟨⟨0, []⟩, [], (rheostatref17_Correct_h.put t).mem⟩ (takeRes rheostatref17_Correct_r) = rheostatref17_Correct_g K t.1 t.2.1 t.2.2.1 := by kernel_rfl
theorem rheostatref17_Correct_ok (K : Nat) : FOok Try.prog 16 (rheostatref17_Correct_o K) :=
  fn_rule (rheostatref17_Correct_t0 K) (rheostatref17_Correct_i0 K) (draws (rheostatref17_Correct_t0 K)) 0 Try.func16 (fnB_ok Try.func16 (by kernel_rfl)) rfl rfl (allOwn_ok false (by kernel_rfl)) rfl (allOwn_ok true (by kernel_rfl)) (fun t => rheostatref17_Correct_q K t)
/-! rheostatref03_Size -/
noncomputable def rheostatref03_Size_e0 (K : Nat) : Env := ⟨tt, [], [], [], eqs⟩
theorem rheostatref03_Size_t0 (K : Nat) : EnvT Try.prog (rheostatref03_Size_e0 K) := envT_of tt_ok eqs_ok trivial
theorem rheostatref03_Size_i0 (K : Nat) : EnvI Try.prog (rheostatref03_Size_e0 K) := envI_of (es := []) trivial trivial
noncomputable def rheostatref03_Size_h : Sh := ⟨1, [(0, .sc (.i .i64))], [], []⟩
noncomputable def rheostatref03_Size_r : Sh := ⟨1, [(0, .sc (.i .i64))], [], []⟩
noncomputable def rheostatref03_Size_g (K : Nat) (n_0 : Int) : Option (Int × Unit) :=
  (bif (n_0 == (-9223372036854775808)) then (some (9223372036854775807, ())) else (bif (decide (n_0 < 0)) then (some ((wi64 (0 - n_0)), ())) else (some (n_0, ()))))
noncomputable def rheostatref03_Size_o (K : Nat) : FO := fnFO rheostatref03_Size_h rheostatref03_Size_r fun t => rheostatref03_Size_g K t.1
theorem rheostatref03_Size_q (K : Nat) (t : rheostatref03_Size_h.T) : exFn (rheostatref03_Size_e0 K) (hdl (rheostatref03_Size_e0 K) 0) [32] Try.f32 (slVals (rheostatref03_Size_h.put t).fr.sl) ⟨⟨0, []⟩, [], (rheostatref03_Size_h.put t).mem⟩ (takeRes rheostatref03_Size_r) = rheostatref03_Size_g K t.1 := by kernel_rfl
theorem rheostatref03_Size_ok (K : Nat) : FOok Try.prog 32 (rheostatref03_Size_o K) :=
  fn_rule (rheostatref03_Size_t0 K) (rheostatref03_Size_i0 K) (draws (rheostatref03_Size_t0 K)) 0 Try.func32 (fnB_ok Try.func32 (by kernel_rfl)) rfl rfl (allOwn_ok false (by kernel_rfl)) rfl (allOwn_ok true (by kernel_rfl)) (fun t => rheostatref03_Size_q K t)
/-! rheostatref17_Far -/
noncomputable def rheostatref17_Far_e0 (K : Nat) : Env := ⟨tt, [(16, rheostatref17_Correct_o K), (32, rheostatref03_Size_o K)], [], [], eqs⟩
theorem rheostatref17_Far_t0 (K : Nat) : EnvT Try.prog (rheostatref17_Far_e0 K) := envT_of tt_ok eqs_ok ⟨rheostatref17_Correct_ok K, rheostatref03_Size_ok K, trivial⟩
theorem rheostatref17_Far_i0 (K : Nat) : EnvI Try.prog (rheostatref17_Far_e0 K) := envI_of (es := []) trivial trivial
noncomputable def rheostatref17_Far_h : Sh := ⟨3, [(0, .sc (.i .i64)), (1, .sc (.i .i64)), (2, .sc (.i .i64))], [], []⟩
noncomputable def rheostatref17_Far_r : Sh := ⟨2, [(0, .sc (.i .i64)), (1, .sc (.i .i64))], [], []⟩
noncomputable def rheostatref17_Far_g (K : Nat) (n_0 : Int) (told_1 : Int) (slew_2 : Int) : Option (Int × Int × Unit) :=
  ((rheostatref17_Correct_g K n_0 told_1 slew_2).bind fun q1 => (bif (q1.2.1 != 0) then (some (0, q1.2.1, ())) else ((rheostatref03_Size_g K (wi64 (n_0 - told_1))).bind fun q2 => (bif (slew_2 == 0) then none else (some ((wi64 (Int.tdiv (wi64 ((wi64 (q2.1 + slew_2)) - 1)) slew_2)), 0, ()))))))
noncomputable def rheostatref17_Far_o (K : Nat) : FO := fnFO rheostatref17_Far_h rheostatref17_Far_r fun t => rheostatref17_Far_g K t.1 t.2.1 t.2.2.1
theorem rheostatref17_Far_q (K : Nat) (t : rheostatref17_Far_h.T) : exFn (rheostatref17_Far_e0 K) (hdl (rheostatref17_Far_e0 K) 0) [17] Try.f17 (slVals (rheostatref17_Far_h.put t).fr.sl) ⟨⟨0, []⟩, [], (rheostatref17_Far_h.put t).mem⟩ (takeRes rheostatref17_Far_r) = rheostatref17_Far_g K t.1 t.2.1 t.2.2.1 := by kernel_rfl
theorem rheostatref17_Far_ok (K : Nat) : FOok Try.prog 17 (rheostatref17_Far_o K) :=
  fn_rule (rheostatref17_Far_t0 K) (rheostatref17_Far_i0 K) (draws (rheostatref17_Far_t0 K)) 0 Try.func17 (fnB_ok Try.func17 (by kernel_rfl)) rfl rfl (allOwn_ok false (by kernel_rfl)) rfl (allOwn_ok true (by kernel_rfl)) (fun t => rheostatref17_Far_q K t)
/-! rheostatlaw17_FuseTells -/
noncomputable def rheostatlaw17_FuseTells_e0 (K : Nat) : Env := ⟨tt, [(13, rheostatlaw17_light_o K), (14, fuse_Told_o K), (15, rheostatref17_Told_o K), (10, fuse_Correct_o K), (16, rheostatref17_Correct_o K), (9, fuse_Far_o K), (17, rheostatref17_Far_o K), (7, rheostatlaw17_works_o K)], [], [], eqs⟩
theorem rheostatlaw17_FuseTells_t0 (K : Nat) : EnvT Try.prog (rheostatlaw17_FuseTells_e0 K) := envT_of tt_ok eqs_ok ⟨rheostatlaw17_light_ok K, fuse_Told_ok K, rheostatref17_Told_ok K, fuse_Correct_ok K, rheostatref17_Correct_ok K, fuse_Far_ok K, rheostatref17_Far_ok K, rheostatlaw17_works_ok K, trivial⟩
theorem rheostatlaw17_FuseTells_i0 (K : Nat) : EnvI Try.prog (rheostatlaw17_FuseTells_e0 K) := envI_of (es := []) trivial trivial
noncomputable def rheostatlaw17_FuseTells_g (K : Nat) (g_0_0n : Nat) (g_0_1n : Nat) (g_0_2n : Nat) (voltage_1 : Int) (temperature_2 : Int) (soc_3 : Int) (told_4 : Int) (slew_5 : Int) (m0_0 : (Nat → Int)) (m1_0 : (Nat → Int)) (m2_0 : (Nat → Int)) : Option Bool :=
  ((rheostatlaw17_light_g K g_0_0n g_0_1n g_0_2n m0_0 m1_0 m2_0).bind fun q1 => (bif (!q1.1) then (some true) else ((fuse_Told_g K g_0_0n g_0_1n g_0_2n voltage_1 temperature_2 m0_0 m1_0 m2_0).bind fun q2 => ((rheostatref17_Told_g K g_0_0n g_0_1n g_0_2n voltage_1 temperature_2 m0_0 m1_0 m2_0).bind fun q3 => ((fuse_Correct_g K soc_3 told_4 slew_5).bind fun q4 => ((rheostatref17_Correct_g K soc_3 told_4 slew_5).bind fun q5 => ((fuse_Far_g K soc_3 told_4 slew_5).bind fun q6 => ((rheostatref17_Far_g K soc_3 told_4 slew_5).bind fun q7 => (bif (q2.1 == q3.1) then (bif (q2.2.1 == q3.2.1) then (bif (q4.1 == q5.1) then (bif (q4.2.1 == q5.2.1) then (bif (q6.1 == q7.1) then (bif (q6.2.1 == q7.2.1) then ((rheostatlaw17_works_g K).bind fun q8 => (some q8.1)) else (some false)) else (some false)) else (some false)) else (some false)) else (some false)) else (some false))))))))))
noncomputable def rheostatlaw17_FuseTells_ps : List (Bool × List WC) := [(true, [.slc [.i .i64], .slc [.i .i64], .slc [.i .i64]]), (false, [.sc (.i .i64)]), (false, [.sc (.i .i64)]), (false, [.sc (.i .i64)]), (false, [.sc (.i .i64)]), (false, [.sc (.i .i64)])]
theorem rheostatlaw17_FuseTells_q (K : Nat) (t : (shOf rheostatlaw17_FuseTells_ps).T) : exFn (rheostatlaw17_FuseTells_e0 K) (hdl (rheostatlaw17_FuseTells_e0 K) 0) [5] Try.f5 (slVals ((shOf rheostatlaw17_FuseTells_ps).put t).fr.sl) ⟨⟨0, []⟩, [], ((shOf rheostatlaw17_FuseTells_ps).put t).mem⟩ outBool = rheostatlaw17_FuseTells_g K t.1 t.2.1 t.2.2.1 t.2.2.2.1 t.2.2.2.2.1 t.2.2.2.2.2.1 t.2.2.2.2.2.2.1 t.2.2.2.2.2.2.2.1 t.2.2.2.2.2.2.2.2.1 t.2.2.2.2.2.2.2.2.2.1 t.2.2.2.2.2.2.2.2.2.2.1 := by kernel_rfl
theorem rheostatlaw17_FuseTells_call (K : Nat) (hb : ∀ t : (shOf rheostatlaw17_FuseTells_ps).T, argsBnd rheostatlaw17_FuseTells_ps t → rheostatlaw17_FuseTells_g K t.1 t.2.1 t.2.2.1 t.2.2.2.1 t.2.2.2.2.1 t.2.2.2.2.2.1 t.2.2.2.2.2.2.1 t.2.2.2.2.2.2.2.1 t.2.2.2.2.2.2.2.2.1 t.2.2.2.2.2.2.2.2.2.1 t.2.2.2.2.2.2.2.2.2.2.1 = some true) {w : World} {vals : List Value} (hp : PFits w rheostatlaw17_FuseTells_ps vals) :
    Calls Try.prog 5 vals.toArray w fun e w' => e = .returned (.bool true) ∧ RowKit.Below w.heap.size w w' :=
  call_of (rheostatlaw17_FuseTells_t0 K) (rheostatlaw17_FuseTells_i0 K) (draws (rheostatlaw17_FuseTells_t0 K)) 0 Try.func5 (by kernel_rfl) (by kernel_rfl) outBool_true (fun t ht => (rheostatlaw17_FuseTells_q K t).trans (hb t ht)) hp
/-! rheostatref11_Rises -/
noncomputable def rheostatref11_Rises_e0 (K : Nat) : Env := ⟨tt, [(18, rheostatref11_Check_o K)], [], [], eqs⟩
theorem rheostatref11_Rises_t0 (K : Nat) : EnvT Try.prog (rheostatref11_Rises_e0 K) := envT_of tt_ok eqs_ok ⟨rheostatref11_Check_ok K, trivial⟩
theorem rheostatref11_Rises_i0 (K : Nat) : EnvI Try.prog (rheostatref11_Rises_e0 K) := envI_of (es := []) trivial trivial
noncomputable def rheostatref11_Rises_l0h : Sh := ⟨32, [(1, .sc (.lit (.p 0 0 0 []))), (3, .sc (.i .i64))], [(0, [])], [(true, false, [.slr0 1, .slr0 2, .slr0 3]), (false, true, [.ir .i64]), (false, true, [.ir .i64]), (false, true, [.ir .i64])]⟩
noncomputable def rheostatref11_Rises_l0x0 : Sh := ⟨32, [], [(0, [])], []⟩
noncomputable def rheostatref11_Rises_l0x1 : Sh := ⟨32, [(2, .sc (.b))], [(0, [])], []⟩
noncomputable def rheostatref11_Rises_l0O : OutI ((Unit) ⊕ (Bool × Unit)) := (OutI.or (OutI.exit 0 rheostatref11_Rises_l0x0) (OutI.ret rheostatref11_Rises_l0x1))
noncomputable def rheostatref11_Rises_l0r (K : Nat) (rec : Int → Nat → Nat → Nat → (Nat → Int) → (Nat → Int) → (Nat → Int) → Option ((Unit) ⊕ (Bool × Unit))) (i_3 : Int) (m0_0n : Nat) (m0_1n : Nat) (m0_2n : Nat) (m1_0 : (Nat → Int)) (m2_0 : (Nat → Int)) (m3_0 : (Nat → Int)) : Option ((Unit) ⊕ (Bool × Unit)) :=
  (bif (decide (i_3 < ((m0_2n : Nat) : Int))) then (bif ((decide (0 ≤ i_3)) && (decide (i_3 < ((m0_2n : Nat) : Int)))) then (bif ((decide (0 ≤ (wi64 (i_3 - ((m0_1n : Nat) : Int))))) && (decide ((wi64 (i_3 - ((m0_1n : Nat) : Int))) < ((m0_2n : Nat) : Int)))) then (bif (decide ((m3_0 (Int.toNat i_3)) < (m3_0 (Int.toNat (wi64 (i_3 - ((m0_1n : Nat) : Int))))))) then (some (.inr (false, ()))) else (rec (wi64 (i_3 + 1)) m0_0n m0_1n m0_2n m1_0 m2_0 m3_0)) else none) else none) else (some (.inl (()))))
noncomputable def rheostatref11_Rises_l0 (K n : Nat) : Int → Nat → Nat → Nat → (Nat → Int) → (Nat → Int) → (Nat → Int) → Option ((Unit) ⊕ (Bool × Unit)) := Nat.rec (motive := fun _ => Int → Nat → Nat → Nat → (Nat → Int) → (Nat → Int) → (Nat → Int) → Option ((Unit) ⊕ (Bool × Unit))) (fun _ _ _ _ _ _ _ => none) (fun _ ih => rheostatref11_Rises_l0r K ih) n
noncomputable def rheostatref11_Rises_l0u (K n : Nat) (t : rheostatref11_Rises_l0h.T) : Option ((Unit) ⊕ (Bool × Unit)) := rheostatref11_Rises_l0 K n t.1 t.2.1 t.2.2.1 t.2.2.2.1 t.2.2.2.2.1 t.2.2.2.2.2.1 t.2.2.2.2.2.2.1
noncomputable def rheostatref11_Rises_l0o (K : Nat) : LO := loopLO rheostatref11_Rises_l0h rheostatref11_Rises_l0O fun t => rheostatref11_Rises_l0u K K t
noncomputable def rheostatref11_Rises_l0C : Code := bodyOf Try.f19
noncomputable def rheostatref11_Rises_l0B : Code := (findLoops 4 (loopsIn rheostatref11_Rises_l0C)).headD .skip
theorem rheostatref11_Rises_l0F : findLoops 4 (loopsIn rheostatref11_Rises_l0C) = [rheostatref11_Rises_l0B] := by kernel_rfl
theorem rheostatref11_Rises_l0q (K n : Nat) (t : rheostatref11_Rises_l0h.T) : exC (rheostatref11_Rises_e0 K) (hdl (rheostatref11_Rises_e0 K) 0) (19 :: []) rheostatref11_Rises_l0B (rheostatref11_Rises_l0h.put t) (fun s => (rheostatref11_Rises_l0h.take s).bind fun t => rheostatref11_Rises_l0u K n t) (fun id s => rheostatref11_Rises_l0O.get (some id) s) (fun s => rheostatref11_Rises_l0O.get none s) = rheostatref11_Rises_l0u K (n + 1) t := by kernel_rfl
noncomputable def rheostatref11_Rises_l0E (K : Nat) : LoopE Try.prog := ⟨[4, 19], rheostatref11_Rises_l0o K, Try.f19, rheostatref11_Rises_l0C, rheostatref11_Rises_l0B, ⟨4, 19, [], rfl, Try.func19, by kernel_rfl, rheostatref11_Rises_l0F⟩,
  loop_rule (F := fun n t => rheostatref11_Rises_l0u K n t) (rheostatref11_Rises_t0 K) (rheostatref11_Rises_i0 K) (draws (rheostatref11_Rises_t0 K)) 0 Try.func19 (c := rheostatref11_Rises_l0C) (by kernel_rfl) (body_in rheostatref11_Rises_l0F) (ctx' := []) (h := rheostatref11_Rises_l0h) (O := rheostatref11_Rises_l0O) (fun _ => rfl) (fun m t => rheostatref11_Rises_l0q K m t) K⟩
noncomputable def rheostatref11_Rises_e1 (K : Nat) : Env := ⟨tt, [(18, rheostatref11_Check_o K)], [], [([4, 19], rheostatref11_Rises_l0o K)], eqs⟩
theorem rheostatref11_Rises_t1 (K : Nat) : EnvT Try.prog (rheostatref11_Rises_e1 K) := envT_of tt_ok eqs_ok ⟨rheostatref11_Check_ok K, trivial⟩
theorem rheostatref11_Rises_i1 (K : Nat) : EnvI Try.prog (rheostatref11_Rises_e1 K) := envI_of (es := [rheostatref11_Rises_l0E K]) trivial ⟨⟨rfl, rfl⟩, trivial⟩
noncomputable def rheostatref11_Rises_h : Sh := ⟨1, [(0, .ag [.slr0 0, .slr0 1, .slr0 2])], [], [(false, true, [.ir .i64]), (false, true, [.ir .i64]), (false, true, [.ir .i64])]⟩
noncomputable def rheostatref11_Rises_r : Sh := ⟨1, [(0, .sc (.b))], [], []⟩
noncomputable def rheostatref11_Rises_g (K : Nat) (g_0_0n : Nat) (g_0_1n : Nat) (g_0_2n : Nat) (m0_0 : (Nat → Int)) (m1_0 : (Nat → Int)) (m2_0 : (Nat → Int)) : Option (Bool × Unit) :=
  ((rheostatref11_Check_g K g_0_0n g_0_1n g_0_2n m0_0 m1_0 m2_0).bind fun q1 => (bif (q1.1 != 0) then (some (false, ())) else ((rheostatref11_Rises_l0 K K ((g_0_1n : Nat) : Int) g_0_0n g_0_1n g_0_2n m0_0 m1_0 m2_0).bind fun q2 => (Sum.elim (fun q3 => (some (true, ()))) (fun q4 => (some (q4.1, ()))) q2))))
noncomputable def rheostatref11_Rises_gu (K : Nat) (t : rheostatref11_Rises_h.T) : Option (Bool × Unit) := rheostatref11_Rises_g K t.1 t.2.1 t.2.2.1 t.2.2.2.1 t.2.2.2.2.1 t.2.2.2.2.2.1
noncomputable def rheostatref11_Rises_o (K : Nat) : FO := fnFO rheostatref11_Rises_h rheostatref11_Rises_r fun t => rheostatref11_Rises_gu K t
theorem rheostatref11_Rises_q (K : Nat) (t : rheostatref11_Rises_h.T) : exFn (rheostatref11_Rises_e1 K) (hdl (rheostatref11_Rises_e1 K) 0) [19] Try.f19 (slVals (rheostatref11_Rises_h.put t).fr.sl) ⟨⟨0, []⟩, [], (rheostatref11_Rises_h.put t).mem⟩ (takeRes rheostatref11_Rises_r) = rheostatref11_Rises_gu K t := by kernel_rfl
theorem rheostatref11_Rises_ok (K : Nat) : FOok Try.prog 19 (rheostatref11_Rises_o K) :=
  fn_rule (rheostatref11_Rises_t1 K) (rheostatref11_Rises_i1 K) (draws (rheostatref11_Rises_t1 K)) 0 Try.func19 (fnB_ok Try.func19 (by kernel_rfl)) rfl rfl (allOwn_ok false (by kernel_rfl)) rfl (allOwn_ok true (by kernel_rfl)) (fun t => rheostatref11_Rises_q K t)
/-! rheostatlaw17_FuseRises -/
noncomputable def rheostatlaw17_FuseRises_e0 (K : Nat) : Env := ⟨tt, [(7, rheostatlaw17_works_o K), (13, rheostatlaw17_light_o K), (18, rheostatref11_Check_o K), (14, fuse_Told_o K), (19, rheostatref11_Rises_o K)], [], [], eqs⟩
theorem rheostatlaw17_FuseRises_t0 (K : Nat) : EnvT Try.prog (rheostatlaw17_FuseRises_e0 K) := envT_of tt_ok eqs_ok ⟨rheostatlaw17_works_ok K, rheostatlaw17_light_ok K, rheostatref11_Check_ok K, fuse_Told_ok K, rheostatref11_Rises_ok K, trivial⟩
theorem rheostatlaw17_FuseRises_i0 (K : Nat) : EnvI Try.prog (rheostatlaw17_FuseRises_e0 K) := envI_of (es := []) trivial trivial
noncomputable def rheostatlaw17_FuseRises_g (K : Nat) (g_0_0n : Nat) (g_0_1n : Nat) (g_0_2n : Nat) (a_1 : Int) (b_2 : Int) (temperature_3 : Int) (m0_0 : (Nat → Int)) (m1_0 : (Nat → Int)) (m2_0 : (Nat → Int)) : Option Bool :=
  ((rheostatlaw17_works_g K).bind fun q1 => (bif (!q1.1) then (some false) else ((rheostatlaw17_light_g K g_0_0n g_0_1n g_0_2n m0_0 m1_0 m2_0).bind fun q2 => (bif (!q2.1) then (some true) else ((rheostatref11_Check_g K g_0_0n g_0_1n g_0_2n m0_0 m1_0 m2_0).bind fun q3 => (bif (q3.1 != 0) then (some true) else ((fuse_Told_g K g_0_0n g_0_1n g_0_2n (bif (decide (b_2 < a_1)) then b_2 else a_1) temperature_3 m0_0 m1_0 m2_0).bind fun q4 => ((fuse_Told_g K g_0_0n g_0_1n g_0_2n (bif (decide (b_2 > a_1)) then b_2 else a_1) temperature_3 m0_0 m1_0 m2_0).bind fun q5 => (bif (q4.2.1 == 0) then (bif (q5.2.1 == 0) then (bif (decide (q4.1 ≥ 0)) then (bif (decide (q4.1 ≤ 10000)) then (bif (decide (q5.1 ≥ 0)) then (bif (decide (q5.1 ≤ 10000)) then ((rheostatref11_Rises_g K g_0_0n g_0_1n g_0_2n m0_0 m1_0 m2_0).bind fun q6 => (bif (!q6.1) then (some true) else (some (decide (q4.1 ≤ q5.1))))) else (some false)) else (some false)) else (some false)) else (some false)) else (some false)) else (some false))))))))))
noncomputable def rheostatlaw17_FuseRises_ps : List (Bool × List WC) := [(true, [.slc [.i .i64], .slc [.i .i64], .slc [.i .i64]]), (false, [.sc (.i .i64)]), (false, [.sc (.i .i64)]), (false, [.sc (.i .i64)])]
theorem rheostatlaw17_FuseRises_q (K : Nat) (t : (shOf rheostatlaw17_FuseRises_ps).T) : exFn (rheostatlaw17_FuseRises_e0 K) (hdl (rheostatlaw17_FuseRises_e0 K) 0) [6] Try.f6 (slVals ((shOf rheostatlaw17_FuseRises_ps).put t).fr.sl) ⟨⟨0, []⟩, [], ((shOf rheostatlaw17_FuseRises_ps).put t).mem⟩ outBool = rheostatlaw17_FuseRises_g K t.1 t.2.1 t.2.2.1 t.2.2.2.1 t.2.2.2.2.1 t.2.2.2.2.2.1 t.2.2.2.2.2.2.1 t.2.2.2.2.2.2.2.1 t.2.2.2.2.2.2.2.2.1 := by kernel_rfl
theorem rheostatlaw17_FuseRises_call (K : Nat) (hb : ∀ t : (shOf rheostatlaw17_FuseRises_ps).T, argsBnd rheostatlaw17_FuseRises_ps t → rheostatlaw17_FuseRises_g K t.1 t.2.1 t.2.2.1 t.2.2.2.1 t.2.2.2.2.1 t.2.2.2.2.2.1 t.2.2.2.2.2.2.1 t.2.2.2.2.2.2.2.1 t.2.2.2.2.2.2.2.2.1 = some true) {w : World} {vals : List Value} (hp : PFits w rheostatlaw17_FuseRises_ps vals) :
    Calls Try.prog 6 vals.toArray w fun e w' => e = .returned (.bool true) ∧ RowKit.Below w.heap.size w w' :=
  call_of (rheostatlaw17_FuseRises_t0 K) (rheostatlaw17_FuseRises_i0 K) (draws (rheostatlaw17_FuseRises_t0 K)) 0 Try.func6 (by kernel_rfl) (by kernel_rfl) outBool_true (fun t ht => (rheostatlaw17_FuseRises_q K t).trans (hb t ht)) hp
end Go.Proofs.Ytffmgpdbpfehkaa
