/-
  The functions of law 13, as plain functions, and that the program does what they say. Printed by a program of ours.
-/
import Derived.Test.YtdcjkkgfimbodaaG
namespace Go.Proofs.Ytdcjkkgfimbodaa
open Go.Sy
set_option maxRecDepth 100000
set_option linter.unusedVariables false
/-! rheostatref12_raw -/
noncomputable def rheostatref12_raw_e0 (K : Nat) : Env := ⟨tt, [], [], [], eqs⟩
theorem rheostatref12_raw_t0 (K : Nat) : EnvT Try.prog (rheostatref12_raw_e0 K) := envT_of tt_ok eqs_ok trivial
theorem rheostatref12_raw_i0 (K : Nat) : EnvI Try.prog (rheostatref12_raw_e0 K) := envI_of (es := []) trivial trivial
noncomputable def rheostatref12_raw_h : Sh := ⟨1, [(0, .sc (.i .i64))], [], []⟩
noncomputable def rheostatref12_raw_r : Sh := ⟨1, [(0, .sc (.b))], [], []⟩
noncomputable def rheostatref12_raw_g (K : Nat) (n_0 : Int) : Option (Bool × Unit) :=
  (bif (decide (n_0 ≥ (-1048576))) then (some ((decide (n_0 ≤ 1048576)), ())) else (some (false, ())))
noncomputable def rheostatref12_raw_o (K : Nat) : FO := fnFO rheostatref12_raw_h rheostatref12_raw_r fun t => rheostatref12_raw_g K t.1
theorem rheostatref12_raw_q (K : Nat) (t : rheostatref12_raw_h.T) : exFn (rheostatref12_raw_e0 K) (hdl (rheostatref12_raw_e0 K) 0) [33] Try.f33 (slVals (rheostatref12_raw_h.put t).fr.sl) ⟨⟨0, []⟩, [], (rheostatref12_raw_h.put t).mem⟩ (takeRes rheostatref12_raw_r) = rheostatref12_raw_g K t.1 := by kernel_rfl
theorem rheostatref12_raw_ok (K : Nat) : FOok Try.prog 33 (rheostatref12_raw_o K) :=
  fn_rule (rheostatref12_raw_t0 K) (rheostatref12_raw_i0 K) (draws (rheostatref12_raw_t0 K)) 0 Try.func33 (fnB_ok Try.func33 (by kernel_rfl)) rfl rfl (allOwn_ok false (by kernel_rfl)) rfl (allOwn_ok true (by kernel_rfl)) (fun t => rheostatref12_raw_q K t)
/-! rheostatref12_Check -/
noncomputable def rheostatref12_Check_e0 (K : Nat) : Env := ⟨tt, [(33, rheostatref12_raw_o K)], [], [], eqs⟩
theorem rheostatref12_Check_t0 (K : Nat) : EnvT Try.prog (rheostatref12_Check_e0 K) := envT_of tt_ok eqs_ok ⟨rheostatref12_raw_ok K, trivial⟩
theorem rheostatref12_Check_i0 (K : Nat) : EnvI Try.prog (rheostatref12_Check_e0 K) := envI_of (es := []) trivial trivial
noncomputable def rheostatref12_Check_h : Sh := ⟨1, [(0, .ag [.i .i64, .i .i64, .i .i64])], [], []⟩
noncomputable def rheostatref12_Check_r : Sh := ⟨1, [(0, .sc (.i .i64))], [], []⟩
noncomputable def rheostatref12_Check_g (K : Nat) (l_0_0 : Int) (l_0_1 : Int) (l_0_2 : Int) : Option (Int × Unit) :=
  ((rheostatref12_raw_g K l_0_0).bind fun q1 => (bif (!q1.1) then (some (120, ())) else ((rheostatref12_raw_g K l_0_1).bind fun q2 => (bif (!q2.1) then (some (120, ())) else (bif (decide (l_0_2 < 1)) then (some (120, ())) else (bif (decide (l_0_2 > 1048576)) then (some (120, ())) else (some (0, ()))))))))
noncomputable def rheostatref12_Check_o (K : Nat) : FO := fnFO rheostatref12_Check_h rheostatref12_Check_r fun t => rheostatref12_Check_g K t.1 t.2.1 t.2.2.1
theorem rheostatref12_Check_q (K : Nat) (t : rheostatref12_Check_h.T) : exFn (rheostatref12_Check_e0 K) (hdl (rheostatref12_Check_e0 K) 0) [26] Try.f26 (slVals (rheostatref12_Check_h.put t).fr.sl) ⟨⟨0, []⟩, [], (rheostatref12_Check_h.put t).mem⟩ (takeRes rheostatref12_Check_r) = rheostatref12_Check_g K t.1 t.2.1 t.2.2.1 := by kernel_rfl
theorem rheostatref12_Check_ok (K : Nat) : FOok Try.prog 26 (rheostatref12_Check_o K) :=
  fn_rule (rheostatref12_Check_t0 K) (rheostatref12_Check_i0 K) (draws (rheostatref12_Check_t0 K)) 0 Try.func26 (fnB_ok Try.func26 (by kernel_rfl)) rfl rfl (allOwn_ok false (by kernel_rfl)) rfl (allOwn_ok true (by kernel_rfl)) (fun t => rheostatref12_Check_q K t)
/-! rheostatref13_Check -/
noncomputable def rheostatref13_Check_e0 (K : Nat) : Env := ⟨tt, [(26, rheostatref12_Check_o K)], [], [], eqs⟩
theorem rheostatref13_Check_t0 (K : Nat) : EnvT Try.prog (rheostatref13_Check_e0 K) := envT_of tt_ok eqs_ok ⟨rheostatref12_Check_ok K, trivial⟩
theorem rheostatref13_Check_i0 (K : Nat) : EnvI Try.prog (rheostatref13_Check_e0 K) := envI_of (es := []) trivial trivial
noncomputable def rheostatref13_Check_l0h : Sh := ⟨36, [(2, .sc (.lit (.p 0 0 0 []))), (3, .sc (.lit (.p 1 0 0 []))), (5, .sc (.i .i64))], [(0, [])], [(true, false, [.i .i64, .i .i64, .i .i64, .i .i64, .i .i64, .i .i64, .i .i64, .i .i64, .i .i64]), (true, false, [.i .i64, .i .i64, .i .i64, .i .i64, .i .i64, .i .i64])]⟩
noncomputable def rheostatref13_Check_l0x0 : Sh := ⟨36, [], [(0, [])], []⟩
noncomputable def rheostatref13_Check_l0x1 : Sh := ⟨36, [(4, .sc (.i .i64))], [(0, [])], []⟩
noncomputable def rheostatref13_Check_l0O : OutI ((Unit) ⊕ (Int × Unit)) := (OutI.or (OutI.exit 0 rheostatref13_Check_l0x0) (OutI.ret rheostatref13_Check_l0x1))
noncomputable def rheostatref13_Check_l0r (K : Nat) (rec : Int → Int → Int → Int → Int → Int → Int → Int → Int → Int → Int → Int → Int → Int → Int → Int → Option ((Unit) ⊕ (Int × Unit))) (i_5 : Int) (m0_0 : Int) (m0_1 : Int) (m0_2 : Int) (m0_3 : Int) (m0_4 : Int) (m0_5 : Int) (m0_6 : Int) (m0_7 : Int) (m0_8 : Int) (m1_0 : Int) (m1_1 : Int) (m1_2 : Int) (m1_3 : Int) (m1_4 : Int) (m1_5 : Int) : Option ((Unit) ⊕ (Int × Unit)) :=
  (bif (decide (i_5 < 3)) then (bif ((decide (0 ≤ i_5)) && (decide (i_5 < 3))) then (bif ((decide (0 ≤ i_5)) && (decide (i_5 < 3))) then ((rheostatref12_Check_g K (selI [m0_0, m0_3, m0_6] (Int.toNat i_5)) (selI [m0_1, m0_4, m0_7] (Int.toNat i_5)) (selI [m0_2, m0_5, m0_8] (Int.toNat i_5))).bind fun q1 => (bif (q1.1 != 0) then (some (.inr (120, ()))) else (bif (decide ((selI [m1_0, m1_2, m1_4] (Int.toNat i_5)) > (selI [m1_1, m1_3, m1_5] (Int.toNat i_5)))) then (some (.inr (120, ()))) else (bif (decide ((selI [m1_0, m1_2, m1_4] (Int.toNat i_5)) < (-2147483648))) then (some (.inr (120, ()))) else (bif (decide ((selI [m1_1, m1_3, m1_5] (Int.toNat i_5)) > 2147483648)) then (some (.inr (120, ()))) else (rec (wi64 (i_5 + 1)) m0_0 m0_1 m0_2 m0_3 m0_4 m0_5 m0_6 m0_7 m0_8 m1_0 m1_1 m1_2 m1_3 m1_4 m1_5)))))) else none) else none) else (some (.inl (()))))
noncomputable def rheostatref13_Check_l0 (K n : Nat) : Int → Int → Int → Int → Int → Int → Int → Int → Int → Int → Int → Int → Int → Int → Int → Int → Option ((Unit) ⊕ (Int × Unit)) := Nat.rec (motive := fun _ => Int → Int → Int → Int → Int → Int → Int → Int → Int → Int → Int → Int → Int → Int → Int → Int → Option ((Unit) ⊕ (Int × Unit))) (fun _ _ _ _ _ _ _ _ _ _ _ _ _ _ _ _ => none) (fun _ ih => rheostatref13_Check_l0r K ih) n
noncomputable def rheostatref13_Check_l0u (K n : Nat) (t : rheostatref13_Check_l0h.T) : Option ((Unit) ⊕ (Int × Unit)) :=
  let u1 := t.2
  let u2 := u1.2
  let u3 := u2.2
  let u4 := u3.2
  let u5 := u4.2
  let u6 := u5.2
  let u7 := u6.2
  let u8 := u7.2
  let u9 := u8.2
  let u10 := u9.2
  let u11 := u10.2
  let u12 := u11.2
  let u13 := u12.2
  let u14 := u13.2
  let u15 := u14.2
  rheostatref13_Check_l0 K n t.1 u1.1 u2.1 u3.1 u4.1 u5.1 u6.1 u7.1 u8.1 u9.1 u10.1 u11.1 u12.1 u13.1 u14.1 u15.1
noncomputable def rheostatref13_Check_l0o (K : Nat) : LO := loopLO rheostatref13_Check_l0h rheostatref13_Check_l0O fun t => rheostatref13_Check_l0u K K t
noncomputable def rheostatref13_Check_l0C : Code := bodyOf Try.f11
noncomputable def rheostatref13_Check_l0B : Code := (findLoops 2 (loopsIn rheostatref13_Check_l0C)).headD .skip
theorem rheostatref13_Check_l0F : findLoops 2 (loopsIn rheostatref13_Check_l0C) = [rheostatref13_Check_l0B] := by kernel_rfl
theorem rheostatref13_Check_l0q (K n : Nat) (t : rheostatref13_Check_l0h.T) : exC (rheostatref13_Check_e0 K) (hdl (rheostatref13_Check_e0 K) 0) (11 :: []) rheostatref13_Check_l0B (rheostatref13_Check_l0h.put t) (fun s => (rheostatref13_Check_l0h.take s).bind fun t => rheostatref13_Check_l0u K n t) (fun id s => rheostatref13_Check_l0O.get (some id) s) (fun s => rheostatref13_Check_l0O.get none s) = rheostatref13_Check_l0u K (n + 1) t := by kernel_rfl
noncomputable def rheostatref13_Check_l0E (K : Nat) : LoopE Try.prog := ⟨[2, 11], rheostatref13_Check_l0o K, Try.f11, rheostatref13_Check_l0C, rheostatref13_Check_l0B, ⟨2, 11, [], rfl, Try.func11, by kernel_rfl, rheostatref13_Check_l0F⟩,
  loop_rule (F := fun n t => rheostatref13_Check_l0u K n t) (rheostatref13_Check_t0 K) (rheostatref13_Check_i0 K) (draws (rheostatref13_Check_t0 K)) 0 Try.func11 (c := rheostatref13_Check_l0C) (by kernel_rfl) (body_in rheostatref13_Check_l0F) (ctx' := []) (h := rheostatref13_Check_l0h) (O := rheostatref13_Check_l0O) (fun _ => rfl) (fun m t => rheostatref13_Check_l0q K m t) K⟩
noncomputable def rheostatref13_Check_e1 (K : Nat) : Env := ⟨tt, [(26, rheostatref12_Check_o K)], [], [([2, 11], rheostatref13_Check_l0o K)], eqs⟩
theorem rheostatref13_Check_t1 (K : Nat) : EnvT Try.prog (rheostatref13_Check_e1 K) := envT_of tt_ok eqs_ok ⟨rheostatref12_Check_ok K, trivial⟩
theorem rheostatref13_Check_i1 (K : Nat) : EnvI Try.prog (rheostatref13_Check_e1 K) := envI_of (es := [rheostatref13_Check_l0E K]) trivial ⟨⟨rfl, rfl⟩, trivial⟩
noncomputable def rheostatref13_Check_h : Sh := ⟨2, [(0, .ag [.i .i64, .i .i64, .i .i64, .i .i64, .i .i64, .i .i64, .i .i64, .i .i64, .i .i64]), (1, .ag [.i .i64, .i .i64, .i .i64, .i .i64, .i .i64, .i .i64])], [], []⟩
noncomputable def rheostatref13_Check_r : Sh := ⟨1, [(0, .sc (.i .i64))], [], []⟩
noncomputable def rheostatref13_Check_g (K : Nat) (lines_0_0 : Int) (lines_0_1 : Int) (lines_0_2 : Int) (lines_0_3 : Int) (lines_0_4 : Int) (lines_0_5 : Int) (lines_0_6 : Int) (lines_0_7 : Int) (lines_0_8 : Int) (spans_1_0 : Int) (spans_1_1 : Int) (spans_1_2 : Int) (spans_1_3 : Int) (spans_1_4 : Int) (spans_1_5 : Int) : Option (Int × Unit) :=
  ((rheostatref13_Check_l0 K K 0 lines_0_0 lines_0_1 lines_0_2 lines_0_3 lines_0_4 lines_0_5 lines_0_6 lines_0_7 lines_0_8 spans_1_0 spans_1_1 spans_1_2 spans_1_3 spans_1_4 spans_1_5).bind fun q1 => (Sum.elim (fun q2 => (some (0, ()))) (fun q3 => (some (q3.1, ()))) q1))
noncomputable def rheostatref13_Check_gu (K : Nat) (t : rheostatref13_Check_h.T) : Option (Int × Unit) :=
  let u1 := t.2
  let u2 := u1.2
  let u3 := u2.2
  let u4 := u3.2
  let u5 := u4.2
  let u6 := u5.2
  let u7 := u6.2
  let u8 := u7.2
  let u9 := u8.2
  let u10 := u9.2
  let u11 := u10.2
  let u12 := u11.2
  let u13 := u12.2
  let u14 := u13.2
  rheostatref13_Check_g K t.1 u1.1 u2.1 u3.1 u4.1 u5.1 u6.1 u7.1 u8.1 u9.1 u10.1 u11.1 u12.1 u13.1 u14.1
noncomputable def rheostatref13_Check_o (K : Nat) : FO := fnFO rheostatref13_Check_h rheostatref13_Check_r fun t => rheostatref13_Check_gu K t
theorem rheostatref13_Check_q (K : Nat) (t : rheostatref13_Check_h.T) : exFn (rheostatref13_Check_e1 K) (hdl (rheostatref13_Check_e1 K) 0) [11] Try.f11 (slVals (rheostatref13_Check_h.put t).fr.sl) ⟨⟨0, []⟩, [], (rheostatref13_Check_h.put t).mem⟩ (takeRes rheostatref13_Check_r) = rheostatref13_Check_gu K t := by kernel_rfl
theorem rheostatref13_Check_ok (K : Nat) : FOok Try.prog 11 (rheostatref13_Check_o K) :=
  fn_rule (rheostatref13_Check_t1 K) (rheostatref13_Check_i1 K) (draws (rheostatref13_Check_t1 K)) 0 Try.func11 (fnB_ok Try.func11 (by kernel_rfl)) rfl rfl (allOwn_ok false (by kernel_rfl)) rfl (allOwn_ok true (by kernel_rfl)) (fun t => rheostatref13_Check_q K t)
/-! rheostatref04_Of -/
noncomputable def rheostatref04_Of_e0 (K : Nat) : Env := ⟨tt, [], [], [], eqs⟩
theorem rheostatref04_Of_t0 (K : Nat) : EnvT Try.prog (rheostatref04_Of_e0 K) := envT_of tt_ok eqs_ok trivial
theorem rheostatref04_Of_i0 (K : Nat) : EnvI Try.prog (rheostatref04_Of_e0 K) := envI_of (es := []) trivial trivial
noncomputable def rheostatref04_Of_l0h : Sh := ⟨28, [(2, .sc (.lit (.p 0 0 0 []))), (3, .sc (.lit (.p 1 0 0 []))), (4, .sc (.i .u64)), (5, .sc (.i .i64))], [(0, [])], [(true, false, [.b, .i .i64, .i .i64, .i .i64, .i .i64, .i .i64, .i .i64, .i .i64, .i .i64, .i .i64, .i .i64, .i .i64, .i .i64, .i .i64, .i .i64, .i .i64, .i .i64, .i .i64, .i .i64, .i .i64, .i .i64]), (true, false, [.b, .i .i64, .i .i64, .i .i64, .i .i64, .i .i64, .i .i64, .i .i64, .i .i64, .i .i64, .i .i64, .i .i64, .i .i64, .i .i64, .i .i64, .i .i64, .i .i64, .i .i64, .i .i64, .i .i64, .i .i64])]⟩
noncomputable def rheostatref04_Of_l0x0 : Sh := ⟨28, [(2, .sc (.lit (.p 0 0 0 []))), (3, .sc (.lit (.p 1 0 0 [])))], [(0, [])], [(true, false, [.b, .i .i64, .i .i64, .i .i64, .i .i64, .i .i64, .i .i64, .i .i64, .i .i64, .i .i64, .i .i64, .i .i64, .i .i64, .i .i64, .i .i64, .i .i64, .i .i64, .i .i64, .i .i64, .i .i64, .i .i64]), (true, false, [.b, .i .i64, .i .i64, .i .i64, .i .i64, .i .i64, .i .i64, .i .i64, .i .i64, .i .i64, .i .i64, .i .i64, .i .i64, .i .i64, .i .i64, .i .i64, .i .i64, .i .i64, .i .i64, .i .i64, .i .i64])]⟩
noncomputable def rheostatref04_Of_l0O : OutI (Bool × Int × Int × Int × Int × Int × Int × Int × Int × Int × Int × Int × Int × Int × Int × Int × Int × Int × Int × Int × Int × Bool × Int × Int × Int × Int × Int × Int × Int × Int × Int × Int × Int × Int × Int × Int × Int × Int × Int × Int × Int × Int × Unit) := (OutI.exit 0 rheostatref04_Of_l0x0)
noncomputable def rheostatref04_Of_l0r (K : Nat) (rec : Int → Int → Bool → Int → Int → Int → Int → Int → Int → Int → Int → Int → Int → Int → Int → Int → Int → Int → Int → Int → Int → Int → Int → Bool → Int → Int → Int → Int → Int → Int → Int → Int → Int → Int → Int → Int → Int → Int → Int → Int → Int → Int → Int → Int → Option (Bool × Int × Int × Int × Int × Int × Int × Int × Int × Int × Int × Int × Int × Int × Int × Int × Int × Int × Int × Int × Int × Bool × Int × Int × Int × Int × Int × Int × Int × Int × Int × Int × Int × Int × Int × Int × Int × Int × Int × Int × Int × Int × Unit)) (x_4 : Int) (i_5 : Int) (m0_0 : Bool) (m0_1 : Int) (m0_2 : Int) (m0_3 : Int) (m0_4 : Int) (m0_5 : Int) (m0_6 : Int) (m0_7 : Int) (m0_8 : Int) (m0_9 : Int) (m0_10 : Int) (m0_11 : Int) (m0_12 : Int) (m0_13 : Int) (m0_14 : Int) (m0_15 : Int) (m0_16 : Int) (m0_17 : Int) (m0_18 : Int) (m0_19 : Int) (m0_20 : Int) (m1_0 : Bool) (m1_1 : Int) (m1_2 : Int) (m1_3 : Int) (m1_4 : Int) (m1_5 : Int) (m1_6 : Int) (m1_7 : Int) (m1_8 : Int) (m1_9 : Int) (m1_10 : Int) (m1_11 : Int) (m1_12 : Int) (m1_13 : Int) (m1_14 : Int) (m1_15 : Int) (m1_16 : Int) (m1_17 : Int) (m1_18 : Int) (m1_19 : Int) (m1_20 : Int) : Option (Bool × Int × Int × Int × Int × Int × Int × Int × Int × Int × Int × Int × Int × Int × Int × Int × Int × Int × Int × Int × Int × Bool × Int × Int × Int × Int × Int × Int × Int × Int × Int × Int × Int × Int × Int × Int × Int × Int × Int × Int × Int × Int × Unit) :=
  (bif (decide (i_5 < 8)) then (bif ((decide (0 ≤ i_5)) && (decide (i_5 < 20))) then ((fun (q1 : Int) => (rec (wu64 (Int.tdiv x_4 256)) (wi64 (i_5 + 1)) m0_0 m0_1 m0_2 m0_3 m0_4 m0_5 m0_6 m0_7 m0_8 m0_9 m0_10 m0_11 m0_12 m0_13 m0_14 m0_15 m0_16 m0_17 m0_18 m0_19 m0_20 m1_0 (bif (Nat.beq (Int.toNat i_5) 0) then q1 else m1_1) (bif (Nat.beq (Int.toNat i_5) 1) then q1 else m1_2) (bif (Nat.beq (Int.toNat i_5) 2) then q1 else m1_3) (bif (Nat.beq (Int.toNat i_5) 3) then q1 else m1_4) (bif (Nat.beq (Int.toNat i_5) 4) then q1 else m1_5) (bif (Nat.beq (Int.toNat i_5) 5) then q1 else m1_6) (bif (Nat.beq (Int.toNat i_5) 6) then q1 else m1_7) (bif (Nat.beq (Int.toNat i_5) 7) then q1 else m1_8) (bif (Nat.beq (Int.toNat i_5) 8) then q1 else m1_9) (bif (Nat.beq (Int.toNat i_5) 9) then q1 else m1_10) (bif (Nat.beq (Int.toNat i_5) 10) then q1 else m1_11) (bif (Nat.beq (Int.toNat i_5) 11) then q1 else m1_12) (bif (Nat.beq (Int.toNat i_5) 12) then q1 else m1_13) (bif (Nat.beq (Int.toNat i_5) 13) then q1 else m1_14) (bif (Nat.beq (Int.toNat i_5) 14) then q1 else m1_15) (bif (Nat.beq (Int.toNat i_5) 15) then q1 else m1_16) (bif (Nat.beq (Int.toNat i_5) 16) then q1 else m1_17) (bif (Nat.beq (Int.toNat i_5) 17) then q1 else m1_18) (bif (Nat.beq (Int.toNat i_5) 18) then q1 else m1_19) (bif (Nat.beq (Int.toNat i_5) 19) then q1 else m1_20))) ((wi64 ((Int.tmod x_4 256))))) else none) else (some (m0_0, m0_1, m0_2, m0_3, m0_4, m0_5, m0_6, m0_7, m0_8, m0_9, m0_10, m0_11, m0_12, m0_13, m0_14, m0_15, m0_16, m0_17, m0_18, m0_19, m0_20, m1_0, m1_1, m1_2, m1_3, m1_4, m1_5, m1_6, m1_7, m1_8, m1_9, m1_10, m1_11, m1_12, m1_13, m1_14, m1_15, m1_16, m1_17, m1_18, m1_19, m1_20, ())))
noncomputable def rheostatref04_Of_l0 (K n : Nat) : Int → Int → Bool → Int → Int → Int → Int → Int → Int → Int → Int → Int → Int → Int → Int → Int → Int → Int → Int → Int → Int → Int → Int → Bool → Int → Int → Int → Int → Int → Int → Int → Int → Int → Int → Int → Int → Int → Int → Int → Int → Int → Int → Int → Int → Option (Bool × Int × Int × Int × Int × Int × Int × Int × Int × Int × Int × Int × Int × Int × Int × Int × Int × Int × Int × Int × Int × Bool × Int × Int × Int × Int × Int × Int × Int × Int × Int × Int × Int × Int × Int × Int × Int × Int × Int × Int × Int × Int × Unit) := Nat.rec (motive := fun _ => Int → Int → Bool → Int → Int → Int → Int → Int → Int → Int → Int → Int → Int → Int → Int → Int → Int → Int → Int → Int → Int → Int → Int → Bool → Int → Int → Int → Int → Int → Int → Int → Int → Int → Int → Int → Int → Int → Int → Int → Int → Int → Int → Int → Int → Option (Bool × Int × Int × Int × Int × Int × Int × Int × Int × Int × Int × Int × Int × Int × Int × Int × Int × Int × Int × Int × Int × Bool × Int × Int × Int × Int × Int × Int × Int × Int × Int × Int × Int × Int × Int × Int × Int × Int × Int × Int × Int × Int × Unit)) (fun _ _ _ _ _ _ _ _ _ _ _ _ _ _ _ _ _ _ _ _ _ _ _ _ _ _ _ _ _ _ _ _ _ _ _ _ _ _ _ _ _ _ _ _ => none) (fun _ ih => rheostatref04_Of_l0r K ih) n
noncomputable def rheostatref04_Of_l0u (K n : Nat) (t : rheostatref04_Of_l0h.T) : Option (Bool × Int × Int × Int × Int × Int × Int × Int × Int × Int × Int × Int × Int × Int × Int × Int × Int × Int × Int × Int × Int × Bool × Int × Int × Int × Int × Int × Int × Int × Int × Int × Int × Int × Int × Int × Int × Int × Int × Int × Int × Int × Int × Unit) :=
  let u1 := t.2
  let u2 := u1.2
  let u3 := u2.2
  let u4 := u3.2
  let u5 := u4.2
  let u6 := u5.2
  let u7 := u6.2
  let u8 := u7.2
  let u9 := u8.2
  let u10 := u9.2
  let u11 := u10.2
  let u12 := u11.2
  let u13 := u12.2
  let u14 := u13.2
  let u15 := u14.2
  let u16 := u15.2
  let u17 := u16.2
  let u18 := u17.2
  let u19 := u18.2
  let u20 := u19.2
  let u21 := u20.2
  let u22 := u21.2
  let u23 := u22.2
  let u24 := u23.2
  let u25 := u24.2
  let u26 := u25.2
  let u27 := u26.2
  let u28 := u27.2
  let u29 := u28.2
  let u30 := u29.2
  let u31 := u30.2
  let u32 := u31.2
  let u33 := u32.2
  let u34 := u33.2
  let u35 := u34.2
  let u36 := u35.2
  let u37 := u36.2
  let u38 := u37.2
  let u39 := u38.2
  let u40 := u39.2
  let u41 := u40.2
  let u42 := u41.2
  let u43 := u42.2
  rheostatref04_Of_l0 K n t.1 u1.1 u2.1 u3.1 u4.1 u5.1 u6.1 u7.1 u8.1 u9.1 u10.1 u11.1 u12.1 u13.1 u14.1 u15.1 u16.1 u17.1 u18.1 u19.1 u20.1 u21.1 u22.1 u23.1 u24.1 u25.1 u26.1 u27.1 u28.1 u29.1 u30.1 u31.1 u32.1 u33.1 u34.1 u35.1 u36.1 u37.1 u38.1 u39.1 u40.1 u41.1 u42.1 u43.1
noncomputable def rheostatref04_Of_l0o (K : Nat) : LO := loopLO rheostatref04_Of_l0h rheostatref04_Of_l0O fun t => rheostatref04_Of_l0u K K t
noncomputable def rheostatref04_Of_l0C : Code := bodyOf Try.f47
noncomputable def rheostatref04_Of_l0B : Code := (findLoops 6 (loopsIn rheostatref04_Of_l0C)).headD .skip
theorem rheostatref04_Of_l0F : findLoops 6 (loopsIn rheostatref04_Of_l0C) = [rheostatref04_Of_l0B] := by kernel_rfl
theorem rheostatref04_Of_l0q (K n : Nat) (t : rheostatref04_Of_l0h.T) : exC (rheostatref04_Of_e0 K) (hdl (rheostatref04_Of_e0 K) 0) (47 :: []) rheostatref04_Of_l0B (rheostatref04_Of_l0h.put t) (fun s => (rheostatref04_Of_l0h.take s).bind fun t => rheostatref04_Of_l0u K n t) (fun id s => rheostatref04_Of_l0O.get (some id) s) (fun s => rheostatref04_Of_l0O.get none s) = rheostatref04_Of_l0u K (n + 1) t := by kernel_rfl
noncomputable def rheostatref04_Of_l0E (K : Nat) : LoopE Try.prog := ⟨[6, 47], rheostatref04_Of_l0o K, Try.f47, rheostatref04_Of_l0C, rheostatref04_Of_l0B, ⟨6, 47, [], rfl, Try.func47, by kernel_rfl, rheostatref04_Of_l0F⟩,
  loop_rule (F := fun n t => rheostatref04_Of_l0u K n t) (rheostatref04_Of_t0 K) (rheostatref04_Of_i0 K) (draws (rheostatref04_Of_t0 K)) 0 Try.func47 (c := rheostatref04_Of_l0C) (by kernel_rfl) (body_in rheostatref04_Of_l0F) (ctx' := []) (h := rheostatref04_Of_l0h) (O := rheostatref04_Of_l0O) (fun _ => rfl) (fun m t => rheostatref04_Of_l0q K m t) K⟩
noncomputable def rheostatref04_Of_e1 (K : Nat) : Env := ⟨tt, [], [], [([6, 47], rheostatref04_Of_l0o K)], eqs⟩
theorem rheostatref04_Of_t1 (K : Nat) : EnvT Try.prog (rheostatref04_Of_e1 K) := envT_of tt_ok eqs_ok trivial
theorem rheostatref04_Of_i1 (K : Nat) : EnvI Try.prog (rheostatref04_Of_e1 K) := envI_of (es := [rheostatref04_Of_l0E K]) trivial ⟨⟨rfl, rfl⟩, trivial⟩
noncomputable def rheostatref04_Of_h : Sh := ⟨1, [(0, .sc (.i .i64))], [], []⟩
noncomputable def rheostatref04_Of_r : Sh := ⟨1, [(0, .ag [.b, .i .i64, .i .i64, .i .i64, .i .i64, .i .i64, .i .i64, .i .i64, .i .i64, .i .i64, .i .i64, .i .i64, .i .i64, .i .i64, .i .i64, .i .i64, .i .i64, .i .i64, .i .i64, .i .i64, .i .i64])], [], []⟩
noncomputable def rheostatref04_Of_g (K : Nat) (a_0 : Int) : Option (Bool × Int × Int × Int × Int × Int × Int × Int × Int × Int × Int × Int × Int × Int × Int × Int × Int × Int × Int × Int × Int × Unit) :=
  (bif (decide (a_0 < 0)) then ((rheostatref04_Of_l0 K K (wu64 (0 - (wu64 (a_0)))) 0 false 0 0 0 0 0 0 0 0 0 0 0 0 0 0 0 0 0 0 0 0 (decide (a_0 < 0)) 0 0 0 0 0 0 0 0 0 0 0 0 0 0 0 0 0 0 0 0).bind fun q1 => (some (q1.2.2.2.2.2.2.2.2.2.2.2.2.2.2.2.2.2.2.2.2.2.1, q1.2.2.2.2.2.2.2.2.2.2.2.2.2.2.2.2.2.2.2.2.2.2.1, q1.2.2.2.2.2.2.2.2.2.2.2.2.2.2.2.2.2.2.2.2.2.2.2.1, q1.2.2.2.2.2.2.2.2.2.2.2.2.2.2.2.2.2.2.2.2.2.2.2.2.1, q1.2.2.2.2.2.2.2.2.2.2.2.2.2.2.2.2.2.2.2.2.2.2.2.2.2.1, q1.2.2.2.2.2.2.2.2.2.2.2.2.2.2.2.2.2.2.2.2.2.2.2.2.2.2.1, q1.2.2.2.2.2.2.2.2.2.2.2.2.2.2.2.2.2.2.2.2.2.2.2.2.2.2.2.1, q1.2.2.2.2.2.2.2.2.2.2.2.2.2.2.2.2.2.2.2.2.2.2.2.2.2.2.2.2.1, q1.2.2.2.2.2.2.2.2.2.2.2.2.2.2.2.2.2.2.2.2.2.2.2.2.2.2.2.2.2.1, q1.2.2.2.2.2.2.2.2.2.2.2.2.2.2.2.2.2.2.2.2.2.2.2.2.2.2.2.2.2.2.1, q1.2.2.2.2.2.2.2.2.2.2.2.2.2.2.2.2.2.2.2.2.2.2.2.2.2.2.2.2.2.2.2.1, q1.2.2.2.2.2.2.2.2.2.2.2.2.2.2.2.2.2.2.2.2.2.2.2.2.2.2.2.2.2.2.2.2.1, q1.2.2.2.2.2.2.2.2.2.2.2.2.2.2.2.2.2.2.2.2.2.2.2.2.2.2.2.2.2.2.2.2.2.1, q1.2.2.2.2.2.2.2.2.2.2.2.2.2.2.2.2.2.2.2.2.2.2.2.2.2.2.2.2.2.2.2.2.2.2.1, q1.2.2.2.2.2.2.2.2.2.2.2.2.2.2.2.2.2.2.2.2.2.2.2.2.2.2.2.2.2.2.2.2.2.2.2.1, q1.2.2.2.2.2.2.2.2.2.2.2.2.2.2.2.2.2.2.2.2.2.2.2.2.2.2.2.2.2.2.2.2.2.2.2.2.1, q1.2.2.2.2.2.2.2.2.2.2.2.2.2.2.2.2.2.2.2.2.2.2.2.2.2.2.2.2.2.2.2.2.2.2.2.2.2.1, q1.2.2.2.2.2.2.2.2.2.2.2.2.2.2.2.2.2.2.2.2.2.2.2.2.2.2.2.2.2.2.2.2.2.2.2.2.2.2.1, q1.2.2.2.2.2.2.2.2.2.2.2.2.2.2.2.2.2.2.2.2.2.2.2.2.2.2.2.2.2.2.2.2.2.2.2.2.2.2.2.1, q1.2.2.2.2.2.2.2.2.2.2.2.2.2.2.2.2.2.2.2.2.2.2.2.2.2.2.2.2.2.2.2.2.2.2.2.2.2.2.2.2.1, q1.2.2.2.2.2.2.2.2.2.2.2.2.2.2.2.2.2.2.2.2.2.2.2.2.2.2.2.2.2.2.2.2.2.2.2.2.2.2.2.2.2.1, ()))) else ((rheostatref04_Of_l0 K K (wu64 (a_0)) 0 false 0 0 0 0 0 0 0 0 0 0 0 0 0 0 0 0 0 0 0 0 (decide (a_0 < 0)) 0 0 0 0 0 0 0 0 0 0 0 0 0 0 0 0 0 0 0 0).bind fun q2 => (some (q2.2.2.2.2.2.2.2.2.2.2.2.2.2.2.2.2.2.2.2.2.2.1, q2.2.2.2.2.2.2.2.2.2.2.2.2.2.2.2.2.2.2.2.2.2.2.1, q2.2.2.2.2.2.2.2.2.2.2.2.2.2.2.2.2.2.2.2.2.2.2.2.1, q2.2.2.2.2.2.2.2.2.2.2.2.2.2.2.2.2.2.2.2.2.2.2.2.2.1, q2.2.2.2.2.2.2.2.2.2.2.2.2.2.2.2.2.2.2.2.2.2.2.2.2.2.1, q2.2.2.2.2.2.2.2.2.2.2.2.2.2.2.2.2.2.2.2.2.2.2.2.2.2.2.1, q2.2.2.2.2.2.2.2.2.2.2.2.2.2.2.2.2.2.2.2.2.2.2.2.2.2.2.2.1, q2.2.2.2.2.2.2.2.2.2.2.2.2.2.2.2.2.2.2.2.2.2.2.2.2.2.2.2.2.1, q2.2.2.2.2.2.2.2.2.2.2.2.2.2.2.2.2.2.2.2.2.2.2.2.2.2.2.2.2.2.1, q2.2.2.2.2.2.2.2.2.2.2.2.2.2.2.2.2.2.2.2.2.2.2.2.2.2.2.2.2.2.2.1, q2.2.2.2.2.2.2.2.2.2.2.2.2.2.2.2.2.2.2.2.2.2.2.2.2.2.2.2.2.2.2.2.1, q2.2.2.2.2.2.2.2.2.2.2.2.2.2.2.2.2.2.2.2.2.2.2.2.2.2.2.2.2.2.2.2.2.1, q2.2.2.2.2.2.2.2.2.2.2.2.2.2.2.2.2.2.2.2.2.2.2.2.2.2.2.2.2.2.2.2.2.2.1, q2.2.2.2.2.2.2.2.2.2.2.2.2.2.2.2.2.2.2.2.2.2.2.2.2.2.2.2.2.2.2.2.2.2.2.1, q2.2.2.2.2.2.2.2.2.2.2.2.2.2.2.2.2.2.2.2.2.2.2.2.2.2.2.2.2.2.2.2.2.2.2.2.1, q2.2.2.2.2.2.2.2.2.2.2.2.2.2.2.2.2.2.2.2.2.2.2.2.2.2.2.2.2.2.2.2.2.2.2.2.2.1, q2.2.2.2.2.2.2.2.2.2.2.2.2.2.2.2.2.2.2.2.2.2.2.2.2.2.2.2.2.2.2.2.2.2.2.2.2.2.1, q2.2.2.2.2.2.2.2.2.2.2.2.2.2.2.2.2.2.2.2.2.2.2.2.2.2.2.2.2.2.2.2.2.2.2.2.2.2.2.1, q2.2.2.2.2.2.2.2.2.2.2.2.2.2.2.2.2.2.2.2.2.2.2.2.2.2.2.2.2.2.2.2.2.2.2.2.2.2.2.2.1, q2.2.2.2.2.2.2.2.2.2.2.2.2.2.2.2.2.2.2.2.2.2.2.2.2.2.2.2.2.2.2.2.2.2.2.2.2.2.2.2.2.1, q2.2.2.2.2.2.2.2.2.2.2.2.2.2.2.2.2.2.2.2.2.2.2.2.2.2.2.2.2.2.2.2.2.2.2.2.2.2.2.2.2.2.1, ()))))
noncomputable def rheostatref04_Of_o (K : Nat) : FO := fnFO rheostatref04_Of_h rheostatref04_Of_r fun t => rheostatref04_Of_g K t.1
theorem rheostatref04_Of_q (K : Nat) (t : rheostatref04_Of_h.T) : exFn (rheostatref04_Of_e1 K) (hdl (rheostatref04_Of_e1 K) 0) [47] Try.f47 (slVals (rheostatref04_Of_h.put t).fr.sl) ⟨⟨0, []⟩, [], (rheostatref04_Of_h.put t).mem⟩ (takeRes rheostatref04_Of_r) = rheostatref04_Of_g K t.1 := by kernel_rfl
theorem rheostatref04_Of_ok (K : Nat) : FOok Try.prog 47 (rheostatref04_Of_o K) :=
  fn_rule (rheostatref04_Of_t1 K) (rheostatref04_Of_i1 K) (draws (rheostatref04_Of_t1 K)) 0 Try.func47 (fnB_ok Try.func47 (by kernel_rfl)) rfl rfl (allOwn_ok false (by kernel_rfl)) rfl (allOwn_ok true (by kernel_rfl)) (fun t => rheostatref04_Of_q K t)
/-! rheostatref04_Mul -/
noncomputable def rheostatref04_Mul_e0 (K : Nat) : Env := ⟨tt, [(47, rheostatref04_Of_o K)], [], [], eqs⟩
theorem rheostatref04_Mul_t0 (K : Nat) : EnvT Try.prog (rheostatref04_Mul_e0 K) := envT_of tt_ok eqs_ok ⟨rheostatref04_Of_ok K, trivial⟩
theorem rheostatref04_Mul_i0 (K : Nat) : EnvI Try.prog (rheostatref04_Mul_e0 K) := envI_of (es := []) trivial trivial
noncomputable def rheostatref04_Mul_l1h : Sh := ⟨61, [(4, .sc (.lit (.p 0 0 0 []))), (5, .sc (.lit (.p 1 0 0 []))), (6, .sc (.lit (.p 2 0 0 []))), (7, .sc (.lit (.p 3 0 0 []))), (8, .sc (.i .i64)), (9, .sc (.i .i64)), (10, .sc (.i .i64))], [(0, [])], [(true, false, [.b, .i .i64, .i .i64, .i .i64, .i .i64, .i .i64, .i .i64, .i .i64, .i .i64, .i .i64, .i .i64, .i .i64, .i .i64, .i .i64, .i .i64, .i .i64, .i .i64, .i .i64, .i .i64, .i .i64, .i .i64]), (true, false, [.b, .i .i64, .i .i64, .i .i64, .i .i64, .i .i64, .i .i64, .i .i64, .i .i64, .i .i64, .i .i64, .i .i64, .i .i64, .i .i64, .i .i64, .i .i64, .i .i64, .i .i64, .i .i64, .i .i64, .i .i64]), (true, false, [.b, .i .i64, .i .i64, .i .i64, .i .i64, .i .i64, .i .i64, .i .i64, .i .i64, .i .i64, .i .i64, .i .i64, .i .i64, .i .i64, .i .i64, .i .i64, .i .i64, .i .i64, .i .i64, .i .i64, .i .i64]), (true, false, [.b, .i .i64, .i .i64, .i .i64, .i .i64, .i .i64, .i .i64, .i .i64, .i .i64, .i .i64, .i .i64, .i .i64, .i .i64, .i .i64, .i .i64, .i .i64, .i .i64, .i .i64, .i .i64, .i .i64, .i .i64])]⟩
noncomputable def rheostatref04_Mul_l1x0 : Sh := ⟨61, [(4, .sc (.lit (.p 0 0 0 []))), (5, .sc (.lit (.p 1 0 0 []))), (6, .sc (.lit (.p 2 0 0 []))), (7, .sc (.lit (.p 3 0 0 []))), (8, .sc (.i .i64))], [(0, [])], [(true, false, [.b, .i .i64, .i .i64, .i .i64, .i .i64, .i .i64, .i .i64, .i .i64, .i .i64, .i .i64, .i .i64, .i .i64, .i .i64, .i .i64, .i .i64, .i .i64, .i .i64, .i .i64, .i .i64, .i .i64, .i .i64]), (true, false, [.b, .i .i64, .i .i64, .i .i64, .i .i64, .i .i64, .i .i64, .i .i64, .i .i64, .i .i64, .i .i64, .i .i64, .i .i64, .i .i64, .i .i64, .i .i64, .i .i64, .i .i64, .i .i64, .i .i64, .i .i64]), (true, false, [.b, .i .i64, .i .i64, .i .i64, .i .i64, .i .i64, .i .i64, .i .i64, .i .i64, .i .i64, .i .i64, .i .i64, .i .i64, .i .i64, .i .i64, .i .i64, .i .i64, .i .i64, .i .i64, .i .i64, .i .i64]), (true, false, [.b, .i .i64, .i .i64, .i .i64, .i .i64, .i .i64, .i .i64, .i .i64, .i .i64, .i .i64, .i .i64, .i .i64, .i .i64, .i .i64, .i .i64, .i .i64, .i .i64, .i .i64, .i .i64, .i .i64, .i .i64])]⟩
noncomputable def rheostatref04_Mul_l1O : OutI (Int × Bool × Int × Int × Int × Int × Int × Int × Int × Int × Int × Int × Int × Int × Int × Int × Int × Int × Int × Int × Int × Int × Bool × Int × Int × Int × Int × Int × Int × Int × Int × Int × Int × Int × Int × Int × Int × Int × Int × Int × Int × Int × Int × Bool × Int × Int × Int × Int × Int × Int × Int × Int × Int × Int × Int × Int × Int × Int × Int × Int × Int × Int × Int × Int × Bool × Int × Int × Int × Int × Int × Int × Int × Int × Int × Int × Int × Int × Int × Int × Int × Int × Int × Int × Int × Int × Unit) := (OutI.exit 2 rheostatref04_Mul_l1x0)
noncomputable def rheostatref04_Mul_l1r (K : Nat) (rec : Int → Int → Int → Bool → Int → Int → Int → Int → Int → Int → Int → Int → Int → Int → Int → Int → Int → Int → Int → Int → Int → Int → Int → Int → Bool → Int → Int → Int → Int → Int → Int → Int → Int → Int → Int → Int → Int → Int → Int → Int → Int → Int → Int → Int → Int → Bool → Int → Int → Int → Int → Int → Int → Int → Int → Int → Int → Int → Int → Int → Int → Int → Int → Int → Int → Int → Int → Bool → Int → Int → Int → Int → Int → Int → Int → Int → Int → Int → Int → Int → Int → Int → Int → Int → Int → Int → Int → Int → Option (Int × Bool × Int × Int × Int × Int × Int × Int × Int × Int × Int × Int × Int × Int × Int × Int × Int × Int × Int × Int × Int × Int × Bool × Int × Int × Int × Int × Int × Int × Int × Int × Int × Int × Int × Int × Int × Int × Int × Int × Int × Int × Int × Int × Bool × Int × Int × Int × Int × Int × Int × Int × Int × Int × Int × Int × Int × Int × Int × Int × Int × Int × Int × Int × Int × Bool × Int × Int × Int × Int × Int × Int × Int × Int × Int × Int × Int × Int × Int × Int × Int × Int × Int × Int × Int × Int × Unit)) (i_8 : Int) (c_9 : Int) (k_10 : Int) (m0_0 : Bool) (m0_1 : Int) (m0_2 : Int) (m0_3 : Int) (m0_4 : Int) (m0_5 : Int) (m0_6 : Int) (m0_7 : Int) (m0_8 : Int) (m0_9 : Int) (m0_10 : Int) (m0_11 : Int) (m0_12 : Int) (m0_13 : Int) (m0_14 : Int) (m0_15 : Int) (m0_16 : Int) (m0_17 : Int) (m0_18 : Int) (m0_19 : Int) (m0_20 : Int) (m1_0 : Bool) (m1_1 : Int) (m1_2 : Int) (m1_3 : Int) (m1_4 : Int) (m1_5 : Int) (m1_6 : Int) (m1_7 : Int) (m1_8 : Int) (m1_9 : Int) (m1_10 : Int) (m1_11 : Int) (m1_12 : Int) (m1_13 : Int) (m1_14 : Int) (m1_15 : Int) (m1_16 : Int) (m1_17 : Int) (m1_18 : Int) (m1_19 : Int) (m1_20 : Int) (m2_0 : Bool) (m2_1 : Int) (m2_2 : Int) (m2_3 : Int) (m2_4 : Int) (m2_5 : Int) (m2_6 : Int) (m2_7 : Int) (m2_8 : Int) (m2_9 : Int) (m2_10 : Int) (m2_11 : Int) (m2_12 : Int) (m2_13 : Int) (m2_14 : Int) (m2_15 : Int) (m2_16 : Int) (m2_17 : Int) (m2_18 : Int) (m2_19 : Int) (m2_20 : Int) (m3_0 : Bool) (m3_1 : Int) (m3_2 : Int) (m3_3 : Int) (m3_4 : Int) (m3_5 : Int) (m3_6 : Int) (m3_7 : Int) (m3_8 : Int) (m3_9 : Int) (m3_10 : Int) (m3_11 : Int) (m3_12 : Int) (m3_13 : Int) (m3_14 : Int) (m3_15 : Int) (m3_16 : Int) (m3_17 : Int) (m3_18 : Int) (m3_19 : Int) (m3_20 : Int) : Option (Int × Bool × Int × Int × Int × Int × Int × Int × Int × Int × Int × Int × Int × Int × Int × Int × Int × Int × Int × Int × Int × Int × Bool × Int × Int × Int × Int × Int × Int × Int × Int × Int × Int × Int × Int × Int × Int × Int × Int × Int × Int × Int × Int × Bool × Int × Int × Int × Int × Int × Int × Int × Int × Int × Int × Int × Int × Int × Int × Int × Int × Int × Int × Int × Int × Bool × Int × Int × Int × Int × Int × Int × Int × Int × Int × Int × Int × Int × Int × Int × Int × Int × Int × Int × Int × Int × Unit) :=
  (bif (decide (k_10 < 9)) then (bif ((decide (0 ≤ (wi64 (i_8 + k_10)))) && (decide ((wi64 (i_8 + k_10)) < 20))) then (bif (decide (k_10 < 8)) then (bif ((decide (0 ≤ i_8)) && (decide (i_8 < 20))) then (bif ((decide (0 ≤ k_10)) && (decide (k_10 < 20))) then (bif ((decide (0 ≤ (wi64 (i_8 + k_10)))) && (decide ((wi64 (i_8 + k_10)) < 20))) then ((fun (q1 : Int) => (rec i_8 (wi64 (Int.tdiv (wi64 ((wi64 ((selI [m3_1, m3_2, m3_3, m3_4, m3_5, m3_6, m3_7, m3_8, m3_9, m3_10, m3_11, m3_12, m3_13, m3_14, m3_15, m3_16, m3_17, m3_18, m3_19, m3_20] (Int.toNat (wi64 (i_8 + k_10)))) + c_9)) + (wi64 ((selI [m1_1, m1_2, m1_3, m1_4, m1_5, m1_6, m1_7, m1_8, m1_9, m1_10, m1_11, m1_12, m1_13, m1_14, m1_15, m1_16, m1_17, m1_18, m1_19, m1_20] (Int.toNat i_8)) * (selI [m2_1, m2_2, m2_3, m2_4, m2_5, m2_6, m2_7, m2_8, m2_9, m2_10, m2_11, m2_12, m2_13, m2_14, m2_15, m2_16, m2_17, m2_18, m2_19, m2_20] (Int.toNat k_10)))))) 256)) (wi64 (k_10 + 1)) m0_0 m0_1 m0_2 m0_3 m0_4 m0_5 m0_6 m0_7 m0_8 m0_9 m0_10 m0_11 m0_12 m0_13 m0_14 m0_15 m0_16 m0_17 m0_18 m0_19 m0_20 m1_0 m1_1 m1_2 m1_3 m1_4 m1_5 m1_6 m1_7 m1_8 m1_9 m1_10 m1_11 m1_12 m1_13 m1_14 m1_15 m1_16 m1_17 m1_18 m1_19 m1_20 m2_0 m2_1 m2_2 m2_3 m2_4 m2_5 m2_6 m2_7 m2_8 m2_9 m2_10 m2_11 m2_12 m2_13 m2_14 m2_15 m2_16 m2_17 m2_18 m2_19 m2_20 m3_0 (bif (Nat.beq (Int.toNat (wi64 (i_8 + k_10))) 0) then q1 else m3_1) (bif (Nat.beq (Int.toNat (wi64 (i_8 + k_10))) 1) then q1 else m3_2) (bif (Nat.beq (Int.toNat (wi64 (i_8 + k_10))) 2) then q1 else m3_3) (bif (Nat.beq (Int.toNat (wi64 (i_8 + k_10))) 3) then q1 else m3_4) (bif (Nat.beq (Int.toNat (wi64 (i_8 + k_10))) 4) then q1 else m3_5) (bif (Nat.beq (Int.toNat (wi64 (i_8 + k_10))) 5) then q1 else m3_6) (bif (Nat.beq (Int.toNat (wi64 (i_8 + k_10))) 6) then q1 else m3_7) (bif (Nat.beq (Int.toNat (wi64 (i_8 + k_10))) 7) then q1 else m3_8) (bif (Nat.beq (Int.toNat (wi64 (i_8 + k_10))) 8) then q1 else m3_9) (bif (Nat.beq (Int.toNat (wi64 (i_8 + k_10))) 9) then q1 else m3_10) (bif (Nat.beq (Int.toNat (wi64 (i_8 + k_10))) 10) then q1 else m3_11) (bif (Nat.beq (Int.toNat (wi64 (i_8 + k_10))) 11) then q1 else m3_12) (bif (Nat.beq (Int.toNat (wi64 (i_8 + k_10))) 12) then q1 else m3_13) (bif (Nat.beq (Int.toNat (wi64 (i_8 + k_10))) 13) then q1 else m3_14) (bif (Nat.beq (Int.toNat (wi64 (i_8 + k_10))) 14) then q1 else m3_15) (bif (Nat.beq (Int.toNat (wi64 (i_8 + k_10))) 15) then q1 else m3_16) (bif (Nat.beq (Int.toNat (wi64 (i_8 + k_10))) 16) then q1 else m3_17) (bif (Nat.beq (Int.toNat (wi64 (i_8 + k_10))) 17) then q1 else m3_18) (bif (Nat.beq (Int.toNat (wi64 (i_8 + k_10))) 18) then q1 else m3_19) (bif (Nat.beq (Int.toNat (wi64 (i_8 + k_10))) 19) then q1 else m3_20))) ((Int.tmod (wi64 ((wi64 ((selI [m3_1, m3_2, m3_3, m3_4, m3_5, m3_6, m3_7, m3_8, m3_9, m3_10, m3_11, m3_12, m3_13, m3_14, m3_15, m3_16, m3_17, m3_18, m3_19, m3_20] (Int.toNat (wi64 (i_8 + k_10)))) + c_9)) + (wi64 ((selI [m1_1, m1_2, m1_3, m1_4, m1_5, m1_6, m1_7, m1_8, m1_9, m1_10, m1_11, m1_12, m1_13, m1_14, m1_15, m1_16, m1_17, m1_18, m1_19, m1_20] (Int.toNat i_8)) * (selI [m2_1, m2_2, m2_3, m2_4, m2_5, m2_6, m2_7, m2_8, m2_9, m2_10, m2_11, m2_12, m2_13, m2_14, m2_15, m2_16, m2_17, m2_18, m2_19, m2_20] (Int.toNat k_10)))))) 256))) else none) else none) else none) else (bif ((decide (0 ≤ (wi64 (i_8 + k_10)))) && (decide ((wi64 (i_8 + k_10)) < 20))) then ((fun (q2 : Int) => (rec i_8 (wi64 (Int.tdiv (wi64 ((selI [m3_1, m3_2, m3_3, m3_4, m3_5, m3_6, m3_7, m3_8, m3_9, m3_10, m3_11, m3_12, m3_13, m3_14, m3_15, m3_16, m3_17, m3_18, m3_19, m3_20] (Int.toNat (wi64 (i_8 + k_10)))) + c_9)) 256)) (wi64 (k_10 + 1)) m0_0 m0_1 m0_2 m0_3 m0_4 m0_5 m0_6 m0_7 m0_8 m0_9 m0_10 m0_11 m0_12 m0_13 m0_14 m0_15 m0_16 m0_17 m0_18 m0_19 m0_20 m1_0 m1_1 m1_2 m1_3 m1_4 m1_5 m1_6 m1_7 m1_8 m1_9 m1_10 m1_11 m1_12 m1_13 m1_14 m1_15 m1_16 m1_17 m1_18 m1_19 m1_20 m2_0 m2_1 m2_2 m2_3 m2_4 m2_5 m2_6 m2_7 m2_8 m2_9 m2_10 m2_11 m2_12 m2_13 m2_14 m2_15 m2_16 m2_17 m2_18 m2_19 m2_20 m3_0 (bif (Nat.beq (Int.toNat (wi64 (i_8 + k_10))) 0) then q2 else m3_1) (bif (Nat.beq (Int.toNat (wi64 (i_8 + k_10))) 1) then q2 else m3_2) (bif (Nat.beq (Int.toNat (wi64 (i_8 + k_10))) 2) then q2 else m3_3) (bif (Nat.beq (Int.toNat (wi64 (i_8 + k_10))) 3) then q2 else m3_4) (bif (Nat.beq (Int.toNat (wi64 (i_8 + k_10))) 4) then q2 else m3_5) (bif (Nat.beq (Int.toNat (wi64 (i_8 + k_10))) 5) then q2 else m3_6) (bif (Nat.beq (Int.toNat (wi64 (i_8 + k_10))) 6) then q2 else m3_7) (bif (Nat.beq (Int.toNat (wi64 (i_8 + k_10))) 7) then q2 else m3_8) (bif (Nat.beq (Int.toNat (wi64 (i_8 + k_10))) 8) then q2 else m3_9) (bif (Nat.beq (Int.toNat (wi64 (i_8 + k_10))) 9) then q2 else m3_10) (bif (Nat.beq (Int.toNat (wi64 (i_8 + k_10))) 10) then q2 else m3_11) (bif (Nat.beq (Int.toNat (wi64 (i_8 + k_10))) 11) then q2 else m3_12) (bif (Nat.beq (Int.toNat (wi64 (i_8 + k_10))) 12) then q2 else m3_13) (bif (Nat.beq (Int.toNat (wi64 (i_8 + k_10))) 13) then q2 else m3_14) (bif (Nat.beq (Int.toNat (wi64 (i_8 + k_10))) 14) then q2 else m3_15) (bif (Nat.beq (Int.toNat (wi64 (i_8 + k_10))) 15) then q2 else m3_16) (bif (Nat.beq (Int.toNat (wi64 (i_8 + k_10))) 16) then q2 else m3_17) (bif (Nat.beq (Int.toNat (wi64 (i_8 + k_10))) 17) then q2 else m3_18) (bif (Nat.beq (Int.toNat (wi64 (i_8 + k_10))) 18) then q2 else m3_19) (bif (Nat.beq (Int.toNat (wi64 (i_8 + k_10))) 19) then q2 else m3_20))) ((Int.tmod (wi64 ((selI [m3_1, m3_2, m3_3, m3_4, m3_5, m3_6, m3_7, m3_8, m3_9, m3_10, m3_11, m3_12, m3_13, m3_14, m3_15, m3_16, m3_17, m3_18, m3_19, m3_20] (Int.toNat (wi64 (i_8 + k_10)))) + c_9)) 256))) else none)) else none) else (some (i_8, m0_0, m0_1, m0_2, m0_3, m0_4, m0_5, m0_6, m0_7, m0_8, m0_9, m0_10, m0_11, m0_12, m0_13, m0_14, m0_15, m0_16, m0_17, m0_18, m0_19, m0_20, m1_0, m1_1, m1_2, m1_3, m1_4, m1_5, m1_6, m1_7, m1_8, m1_9, m1_10, m1_11, m1_12, m1_13, m1_14, m1_15, m1_16, m1_17, m1_18, m1_19, m1_20, m2_0, m2_1, m2_2, m2_3, m2_4, m2_5, m2_6, m2_7, m2_8, m2_9, m2_10, m2_11, m2_12, m2_13, m2_14, m2_15, m2_16, m2_17, m2_18, m2_19, m2_20, m3_0, m3_1, m3_2, m3_3, m3_4, m3_5, m3_6, m3_7, m3_8, m3_9, m3_10, m3_11, m3_12, m3_13, m3_14, m3_15, m3_16, m3_17, m3_18, m3_19, m3_20, ())))
noncomputable def rheostatref04_Mul_l1 (K n : Nat) : Int → Int → Int → Bool → Int → Int → Int → Int → Int → Int → Int → Int → Int → Int → Int → Int → Int → Int → Int → Int → Int → Int → Int → Int → Bool → Int → Int → Int → Int → Int → Int → Int → Int → Int → Int → Int → Int → Int → Int → Int → Int → Int → Int → Int → Int → Bool → Int → Int → Int → Int → Int → Int → Int → Int → Int → Int → Int → Int → Int → Int → Int → Int → Int → Int → Int → Int → Bool → Int → Int → Int → Int → Int → Int → Int → Int → Int → Int → Int → Int → Int → Int → Int → Int → Int → Int → Int → Int → Option (Int × Bool × Int × Int × Int × Int × Int × Int × Int × Int × Int × Int × Int × Int × Int × Int × Int × Int × Int × Int × Int × Int × Bool × Int × Int × Int × Int × Int × Int × Int × Int × Int × Int × Int × Int × Int × Int × Int × Int × Int × Int × Int × Int × Bool × Int × Int × Int × Int × Int × Int × Int × Int × Int × Int × Int × Int × Int × Int × Int × Int × Int × Int × Int × Int × Bool × Int × Int × Int × Int × Int × Int × Int × Int × Int × Int × Int × Int × Int × Int × Int × Int × Int × Int × Int × Int × Unit) := Nat.rec (motive := fun _ => Int → Int → Int → Bool → Int → Int → Int → Int → Int → Int → Int → Int → Int → Int → Int → Int → Int → Int → Int → Int → Int → Int → Int → Int → Bool → Int → Int → Int → Int → Int → Int → Int → Int → Int → Int → Int → Int → Int → Int → Int → Int → Int → Int → Int → Int → Bool → Int → Int → Int → Int → Int → Int → Int → Int → Int → Int → Int → Int → Int → Int → Int → Int → Int → Int → Int → Int → Bool → Int → Int → Int → Int → Int → Int → Int → Int → Int → Int → Int → Int → Int → Int → Int → Int → Int → Int → Int → Int → Option (Int × Bool × Int × Int × Int × Int × Int × Int × Int × Int × Int × Int × Int × Int × Int × Int × Int × Int × Int × Int × Int × Int × Bool × Int × Int × Int × Int × Int × Int × Int × Int × Int × Int × Int × Int × Int × Int × Int × Int × Int × Int × Int × Int × Bool × Int × Int × Int × Int × Int × Int × Int × Int × Int × Int × Int × Int × Int × Int × Int × Int × Int × Int × Int × Int × Bool × Int × Int × Int × Int × Int × Int × Int × Int × Int × Int × Int × Int × Int × Int × Int × Int × Int × Int × Int × Int × Unit)) (fun _ _ _ _ _ _ _ _ _ _ _ _ _ _ _ _ _ _ _ _ _ _ _ _ _ _ _ _ _ _ _ _ _ _ _ _ _ _ _ _ _ _ _ _ _ _ _ _ _ _ _ _ _ _ _ _ _ _ _ _ _ _ _ _ _ _ _ _ _ _ _ _ _ _ _ _ _ _ _ _ _ _ _ _ _ _ _ => none) (fun _ ih => rheostatref04_Mul_l1r K ih) n
noncomputable def rheostatref04_Mul_l1u (K n : Nat) (t : rheostatref04_Mul_l1h.T) : Option (Int × Bool × Int × Int × Int × Int × Int × Int × Int × Int × Int × Int × Int × Int × Int × Int × Int × Int × Int × Int × Int × Int × Bool × Int × Int × Int × Int × Int × Int × Int × Int × Int × Int × Int × Int × Int × Int × Int × Int × Int × Int × Int × Int × Bool × Int × Int × Int × Int × Int × Int × Int × Int × Int × Int × Int × Int × Int × Int × Int × Int × Int × Int × Int × Int × Bool × Int × Int × Int × Int × Int × Int × Int × Int × Int × Int × Int × Int × Int × Int × Int × Int × Int × Int × Int × Int × Unit) :=
  let u1 := t.2
  let u2 := u1.2
  let u3 := u2.2
  let u4 := u3.2
  let u5 := u4.2
  let u6 := u5.2
  let u7 := u6.2
  let u8 := u7.2
  let u9 := u8.2
  let u10 := u9.2
  let u11 := u10.2
  let u12 := u11.2
  let u13 := u12.2
  let u14 := u13.2
  let u15 := u14.2
  let u16 := u15.2
  let u17 := u16.2
  let u18 := u17.2
  let u19 := u18.2
  let u20 := u19.2
  let u21 := u20.2
  let u22 := u21.2
  let u23 := u22.2
  let u24 := u23.2
  let u25 := u24.2
  let u26 := u25.2
  let u27 := u26.2
  let u28 := u27.2
  let u29 := u28.2
  let u30 := u29.2
  let u31 := u30.2
  let u32 := u31.2
  let u33 := u32.2
  let u34 := u33.2
  let u35 := u34.2
  let u36 := u35.2
  let u37 := u36.2
  let u38 := u37.2
  let u39 := u38.2
  let u40 := u39.2
  let u41 := u40.2
  let u42 := u41.2
  let u43 := u42.2
  let u44 := u43.2
  let u45 := u44.2
  let u46 := u45.2
  let u47 := u46.2
  let u48 := u47.2
  let u49 := u48.2
  let u50 := u49.2
  let u51 := u50.2
  let u52 := u51.2
  let u53 := u52.2
  let u54 := u53.2
  let u55 := u54.2
  let u56 := u55.2
  let u57 := u56.2
  let u58 := u57.2
  let u59 := u58.2
  let u60 := u59.2
  let u61 := u60.2
  let u62 := u61.2
  let u63 := u62.2
  let u64 := u63.2
  let u65 := u64.2
  let u66 := u65.2
  let u67 := u66.2
  let u68 := u67.2
  let u69 := u68.2
  let u70 := u69.2
  let u71 := u70.2
  let u72 := u71.2
  let u73 := u72.2
  let u74 := u73.2
  let u75 := u74.2
  let u76 := u75.2
  let u77 := u76.2
  let u78 := u77.2
  let u79 := u78.2
  let u80 := u79.2
  let u81 := u80.2
  let u82 := u81.2
  let u83 := u82.2
  let u84 := u83.2
  let u85 := u84.2
  let u86 := u85.2
  rheostatref04_Mul_l1 K n t.1 u1.1 u2.1 u3.1 u4.1 u5.1 u6.1 u7.1 u8.1 u9.1 u10.1 u11.1 u12.1 u13.1 u14.1 u15.1 u16.1 u17.1 u18.1 u19.1 u20.1 u21.1 u22.1 u23.1 u24.1 u25.1 u26.1 u27.1 u28.1 u29.1 u30.1 u31.1 u32.1 u33.1 u34.1 u35.1 u36.1 u37.1 u38.1 u39.1 u40.1 u41.1 u42.1 u43.1 u44.1 u45.1 u46.1 u47.1 u48.1 u49.1 u50.1 u51.1 u52.1 u53.1 u54.1 u55.1 u56.1 u57.1 u58.1 u59.1 u60.1 u61.1 u62.1 u63.1 u64.1 u65.1 u66.1 u67.1 u68.1 u69.1 u70.1 u71.1 u72.1 u73.1 u74.1 u75.1 u76.1 u77.1 u78.1 u79.1 u80.1 u81.1 u82.1 u83.1 u84.1 u85.1 u86.1
noncomputable def rheostatref04_Mul_l1o (K : Nat) : LO := loopLO rheostatref04_Mul_l1h rheostatref04_Mul_l1O fun t => rheostatref04_Mul_l1u K K t
noncomputable def rheostatref04_Mul_l1C : Code := bodyOf Try.f35
noncomputable def rheostatref04_Mul_l1B : Code := (findLoops 8 (loopsIn rheostatref04_Mul_l1C)).headD .skip
theorem rheostatref04_Mul_l1F : findLoops 8 (loopsIn rheostatref04_Mul_l1C) = [rheostatref04_Mul_l1B] := by kernel_rfl
theorem rheostatref04_Mul_l1q (K n : Nat) (t : rheostatref04_Mul_l1h.T) : exC (rheostatref04_Mul_e0 K) (hdl (rheostatref04_Mul_e0 K) 0) (35 :: []) rheostatref04_Mul_l1B (rheostatref04_Mul_l1h.put t) (fun s => (rheostatref04_Mul_l1h.take s).bind fun t => rheostatref04_Mul_l1u K n t) (fun id s => rheostatref04_Mul_l1O.get (some id) s) (fun s => rheostatref04_Mul_l1O.get none s) = rheostatref04_Mul_l1u K (n + 1) t := by kernel_rfl
noncomputable def rheostatref04_Mul_l1E (K : Nat) : LoopE Try.prog := ⟨[8, 35], rheostatref04_Mul_l1o K, Try.f35, rheostatref04_Mul_l1C, rheostatref04_Mul_l1B, ⟨8, 35, [], rfl, Try.func35, by kernel_rfl, rheostatref04_Mul_l1F⟩,
  loop_rule (F := fun n t => rheostatref04_Mul_l1u K n t) (rheostatref04_Mul_t0 K) (rheostatref04_Mul_i0 K) (draws (rheostatref04_Mul_t0 K)) 0 Try.func35 (c := rheostatref04_Mul_l1C) (by kernel_rfl) (body_in rheostatref04_Mul_l1F) (ctx' := []) (h := rheostatref04_Mul_l1h) (O := rheostatref04_Mul_l1O) (fun _ => rfl) (fun m t => rheostatref04_Mul_l1q K m t) K⟩
noncomputable def rheostatref04_Mul_e1 (K : Nat) : Env := ⟨tt, [(47, rheostatref04_Of_o K)], [], [([8, 35], rheostatref04_Mul_l1o K)], eqs⟩
theorem rheostatref04_Mul_t1 (K : Nat) : EnvT Try.prog (rheostatref04_Mul_e1 K) := envT_of tt_ok eqs_ok ⟨rheostatref04_Of_ok K, trivial⟩
theorem rheostatref04_Mul_i1 (K : Nat) : EnvI Try.prog (rheostatref04_Mul_e1 K) := envI_of (es := [rheostatref04_Mul_l1E K]) trivial ⟨⟨rfl, rfl⟩, trivial⟩
noncomputable def rheostatref04_Mul_l0h : Sh := ⟨61, [(4, .sc (.lit (.p 0 0 0 []))), (5, .sc (.lit (.p 1 0 0 []))), (6, .sc (.lit (.p 2 0 0 []))), (7, .sc (.lit (.p 3 0 0 []))), (8, .sc (.i .i64))], [(0, [])], [(true, false, [.b, .i .i64, .i .i64, .i .i64, .i .i64, .i .i64, .i .i64, .i .i64, .i .i64, .i .i64, .i .i64, .i .i64, .i .i64, .i .i64, .i .i64, .i .i64, .i .i64, .i .i64, .i .i64, .i .i64, .i .i64]), (true, false, [.b, .i .i64, .i .i64, .i .i64, .i .i64, .i .i64, .i .i64, .i .i64, .i .i64, .i .i64, .i .i64, .i .i64, .i .i64, .i .i64, .i .i64, .i .i64, .i .i64, .i .i64, .i .i64, .i .i64, .i .i64]), (true, false, [.b, .i .i64, .i .i64, .i .i64, .i .i64, .i .i64, .i .i64, .i .i64, .i .i64, .i .i64, .i .i64, .i .i64, .i .i64, .i .i64, .i .i64, .i .i64, .i .i64, .i .i64, .i .i64, .i .i64, .i .i64]), (true, false, [.b, .i .i64, .i .i64, .i .i64, .i .i64, .i .i64, .i .i64, .i .i64, .i .i64, .i .i64, .i .i64, .i .i64, .i .i64, .i .i64, .i .i64, .i .i64, .i .i64, .i .i64, .i .i64, .i .i64, .i .i64])]⟩
noncomputable def rheostatref04_Mul_l0x0 : Sh := ⟨61, [(4, .sc (.lit (.p 0 0 0 []))), (7, .sc (.lit (.p 1 0 0 [])))], [(0, [])], [(true, false, [.b, .i .i64, .i .i64, .i .i64, .i .i64, .i .i64, .i .i64, .i .i64, .i .i64, .i .i64, .i .i64, .i .i64, .i .i64, .i .i64, .i .i64, .i .i64, .i .i64, .i .i64, .i .i64, .i .i64, .i .i64]), (true, false, [.b, .i .i64, .i .i64, .i .i64, .i .i64, .i .i64, .i .i64, .i .i64, .i .i64, .i .i64, .i .i64, .i .i64, .i .i64, .i .i64, .i .i64, .i .i64, .i .i64, .i .i64, .i .i64, .i .i64, .i .i64])]⟩
noncomputable def rheostatref04_Mul_l0O : OutI (Bool × Int × Int × Int × Int × Int × Int × Int × Int × Int × Int × Int × Int × Int × Int × Int × Int × Int × Int × Int × Int × Bool × Int × Int × Int × Int × Int × Int × Int × Int × Int × Int × Int × Int × Int × Int × Int × Int × Int × Int × Int × Int × Unit) := (OutI.exit 0 rheostatref04_Mul_l0x0)
noncomputable def rheostatref04_Mul_l0r (K : Nat) (rec : Int → Bool → Int → Int → Int → Int → Int → Int → Int → Int → Int → Int → Int → Int → Int → Int → Int → Int → Int → Int → Int → Int → Bool → Int → Int → Int → Int → Int → Int → Int → Int → Int → Int → Int → Int → Int → Int → Int → Int → Int → Int → Int → Int → Bool → Int → Int → Int → Int → Int → Int → Int → Int → Int → Int → Int → Int → Int → Int → Int → Int → Int → Int → Int → Int → Bool → Int → Int → Int → Int → Int → Int → Int → Int → Int → Int → Int → Int → Int → Int → Int → Int → Int → Int → Int → Int → Option (Bool × Int × Int × Int × Int × Int × Int × Int × Int × Int × Int × Int × Int × Int × Int × Int × Int × Int × Int × Int × Int × Bool × Int × Int × Int × Int × Int × Int × Int × Int × Int × Int × Int × Int × Int × Int × Int × Int × Int × Int × Int × Int × Unit)) (i_8 : Int) (m0_0 : Bool) (m0_1 : Int) (m0_2 : Int) (m0_3 : Int) (m0_4 : Int) (m0_5 : Int) (m0_6 : Int) (m0_7 : Int) (m0_8 : Int) (m0_9 : Int) (m0_10 : Int) (m0_11 : Int) (m0_12 : Int) (m0_13 : Int) (m0_14 : Int) (m0_15 : Int) (m0_16 : Int) (m0_17 : Int) (m0_18 : Int) (m0_19 : Int) (m0_20 : Int) (m1_0 : Bool) (m1_1 : Int) (m1_2 : Int) (m1_3 : Int) (m1_4 : Int) (m1_5 : Int) (m1_6 : Int) (m1_7 : Int) (m1_8 : Int) (m1_9 : Int) (m1_10 : Int) (m1_11 : Int) (m1_12 : Int) (m1_13 : Int) (m1_14 : Int) (m1_15 : Int) (m1_16 : Int) (m1_17 : Int) (m1_18 : Int) (m1_19 : Int) (m1_20 : Int) (m2_0 : Bool) (m2_1 : Int) (m2_2 : Int) (m2_3 : Int) (m2_4 : Int) (m2_5 : Int) (m2_6 : Int) (m2_7 : Int) (m2_8 : Int) (m2_9 : Int) (m2_10 : Int) (m2_11 : Int) (m2_12 : Int) (m2_13 : Int) (m2_14 : Int) (m2_15 : Int) (m2_16 : Int) (m2_17 : Int) (m2_18 : Int) (m2_19 : Int) (m2_20 : Int) (m3_0 : Bool) (m3_1 : Int) (m3_2 : Int) (m3_3 : Int) (m3_4 : Int) (m3_5 : Int) (m3_6 : Int) (m3_7 : Int) (m3_8 : Int) (m3_9 : Int) (m3_10 : Int) (m3_11 : Int) (m3_12 : Int) (m3_13 : Int) (m3_14 : Int) (m3_15 : Int) (m3_16 : Int) (m3_17 : Int) (m3_18 : Int) (m3_19 : Int) (m3_20 : Int) : Option (Bool × Int × Int × Int × Int × Int × Int × Int × Int × Int × Int × Int × Int × Int × Int × Int × Int × Int × Int × Int × Int × Bool × Int × Int × Int × Int × Int × Int × Int × Int × Int × Int × Int × Int × Int × Int × Int × Int × Int × Int × Int × Int × Unit) :=
  (bif (decide (i_8 < 8)) then ((rheostatref04_Mul_l1 K K i_8 0 0 m0_0 m0_1 m0_2 m0_3 m0_4 m0_5 m0_6 m0_7 m0_8 m0_9 m0_10 m0_11 m0_12 m0_13 m0_14 m0_15 m0_16 m0_17 m0_18 m0_19 m0_20 m1_0 m1_1 m1_2 m1_3 m1_4 m1_5 m1_6 m1_7 m1_8 m1_9 m1_10 m1_11 m1_12 m1_13 m1_14 m1_15 m1_16 m1_17 m1_18 m1_19 m1_20 m2_0 m2_1 m2_2 m2_3 m2_4 m2_5 m2_6 m2_7 m2_8 m2_9 m2_10 m2_11 m2_12 m2_13 m2_14 m2_15 m2_16 m2_17 m2_18 m2_19 m2_20 m3_0 m3_1 m3_2 m3_3 m3_4 m3_5 m3_6 m3_7 m3_8 m3_9 m3_10 m3_11 m3_12 m3_13 m3_14 m3_15 m3_16 m3_17 m3_18 m3_19 m3_20).bind fun q1 => (rec (wi64 (q1.1 + 1)) q1.2.1 q1.2.2.1 q1.2.2.2.1 q1.2.2.2.2.1 q1.2.2.2.2.2.1 q1.2.2.2.2.2.2.1 q1.2.2.2.2.2.2.2.1 q1.2.2.2.2.2.2.2.2.1 q1.2.2.2.2.2.2.2.2.2.1 q1.2.2.2.2.2.2.2.2.2.2.1 q1.2.2.2.2.2.2.2.2.2.2.2.1 q1.2.2.2.2.2.2.2.2.2.2.2.2.1 q1.2.2.2.2.2.2.2.2.2.2.2.2.2.1 q1.2.2.2.2.2.2.2.2.2.2.2.2.2.2.1 q1.2.2.2.2.2.2.2.2.2.2.2.2.2.2.2.1 q1.2.2.2.2.2.2.2.2.2.2.2.2.2.2.2.2.1 q1.2.2.2.2.2.2.2.2.2.2.2.2.2.2.2.2.2.1 q1.2.2.2.2.2.2.2.2.2.2.2.2.2.2.2.2.2.2.1 q1.2.2.2.2.2.2.2.2.2.2.2.2.2.2.2.2.2.2.2.1 q1.2.2.2.2.2.2.2.2.2.2.2.2.2.2.2.2.2.2.2.2.1 q1.2.2.2.2.2.2.2.2.2.2.2.2.2.2.2.2.2.2.2.2.2.1 q1.2.2.2.2.2.2.2.2.2.2.2.2.2.2.2.2.2.2.2.2.2.2.1 q1.2.2.2.2.2.2.2.2.2.2.2.2.2.2.2.2.2.2.2.2.2.2.2.1 q1.2.2.2.2.2.2.2.2.2.2.2.2.2.2.2.2.2.2.2.2.2.2.2.2.1 q1.2.2.2.2.2.2.2.2.2.2.2.2.2.2.2.2.2.2.2.2.2.2.2.2.2.1 q1.2.2.2.2.2.2.2.2.2.2.2.2.2.2.2.2.2.2.2.2.2.2.2.2.2.2.1 q1.2.2.2.2.2.2.2.2.2.2.2.2.2.2.2.2.2.2.2.2.2.2.2.2.2.2.2.1 q1.2.2.2.2.2.2.2.2.2.2.2.2.2.2.2.2.2.2.2.2.2.2.2.2.2.2.2.2.1 q1.2.2.2.2.2.2.2.2.2.2.2.2.2.2.2.2.2.2.2.2.2.2.2.2.2.2.2.2.2.1 q1.2.2.2.2.2.2.2.2.2.2.2.2.2.2.2.2.2.2.2.2.2.2.2.2.2.2.2.2.2.2.1 q1.2.2.2.2.2.2.2.2.2.2.2.2.2.2.2.2.2.2.2.2.2.2.2.2.2.2.2.2.2.2.2.1 q1.2.2.2.2.2.2.2.2.2.2.2.2.2.2.2.2.2.2.2.2.2.2.2.2.2.2.2.2.2.2.2.2.1 q1.2.2.2.2.2.2.2.2.2.2.2.2.2.2.2.2.2.2.2.2.2.2.2.2.2.2.2.2.2.2.2.2.2.1 q1.2.2.2.2.2.2.2.2.2.2.2.2.2.2.2.2.2.2.2.2.2.2.2.2.2.2.2.2.2.2.2.2.2.2.1 q1.2.2.2.2.2.2.2.2.2.2.2.2.2.2.2.2.2.2.2.2.2.2.2.2.2.2.2.2.2.2.2.2.2.2.2.1 q1.2.2.2.2.2.2.2.2.2.2.2.2.2.2.2.2.2.2.2.2.2.2.2.2.2.2.2.2.2.2.2.2.2.2.2.2.1 q1.2.2.2.2.2.2.2.2.2.2.2.2.2.2.2.2.2.2.2.2.2.2.2.2.2.2.2.2.2.2.2.2.2.2.2.2.2.1 q1.2.2.2.2.2.2.2.2.2.2.2.2.2.2.2.2.2.2.2.2.2.2.2.2.2.2.2.2.2.2.2.2.2.2.2.2.2.2.1 q1.2.2.2.2.2.2.2.2.2.2.2.2.2.2.2.2.2.2.2.2.2.2.2.2.2.2.2.2.2.2.2.2.2.2.2.2.2.2.2.1 q1.2.2.2.2.2.2.2.2.2.2.2.2.2.2.2.2.2.2.2.2.2.2.2.2.2.2.2.2.2.2.2.2.2.2.2.2.2.2.2.2.1 q1.2.2.2.2.2.2.2.2.2.2.2.2.2.2.2.2.2.2.2.2.2.2.2.2.2.2.2.2.2.2.2.2.2.2.2.2.2.2.2.2.2.1 q1.2.2.2.2.2.2.2.2.2.2.2.2.2.2.2.2.2.2.2.2.2.2.2.2.2.2.2.2.2.2.2.2.2.2.2.2.2.2.2.2.2.2.1 q1.2.2.2.2.2.2.2.2.2.2.2.2.2.2.2.2.2.2.2.2.2.2.2.2.2.2.2.2.2.2.2.2.2.2.2.2.2.2.2.2.2.2.2.1 q1.2.2.2.2.2.2.2.2.2.2.2.2.2.2.2.2.2.2.2.2.2.2.2.2.2.2.2.2.2.2.2.2.2.2.2.2.2.2.2.2.2.2.2.2.1 q1.2.2.2.2.2.2.2.2.2.2.2.2.2.2.2.2.2.2.2.2.2.2.2.2.2.2.2.2.2.2.2.2.2.2.2.2.2.2.2.2.2.2.2.2.2.1 q1.2.2.2.2.2.2.2.2.2.2.2.2.2.2.2.2.2.2.2.2.2.2.2.2.2.2.2.2.2.2.2.2.2.2.2.2.2.2.2.2.2.2.2.2.2.2.1 q1.2.2.2.2.2.2.2.2.2.2.2.2.2.2.2.2.2.2.2.2.2.2.2.2.2.2.2.2.2.2.2.2.2.2.2.2.2.2.2.2.2.2.2.2.2.2.2.1 q1.2.2.2.2.2.2.2.2.2.2.2.2.2.2.2.2.2.2.2.2.2.2.2.2.2.2.2.2.2.2.2.2.2.2.2.2.2.2.2.2.2.2.2.2.2.2.2.2.1 q1.2.2.2.2.2.2.2.2.2.2.2.2.2.2.2.2.2.2.2.2.2.2.2.2.2.2.2.2.2.2.2.2.2.2.2.2.2.2.2.2.2.2.2.2.2.2.2.2.2.1 q1.2.2.2.2.2.2.2.2.2.2.2.2.2.2.2.2.2.2.2.2.2.2.2.2.2.2.2.2.2.2.2.2.2.2.2.2.2.2.2.2.2.2.2.2.2.2.2.2.2.2.1 q1.2.2.2.2.2.2.2.2.2.2.2.2.2.2.2.2.2.2.2.2.2.2.2.2.2.2.2.2.2.2.2.2.2.2.2.2.2.2.2.2.2.2.2.2.2.2.2.2.2.2.2.1 q1.2.2.2.2.2.2.2.2.2.2.2.2.2.2.2.2.2.2.2.2.2.2.2.2.2.2.2.2.2.2.2.2.2.2.2.2.2.2.2.2.2.2.2.2.2.2.2.2.2.2.2.2.1 q1.2.2.2.2.2.2.2.2.2.2.2.2.2.2.2.2.2.2.2.2.2.2.2.2.2.2.2.2.2.2.2.2.2.2.2.2.2.2.2.2.2.2.2.2.2.2.2.2.2.2.2.2.2.1 q1.2.2.2.2.2.2.2.2.2.2.2.2.2.2.2.2.2.2.2.2.2.2.2.2.2.2.2.2.2.2.2.2.2.2.2.2.2.2.2.2.2.2.2.2.2.2.2.2.2.2.2.2.2.2.1 q1.2.2.2.2.2.2.2.2.2.2.2.2.2.2.2.2.2.2.2.2.2.2.2.2.2.2.2.2.2.2.2.2.2.2.2.2.2.2.2.2.2.2.2.2.2.2.2.2.2.2.2.2.2.2.2.1 q1.2.2.2.2.2.2.2.2.2.2.2.2.2.2.2.2.2.2.2.2.2.2.2.2.2.2.2.2.2.2.2.2.2.2.2.2.2.2.2.2.2.2.2.2.2.2.2.2.2.2.2.2.2.2.2.2.1 q1.2.2.2.2.2.2.2.2.2.2.2.2.2.2.2.2.2.2.2.2.2.2.2.2.2.2.2.2.2.2.2.2.2.2.2.2.2.2.2.2.2.2.2.2.2.2.2.2.2.2.2.2.2.2.2.2.2.1 q1.2.2.2.2.2.2.2.2.2.2.2.2.2.2.2.2.2.2.2.2.2.2.2.2.2.2.2.2.2.2.2.2.2.2.2.2.2.2.2.2.2.2.2.2.2.2.2.2.2.2.2.2.2.2.2.2.2.2.1 q1.2.2.2.2.2.2.2.2.2.2.2.2.2.2.2.2.2.2.2.2.2.2.2.2.2.2.2.2.2.2.2.2.2.2.2.2.2.2.2.2.2.2.2.2.2.2.2.2.2.2.2.2.2.2.2.2.2.2.2.1 q1.2.2.2.2.2.2.2.2.2.2.2.2.2.2.2.2.2.2.2.2.2.2.2.2.2.2.2.2.2.2.2.2.2.2.2.2.2.2.2.2.2.2.2.2.2.2.2.2.2.2.2.2.2.2.2.2.2.2.2.2.1 q1.2.2.2.2.2.2.2.2.2.2.2.2.2.2.2.2.2.2.2.2.2.2.2.2.2.2.2.2.2.2.2.2.2.2.2.2.2.2.2.2.2.2.2.2.2.2.2.2.2.2.2.2.2.2.2.2.2.2.2.2.2.1 q1.2.2.2.2.2.2.2.2.2.2.2.2.2.2.2.2.2.2.2.2.2.2.2.2.2.2.2.2.2.2.2.2.2.2.2.2.2.2.2.2.2.2.2.2.2.2.2.2.2.2.2.2.2.2.2.2.2.2.2.2.2.2.1 q1.2.2.2.2.2.2.2.2.2.2.2.2.2.2.2.2.2.2.2.2.2.2.2.2.2.2.2.2.2.2.2.2.2.2.2.2.2.2.2.2.2.2.2.2.2.2.2.2.2.2.2.2.2.2.2.2.2.2.2.2.2.2.2.1 q1.2.2.2.2.2.2.2.2.2.2.2.2.2.2.2.2.2.2.2.2.2.2.2.2.2.2.2.2.2.2.2.2.2.2.2.2.2.2.2.2.2.2.2.2.2.2.2.2.2.2.2.2.2.2.2.2.2.2.2.2.2.2.2.2.1 q1.2.2.2.2.2.2.2.2.2.2.2.2.2.2.2.2.2.2.2.2.2.2.2.2.2.2.2.2.2.2.2.2.2.2.2.2.2.2.2.2.2.2.2.2.2.2.2.2.2.2.2.2.2.2.2.2.2.2.2.2.2.2.2.2.2.1 q1.2.2.2.2.2.2.2.2.2.2.2.2.2.2.2.2.2.2.2.2.2.2.2.2.2.2.2.2.2.2.2.2.2.2.2.2.2.2.2.2.2.2.2.2.2.2.2.2.2.2.2.2.2.2.2.2.2.2.2.2.2.2.2.2.2.2.1 q1.2.2.2.2.2.2.2.2.2.2.2.2.2.2.2.2.2.2.2.2.2.2.2.2.2.2.2.2.2.2.2.2.2.2.2.2.2.2.2.2.2.2.2.2.2.2.2.2.2.2.2.2.2.2.2.2.2.2.2.2.2.2.2.2.2.2.2.1 q1.2.2.2.2.2.2.2.2.2.2.2.2.2.2.2.2.2.2.2.2.2.2.2.2.2.2.2.2.2.2.2.2.2.2.2.2.2.2.2.2.2.2.2.2.2.2.2.2.2.2.2.2.2.2.2.2.2.2.2.2.2.2.2.2.2.2.2.2.1 q1.2.2.2.2.2.2.2.2.2.2.2.2.2.2.2.2.2.2.2.2.2.2.2.2.2.2.2.2.2.2.2.2.2.2.2.2.2.2.2.2.2.2.2.2.2.2.2.2.2.2.2.2.2.2.2.2.2.2.2.2.2.2.2.2.2.2.2.2.2.1 q1.2.2.2.2.2.2.2.2.2.2.2.2.2.2.2.2.2.2.2.2.2.2.2.2.2.2.2.2.2.2.2.2.2.2.2.2.2.2.2.2.2.2.2.2.2.2.2.2.2.2.2.2.2.2.2.2.2.2.2.2.2.2.2.2.2.2.2.2.2.2.1 q1.2.2.2.2.2.2.2.2.2.2.2.2.2.2.2.2.2.2.2.2.2.2.2.2.2.2.2.2.2.2.2.2.2.2.2.2.2.2.2.2.2.2.2.2.2.2.2.2.2.2.2.2.2.2.2.2.2.2.2.2.2.2.2.2.2.2.2.2.2.2.2.1 q1.2.2.2.2.2.2.2.2.2.2.2.2.2.2.2.2.2.2.2.2.2.2.2.2.2.2.2.2.2.2.2.2.2.2.2.2.2.2.2.2.2.2.2.2.2.2.2.2.2.2.2.2.2.2.2.2.2.2.2.2.2.2.2.2.2.2.2.2.2.2.2.2.1 q1.2.2.2.2.2.2.2.2.2.2.2.2.2.2.2.2.2.2.2.2.2.2.2.2.2.2.2.2.2.2.2.2.2.2.2.2.2.2.2.2.2.2.2.2.2.2.2.2.2.2.2.2.2.2.2.2.2.2.2.2.2.2.2.2.2.2.2.2.2.2.2.2.2.1 q1.2.2.2.2.2.2.2.2.2.2.2.2.2.2.2.2.2.2.2.2.2.2.2.2.2.2.2.2.2.2.2.2.2.2.2.2.2.2.2.2.2.2.2.2.2.2.2.2.2.2.2.2.2.2.2.2.2.2.2.2.2.2.2.2.2.2.2.2.2.2.2.2.2.2.1 q1.2.2.2.2.2.2.2.2.2.2.2.2.2.2.2.2.2.2.2.2.2.2.2.2.2.2.2.2.2.2.2.2.2.2.2.2.2.2.2.2.2.2.2.2.2.2.2.2.2.2.2.2.2.2.2.2.2.2.2.2.2.2.2.2.2.2.2.2.2.2.2.2.2.2.2.1 q1.2.2.2.2.2.2.2.2.2.2.2.2.2.2.2.2.2.2.2.2.2.2.2.2.2.2.2.2.2.2.2.2.2.2.2.2.2.2.2.2.2.2.2.2.2.2.2.2.2.2.2.2.2.2.2.2.2.2.2.2.2.2.2.2.2.2.2.2.2.2.2.2.2.2.2.2.1 q1.2.2.2.2.2.2.2.2.2.2.2.2.2.2.2.2.2.2.2.2.2.2.2.2.2.2.2.2.2.2.2.2.2.2.2.2.2.2.2.2.2.2.2.2.2.2.2.2.2.2.2.2.2.2.2.2.2.2.2.2.2.2.2.2.2.2.2.2.2.2.2.2.2.2.2.2.2.1 q1.2.2.2.2.2.2.2.2.2.2.2.2.2.2.2.2.2.2.2.2.2.2.2.2.2.2.2.2.2.2.2.2.2.2.2.2.2.2.2.2.2.2.2.2.2.2.2.2.2.2.2.2.2.2.2.2.2.2.2.2.2.2.2.2.2.2.2.2.2.2.2.2.2.2.2.2.2.2.1 q1.2.2.2.2.2.2.2.2.2.2.2.2.2.2.2.2.2.2.2.2.2.2.2.2.2.2.2.2.2.2.2.2.2.2.2.2.2.2.2.2.2.2.2.2.2.2.2.2.2.2.2.2.2.2.2.2.2.2.2.2.2.2.2.2.2.2.2.2.2.2.2.2.2.2.2.2.2.2.2.1 q1.2.2.2.2.2.2.2.2.2.2.2.2.2.2.2.2.2.2.2.2.2.2.2.2.2.2.2.2.2.2.2.2.2.2.2.2.2.2.2.2.2.2.2.2.2.2.2.2.2.2.2.2.2.2.2.2.2.2.2.2.2.2.2.2.2.2.2.2.2.2.2.2.2.2.2.2.2.2.2.2.1 q1.2.2.2.2.2.2.2.2.2.2.2.2.2.2.2.2.2.2.2.2.2.2.2.2.2.2.2.2.2.2.2.2.2.2.2.2.2.2.2.2.2.2.2.2.2.2.2.2.2.2.2.2.2.2.2.2.2.2.2.2.2.2.2.2.2.2.2.2.2.2.2.2.2.2.2.2.2.2.2.2.2.1 q1.2.2.2.2.2.2.2.2.2.2.2.2.2.2.2.2.2.2.2.2.2.2.2.2.2.2.2.2.2.2.2.2.2.2.2.2.2.2.2.2.2.2.2.2.2.2.2.2.2.2.2.2.2.2.2.2.2.2.2.2.2.2.2.2.2.2.2.2.2.2.2.2.2.2.2.2.2.2.2.2.2.2.1 q1.2.2.2.2.2.2.2.2.2.2.2.2.2.2.2.2.2.2.2.2.2.2.2.2.2.2.2.2.2.2.2.2.2.2.2.2.2.2.2.2.2.2.2.2.2.2.2.2.2.2.2.2.2.2.2.2.2.2.2.2.2.2.2.2.2.2.2.2.2.2.2.2.2.2.2.2.2.2.2.2.2.2.2.1 q1.2.2.2.2.2.2.2.2.2.2.2.2.2.2.2.2.2.2.2.2.2.2.2.2.2.2.2.2.2.2.2.2.2.2.2.2.2.2.2.2.2.2.2.2.2.2.2.2.2.2.2.2.2.2.2.2.2.2.2.2.2.2.2.2.2.2.2.2.2.2.2.2.2.2.2.2.2.2.2.2.2.2.2.2.1)) else (some (m0_0, m0_1, m0_2, m0_3, m0_4, m0_5, m0_6, m0_7, m0_8, m0_9, m0_10, m0_11, m0_12, m0_13, m0_14, m0_15, m0_16, m0_17, m0_18, m0_19, m0_20, m3_0, m3_1, m3_2, m3_3, m3_4, m3_5, m3_6, m3_7, m3_8, m3_9, m3_10, m3_11, m3_12, m3_13, m3_14, m3_15, m3_16, m3_17, m3_18, m3_19, m3_20, ())))
noncomputable def rheostatref04_Mul_l0 (K n : Nat) : Int → Bool → Int → Int → Int → Int → Int → Int → Int → Int → Int → Int → Int → Int → Int → Int → Int → Int → Int → Int → Int → Int → Bool → Int → Int → Int → Int → Int → Int → Int → Int → Int → Int → Int → Int → Int → Int → Int → Int → Int → Int → Int → Int → Bool → Int → Int → Int → Int → Int → Int → Int → Int → Int → Int → Int → Int → Int → Int → Int → Int → Int → Int → Int → Int → Bool → Int → Int → Int → Int → Int → Int → Int → Int → Int → Int → Int → Int → Int → Int → Int → Int → Int → Int → Int → Int → Option (Bool × Int × Int × Int × Int × Int × Int × Int × Int × Int × Int × Int × Int × Int × Int × Int × Int × Int × Int × Int × Int × Bool × Int × Int × Int × Int × Int × Int × Int × Int × Int × Int × Int × Int × Int × Int × Int × Int × Int × Int × Int × Int × Unit) := Nat.rec (motive := fun _ => Int → Bool → Int → Int → Int → Int → Int → Int → Int → Int → Int → Int → Int → Int → Int → Int → Int → Int → Int → Int → Int → Int → Bool → Int → Int → Int → Int → Int → Int → Int → Int → Int → Int → Int → Int → Int → Int → Int → Int → Int → Int → Int → Int → Bool → Int → Int → Int → Int → Int → Int → Int → Int → Int → Int → Int → Int → Int → Int → Int → Int → Int → Int → Int → Int → Bool → Int → Int → Int → Int → Int → Int → Int → Int → Int → Int → Int → Int → Int → Int → Int → Int → Int → Int → Int → Int → Option (Bool × Int × Int × Int × Int × Int × Int × Int × Int × Int × Int × Int × Int × Int × Int × Int × Int × Int × Int × Int × Int × Bool × Int × Int × Int × Int × Int × Int × Int × Int × Int × Int × Int × Int × Int × Int × Int × Int × Int × Int × Int × Int × Unit)) (fun _ _ _ _ _ _ _ _ _ _ _ _ _ _ _ _ _ _ _ _ _ _ _ _ _ _ _ _ _ _ _ _ _ _ _ _ _ _ _ _ _ _ _ _ _ _ _ _ _ _ _ _ _ _ _ _ _ _ _ _ _ _ _ _ _ _ _ _ _ _ _ _ _ _ _ _ _ _ _ _ _ _ _ _ _ => none) (fun _ ih => rheostatref04_Mul_l0r K ih) n
noncomputable def rheostatref04_Mul_l0u (K n : Nat) (t : rheostatref04_Mul_l0h.T) : Option (Bool × Int × Int × Int × Int × Int × Int × Int × Int × Int × Int × Int × Int × Int × Int × Int × Int × Int × Int × Int × Int × Bool × Int × Int × Int × Int × Int × Int × Int × Int × Int × Int × Int × Int × Int × Int × Int × Int × Int × Int × Int × Int × Unit) :=
  let u1 := t.2
  let u2 := u1.2
  let u3 := u2.2
  let u4 := u3.2
  let u5 := u4.2
  let u6 := u5.2
  let u7 := u6.2
  let u8 := u7.2
  let u9 := u8.2
  let u10 := u9.2
  let u11 := u10.2
  let u12 := u11.2
  let u13 := u12.2
  let u14 := u13.2
  let u15 := u14.2
  let u16 := u15.2
  let u17 := u16.2
  let u18 := u17.2
  let u19 := u18.2
  let u20 := u19.2
  let u21 := u20.2
  let u22 := u21.2
  let u23 := u22.2
  let u24 := u23.2
  let u25 := u24.2
  let u26 := u25.2
  let u27 := u26.2
  let u28 := u27.2
  let u29 := u28.2
  let u30 := u29.2
  let u31 := u30.2
  let u32 := u31.2
  let u33 := u32.2
  let u34 := u33.2
  let u35 := u34.2
  let u36 := u35.2
  let u37 := u36.2
  let u38 := u37.2
  let u39 := u38.2
  let u40 := u39.2
  let u41 := u40.2
  let u42 := u41.2
  let u43 := u42.2
  let u44 := u43.2
  let u45 := u44.2
  let u46 := u45.2
  let u47 := u46.2
  let u48 := u47.2
  let u49 := u48.2
  let u50 := u49.2
  let u51 := u50.2
  let u52 := u51.2
  let u53 := u52.2
  let u54 := u53.2
  let u55 := u54.2
  let u56 := u55.2
  let u57 := u56.2
  let u58 := u57.2
  let u59 := u58.2
  let u60 := u59.2
  let u61 := u60.2
  let u62 := u61.2
  let u63 := u62.2
  let u64 := u63.2
  let u65 := u64.2
  let u66 := u65.2
  let u67 := u66.2
  let u68 := u67.2
  let u69 := u68.2
  let u70 := u69.2
  let u71 := u70.2
  let u72 := u71.2
  let u73 := u72.2
  let u74 := u73.2
  let u75 := u74.2
  let u76 := u75.2
  let u77 := u76.2
  let u78 := u77.2
  let u79 := u78.2
  let u80 := u79.2
  let u81 := u80.2
  let u82 := u81.2
  let u83 := u82.2
  let u84 := u83.2
  rheostatref04_Mul_l0 K n t.1 u1.1 u2.1 u3.1 u4.1 u5.1 u6.1 u7.1 u8.1 u9.1 u10.1 u11.1 u12.1 u13.1 u14.1 u15.1 u16.1 u17.1 u18.1 u19.1 u20.1 u21.1 u22.1 u23.1 u24.1 u25.1 u26.1 u27.1 u28.1 u29.1 u30.1 u31.1 u32.1 u33.1 u34.1 u35.1 u36.1 u37.1 u38.1 u39.1 u40.1 u41.1 u42.1 u43.1 u44.1 u45.1 u46.1 u47.1 u48.1 u49.1 u50.1 u51.1 u52.1 u53.1 u54.1 u55.1 u56.1 u57.1 u58.1 u59.1 u60.1 u61.1 u62.1 u63.1 u64.1 u65.1 u66.1 u67.1 u68.1 u69.1 u70.1 u71.1 u72.1 u73.1 u74.1 u75.1 u76.1 u77.1 u78.1 u79.1 u80.1 u81.1 u82.1 u83.1 u84.1
noncomputable def rheostatref04_Mul_l0o (K : Nat) : LO := loopLO rheostatref04_Mul_l0h rheostatref04_Mul_l0O fun t => rheostatref04_Mul_l0u K K t
noncomputable def rheostatref04_Mul_l0C : Code := bodyOf Try.f35
noncomputable def rheostatref04_Mul_l0B : Code := (findLoops 4 (loopsIn rheostatref04_Mul_l0C)).headD .skip
theorem rheostatref04_Mul_l0F : findLoops 4 (loopsIn rheostatref04_Mul_l0C) = [rheostatref04_Mul_l0B] := by kernel_rfl
theorem rheostatref04_Mul_l0q (K n : Nat) (t : rheostatref04_Mul_l0h.T) : exC (rheostatref04_Mul_e1 K) (hdl (rheostatref04_Mul_e1 K) 0) (35 :: []) rheostatref04_Mul_l0B (rheostatref04_Mul_l0h.put t) (fun s => (rheostatref04_Mul_l0h.take s).bind fun t => rheostatref04_Mul_l0u K n t) (fun id s => rheostatref04_Mul_l0O.get (some id) s) (fun s => rheostatref04_Mul_l0O.get none s) = rheostatref04_Mul_l0u K (n + 1) t := by kernel_rfl
noncomputable def rheostatref04_Mul_l0E (K : Nat) : LoopE Try.prog := ⟨[4, 35], rheostatref04_Mul_l0o K, Try.f35, rheostatref04_Mul_l0C, rheostatref04_Mul_l0B, ⟨4, 35, [], rfl, Try.func35, by kernel_rfl, rheostatref04_Mul_l0F⟩,
  loop_rule (F := fun n t => rheostatref04_Mul_l0u K n t) (rheostatref04_Mul_t1 K) (rheostatref04_Mul_i1 K) (draws (rheostatref04_Mul_t1 K)) 0 Try.func35 (c := rheostatref04_Mul_l0C) (by kernel_rfl) (body_in rheostatref04_Mul_l0F) (ctx' := []) (h := rheostatref04_Mul_l0h) (O := rheostatref04_Mul_l0O) (fun _ => rfl) (fun m t => rheostatref04_Mul_l0q K m t) K⟩
noncomputable def rheostatref04_Mul_e2 (K : Nat) : Env := ⟨tt, [(47, rheostatref04_Of_o K)], [], [([8, 35], rheostatref04_Mul_l1o K), ([4, 35], rheostatref04_Mul_l0o K)], eqs⟩
theorem rheostatref04_Mul_t2 (K : Nat) : EnvT Try.prog (rheostatref04_Mul_e2 K) := envT_of tt_ok eqs_ok ⟨rheostatref04_Of_ok K, trivial⟩
theorem rheostatref04_Mul_i2 (K : Nat) : EnvI Try.prog (rheostatref04_Mul_e2 K) := envI_of (es := [rheostatref04_Mul_l1E K, rheostatref04_Mul_l0E K]) trivial ⟨⟨rfl, rfl⟩, ⟨rfl, rfl⟩, trivial⟩
noncomputable def rheostatref04_Mul_h : Sh := ⟨2, [(0, .sc (.i .i64)), (1, .sc (.i .i64))], [], []⟩
noncomputable def rheostatref04_Mul_r : Sh := ⟨1, [(0, .ag [.b, .i .i64, .i .i64, .i .i64, .i .i64, .i .i64, .i .i64, .i .i64, .i .i64, .i .i64, .i .i64, .i .i64, .i .i64, .i .i64, .i .i64, .i .i64, .i .i64, .i .i64, .i .i64, .i .i64, .i .i64])], [], []⟩
noncomputable def rheostatref04_Mul_g (K : Nat) (a_0 : Int) (b_1 : Int) : Option (Bool × Int × Int × Int × Int × Int × Int × Int × Int × Int × Int × Int × Int × Int × Int × Int × Int × Int × Int × Int × Int × Unit) :=
  ((rheostatref04_Of_g K a_0).bind fun q1 => ((rheostatref04_Of_g K b_1).bind fun q2 => ((rheostatref04_Mul_l0 K K 0 false 0 0 0 0 0 0 0 0 0 0 0 0 0 0 0 0 0 0 0 0 q1.1 q1.2.1 q1.2.2.1 q1.2.2.2.1 q1.2.2.2.2.1 q1.2.2.2.2.2.1 q1.2.2.2.2.2.2.1 q1.2.2.2.2.2.2.2.1 q1.2.2.2.2.2.2.2.2.1 q1.2.2.2.2.2.2.2.2.2.1 q1.2.2.2.2.2.2.2.2.2.2.1 q1.2.2.2.2.2.2.2.2.2.2.2.1 q1.2.2.2.2.2.2.2.2.2.2.2.2.1 q1.2.2.2.2.2.2.2.2.2.2.2.2.2.1 q1.2.2.2.2.2.2.2.2.2.2.2.2.2.2.1 q1.2.2.2.2.2.2.2.2.2.2.2.2.2.2.2.1 q1.2.2.2.2.2.2.2.2.2.2.2.2.2.2.2.2.1 q1.2.2.2.2.2.2.2.2.2.2.2.2.2.2.2.2.2.1 q1.2.2.2.2.2.2.2.2.2.2.2.2.2.2.2.2.2.2.1 q1.2.2.2.2.2.2.2.2.2.2.2.2.2.2.2.2.2.2.2.1 q1.2.2.2.2.2.2.2.2.2.2.2.2.2.2.2.2.2.2.2.2.1 q2.1 q2.2.1 q2.2.2.1 q2.2.2.2.1 q2.2.2.2.2.1 q2.2.2.2.2.2.1 q2.2.2.2.2.2.2.1 q2.2.2.2.2.2.2.2.1 q2.2.2.2.2.2.2.2.2.1 q2.2.2.2.2.2.2.2.2.2.1 q2.2.2.2.2.2.2.2.2.2.2.1 q2.2.2.2.2.2.2.2.2.2.2.2.1 q2.2.2.2.2.2.2.2.2.2.2.2.2.1 q2.2.2.2.2.2.2.2.2.2.2.2.2.2.1 q2.2.2.2.2.2.2.2.2.2.2.2.2.2.2.1 q2.2.2.2.2.2.2.2.2.2.2.2.2.2.2.2.1 q2.2.2.2.2.2.2.2.2.2.2.2.2.2.2.2.2.1 q2.2.2.2.2.2.2.2.2.2.2.2.2.2.2.2.2.2.1 q2.2.2.2.2.2.2.2.2.2.2.2.2.2.2.2.2.2.2.1 q2.2.2.2.2.2.2.2.2.2.2.2.2.2.2.2.2.2.2.2.1 q2.2.2.2.2.2.2.2.2.2.2.2.2.2.2.2.2.2.2.2.2.1 (!(q1.1 == q2.1)) 0 0 0 0 0 0 0 0 0 0 0 0 0 0 0 0 0 0 0 0).bind fun q3 => (some (q3.2.2.2.2.2.2.2.2.2.2.2.2.2.2.2.2.2.2.2.2.2.1, q3.2.2.2.2.2.2.2.2.2.2.2.2.2.2.2.2.2.2.2.2.2.2.1, q3.2.2.2.2.2.2.2.2.2.2.2.2.2.2.2.2.2.2.2.2.2.2.2.1, q3.2.2.2.2.2.2.2.2.2.2.2.2.2.2.2.2.2.2.2.2.2.2.2.2.1, q3.2.2.2.2.2.2.2.2.2.2.2.2.2.2.2.2.2.2.2.2.2.2.2.2.2.1, q3.2.2.2.2.2.2.2.2.2.2.2.2.2.2.2.2.2.2.2.2.2.2.2.2.2.2.1, q3.2.2.2.2.2.2.2.2.2.2.2.2.2.2.2.2.2.2.2.2.2.2.2.2.2.2.2.1, q3.2.2.2.2.2.2.2.2.2.2.2.2.2.2.2.2.2.2.2.2.2.2.2.2.2.2.2.2.1, q3.2.2.2.2.2.2.2.2.2.2.2.2.2.2.2.2.2.2.2.2.2.2.2.2.2.2.2.2.2.1, q3.2.2.2.2.2.2.2.2.2.2.2.2.2.2.2.2.2.2.2.2.2.2.2.2.2.2.2.2.2.2.1, q3.2.2.2.2.2.2.2.2.2.2.2.2.2.2.2.2.2.2.2.2.2.2.2.2.2.2.2.2.2.2.2.1, q3.2.2.2.2.2.2.2.2.2.2.2.2.2.2.2.2.2.2.2.2.2.2.2.2.2.2.2.2.2.2.2.2.1, q3.2.2.2.2.2.2.2.2.2.2.2.2.2.2.2.2.2.2.2.2.2.2.2.2.2.2.2.2.2.2.2.2.2.1, q3.2.2.2.2.2.2.2.2.2.2.2.2.2.2.2.2.2.2.2.2.2.2.2.2.2.2.2.2.2.2.2.2.2.2.1, q3.2.2.2.2.2.2.2.2.2.2.2.2.2.2.2.2.2.2.2.2.2.2.2.2.2.2.2.2.2.2.2.2.2.2.2.1, q3.2.2.2.2.2.2.2.2.2.2.2.2.2.2.2.2.2.2.2.2.2.2.2.2.2.2.2.2.2.2.2.2.2.2.2.2.1, q3.2.2.2.2.2.2.2.2.2.2.2.2.2.2.2.2.2.2.2.2.2.2.2.2.2.2.2.2.2.2.2.2.2.2.2.2.2.1, q3.2.2.2.2.2.2.2.2.2.2.2.2.2.2.2.2.2.2.2.2.2.2.2.2.2.2.2.2.2.2.2.2.2.2.2.2.2.2.1, q3.2.2.2.2.2.2.2.2.2.2.2.2.2.2.2.2.2.2.2.2.2.2.2.2.2.2.2.2.2.2.2.2.2.2.2.2.2.2.2.1, q3.2.2.2.2.2.2.2.2.2.2.2.2.2.2.2.2.2.2.2.2.2.2.2.2.2.2.2.2.2.2.2.2.2.2.2.2.2.2.2.2.1, q3.2.2.2.2.2.2.2.2.2.2.2.2.2.2.2.2.2.2.2.2.2.2.2.2.2.2.2.2.2.2.2.2.2.2.2.2.2.2.2.2.2.1, ())))))
noncomputable def rheostatref04_Mul_o (K : Nat) : FO := fnFO rheostatref04_Mul_h rheostatref04_Mul_r fun t => rheostatref04_Mul_g K t.1 t.2.1
theorem rheostatref04_Mul_q (K : Nat) (t : rheostatref04_Mul_h.T) : exFn (rheostatref04_Mul_e2 K) (hdl (rheostatref04_Mul_e2 K) 0) [35] Try.f35 (slVals (rheostatref04_Mul_h.put t).fr.sl) ⟨⟨0, []⟩, [], (rheostatref04_Mul_h.put t).mem⟩ (takeRes rheostatref04_Mul_r) = rheostatref04_Mul_g K t.1 t.2.1 := by kernel_rfl
theorem rheostatref04_Mul_ok (K : Nat) : FOok Try.prog 35 (rheostatref04_Mul_o K) :=
  fn_rule (rheostatref04_Mul_t2 K) (rheostatref04_Mul_i2 K) (draws (rheostatref04_Mul_t2 K)) 0 Try.func35 (fnB_ok Try.func35 (by kernel_rfl)) rfl rfl (allOwn_ok false (by kernel_rfl)) rfl (allOwn_ok true (by kernel_rfl)) (fun t => rheostatref04_Mul_q K t)
/-! rheostatref04_against -/
noncomputable def rheostatref04_against_e0 (K : Nat) : Env := ⟨tt, [], [], [], eqs⟩
theorem rheostatref04_against_t0 (K : Nat) : EnvT Try.prog (rheostatref04_against_e0 K) := envT_of tt_ok eqs_ok trivial
theorem rheostatref04_against_i0 (K : Nat) : EnvI Try.prog (rheostatref04_against_e0 K) := envI_of (es := []) trivial trivial
noncomputable def rheostatref04_against_l0h : Sh := ⟨24, [(2, .sc (.lit (.p 0 0 0 []))), (3, .sc (.lit (.p 1 0 0 []))), (5, .sc (.i .i64))], [(0, [])], [(true, false, [.i .i64, .i .i64, .i .i64, .i .i64, .i .i64, .i .i64, .i .i64, .i .i64, .i .i64, .i .i64, .i .i64, .i .i64, .i .i64, .i .i64, .i .i64, .i .i64, .i .i64, .i .i64, .i .i64, .i .i64]), (true, false, [.i .i64, .i .i64, .i .i64, .i .i64, .i .i64, .i .i64, .i .i64, .i .i64, .i .i64, .i .i64, .i .i64, .i .i64, .i .i64, .i .i64, .i .i64, .i .i64, .i .i64, .i .i64, .i .i64, .i .i64])]⟩
noncomputable def rheostatref04_against_l0x0 : Sh := ⟨24, [], [(0, [])], []⟩
noncomputable def rheostatref04_against_l0x1 : Sh := ⟨24, [(4, .sc (.i .i64))], [(0, [])], []⟩
noncomputable def rheostatref04_against_l0O : OutI ((Unit) ⊕ (Int × Unit)) := (OutI.or (OutI.exit 0 rheostatref04_against_l0x0) (OutI.ret rheostatref04_against_l0x1))
noncomputable def rheostatref04_against_l0r (K : Nat) (rec : Int → Int → Int → Int → Int → Int → Int → Int → Int → Int → Int → Int → Int → Int → Int → Int → Int → Int → Int → Int → Int → Int → Int → Int → Int → Int → Int → Int → Int → Int → Int → Int → Int → Int → Int → Int → Int → Int → Int → Int → Int → Option ((Unit) ⊕ (Int × Unit))) (i_5 : Int) (m0_0 : Int) (m0_1 : Int) (m0_2 : Int) (m0_3 : Int) (m0_4 : Int) (m0_5 : Int) (m0_6 : Int) (m0_7 : Int) (m0_8 : Int) (m0_9 : Int) (m0_10 : Int) (m0_11 : Int) (m0_12 : Int) (m0_13 : Int) (m0_14 : Int) (m0_15 : Int) (m0_16 : Int) (m0_17 : Int) (m0_18 : Int) (m0_19 : Int) (m1_0 : Int) (m1_1 : Int) (m1_2 : Int) (m1_3 : Int) (m1_4 : Int) (m1_5 : Int) (m1_6 : Int) (m1_7 : Int) (m1_8 : Int) (m1_9 : Int) (m1_10 : Int) (m1_11 : Int) (m1_12 : Int) (m1_13 : Int) (m1_14 : Int) (m1_15 : Int) (m1_16 : Int) (m1_17 : Int) (m1_18 : Int) (m1_19 : Int) : Option ((Unit) ⊕ (Int × Unit)) :=
  (bif (decide (i_5 ≥ 0)) then (bif ((decide (0 ≤ i_5)) && (decide (i_5 < 20))) then (bif ((decide (0 ≤ i_5)) && (decide (i_5 < 20))) then (bif (decide ((selI [m0_0, m0_1, m0_2, m0_3, m0_4, m0_5, m0_6, m0_7, m0_8, m0_9, m0_10, m0_11, m0_12, m0_13, m0_14, m0_15, m0_16, m0_17, m0_18, m0_19] (Int.toNat i_5)) < (selI [m1_0, m1_1, m1_2, m1_3, m1_4, m1_5, m1_6, m1_7, m1_8, m1_9, m1_10, m1_11, m1_12, m1_13, m1_14, m1_15, m1_16, m1_17, m1_18, m1_19] (Int.toNat i_5)))) then (some (.inr ((-1), ()))) else (bif ((decide (0 ≤ i_5)) && (decide (i_5 < 20))) then (bif ((decide (0 ≤ i_5)) && (decide (i_5 < 20))) then (bif (decide ((selI [m0_0, m0_1, m0_2, m0_3, m0_4, m0_5, m0_6, m0_7, m0_8, m0_9, m0_10, m0_11, m0_12, m0_13, m0_14, m0_15, m0_16, m0_17, m0_18, m0_19] (Int.toNat i_5)) > (selI [m1_0, m1_1, m1_2, m1_3, m1_4, m1_5, m1_6, m1_7, m1_8, m1_9, m1_10, m1_11, m1_12, m1_13, m1_14, m1_15, m1_16, m1_17, m1_18, m1_19] (Int.toNat i_5)))) then (some (.inr (1, ()))) else (rec (wi64 (i_5 - 1)) m0_0 m0_1 m0_2 m0_3 m0_4 m0_5 m0_6 m0_7 m0_8 m0_9 m0_10 m0_11 m0_12 m0_13 m0_14 m0_15 m0_16 m0_17 m0_18 m0_19 m1_0 m1_1 m1_2 m1_3 m1_4 m1_5 m1_6 m1_7 m1_8 m1_9 m1_10 m1_11 m1_12 m1_13 m1_14 m1_15 m1_16 m1_17 m1_18 m1_19)) else none) else none)) else none) else none) else (some (.inl (()))))
noncomputable def rheostatref04_against_l0 (K n : Nat) : Int → Int → Int → Int → Int → Int → Int → Int → Int → Int → Int → Int → Int → Int → Int → Int → Int → Int → Int → Int → Int → Int → Int → Int → Int → Int → Int → Int → Int → Int → Int → Int → Int → Int → Int → Int → Int → Int → Int → Int → Int → Option ((Unit) ⊕ (Int × Unit)) := Nat.rec (motive := fun _ => Int → Int → Int → Int → Int → Int → Int → Int → Int → Int → Int → Int → Int → Int → Int → Int → Int → Int → Int → Int → Int → Int → Int → Int → Int → Int → Int → Int → Int → Int → Int → Int → Int → Int → Int → Int → Int → Int → Int → Int → Int → Option ((Unit) ⊕ (Int × Unit))) (fun _ _ _ _ _ _ _ _ _ _ _ _ _ _ _ _ _ _ _ _ _ _ _ _ _ _ _ _ _ _ _ _ _ _ _ _ _ _ _ _ _ => none) (fun _ ih => rheostatref04_against_l0r K ih) n
noncomputable def rheostatref04_against_l0u (K n : Nat) (t : rheostatref04_against_l0h.T) : Option ((Unit) ⊕ (Int × Unit)) :=
  let u1 := t.2
  let u2 := u1.2
  let u3 := u2.2
  let u4 := u3.2
  let u5 := u4.2
  let u6 := u5.2
  let u7 := u6.2
  let u8 := u7.2
  let u9 := u8.2
  let u10 := u9.2
  let u11 := u10.2
  let u12 := u11.2
  let u13 := u12.2
  let u14 := u13.2
  let u15 := u14.2
  let u16 := u15.2
  let u17 := u16.2
  let u18 := u17.2
  let u19 := u18.2
  let u20 := u19.2
  let u21 := u20.2
  let u22 := u21.2
  let u23 := u22.2
  let u24 := u23.2
  let u25 := u24.2
  let u26 := u25.2
  let u27 := u26.2
  let u28 := u27.2
  let u29 := u28.2
  let u30 := u29.2
  let u31 := u30.2
  let u32 := u31.2
  let u33 := u32.2
  let u34 := u33.2
  let u35 := u34.2
  let u36 := u35.2
  let u37 := u36.2
  let u38 := u37.2
  let u39 := u38.2
  let u40 := u39.2
  rheostatref04_against_l0 K n t.1 u1.1 u2.1 u3.1 u4.1 u5.1 u6.1 u7.1 u8.1 u9.1 u10.1 u11.1 u12.1 u13.1 u14.1 u15.1 u16.1 u17.1 u18.1 u19.1 u20.1 u21.1 u22.1 u23.1 u24.1 u25.1 u26.1 u27.1 u28.1 u29.1 u30.1 u31.1 u32.1 u33.1 u34.1 u35.1 u36.1 u37.1 u38.1 u39.1 u40.1
noncomputable def rheostatref04_against_l0o (K : Nat) : LO := loopLO rheostatref04_against_l0h rheostatref04_against_l0O fun t => rheostatref04_against_l0u K K t
noncomputable def rheostatref04_against_l0C : Code := bodyOf Try.f45
noncomputable def rheostatref04_against_l0B : Code := (findLoops 2 (loopsIn rheostatref04_against_l0C)).headD .skip
theorem rheostatref04_against_l0F : findLoops 2 (loopsIn rheostatref04_against_l0C) = [rheostatref04_against_l0B] := by kernel_rfl
theorem rheostatref04_against_l0q (K n : Nat) (t : rheostatref04_against_l0h.T) : exC (rheostatref04_against_e0 K) (hdl (rheostatref04_against_e0 K) 0) (45 :: []) rheostatref04_against_l0B (rheostatref04_against_l0h.put t) (fun s => (rheostatref04_against_l0h.take s).bind fun t => rheostatref04_against_l0u K n t) (fun id s => rheostatref04_against_l0O.get (some id) s) (fun s => rheostatref04_against_l0O.get none s) = rheostatref04_against_l0u K (n + 1) t := by kernel_rfl
noncomputable def rheostatref04_against_l0E (K : Nat) : LoopE Try.prog := ⟨[2, 45], rheostatref04_against_l0o K, Try.f45, rheostatref04_against_l0C, rheostatref04_against_l0B, ⟨2, 45, [], rfl, Try.func45, by kernel_rfl, rheostatref04_against_l0F⟩,
  loop_rule (F := fun n t => rheostatref04_against_l0u K n t) (rheostatref04_against_t0 K) (rheostatref04_against_i0 K) (draws (rheostatref04_against_t0 K)) 0 Try.func45 (c := rheostatref04_against_l0C) (by kernel_rfl) (body_in rheostatref04_against_l0F) (ctx' := []) (h := rheostatref04_against_l0h) (O := rheostatref04_against_l0O) (fun _ => rfl) (fun m t => rheostatref04_against_l0q K m t) K⟩
noncomputable def rheostatref04_against_e1 (K : Nat) : Env := ⟨tt, [], [], [([2, 45], rheostatref04_against_l0o K)], eqs⟩
theorem rheostatref04_against_t1 (K : Nat) : EnvT Try.prog (rheostatref04_against_e1 K) := envT_of tt_ok eqs_ok trivial
theorem rheostatref04_against_i1 (K : Nat) : EnvI Try.prog (rheostatref04_against_e1 K) := envI_of (es := [rheostatref04_against_l0E K]) trivial ⟨⟨rfl, rfl⟩, trivial⟩
noncomputable def rheostatref04_against_h : Sh := ⟨2, [(0, .ag [.i .i64, .i .i64, .i .i64, .i .i64, .i .i64, .i .i64, .i .i64, .i .i64, .i .i64, .i .i64, .i .i64, .i .i64, .i .i64, .i .i64, .i .i64, .i .i64, .i .i64, .i .i64, .i .i64, .i .i64]), (1, .ag [.i .i64, .i .i64, .i .i64, .i .i64, .i .i64, .i .i64, .i .i64, .i .i64, .i .i64, .i .i64, .i .i64, .i .i64, .i .i64, .i .i64, .i .i64, .i .i64, .i .i64, .i .i64, .i .i64, .i .i64])], [], []⟩
noncomputable def rheostatref04_against_r : Sh := ⟨1, [(0, .sc (.i .i64))], [], []⟩
noncomputable def rheostatref04_against_g (K : Nat) (a_0_0 : Int) (a_0_1 : Int) (a_0_2 : Int) (a_0_3 : Int) (a_0_4 : Int) (a_0_5 : Int) (a_0_6 : Int) (a_0_7 : Int) (a_0_8 : Int) (a_0_9 : Int) (a_0_10 : Int) (a_0_11 : Int) (a_0_12 : Int) (a_0_13 : Int) (a_0_14 : Int) (a_0_15 : Int) (a_0_16 : Int) (a_0_17 : Int) (a_0_18 : Int) (a_0_19 : Int) (b_1_0 : Int) (b_1_1 : Int) (b_1_2 : Int) (b_1_3 : Int) (b_1_4 : Int) (b_1_5 : Int) (b_1_6 : Int) (b_1_7 : Int) (b_1_8 : Int) (b_1_9 : Int) (b_1_10 : Int) (b_1_11 : Int) (b_1_12 : Int) (b_1_13 : Int) (b_1_14 : Int) (b_1_15 : Int) (b_1_16 : Int) (b_1_17 : Int) (b_1_18 : Int) (b_1_19 : Int) : Option (Int × Unit) :=
  ((rheostatref04_against_l0 K K 19 a_0_0 a_0_1 a_0_2 a_0_3 a_0_4 a_0_5 a_0_6 a_0_7 a_0_8 a_0_9 a_0_10 a_0_11 a_0_12 a_0_13 a_0_14 a_0_15 a_0_16 a_0_17 a_0_18 a_0_19 b_1_0 b_1_1 b_1_2 b_1_3 b_1_4 b_1_5 b_1_6 b_1_7 b_1_8 b_1_9 b_1_10 b_1_11 b_1_12 b_1_13 b_1_14 b_1_15 b_1_16 b_1_17 b_1_18 b_1_19).bind fun q1 => (Sum.elim (fun q2 => (some (0, ()))) (fun q3 => (some (q3.1, ()))) q1))
noncomputable def rheostatref04_against_gu (K : Nat) (t : rheostatref04_against_h.T) : Option (Int × Unit) :=
  let u1 := t.2
  let u2 := u1.2
  let u3 := u2.2
  let u4 := u3.2
  let u5 := u4.2
  let u6 := u5.2
  let u7 := u6.2
  let u8 := u7.2
  let u9 := u8.2
  let u10 := u9.2
  let u11 := u10.2
  let u12 := u11.2
  let u13 := u12.2
  let u14 := u13.2
  let u15 := u14.2
  let u16 := u15.2
  let u17 := u16.2
  let u18 := u17.2
  let u19 := u18.2
  let u20 := u19.2
  let u21 := u20.2
  let u22 := u21.2
  let u23 := u22.2
  let u24 := u23.2
  let u25 := u24.2
  let u26 := u25.2
  let u27 := u26.2
  let u28 := u27.2
  let u29 := u28.2
  let u30 := u29.2
  let u31 := u30.2
  let u32 := u31.2
  let u33 := u32.2
  let u34 := u33.2
  let u35 := u34.2
  let u36 := u35.2
  let u37 := u36.2
  let u38 := u37.2
  let u39 := u38.2
  rheostatref04_against_g K t.1 u1.1 u2.1 u3.1 u4.1 u5.1 u6.1 u7.1 u8.1 u9.1 u10.1 u11.1 u12.1 u13.1 u14.1 u15.1 u16.1 u17.1 u18.1 u19.1 u20.1 u21.1 u22.1 u23.1 u24.1 u25.1 u26.1 u27.1 u28.1 u29.1 u30.1 u31.1 u32.1 u33.1 u34.1 u35.1 u36.1 u37.1 u38.1 u39.1
noncomputable def rheostatref04_against_o (K : Nat) : FO := fnFO rheostatref04_against_h rheostatref04_against_r fun t => rheostatref04_against_gu K t
theorem rheostatref04_against_q (K : Nat) (t : rheostatref04_against_h.T) : exFn (rheostatref04_against_e1 K) (hdl (rheostatref04_against_e1 K) 0) [45] Try.f45 (slVals (rheostatref04_against_h.put t).fr.sl) ⟨⟨0, []⟩, [], (rheostatref04_against_h.put t).mem⟩ (takeRes rheostatref04_against_r) = rheostatref04_against_gu K t := by kernel_rfl
theorem rheostatref04_against_ok (K : Nat) : FOok Try.prog 45 (rheostatref04_against_o K) :=
  fn_rule (rheostatref04_against_t1 K) (rheostatref04_against_i1 K) (draws (rheostatref04_against_t1 K)) 0 Try.func45 (fnB_ok Try.func45 (by kernel_rfl)) rfl rfl (allOwn_ok false (by kernel_rfl)) rfl (allOwn_ok true (by kernel_rfl)) (fun t => rheostatref04_against_q K t)
/-! rheostatref04_less -/
noncomputable def rheostatref04_less_e0 (K : Nat) : Env := ⟨tt, [], [], [], eqs⟩
theorem rheostatref04_less_t0 (K : Nat) : EnvT Try.prog (rheostatref04_less_e0 K) := envT_of tt_ok eqs_ok trivial
theorem rheostatref04_less_i0 (K : Nat) : EnvI Try.prog (rheostatref04_less_e0 K) := envI_of (es := []) trivial trivial
noncomputable def rheostatref04_less_l0h : Sh := ⟨29, [(2, .sc (.lit (.p 0 0 0 []))), (3, .sc (.lit (.p 1 0 0 []))), (4, .sc (.lit (.p 2 0 0 []))), (5, .sc (.i .i64)), (6, .sc (.i .i64))], [(0, [])], [(true, false, [.i .i64, .i .i64, .i .i64, .i .i64, .i .i64, .i .i64, .i .i64, .i .i64, .i .i64, .i .i64, .i .i64, .i .i64, .i .i64, .i .i64, .i .i64, .i .i64, .i .i64, .i .i64, .i .i64, .i .i64]), (true, false, [.i .i64, .i .i64, .i .i64, .i .i64, .i .i64, .i .i64, .i .i64, .i .i64, .i .i64, .i .i64, .i .i64, .i .i64, .i .i64, .i .i64, .i .i64, .i .i64, .i .i64, .i .i64, .i .i64, .i .i64]), (true, false, [.i .i64, .i .i64, .i .i64, .i .i64, .i .i64, .i .i64, .i .i64, .i .i64, .i .i64, .i .i64, .i .i64, .i .i64, .i .i64, .i .i64, .i .i64, .i .i64, .i .i64, .i .i64, .i .i64, .i .i64])]⟩
noncomputable def rheostatref04_less_l0x0 : Sh := ⟨29, [(2, .sc (.lit (.p 0 0 0 []))), (4, .sc (.lit (.p 1 0 0 [])))], [(0, [])], [(true, false, [.i .i64, .i .i64, .i .i64, .i .i64, .i .i64, .i .i64, .i .i64, .i .i64, .i .i64, .i .i64, .i .i64, .i .i64, .i .i64, .i .i64, .i .i64, .i .i64, .i .i64, .i .i64, .i .i64, .i .i64]), (true, false, [.i .i64, .i .i64, .i .i64, .i .i64, .i .i64, .i .i64, .i .i64, .i .i64, .i .i64, .i .i64, .i .i64, .i .i64, .i .i64, .i .i64, .i .i64, .i .i64, .i .i64, .i .i64, .i .i64, .i .i64])]⟩
noncomputable def rheostatref04_less_l0O : OutI (Int × Int × Int × Int × Int × Int × Int × Int × Int × Int × Int × Int × Int × Int × Int × Int × Int × Int × Int × Int × Int × Int × Int × Int × Int × Int × Int × Int × Int × Int × Int × Int × Int × Int × Int × Int × Int × Int × Int × Int × Unit) := (OutI.exit 0 rheostatref04_less_l0x0)
noncomputable def rheostatref04_less_l0r (K : Nat) (rec : Int → Int → Int → Int → Int → Int → Int → Int → Int → Int → Int → Int → Int → Int → Int → Int → Int → Int → Int → Int → Int → Int → Int → Int → Int → Int → Int → Int → Int → Int → Int → Int → Int → Int → Int → Int → Int → Int → Int → Int → Int → Int → Int → Int → Int → Int → Int → Int → Int → Int → Int → Int → Int → Int → Int → Int → Int → Int → Int → Int → Int → Int → Option (Int × Int × Int × Int × Int × Int × Int × Int × Int × Int × Int × Int × Int × Int × Int × Int × Int × Int × Int × Int × Int × Int × Int × Int × Int × Int × Int × Int × Int × Int × Int × Int × Int × Int × Int × Int × Int × Int × Int × Int × Unit)) (c_5 : Int) (i_6 : Int) (m0_0 : Int) (m0_1 : Int) (m0_2 : Int) (m0_3 : Int) (m0_4 : Int) (m0_5 : Int) (m0_6 : Int) (m0_7 : Int) (m0_8 : Int) (m0_9 : Int) (m0_10 : Int) (m0_11 : Int) (m0_12 : Int) (m0_13 : Int) (m0_14 : Int) (m0_15 : Int) (m0_16 : Int) (m0_17 : Int) (m0_18 : Int) (m0_19 : Int) (m1_0 : Int) (m1_1 : Int) (m1_2 : Int) (m1_3 : Int) (m1_4 : Int) (m1_5 : Int) (m1_6 : Int) (m1_7 : Int) (m1_8 : Int) (m1_9 : Int) (m1_10 : Int) (m1_11 : Int) (m1_12 : Int) (m1_13 : Int) (m1_14 : Int) (m1_15 : Int) (m1_16 : Int) (m1_17 : Int) (m1_18 : Int) (m1_19 : Int) (m2_0 : Int) (m2_1 : Int) (m2_2 : Int) (m2_3 : Int) (m2_4 : Int) (m2_5 : Int) (m2_6 : Int) (m2_7 : Int) (m2_8 : Int) (m2_9 : Int) (m2_10 : Int) (m2_11 : Int) (m2_12 : Int) (m2_13 : Int) (m2_14 : Int) (m2_15 : Int) (m2_16 : Int) (m2_17 : Int) (m2_18 : Int) (m2_19 : Int) : Option (Int × Int × Int × Int × Int × Int × Int × Int × Int × Int × Int × Int × Int × Int × Int × Int × Int × Int × Int × Int × Int × Int × Int × Int × Int × Int × Int × Int × Int × Int × Int × Int × Int × Int × Int × Int × Int × Int × Int × Int × Unit) :=
  (bif (decide (i_6 < 20)) then (bif ((decide (0 ≤ i_6)) && (decide (i_6 < 20))) then (bif ((decide (0 ≤ i_6)) && (decide (i_6 < 20))) then (bif (decide ((wi64 ((wi64 ((selI [m0_0, m0_1, m0_2, m0_3, m0_4, m0_5, m0_6, m0_7, m0_8, m0_9, m0_10, m0_11, m0_12, m0_13, m0_14, m0_15, m0_16, m0_17, m0_18, m0_19] (Int.toNat i_6)) - (selI [m1_0, m1_1, m1_2, m1_3, m1_4, m1_5, m1_6, m1_7, m1_8, m1_9, m1_10, m1_11, m1_12, m1_13, m1_14, m1_15, m1_16, m1_17, m1_18, m1_19] (Int.toNat i_6)))) - c_5)) < 0)) then (bif ((decide (0 ≤ i_6)) && (decide (i_6 < 20))) then ((fun (q1 : Int) => (rec 1 (wi64 (i_6 + 1)) (bif (Nat.beq (Int.toNat i_6) 0) then q1 else m0_0) (bif (Nat.beq (Int.toNat i_6) 1) then q1 else m0_1) (bif (Nat.beq (Int.toNat i_6) 2) then q1 else m0_2) (bif (Nat.beq (Int.toNat i_6) 3) then q1 else m0_3) (bif (Nat.beq (Int.toNat i_6) 4) then q1 else m0_4) (bif (Nat.beq (Int.toNat i_6) 5) then q1 else m0_5) (bif (Nat.beq (Int.toNat i_6) 6) then q1 else m0_6) (bif (Nat.beq (Int.toNat i_6) 7) then q1 else m0_7) (bif (Nat.beq (Int.toNat i_6) 8) then q1 else m0_8) (bif (Nat.beq (Int.toNat i_6) 9) then q1 else m0_9) (bif (Nat.beq (Int.toNat i_6) 10) then q1 else m0_10) (bif (Nat.beq (Int.toNat i_6) 11) then q1 else m0_11) (bif (Nat.beq (Int.toNat i_6) 12) then q1 else m0_12) (bif (Nat.beq (Int.toNat i_6) 13) then q1 else m0_13) (bif (Nat.beq (Int.toNat i_6) 14) then q1 else m0_14) (bif (Nat.beq (Int.toNat i_6) 15) then q1 else m0_15) (bif (Nat.beq (Int.toNat i_6) 16) then q1 else m0_16) (bif (Nat.beq (Int.toNat i_6) 17) then q1 else m0_17) (bif (Nat.beq (Int.toNat i_6) 18) then q1 else m0_18) (bif (Nat.beq (Int.toNat i_6) 19) then q1 else m0_19) m1_0 m1_1 m1_2 m1_3 m1_4 m1_5 m1_6 m1_7 m1_8 m1_9 m1_10 m1_11 m1_12 m1_13 m1_14 m1_15 m1_16 m1_17 m1_18 m1_19 m2_0 m2_1 m2_2 m2_3 m2_4 m2_5 m2_6 m2_7 m2_8 m2_9 m2_10 m2_11 m2_12 m2_13 m2_14 m2_15 m2_16 m2_17 m2_18 m2_19)) ((wi64 ((wi64 ((wi64 ((selI [m0_0, m0_1, m0_2, m0_3, m0_4, m0_5, m0_6, m0_7, m0_8, m0_9, m0_10, m0_11, m0_12, m0_13, m0_14, m0_15, m0_16, m0_17, m0_18, m0_19] (Int.toNat i_6)) - (selI [m1_0, m1_1, m1_2, m1_3, m1_4, m1_5, m1_6, m1_7, m1_8, m1_9, m1_10, m1_11, m1_12, m1_13, m1_14, m1_15, m1_16, m1_17, m1_18, m1_19] (Int.toNat i_6)))) - c_5)) + 256)))) else none) else (bif ((decide (0 ≤ i_6)) && (decide (i_6 < 20))) then ((fun (q2 : Int) => (rec 0 (wi64 (i_6 + 1)) (bif (Nat.beq (Int.toNat i_6) 0) then q2 else m0_0) (bif (Nat.beq (Int.toNat i_6) 1) then q2 else m0_1) (bif (Nat.beq (Int.toNat i_6) 2) then q2 else m0_2) (bif (Nat.beq (Int.toNat i_6) 3) then q2 else m0_3) (bif (Nat.beq (Int.toNat i_6) 4) then q2 else m0_4) (bif (Nat.beq (Int.toNat i_6) 5) then q2 else m0_5) (bif (Nat.beq (Int.toNat i_6) 6) then q2 else m0_6) (bif (Nat.beq (Int.toNat i_6) 7) then q2 else m0_7) (bif (Nat.beq (Int.toNat i_6) 8) then q2 else m0_8) (bif (Nat.beq (Int.toNat i_6) 9) then q2 else m0_9) (bif (Nat.beq (Int.toNat i_6) 10) then q2 else m0_10) (bif (Nat.beq (Int.toNat i_6) 11) then q2 else m0_11) (bif (Nat.beq (Int.toNat i_6) 12) then q2 else m0_12) (bif (Nat.beq (Int.toNat i_6) 13) then q2 else m0_13) (bif (Nat.beq (Int.toNat i_6) 14) then q2 else m0_14) (bif (Nat.beq (Int.toNat i_6) 15) then q2 else m0_15) (bif (Nat.beq (Int.toNat i_6) 16) then q2 else m0_16) (bif (Nat.beq (Int.toNat i_6) 17) then q2 else m0_17) (bif (Nat.beq (Int.toNat i_6) 18) then q2 else m0_18) (bif (Nat.beq (Int.toNat i_6) 19) then q2 else m0_19) m1_0 m1_1 m1_2 m1_3 m1_4 m1_5 m1_6 m1_7 m1_8 m1_9 m1_10 m1_11 m1_12 m1_13 m1_14 m1_15 m1_16 m1_17 m1_18 m1_19 m2_0 m2_1 m2_2 m2_3 m2_4 m2_5 m2_6 m2_7 m2_8 m2_9 m2_10 m2_11 m2_12 m2_13 m2_14 m2_15 m2_16 m2_17 m2_18 m2_19)) ((wi64 ((wi64 ((selI [m0_0, m0_1, m0_2, m0_3, m0_4, m0_5, m0_6, m0_7, m0_8, m0_9, m0_10, m0_11, m0_12, m0_13, m0_14, m0_15, m0_16, m0_17, m0_18, m0_19] (Int.toNat i_6)) - (selI [m1_0, m1_1, m1_2, m1_3, m1_4, m1_5, m1_6, m1_7, m1_8, m1_9, m1_10, m1_11, m1_12, m1_13, m1_14, m1_15, m1_16, m1_17, m1_18, m1_19] (Int.toNat i_6)))) - c_5)))) else none)) else none) else none) else (some (m0_0, m0_1, m0_2, m0_3, m0_4, m0_5, m0_6, m0_7, m0_8, m0_9, m0_10, m0_11, m0_12, m0_13, m0_14, m0_15, m0_16, m0_17, m0_18, m0_19, m2_0, m2_1, m2_2, m2_3, m2_4, m2_5, m2_6, m2_7, m2_8, m2_9, m2_10, m2_11, m2_12, m2_13, m2_14, m2_15, m2_16, m2_17, m2_18, m2_19, ())))
noncomputable def rheostatref04_less_l0 (K n : Nat) : Int → Int → Int → Int → Int → Int → Int → Int → Int → Int → Int → Int → Int → Int → Int → Int → Int → Int → Int → Int → Int → Int → Int → Int → Int → Int → Int → Int → Int → Int → Int → Int → Int → Int → Int → Int → Int → Int → Int → Int → Int → Int → Int → Int → Int → Int → Int → Int → Int → Int → Int → Int → Int → Int → Int → Int → Int → Int → Int → Int → Int → Int → Option (Int × Int × Int × Int × Int × Int × Int × Int × Int × Int × Int × Int × Int × Int × Int × Int × Int × Int × Int × Int × Int × Int × Int × Int × Int × Int × Int × Int × Int × Int × Int × Int × Int × Int × Int × Int × Int × Int × Int × Int × Unit) := Nat.rec (motive := fun _ => Int → Int → Int → Int → Int → Int → Int → Int → Int → Int → Int → Int → Int → Int → Int → Int → Int → Int → Int → Int → Int → Int → Int → Int → Int → Int → Int → Int → Int → Int → Int → Int → Int → Int → Int → Int → Int → Int → Int → Int → Int → Int → Int → Int → Int → Int → Int → Int → Int → Int → Int → Int → Int → Int → Int → Int → Int → Int → Int → Int → Int → Int → Option (Int × Int × Int × Int × Int × Int × Int × Int × Int × Int × Int × Int × Int × Int × Int × Int × Int × Int × Int × Int × Int × Int × Int × Int × Int × Int × Int × Int × Int × Int × Int × Int × Int × Int × Int × Int × Int × Int × Int × Int × Unit)) (fun _ _ _ _ _ _ _ _ _ _ _ _ _ _ _ _ _ _ _ _ _ _ _ _ _ _ _ _ _ _ _ _ _ _ _ _ _ _ _ _ _ _ _ _ _ _ _ _ _ _ _ _ _ _ _ _ _ _ _ _ _ _ => none) (fun _ ih => rheostatref04_less_l0r K ih) n
noncomputable def rheostatref04_less_l0u (K n : Nat) (t : rheostatref04_less_l0h.T) : Option (Int × Int × Int × Int × Int × Int × Int × Int × Int × Int × Int × Int × Int × Int × Int × Int × Int × Int × Int × Int × Int × Int × Int × Int × Int × Int × Int × Int × Int × Int × Int × Int × Int × Int × Int × Int × Int × Int × Int × Int × Unit) :=
  let u1 := t.2
  let u2 := u1.2
  let u3 := u2.2
  let u4 := u3.2
  let u5 := u4.2
  let u6 := u5.2
  let u7 := u6.2
  let u8 := u7.2
  let u9 := u8.2
  let u10 := u9.2
  let u11 := u10.2
  let u12 := u11.2
  let u13 := u12.2
  let u14 := u13.2
  let u15 := u14.2
  let u16 := u15.2
  let u17 := u16.2
  let u18 := u17.2
  let u19 := u18.2
  let u20 := u19.2
  let u21 := u20.2
  let u22 := u21.2
  let u23 := u22.2
  let u24 := u23.2
  let u25 := u24.2
  let u26 := u25.2
  let u27 := u26.2
  let u28 := u27.2
  let u29 := u28.2
  let u30 := u29.2
  let u31 := u30.2
  let u32 := u31.2
  let u33 := u32.2
  let u34 := u33.2
  let u35 := u34.2
  let u36 := u35.2
  let u37 := u36.2
  let u38 := u37.2
  let u39 := u38.2
  let u40 := u39.2
  let u41 := u40.2
  let u42 := u41.2
  let u43 := u42.2
  let u44 := u43.2
  let u45 := u44.2
  let u46 := u45.2
  let u47 := u46.2
  let u48 := u47.2
  let u49 := u48.2
  let u50 := u49.2
  let u51 := u50.2
  let u52 := u51.2
  let u53 := u52.2
  let u54 := u53.2
  let u55 := u54.2
  let u56 := u55.2
  let u57 := u56.2
  let u58 := u57.2
  let u59 := u58.2
  let u60 := u59.2
  let u61 := u60.2
  rheostatref04_less_l0 K n t.1 u1.1 u2.1 u3.1 u4.1 u5.1 u6.1 u7.1 u8.1 u9.1 u10.1 u11.1 u12.1 u13.1 u14.1 u15.1 u16.1 u17.1 u18.1 u19.1 u20.1 u21.1 u22.1 u23.1 u24.1 u25.1 u26.1 u27.1 u28.1 u29.1 u30.1 u31.1 u32.1 u33.1 u34.1 u35.1 u36.1 u37.1 u38.1 u39.1 u40.1 u41.1 u42.1 u43.1 u44.1 u45.1 u46.1 u47.1 u48.1 u49.1 u50.1 u51.1 u52.1 u53.1 u54.1 u55.1 u56.1 u57.1 u58.1 u59.1 u60.1 u61.1
noncomputable def rheostatref04_less_l0o (K : Nat) : LO := loopLO rheostatref04_less_l0h rheostatref04_less_l0O fun t => rheostatref04_less_l0u K K t
noncomputable def rheostatref04_less_l0C : Code := bodyOf Try.f57
noncomputable def rheostatref04_less_l0B : Code := (findLoops 3 (loopsIn rheostatref04_less_l0C)).headD .skip
theorem rheostatref04_less_l0F : findLoops 3 (loopsIn rheostatref04_less_l0C) = [rheostatref04_less_l0B] := by kernel_rfl
theorem rheostatref04_less_l0q (K n : Nat) (t : rheostatref04_less_l0h.T) : exC (rheostatref04_less_e0 K) (hdl (rheostatref04_less_e0 K) 0) (57 :: []) rheostatref04_less_l0B (rheostatref04_less_l0h.put t) (fun s => (rheostatref04_less_l0h.take s).bind fun t => rheostatref04_less_l0u K n t) (fun id s => rheostatref04_less_l0O.get (some id) s) (fun s => rheostatref04_less_l0O.get none s) = rheostatref04_less_l0u K (n + 1) t := by kernel_rfl
noncomputable def rheostatref04_less_l0E (K : Nat) : LoopE Try.prog := ⟨[3, 57], rheostatref04_less_l0o K, Try.f57, rheostatref04_less_l0C, rheostatref04_less_l0B, ⟨3, 57, [], rfl, Try.func57, by kernel_rfl, rheostatref04_less_l0F⟩,
  loop_rule (F := fun n t => rheostatref04_less_l0u K n t) (rheostatref04_less_t0 K) (rheostatref04_less_i0 K) (draws (rheostatref04_less_t0 K)) 0 Try.func57 (c := rheostatref04_less_l0C) (by kernel_rfl) (body_in rheostatref04_less_l0F) (ctx' := []) (h := rheostatref04_less_l0h) (O := rheostatref04_less_l0O) (fun _ => rfl) (fun m t => rheostatref04_less_l0q K m t) K⟩
noncomputable def rheostatref04_less_e1 (K : Nat) : Env := ⟨tt, [], [], [([3, 57], rheostatref04_less_l0o K)], eqs⟩
theorem rheostatref04_less_t1 (K : Nat) : EnvT Try.prog (rheostatref04_less_e1 K) := envT_of tt_ok eqs_ok trivial
theorem rheostatref04_less_i1 (K : Nat) : EnvI Try.prog (rheostatref04_less_e1 K) := envI_of (es := [rheostatref04_less_l0E K]) trivial ⟨⟨rfl, rfl⟩, trivial⟩
noncomputable def rheostatref04_less_h : Sh := ⟨2, [(0, .ag [.i .i64, .i .i64, .i .i64, .i .i64, .i .i64, .i .i64, .i .i64, .i .i64, .i .i64, .i .i64, .i .i64, .i .i64, .i .i64, .i .i64, .i .i64, .i .i64, .i .i64, .i .i64, .i .i64, .i .i64]), (1, .ag [.i .i64, .i .i64, .i .i64, .i .i64, .i .i64, .i .i64, .i .i64, .i .i64, .i .i64, .i .i64, .i .i64, .i .i64, .i .i64, .i .i64, .i .i64, .i .i64, .i .i64, .i .i64, .i .i64, .i .i64])], [], []⟩
noncomputable def rheostatref04_less_r : Sh := ⟨1, [(0, .ag [.i .i64, .i .i64, .i .i64, .i .i64, .i .i64, .i .i64, .i .i64, .i .i64, .i .i64, .i .i64, .i .i64, .i .i64, .i .i64, .i .i64, .i .i64, .i .i64, .i .i64, .i .i64, .i .i64, .i .i64])], [], []⟩
noncomputable def rheostatref04_less_g (K : Nat) (a_0_0 : Int) (a_0_1 : Int) (a_0_2 : Int) (a_0_3 : Int) (a_0_4 : Int) (a_0_5 : Int) (a_0_6 : Int) (a_0_7 : Int) (a_0_8 : Int) (a_0_9 : Int) (a_0_10 : Int) (a_0_11 : Int) (a_0_12 : Int) (a_0_13 : Int) (a_0_14 : Int) (a_0_15 : Int) (a_0_16 : Int) (a_0_17 : Int) (a_0_18 : Int) (a_0_19 : Int) (b_1_0 : Int) (b_1_1 : Int) (b_1_2 : Int) (b_1_3 : Int) (b_1_4 : Int) (b_1_5 : Int) (b_1_6 : Int) (b_1_7 : Int) (b_1_8 : Int) (b_1_9 : Int) (b_1_10 : Int) (b_1_11 : Int) (b_1_12 : Int) (b_1_13 : Int) (b_1_14 : Int) (b_1_15 : Int) (b_1_16 : Int) (b_1_17 : Int) (b_1_18 : Int) (b_1_19 : Int) : Option (Int × Int × Int × Int × Int × Int × Int × Int × Int × Int × Int × Int × Int × Int × Int × Int × Int × Int × Int × Int × Unit) :=
  ((rheostatref04_less_l0 K K 0 0 a_0_0 a_0_1 a_0_2 a_0_3 a_0_4 a_0_5 a_0_6 a_0_7 a_0_8 a_0_9 a_0_10 a_0_11 a_0_12 a_0_13 a_0_14 a_0_15 a_0_16 a_0_17 a_0_18 a_0_19 b_1_0 b_1_1 b_1_2 b_1_3 b_1_4 b_1_5 b_1_6 b_1_7 b_1_8 b_1_9 b_1_10 b_1_11 b_1_12 b_1_13 b_1_14 b_1_15 b_1_16 b_1_17 b_1_18 b_1_19 0 0 0 0 0 0 0 0 0 0 0 0 0 0 0 0 0 0 0 0).bind fun q1 => (some (q1.1, q1.2.1, q1.2.2.1, q1.2.2.2.1, q1.2.2.2.2.1, q1.2.2.2.2.2.1, q1.2.2.2.2.2.2.1, q1.2.2.2.2.2.2.2.1, q1.2.2.2.2.2.2.2.2.1, q1.2.2.2.2.2.2.2.2.2.1, q1.2.2.2.2.2.2.2.2.2.2.1, q1.2.2.2.2.2.2.2.2.2.2.2.1, q1.2.2.2.2.2.2.2.2.2.2.2.2.1, q1.2.2.2.2.2.2.2.2.2.2.2.2.2.1, q1.2.2.2.2.2.2.2.2.2.2.2.2.2.2.1, q1.2.2.2.2.2.2.2.2.2.2.2.2.2.2.2.1, q1.2.2.2.2.2.2.2.2.2.2.2.2.2.2.2.2.1, q1.2.2.2.2.2.2.2.2.2.2.2.2.2.2.2.2.2.1, q1.2.2.2.2.2.2.2.2.2.2.2.2.2.2.2.2.2.2.1, q1.2.2.2.2.2.2.2.2.2.2.2.2.2.2.2.2.2.2.2.1, ())))
noncomputable def rheostatref04_less_gu (K : Nat) (t : rheostatref04_less_h.T) : Option (Int × Int × Int × Int × Int × Int × Int × Int × Int × Int × Int × Int × Int × Int × Int × Int × Int × Int × Int × Int × Unit) :=
  let u1 := t.2
  let u2 := u1.2
  let u3 := u2.2
  let u4 := u3.2
  let u5 := u4.2
  let u6 := u5.2
  let u7 := u6.2
  let u8 := u7.2
  let u9 := u8.2
  let u10 := u9.2
  let u11 := u10.2
  let u12 := u11.2
  let u13 := u12.2
  let u14 := u13.2
  let u15 := u14.2
  let u16 := u15.2
  let u17 := u16.2
  let u18 := u17.2
  let u19 := u18.2
  let u20 := u19.2
  let u21 := u20.2
  let u22 := u21.2
  let u23 := u22.2
  let u24 := u23.2
  let u25 := u24.2
  let u26 := u25.2
  let u27 := u26.2
  let u28 := u27.2
  let u29 := u28.2
  let u30 := u29.2
  let u31 := u30.2
  let u32 := u31.2
  let u33 := u32.2
  let u34 := u33.2
  let u35 := u34.2
  let u36 := u35.2
  let u37 := u36.2
  let u38 := u37.2
  let u39 := u38.2
  rheostatref04_less_g K t.1 u1.1 u2.1 u3.1 u4.1 u5.1 u6.1 u7.1 u8.1 u9.1 u10.1 u11.1 u12.1 u13.1 u14.1 u15.1 u16.1 u17.1 u18.1 u19.1 u20.1 u21.1 u22.1 u23.1 u24.1 u25.1 u26.1 u27.1 u28.1 u29.1 u30.1 u31.1 u32.1 u33.1 u34.1 u35.1 u36.1 u37.1 u38.1 u39.1
noncomputable def rheostatref04_less_o (K : Nat) : FO := fnFO rheostatref04_less_h rheostatref04_less_r fun t => rheostatref04_less_gu K t
theorem rheostatref04_less_q (K : Nat) (t : rheostatref04_less_h.T) : exFn (rheostatref04_less_e1 K) (hdl (rheostatref04_less_e1 K) 0) [57] Try.f57 (slVals (rheostatref04_less_h.put t).fr.sl) ⟨⟨0, []⟩, [], (rheostatref04_less_h.put t).mem⟩ (takeRes rheostatref04_less_r) = rheostatref04_less_gu K t := by kernel_rfl
theorem rheostatref04_less_ok (K : Nat) : FOok Try.prog 57 (rheostatref04_less_o K) :=
  fn_rule (rheostatref04_less_t1 K) (rheostatref04_less_i1 K) (draws (rheostatref04_less_t1 K)) 0 Try.func57 (fnB_ok Try.func57 (by kernel_rfl)) rfl rfl (allOwn_ok false (by kernel_rfl)) rfl (allOwn_ok true (by kernel_rfl)) (fun t => rheostatref04_less_q K t)
/-! rheostatref04_by -/
noncomputable def rheostatref04_by_e0 (K : Nat) : Env := ⟨tt, [(45, rheostatref04_against_o K), (57, rheostatref04_less_o K)], [], [], eqs⟩
theorem rheostatref04_by_t0 (K : Nat) : EnvT Try.prog (rheostatref04_by_e0 K) := envT_of tt_ok eqs_ok ⟨rheostatref04_against_ok K, rheostatref04_less_ok K, trivial⟩
theorem rheostatref04_by_i0 (K : Nat) : EnvI Try.prog (rheostatref04_by_e0 K) := envI_of (es := []) trivial trivial
noncomputable def rheostatref04_by_l0h : Sh := ⟨60, [(2, .sc (.lit (.p 0 0 0 []))), (4, .sc (.lit (.p 1 0 0 []))), (5, .sc (.lit (.p 2 0 0 []))), (6, .sc (.lit (.p 3 0 0 []))), (7, .sc (.lit (.p 4 0 0 []))), (8, .sc (.lit (.p 5 0 0 []))), (9, .sc (.i .u64)), (10, .sc (.i .i64))], [(0, [])], [(true, false, [.i .i64, .i .i64, .i .i64, .i .i64, .i .i64, .i .i64, .i .i64, .i .i64, .i .i64, .i .i64, .i .i64, .i .i64, .i .i64, .i .i64, .i .i64, .i .i64, .i .i64, .i .i64, .i .i64, .i .i64]), (true, false, [.i .i64, .i .i64, .i .i64, .i .i64, .i .i64, .i .i64, .i .i64, .i .i64, .i .i64, .i .i64, .i .i64, .i .i64, .i .i64, .i .i64, .i .i64, .i .i64, .i .i64, .i .i64, .i .i64, .i .i64]), (true, false, [.i .i64, .i .i64, .i .i64, .i .i64, .i .i64, .i .i64, .i .i64, .i .i64, .i .i64, .i .i64, .i .i64, .i .i64, .i .i64, .i .i64, .i .i64, .i .i64, .i .i64, .i .i64, .i .i64, .i .i64]), (true, false, [.i .i64, .i .i64, .i .i64, .i .i64, .i .i64, .i .i64, .i .i64, .i .i64, .i .i64, .i .i64, .i .i64, .i .i64, .i .i64, .i .i64, .i .i64, .i .i64, .i .i64, .i .i64, .i .i64, .i .i64]), (true, false, [.i .i64, .i .i64, .i .i64, .i .i64, .i .i64, .i .i64, .i .i64, .i .i64, .i .i64, .i .i64, .i .i64, .i .i64, .i .i64, .i .i64, .i .i64, .i .i64, .i .i64, .i .i64, .i .i64, .i .i64]), (true, false, [.i .i64, .i .i64, .i .i64, .i .i64, .i .i64, .i .i64, .i .i64, .i .i64, .i .i64, .i .i64, .i .i64, .i .i64, .i .i64, .i .i64, .i .i64, .i .i64, .i .i64, .i .i64, .i .i64, .i .i64])]⟩
noncomputable def rheostatref04_by_l0x0 : Sh := ⟨60, [(2, .sc (.lit (.p 0 0 0 []))), (4, .sc (.lit (.p 1 0 0 []))), (5, .sc (.lit (.p 2 0 0 []))), (6, .sc (.lit (.p 3 0 0 []))), (7, .sc (.lit (.p 4 0 0 []))), (8, .sc (.lit (.p 5 0 0 [])))], [(0, [])], [(true, false, [.i .i64, .i .i64, .i .i64, .i .i64, .i .i64, .i .i64, .i .i64, .i .i64, .i .i64, .i .i64, .i .i64, .i .i64, .i .i64, .i .i64, .i .i64, .i .i64, .i .i64, .i .i64, .i .i64, .i .i64]), (true, false, [.i .i64, .i .i64, .i .i64, .i .i64, .i .i64, .i .i64, .i .i64, .i .i64, .i .i64, .i .i64, .i .i64, .i .i64, .i .i64, .i .i64, .i .i64, .i .i64, .i .i64, .i .i64, .i .i64, .i .i64]), (true, false, [.i .i64, .i .i64, .i .i64, .i .i64, .i .i64, .i .i64, .i .i64, .i .i64, .i .i64, .i .i64, .i .i64, .i .i64, .i .i64, .i .i64, .i .i64, .i .i64, .i .i64, .i .i64, .i .i64, .i .i64]), (true, false, [.i .i64, .i .i64, .i .i64, .i .i64, .i .i64, .i .i64, .i .i64, .i .i64, .i .i64, .i .i64, .i .i64, .i .i64, .i .i64, .i .i64, .i .i64, .i .i64, .i .i64, .i .i64, .i .i64, .i .i64]), (true, false, [.i .i64, .i .i64, .i .i64, .i .i64, .i .i64, .i .i64, .i .i64, .i .i64, .i .i64, .i .i64, .i .i64, .i .i64, .i .i64, .i .i64, .i .i64, .i .i64, .i .i64, .i .i64, .i .i64, .i .i64]), (true, false, [.i .i64, .i .i64, .i .i64, .i .i64, .i .i64, .i .i64, .i .i64, .i .i64, .i .i64, .i .i64, .i .i64, .i .i64, .i .i64, .i .i64, .i .i64, .i .i64, .i .i64, .i .i64, .i .i64, .i .i64])]⟩
noncomputable def rheostatref04_by_l0O : OutI (Int × Int × Int × Int × Int × Int × Int × Int × Int × Int × Int × Int × Int × Int × Int × Int × Int × Int × Int × Int × Int × Int × Int × Int × Int × Int × Int × Int × Int × Int × Int × Int × Int × Int × Int × Int × Int × Int × Int × Int × Int × Int × Int × Int × Int × Int × Int × Int × Int × Int × Int × Int × Int × Int × Int × Int × Int × Int × Int × Int × Int × Int × Int × Int × Int × Int × Int × Int × Int × Int × Int × Int × Int × Int × Int × Int × Int × Int × Int × Int × Int × Int × Int × Int × Int × Int × Int × Int × Int × Int × Int × Int × Int × Int × Int × Int × Int × Int × Int × Int × Int × Int × Int × Int × Int × Int × Int × Int × Int × Int × Int × Int × Int × Int × Int × Int × Int × Int × Int × Int × Unit) := (OutI.exit 0 rheostatref04_by_l0x0)
noncomputable def rheostatref04_by_l0r (K : Nat) (rec : Int → Int → Int → Int → Int → Int → Int → Int → Int → Int → Int → Int → Int → Int → Int → Int → Int → Int → Int → Int → Int → Int → Int → Int → Int → Int → Int → Int → Int → Int → Int → Int → Int → Int → Int → Int → Int → Int → Int → Int → Int → Int → Int → Int → Int → Int → Int → Int → Int → Int → Int → Int → Int → Int → Int → Int → Int → Int → Int → Int → Int → Int → Int → Int → Int → Int → Int → Int → Int → Int → Int → Int → Int → Int → Int → Int → Int → Int → Int → Int → Int → Int → Int → Int → Int → Int → Int → Int → Int → Int → Int → Int → Int → Int → Int → Int → Int → Int → Int → Int → Int → Int → Int → Int → Int → Int → Int → Int → Int → Int → Int → Int → Int → Int → Int → Int → Int → Int → Int → Int → Int → Int → Option (Int × Int × Int × Int × Int × Int × Int × Int × Int × Int × Int × Int × Int × Int × Int × Int × Int × Int × Int × Int × Int × Int × Int × Int × Int × Int × Int × Int × Int × Int × Int × Int × Int × Int × Int × Int × Int × Int × Int × Int × Int × Int × Int × Int × Int × Int × Int × Int × Int × Int × Int × Int × Int × Int × Int × Int × Int × Int × Int × Int × Int × Int × Int × Int × Int × Int × Int × Int × Int × Int × Int × Int × Int × Int × Int × Int × Int × Int × Int × Int × Int × Int × Int × Int × Int × Int × Int × Int × Int × Int × Int × Int × Int × Int × Int × Int × Int × Int × Int × Int × Int × Int × Int × Int × Int × Int × Int × Int × Int × Int × Int × Int × Int × Int × Int × Int × Int × Int × Int × Int × Unit)) (x_9 : Int) (i_10 : Int) (m0_0 : Int) (m0_1 : Int) (m0_2 : Int) (m0_3 : Int) (m0_4 : Int) (m0_5 : Int) (m0_6 : Int) (m0_7 : Int) (m0_8 : Int) (m0_9 : Int) (m0_10 : Int) (m0_11 : Int) (m0_12 : Int) (m0_13 : Int) (m0_14 : Int) (m0_15 : Int) (m0_16 : Int) (m0_17 : Int) (m0_18 : Int) (m0_19 : Int) (m1_0 : Int) (m1_1 : Int) (m1_2 : Int) (m1_3 : Int) (m1_4 : Int) (m1_5 : Int) (m1_6 : Int) (m1_7 : Int) (m1_8 : Int) (m1_9 : Int) (m1_10 : Int) (m1_11 : Int) (m1_12 : Int) (m1_13 : Int) (m1_14 : Int) (m1_15 : Int) (m1_16 : Int) (m1_17 : Int) (m1_18 : Int) (m1_19 : Int) (m2_0 : Int) (m2_1 : Int) (m2_2 : Int) (m2_3 : Int) (m2_4 : Int) (m2_5 : Int) (m2_6 : Int) (m2_7 : Int) (m2_8 : Int) (m2_9 : Int) (m2_10 : Int) (m2_11 : Int) (m2_12 : Int) (m2_13 : Int) (m2_14 : Int) (m2_15 : Int) (m2_16 : Int) (m2_17 : Int) (m2_18 : Int) (m2_19 : Int) (m3_0 : Int) (m3_1 : Int) (m3_2 : Int) (m3_3 : Int) (m3_4 : Int) (m3_5 : Int) (m3_6 : Int) (m3_7 : Int) (m3_8 : Int) (m3_9 : Int) (m3_10 : Int) (m3_11 : Int) (m3_12 : Int) (m3_13 : Int) (m3_14 : Int) (m3_15 : Int) (m3_16 : Int) (m3_17 : Int) (m3_18 : Int) (m3_19 : Int) (m4_0 : Int) (m4_1 : Int) (m4_2 : Int) (m4_3 : Int) (m4_4 : Int) (m4_5 : Int) (m4_6 : Int) (m4_7 : Int) (m4_8 : Int) (m4_9 : Int) (m4_10 : Int) (m4_11 : Int) (m4_12 : Int) (m4_13 : Int) (m4_14 : Int) (m4_15 : Int) (m4_16 : Int) (m4_17 : Int) (m4_18 : Int) (m4_19 : Int) (m5_0 : Int) (m5_1 : Int) (m5_2 : Int) (m5_3 : Int) (m5_4 : Int) (m5_5 : Int) (m5_6 : Int) (m5_7 : Int) (m5_8 : Int) (m5_9 : Int) (m5_10 : Int) (m5_11 : Int) (m5_12 : Int) (m5_13 : Int) (m5_14 : Int) (m5_15 : Int) (m5_16 : Int) (m5_17 : Int) (m5_18 : Int) (m5_19 : Int) : Option (Int × Int × Int × Int × Int × Int × Int × Int × Int × Int × Int × Int × Int × Int × Int × Int × Int × Int × Int × Int × Int × Int × Int × Int × Int × Int × Int × Int × Int × Int × Int × Int × Int × Int × Int × Int × Int × Int × Int × Int × Int × Int × Int × Int × Int × Int × Int × Int × Int × Int × Int × Int × Int × Int × Int × Int × Int × Int × Int × Int × Int × Int × Int × Int × Int × Int × Int × Int × Int × Int × Int × Int × Int × Int × Int × Int × Int × Int × Int × Int × Int × Int × Int × Int × Int × Int × Int × Int × Int × Int × Int × Int × Int × Int × Int × Int × Int × Int × Int × Int × Int × Int × Int × Int × Int × Int × Int × Int × Int × Int × Int × Int × Int × Int × Int × Int × Int × Int × Int × Int × Unit) :=
  (bif (decide (i_10 < 8)) then (bif ((decide (0 ≤ i_10)) && (decide (i_10 < 20))) then ((fun (q1 : Int) => (rec (wu64 (Int.tdiv x_9 256)) (wi64 (i_10 + 1)) m0_0 m0_1 m0_2 m0_3 m0_4 m0_5 m0_6 m0_7 m0_8 m0_9 m0_10 m0_11 m0_12 m0_13 m0_14 m0_15 m0_16 m0_17 m0_18 m0_19 m1_0 m1_1 m1_2 m1_3 m1_4 m1_5 m1_6 m1_7 m1_8 m1_9 m1_10 m1_11 m1_12 m1_13 m1_14 m1_15 m1_16 m1_17 m1_18 m1_19 m2_0 m2_1 m2_2 m2_3 m2_4 m2_5 m2_6 m2_7 m2_8 m2_9 m2_10 m2_11 m2_12 m2_13 m2_14 m2_15 m2_16 m2_17 m2_18 m2_19 m3_0 m3_1 m3_2 m3_3 m3_4 m3_5 m3_6 m3_7 m3_8 m3_9 m3_10 m3_11 m3_12 m3_13 m3_14 m3_15 m3_16 m3_17 m3_18 m3_19 m4_0 m4_1 m4_2 m4_3 m4_4 m4_5 m4_6 m4_7 m4_8 m4_9 m4_10 m4_11 m4_12 m4_13 m4_14 m4_15 m4_16 m4_17 m4_18 m4_19 (bif (Nat.beq (Int.toNat i_10) 0) then q1 else m5_0) (bif (Nat.beq (Int.toNat i_10) 1) then q1 else m5_1) (bif (Nat.beq (Int.toNat i_10) 2) then q1 else m5_2) (bif (Nat.beq (Int.toNat i_10) 3) then q1 else m5_3) (bif (Nat.beq (Int.toNat i_10) 4) then q1 else m5_4) (bif (Nat.beq (Int.toNat i_10) 5) then q1 else m5_5) (bif (Nat.beq (Int.toNat i_10) 6) then q1 else m5_6) (bif (Nat.beq (Int.toNat i_10) 7) then q1 else m5_7) (bif (Nat.beq (Int.toNat i_10) 8) then q1 else m5_8) (bif (Nat.beq (Int.toNat i_10) 9) then q1 else m5_9) (bif (Nat.beq (Int.toNat i_10) 10) then q1 else m5_10) (bif (Nat.beq (Int.toNat i_10) 11) then q1 else m5_11) (bif (Nat.beq (Int.toNat i_10) 12) then q1 else m5_12) (bif (Nat.beq (Int.toNat i_10) 13) then q1 else m5_13) (bif (Nat.beq (Int.toNat i_10) 14) then q1 else m5_14) (bif (Nat.beq (Int.toNat i_10) 15) then q1 else m5_15) (bif (Nat.beq (Int.toNat i_10) 16) then q1 else m5_16) (bif (Nat.beq (Int.toNat i_10) 17) then q1 else m5_17) (bif (Nat.beq (Int.toNat i_10) 18) then q1 else m5_18) (bif (Nat.beq (Int.toNat i_10) 19) then q1 else m5_19))) ((wi64 ((Int.tmod x_9 256))))) else none) else (some (m0_0, m0_1, m0_2, m0_3, m0_4, m0_5, m0_6, m0_7, m0_8, m0_9, m0_10, m0_11, m0_12, m0_13, m0_14, m0_15, m0_16, m0_17, m0_18, m0_19, m1_0, m1_1, m1_2, m1_3, m1_4, m1_5, m1_6, m1_7, m1_8, m1_9, m1_10, m1_11, m1_12, m1_13, m1_14, m1_15, m1_16, m1_17, m1_18, m1_19, m2_0, m2_1, m2_2, m2_3, m2_4, m2_5, m2_6, m2_7, m2_8, m2_9, m2_10, m2_11, m2_12, m2_13, m2_14, m2_15, m2_16, m2_17, m2_18, m2_19, m3_0, m3_1, m3_2, m3_3, m3_4, m3_5, m3_6, m3_7, m3_8, m3_9, m3_10, m3_11, m3_12, m3_13, m3_14, m3_15, m3_16, m3_17, m3_18, m3_19, m4_0, m4_1, m4_2, m4_3, m4_4, m4_5, m4_6, m4_7, m4_8, m4_9, m4_10, m4_11, m4_12, m4_13, m4_14, m4_15, m4_16, m4_17, m4_18, m4_19, m5_0, m5_1, m5_2, m5_3, m5_4, m5_5, m5_6, m5_7, m5_8, m5_9, m5_10, m5_11, m5_12, m5_13, m5_14, m5_15, m5_16, m5_17, m5_18, m5_19, ())))
noncomputable def rheostatref04_by_l0 (K n : Nat) : Int → Int → Int → Int → Int → Int → Int → Int → Int → Int → Int → Int → Int → Int → Int → Int → Int → Int → Int → Int → Int → Int → Int → Int → Int → Int → Int → Int → Int → Int → Int → Int → Int → Int → Int → Int → Int → Int → Int → Int → Int → Int → Int → Int → Int → Int → Int → Int → Int → Int → Int → Int → Int → Int → Int → Int → Int → Int → Int → Int → Int → Int → Int → Int → Int → Int → Int → Int → Int → Int → Int → Int → Int → Int → Int → Int → Int → Int → Int → Int → Int → Int → Int → Int → Int → Int → Int → Int → Int → Int → Int → Int → Int → Int → Int → Int → Int → Int → Int → Int → Int → Int → Int → Int → Int → Int → Int → Int → Int → Int → Int → Int → Int → Int → Int → Int → Int → Int → Int → Int → Int → Int → Option (Int × Int × Int × Int × Int × Int × Int × Int × Int × Int × Int × Int × Int × Int × Int × Int × Int × Int × Int × Int × Int × Int × Int × Int × Int × Int × Int × Int × Int × Int × Int × Int × Int × Int × Int × Int × Int × Int × Int × Int × Int × Int × Int × Int × Int × Int × Int × Int × Int × Int × Int × Int × Int × Int × Int × Int × Int × Int × Int × Int × Int × Int × Int × Int × Int × Int × Int × Int × Int × Int × Int × Int × Int × Int × Int × Int × Int × Int × Int × Int × Int × Int × Int × Int × Int × Int × Int × Int × Int × Int × Int × Int × Int × Int × Int × Int × Int × Int × Int × Int × Int × Int × Int × Int × Int × Int × Int × Int × Int × Int × Int × Int × Int × Int × Int × Int × Int × Int × Int × Int × Unit) := Nat.rec (motive := fun _ => Int → Int → Int → Int → Int → Int → Int → Int → Int → Int → Int → Int → Int → Int → Int → Int → Int → Int → Int → Int → Int → Int → Int → Int → Int → Int → Int → Int → Int → Int → Int → Int → Int → Int → Int → Int → Int → Int → Int → Int → Int → Int → Int → Int → Int → Int → Int → Int → Int → Int → Int → Int → Int → Int → Int → Int → Int → Int → Int → Int → Int → Int → Int → Int → Int → Int → Int → Int → Int → Int → Int → Int → Int → Int → Int → Int → Int → Int → Int → Int → Int → Int → Int → Int → Int → Int → Int → Int → Int → Int → Int → Int → Int → Int → Int → Int → Int → Int → Int → Int → Int → Int → Int → Int → Int → Int → Int → Int → Int → Int → Int → Int → Int → Int → Int → Int → Int → Int → Int → Int → Int → Int → Option (Int × Int × Int × Int × Int × Int × Int × Int × Int × Int × Int × Int × Int × Int × Int × Int × Int × Int × Int × Int × Int × Int × Int × Int × Int × Int × Int × Int × Int × Int × Int × Int × Int × Int × Int × Int × Int × Int × Int × Int × Int × Int × Int × Int × Int × Int × Int × Int × Int × Int × Int × Int × Int × Int × Int × Int × Int × Int × Int × Int × Int × Int × Int × Int × Int × Int × Int × Int × Int × Int × Int × Int × Int × Int × Int × Int × Int × Int × Int × Int × Int × Int × Int × Int × Int × Int × Int × Int × Int × Int × Int × Int × Int × Int × Int × Int × Int × Int × Int × Int × Int × Int × Int × Int × Int × Int × Int × Int × Int × Int × Int × Int × Int × Int × Int × Int × Int × Int × Int × Int × Unit)) (fun _ _ _ _ _ _ _ _ _ _ _ _ _ _ _ _ _ _ _ _ _ _ _ _ _ _ _ _ _ _ _ _ _ _ _ _ _ _ _ _ _ _ _ _ _ _ _ _ _ _ _ _ _ _ _ _ _ _ _ _ _ _ _ _ _ _ _ _ _ _ _ _ _ _ _ _ _ _ _ _ _ _ _ _ _ _ _ _ _ _ _ _ _ _ _ _ _ _ _ _ _ _ _ _ _ _ _ _ _ _ _ _ _ _ _ _ _ _ _ _ _ _ => none) (fun _ ih => rheostatref04_by_l0r K ih) n
noncomputable def rheostatref04_by_l0u (K n : Nat) (t : rheostatref04_by_l0h.T) : Option (Int × Int × Int × Int × Int × Int × Int × Int × Int × Int × Int × Int × Int × Int × Int × Int × Int × Int × Int × Int × Int × Int × Int × Int × Int × Int × Int × Int × Int × Int × Int × Int × Int × Int × Int × Int × Int × Int × Int × Int × Int × Int × Int × Int × Int × Int × Int × Int × Int × Int × Int × Int × Int × Int × Int × Int × Int × Int × Int × Int × Int × Int × Int × Int × Int × Int × Int × Int × Int × Int × Int × Int × Int × Int × Int × Int × Int × Int × Int × Int × Int × Int × Int × Int × Int × Int × Int × Int × Int × Int × Int × Int × Int × Int × Int × Int × Int × Int × Int × Int × Int × Int × Int × Int × Int × Int × Int × Int × Int × Int × Int × Int × Int × Int × Int × Int × Int × Int × Int × Int × Unit) :=
  let u1 := t.2
  let u2 := u1.2
  let u3 := u2.2
  let u4 := u3.2
  let u5 := u4.2
  let u6 := u5.2
  let u7 := u6.2
  let u8 := u7.2
  let u9 := u8.2
  let u10 := u9.2
  let u11 := u10.2
  let u12 := u11.2
  let u13 := u12.2
  let u14 := u13.2
  let u15 := u14.2
  let u16 := u15.2
  let u17 := u16.2
  let u18 := u17.2
  let u19 := u18.2
  let u20 := u19.2
  let u21 := u20.2
  let u22 := u21.2
  let u23 := u22.2
  let u24 := u23.2
  let u25 := u24.2
  let u26 := u25.2
  let u27 := u26.2
  let u28 := u27.2
  let u29 := u28.2
  let u30 := u29.2
  let u31 := u30.2
  let u32 := u31.2
  let u33 := u32.2
  let u34 := u33.2
  let u35 := u34.2
  let u36 := u35.2
  let u37 := u36.2
  let u38 := u37.2
  let u39 := u38.2
  let u40 := u39.2
  let u41 := u40.2
  let u42 := u41.2
  let u43 := u42.2
  let u44 := u43.2
  let u45 := u44.2
  let u46 := u45.2
  let u47 := u46.2
  let u48 := u47.2
  let u49 := u48.2
  let u50 := u49.2
  let u51 := u50.2
  let u52 := u51.2
  let u53 := u52.2
  let u54 := u53.2
  let u55 := u54.2
  let u56 := u55.2
  let u57 := u56.2
  let u58 := u57.2
  let u59 := u58.2
  let u60 := u59.2
  let u61 := u60.2
  let u62 := u61.2
  let u63 := u62.2
  let u64 := u63.2
  let u65 := u64.2
  let u66 := u65.2
  let u67 := u66.2
  let u68 := u67.2
  let u69 := u68.2
  let u70 := u69.2
  let u71 := u70.2
  let u72 := u71.2
  let u73 := u72.2
  let u74 := u73.2
  let u75 := u74.2
  let u76 := u75.2
  let u77 := u76.2
  let u78 := u77.2
  let u79 := u78.2
  let u80 := u79.2
  let u81 := u80.2
  let u82 := u81.2
  let u83 := u82.2
  let u84 := u83.2
  let u85 := u84.2
  let u86 := u85.2
  let u87 := u86.2
  let u88 := u87.2
  let u89 := u88.2
  let u90 := u89.2
  let u91 := u90.2
  let u92 := u91.2
  let u93 := u92.2
  let u94 := u93.2
  let u95 := u94.2
  let u96 := u95.2
  let u97 := u96.2
  let u98 := u97.2
  let u99 := u98.2
  let u100 := u99.2
  let u101 := u100.2
  let u102 := u101.2
  let u103 := u102.2
  let u104 := u103.2
  let u105 := u104.2
  let u106 := u105.2
  let u107 := u106.2
  let u108 := u107.2
  let u109 := u108.2
  let u110 := u109.2
  let u111 := u110.2
  let u112 := u111.2
  let u113 := u112.2
  let u114 := u113.2
  let u115 := u114.2
  let u116 := u115.2
  let u117 := u116.2
  let u118 := u117.2
  let u119 := u118.2
  let u120 := u119.2
  let u121 := u120.2
  rheostatref04_by_l0 K n t.1 u1.1 u2.1 u3.1 u4.1 u5.1 u6.1 u7.1 u8.1 u9.1 u10.1 u11.1 u12.1 u13.1 u14.1 u15.1 u16.1 u17.1 u18.1 u19.1 u20.1 u21.1 u22.1 u23.1 u24.1 u25.1 u26.1 u27.1 u28.1 u29.1 u30.1 u31.1 u32.1 u33.1 u34.1 u35.1 u36.1 u37.1 u38.1 u39.1 u40.1 u41.1 u42.1 u43.1 u44.1 u45.1 u46.1 u47.1 u48.1 u49.1 u50.1 u51.1 u52.1 u53.1 u54.1 u55.1 u56.1 u57.1 u58.1 u59.1 u60.1 u61.1 u62.1 u63.1 u64.1 u65.1 u66.1 u67.1 u68.1 u69.1 u70.1 u71.1 u72.1 u73.1 u74.1 u75.1 u76.1 u77.1 u78.1 u79.1 u80.1 u81.1 u82.1 u83.1 u84.1 u85.1 u86.1 u87.1 u88.1 u89.1 u90.1 u91.1 u92.1 u93.1 u94.1 u95.1 u96.1 u97.1 u98.1 u99.1 u100.1 u101.1 u102.1 u103.1 u104.1 u105.1 u106.1 u107.1 u108.1 u109.1 u110.1 u111.1 u112.1 u113.1 u114.1 u115.1 u116.1 u117.1 u118.1 u119.1 u120.1 u121.1
noncomputable def rheostatref04_by_l0o (K : Nat) : LO := loopLO rheostatref04_by_l0h rheostatref04_by_l0O fun t => rheostatref04_by_l0u K K t
noncomputable def rheostatref04_by_l0C : Code := bodyOf Try.f44
noncomputable def rheostatref04_by_l0B : Code := (findLoops 5 (loopsIn rheostatref04_by_l0C)).headD .skip
theorem rheostatref04_by_l0F : findLoops 5 (loopsIn rheostatref04_by_l0C) = [rheostatref04_by_l0B] := by kernel_rfl
theorem rheostatref04_by_l0q (K n : Nat) (t : rheostatref04_by_l0h.T) : exC (rheostatref04_by_e0 K) (hdl (rheostatref04_by_e0 K) 0) (44 :: []) rheostatref04_by_l0B (rheostatref04_by_l0h.put t) (fun s => (rheostatref04_by_l0h.take s).bind fun t => rheostatref04_by_l0u K n t) (fun id s => rheostatref04_by_l0O.get (some id) s) (fun s => rheostatref04_by_l0O.get none s) = rheostatref04_by_l0u K (n + 1) t := by kernel_rfl
noncomputable def rheostatref04_by_l0E (K : Nat) : LoopE Try.prog := ⟨[5, 44], rheostatref04_by_l0o K, Try.f44, rheostatref04_by_l0C, rheostatref04_by_l0B, ⟨5, 44, [], rfl, Try.func44, by kernel_rfl, rheostatref04_by_l0F⟩,
  loop_rule (F := fun n t => rheostatref04_by_l0u K n t) (rheostatref04_by_t0 K) (rheostatref04_by_i0 K) (draws (rheostatref04_by_t0 K)) 0 Try.func44 (c := rheostatref04_by_l0C) (by kernel_rfl) (body_in rheostatref04_by_l0F) (ctx' := []) (h := rheostatref04_by_l0h) (O := rheostatref04_by_l0O) (fun _ => rfl) (fun m t => rheostatref04_by_l0q K m t) K⟩
noncomputable def rheostatref04_by_e1 (K : Nat) : Env := ⟨tt, [(45, rheostatref04_against_o K), (57, rheostatref04_less_o K)], [], [([5, 44], rheostatref04_by_l0o K)], eqs⟩
theorem rheostatref04_by_t1 (K : Nat) : EnvT Try.prog (rheostatref04_by_e1 K) := envT_of tt_ok eqs_ok ⟨rheostatref04_against_ok K, rheostatref04_less_ok K, trivial⟩
theorem rheostatref04_by_i1 (K : Nat) : EnvI Try.prog (rheostatref04_by_e1 K) := envI_of (es := [rheostatref04_by_l0E K]) trivial ⟨⟨rfl, rfl⟩, trivial⟩
noncomputable def rheostatref04_by_l2h : Sh := ⟨60, [(2, .sc (.lit (.p 0 0 0 []))), (4, .sc (.lit (.p 1 0 0 []))), (5, .sc (.lit (.p 2 0 0 []))), (6, .sc (.lit (.p 3 0 0 []))), (7, .sc (.lit (.p 4 0 0 []))), (8, .sc (.lit (.p 5 0 0 []))), (11, .sc (.i .i64)), (12, .sc (.i .i64))], [(0, [])], [(true, false, [.i .i64, .i .i64, .i .i64, .i .i64, .i .i64, .i .i64, .i .i64, .i .i64, .i .i64, .i .i64, .i .i64, .i .i64, .i .i64, .i .i64, .i .i64, .i .i64, .i .i64, .i .i64, .i .i64, .i .i64]), (true, false, [.i .i64, .i .i64, .i .i64, .i .i64, .i .i64, .i .i64, .i .i64, .i .i64, .i .i64, .i .i64, .i .i64, .i .i64, .i .i64, .i .i64, .i .i64, .i .i64, .i .i64, .i .i64, .i .i64, .i .i64]), (true, false, [.i .i64, .i .i64, .i .i64, .i .i64, .i .i64, .i .i64, .i .i64, .i .i64, .i .i64, .i .i64, .i .i64, .i .i64, .i .i64, .i .i64, .i .i64, .i .i64, .i .i64, .i .i64, .i .i64, .i .i64]), (true, false, [.i .i64, .i .i64, .i .i64, .i .i64, .i .i64, .i .i64, .i .i64, .i .i64, .i .i64, .i .i64, .i .i64, .i .i64, .i .i64, .i .i64, .i .i64, .i .i64, .i .i64, .i .i64, .i .i64, .i .i64]), (true, false, [.i .i64, .i .i64, .i .i64, .i .i64, .i .i64, .i .i64, .i .i64, .i .i64, .i .i64, .i .i64, .i .i64, .i .i64, .i .i64, .i .i64, .i .i64, .i .i64, .i .i64, .i .i64, .i .i64, .i .i64]), (true, false, [.i .i64, .i .i64, .i .i64, .i .i64, .i .i64, .i .i64, .i .i64, .i .i64, .i .i64, .i .i64, .i .i64, .i .i64, .i .i64, .i .i64, .i .i64, .i .i64, .i .i64, .i .i64, .i .i64, .i .i64])]⟩
noncomputable def rheostatref04_by_l2x0 : Sh := ⟨60, [(2, .sc (.lit (.p 0 0 0 []))), (4, .sc (.lit (.p 1 0 0 []))), (5, .sc (.lit (.p 2 0 0 []))), (6, .sc (.lit (.p 3 0 0 []))), (7, .sc (.lit (.p 4 0 0 []))), (8, .sc (.lit (.p 5 0 0 []))), (11, .sc (.i .i64))], [(0, [])], [(true, false, [.i .i64, .i .i64, .i .i64, .i .i64, .i .i64, .i .i64, .i .i64, .i .i64, .i .i64, .i .i64, .i .i64, .i .i64, .i .i64, .i .i64, .i .i64, .i .i64, .i .i64, .i .i64, .i .i64, .i .i64]), (true, false, [.i .i64, .i .i64, .i .i64, .i .i64, .i .i64, .i .i64, .i .i64, .i .i64, .i .i64, .i .i64, .i .i64, .i .i64, .i .i64, .i .i64, .i .i64, .i .i64, .i .i64, .i .i64, .i .i64, .i .i64]), (true, false, [.i .i64, .i .i64, .i .i64, .i .i64, .i .i64, .i .i64, .i .i64, .i .i64, .i .i64, .i .i64, .i .i64, .i .i64, .i .i64, .i .i64, .i .i64, .i .i64, .i .i64, .i .i64, .i .i64, .i .i64]), (true, false, [.i .i64, .i .i64, .i .i64, .i .i64, .i .i64, .i .i64, .i .i64, .i .i64, .i .i64, .i .i64, .i .i64, .i .i64, .i .i64, .i .i64, .i .i64, .i .i64, .i .i64, .i .i64, .i .i64, .i .i64]), (true, false, [.i .i64, .i .i64, .i .i64, .i .i64, .i .i64, .i .i64, .i .i64, .i .i64, .i .i64, .i .i64, .i .i64, .i .i64, .i .i64, .i .i64, .i .i64, .i .i64, .i .i64, .i .i64, .i .i64, .i .i64]), (true, false, [.i .i64, .i .i64, .i .i64, .i .i64, .i .i64, .i .i64, .i .i64, .i .i64, .i .i64, .i .i64, .i .i64, .i .i64, .i .i64, .i .i64, .i .i64, .i .i64, .i .i64, .i .i64, .i .i64, .i .i64])]⟩
noncomputable def rheostatref04_by_l2O : OutI (Int × Int × Int × Int × Int × Int × Int × Int × Int × Int × Int × Int × Int × Int × Int × Int × Int × Int × Int × Int × Int × Int × Int × Int × Int × Int × Int × Int × Int × Int × Int × Int × Int × Int × Int × Int × Int × Int × Int × Int × Int × Int × Int × Int × Int × Int × Int × Int × Int × Int × Int × Int × Int × Int × Int × Int × Int × Int × Int × Int × Int × Int × Int × Int × Int × Int × Int × Int × Int × Int × Int × Int × Int × Int × Int × Int × Int × Int × Int × Int × Int × Int × Int × Int × Int × Int × Int × Int × Int × Int × Int × Int × Int × Int × Int × Int × Int × Int × Int × Int × Int × Int × Int × Int × Int × Int × Int × Int × Int × Int × Int × Int × Int × Int × Int × Int × Int × Int × Int × Int × Int × Unit) := (OutI.exit 4 rheostatref04_by_l2x0)
noncomputable def rheostatref04_by_l2r (K : Nat) (rec : Int → Int → Int → Int → Int → Int → Int → Int → Int → Int → Int → Int → Int → Int → Int → Int → Int → Int → Int → Int → Int → Int → Int → Int → Int → Int → Int → Int → Int → Int → Int → Int → Int → Int → Int → Int → Int → Int → Int → Int → Int → Int → Int → Int → Int → Int → Int → Int → Int → Int → Int → Int → Int → Int → Int → Int → Int → Int → Int → Int → Int → Int → Int → Int → Int → Int → Int → Int → Int → Int → Int → Int → Int → Int → Int → Int → Int → Int → Int → Int → Int → Int → Int → Int → Int → Int → Int → Int → Int → Int → Int → Int → Int → Int → Int → Int → Int → Int → Int → Int → Int → Int → Int → Int → Int → Int → Int → Int → Int → Int → Int → Int → Int → Int → Int → Int → Int → Int → Int → Int → Int → Int → Option (Int × Int × Int × Int × Int × Int × Int × Int × Int × Int × Int × Int × Int × Int × Int × Int × Int × Int × Int × Int × Int × Int × Int × Int × Int × Int × Int × Int × Int × Int × Int × Int × Int × Int × Int × Int × Int × Int × Int × Int × Int × Int × Int × Int × Int × Int × Int × Int × Int × Int × Int × Int × Int × Int × Int × Int × Int × Int × Int × Int × Int × Int × Int × Int × Int × Int × Int × Int × Int × Int × Int × Int × Int × Int × Int × Int × Int × Int × Int × Int × Int × Int × Int × Int × Int × Int × Int × Int × Int × Int × Int × Int × Int × Int × Int × Int × Int × Int × Int × Int × Int × Int × Int × Int × Int × Int × Int × Int × Int × Int × Int × Int × Int × Int × Int × Int × Int × Int × Int × Int × Int × Unit)) (i_11 : Int) (k_12 : Int) (m0_0 : Int) (m0_1 : Int) (m0_2 : Int) (m0_3 : Int) (m0_4 : Int) (m0_5 : Int) (m0_6 : Int) (m0_7 : Int) (m0_8 : Int) (m0_9 : Int) (m0_10 : Int) (m0_11 : Int) (m0_12 : Int) (m0_13 : Int) (m0_14 : Int) (m0_15 : Int) (m0_16 : Int) (m0_17 : Int) (m0_18 : Int) (m0_19 : Int) (m1_0 : Int) (m1_1 : Int) (m1_2 : Int) (m1_3 : Int) (m1_4 : Int) (m1_5 : Int) (m1_6 : Int) (m1_7 : Int) (m1_8 : Int) (m1_9 : Int) (m1_10 : Int) (m1_11 : Int) (m1_12 : Int) (m1_13 : Int) (m1_14 : Int) (m1_15 : Int) (m1_16 : Int) (m1_17 : Int) (m1_18 : Int) (m1_19 : Int) (m2_0 : Int) (m2_1 : Int) (m2_2 : Int) (m2_3 : Int) (m2_4 : Int) (m2_5 : Int) (m2_6 : Int) (m2_7 : Int) (m2_8 : Int) (m2_9 : Int) (m2_10 : Int) (m2_11 : Int) (m2_12 : Int) (m2_13 : Int) (m2_14 : Int) (m2_15 : Int) (m2_16 : Int) (m2_17 : Int) (m2_18 : Int) (m2_19 : Int) (m3_0 : Int) (m3_1 : Int) (m3_2 : Int) (m3_3 : Int) (m3_4 : Int) (m3_5 : Int) (m3_6 : Int) (m3_7 : Int) (m3_8 : Int) (m3_9 : Int) (m3_10 : Int) (m3_11 : Int) (m3_12 : Int) (m3_13 : Int) (m3_14 : Int) (m3_15 : Int) (m3_16 : Int) (m3_17 : Int) (m3_18 : Int) (m3_19 : Int) (m4_0 : Int) (m4_1 : Int) (m4_2 : Int) (m4_3 : Int) (m4_4 : Int) (m4_5 : Int) (m4_6 : Int) (m4_7 : Int) (m4_8 : Int) (m4_9 : Int) (m4_10 : Int) (m4_11 : Int) (m4_12 : Int) (m4_13 : Int) (m4_14 : Int) (m4_15 : Int) (m4_16 : Int) (m4_17 : Int) (m4_18 : Int) (m4_19 : Int) (m5_0 : Int) (m5_1 : Int) (m5_2 : Int) (m5_3 : Int) (m5_4 : Int) (m5_5 : Int) (m5_6 : Int) (m5_7 : Int) (m5_8 : Int) (m5_9 : Int) (m5_10 : Int) (m5_11 : Int) (m5_12 : Int) (m5_13 : Int) (m5_14 : Int) (m5_15 : Int) (m5_16 : Int) (m5_17 : Int) (m5_18 : Int) (m5_19 : Int) : Option (Int × Int × Int × Int × Int × Int × Int × Int × Int × Int × Int × Int × Int × Int × Int × Int × Int × Int × Int × Int × Int × Int × Int × Int × Int × Int × Int × Int × Int × Int × Int × Int × Int × Int × Int × Int × Int × Int × Int × Int × Int × Int × Int × Int × Int × Int × Int × Int × Int × Int × Int × Int × Int × Int × Int × Int × Int × Int × Int × Int × Int × Int × Int × Int × Int × Int × Int × Int × Int × Int × Int × Int × Int × Int × Int × Int × Int × Int × Int × Int × Int × Int × Int × Int × Int × Int × Int × Int × Int × Int × Int × Int × Int × Int × Int × Int × Int × Int × Int × Int × Int × Int × Int × Int × Int × Int × Int × Int × Int × Int × Int × Int × Int × Int × Int × Int × Int × Int × Int × Int × Int × Unit) :=
  (bif (decide (k_12 > 0)) then (bif ((decide (0 ≤ (wi64 (k_12 - 1)))) && (decide ((wi64 (k_12 - 1)) < 20))) then (bif ((decide (0 ≤ k_12)) && (decide (k_12 < 20))) then ((fun (q1 : Int) => (rec i_11 (wi64 (k_12 - 1)) m0_0 m0_1 m0_2 m0_3 m0_4 m0_5 m0_6 m0_7 m0_8 m0_9 m0_10 m0_11 m0_12 m0_13 m0_14 m0_15 m0_16 m0_17 m0_18 m0_19 m1_0 m1_1 m1_2 m1_3 m1_4 m1_5 m1_6 m1_7 m1_8 m1_9 m1_10 m1_11 m1_12 m1_13 m1_14 m1_15 m1_16 m1_17 m1_18 m1_19 m2_0 m2_1 m2_2 m2_3 m2_4 m2_5 m2_6 m2_7 m2_8 m2_9 m2_10 m2_11 m2_12 m2_13 m2_14 m2_15 m2_16 m2_17 m2_18 m2_19 m3_0 m3_1 m3_2 m3_3 m3_4 m3_5 m3_6 m3_7 m3_8 m3_9 m3_10 m3_11 m3_12 m3_13 m3_14 m3_15 m3_16 m3_17 m3_18 m3_19 (bif (Nat.beq (Int.toNat k_12) 0) then q1 else m4_0) (bif (Nat.beq (Int.toNat k_12) 1) then q1 else m4_1) (bif (Nat.beq (Int.toNat k_12) 2) then q1 else m4_2) (bif (Nat.beq (Int.toNat k_12) 3) then q1 else m4_3) (bif (Nat.beq (Int.toNat k_12) 4) then q1 else m4_4) (bif (Nat.beq (Int.toNat k_12) 5) then q1 else m4_5) (bif (Nat.beq (Int.toNat k_12) 6) then q1 else m4_6) (bif (Nat.beq (Int.toNat k_12) 7) then q1 else m4_7) (bif (Nat.beq (Int.toNat k_12) 8) then q1 else m4_8) (bif (Nat.beq (Int.toNat k_12) 9) then q1 else m4_9) (bif (Nat.beq (Int.toNat k_12) 10) then q1 else m4_10) (bif (Nat.beq (Int.toNat k_12) 11) then q1 else m4_11) (bif (Nat.beq (Int.toNat k_12) 12) then q1 else m4_12) (bif (Nat.beq (Int.toNat k_12) 13) then q1 else m4_13) (bif (Nat.beq (Int.toNat k_12) 14) then q1 else m4_14) (bif (Nat.beq (Int.toNat k_12) 15) then q1 else m4_15) (bif (Nat.beq (Int.toNat k_12) 16) then q1 else m4_16) (bif (Nat.beq (Int.toNat k_12) 17) then q1 else m4_17) (bif (Nat.beq (Int.toNat k_12) 18) then q1 else m4_18) (bif (Nat.beq (Int.toNat k_12) 19) then q1 else m4_19) m5_0 m5_1 m5_2 m5_3 m5_4 m5_5 m5_6 m5_7 m5_8 m5_9 m5_10 m5_11 m5_12 m5_13 m5_14 m5_15 m5_16 m5_17 m5_18 m5_19)) ((selI [m4_0, m4_1, m4_2, m4_3, m4_4, m4_5, m4_6, m4_7, m4_8, m4_9, m4_10, m4_11, m4_12, m4_13, m4_14, m4_15, m4_16, m4_17, m4_18, m4_19] (Int.toNat (wi64 (k_12 - 1)))))) else none) else none) else (some (i_11, m0_0, m0_1, m0_2, m0_3, m0_4, m0_5, m0_6, m0_7, m0_8, m0_9, m0_10, m0_11, m0_12, m0_13, m0_14, m0_15, m0_16, m0_17, m0_18, m0_19, m1_0, m1_1, m1_2, m1_3, m1_4, m1_5, m1_6, m1_7, m1_8, m1_9, m1_10, m1_11, m1_12, m1_13, m1_14, m1_15, m1_16, m1_17, m1_18, m1_19, m2_0, m2_1, m2_2, m2_3, m2_4, m2_5, m2_6, m2_7, m2_8, m2_9, m2_10, m2_11, m2_12, m2_13, m2_14, m2_15, m2_16, m2_17, m2_18, m2_19, m3_0, m3_1, m3_2, m3_3, m3_4, m3_5, m3_6, m3_7, m3_8, m3_9, m3_10, m3_11, m3_12, m3_13, m3_14, m3_15, m3_16, m3_17, m3_18, m3_19, m4_0, m4_1, m4_2, m4_3, m4_4, m4_5, m4_6, m4_7, m4_8, m4_9, m4_10, m4_11, m4_12, m4_13, m4_14, m4_15, m4_16, m4_17, m4_18, m4_19, m5_0, m5_1, m5_2, m5_3, m5_4, m5_5, m5_6, m5_7, m5_8, m5_9, m5_10, m5_11, m5_12, m5_13, m5_14, m5_15, m5_16, m5_17, m5_18, m5_19, ())))
noncomputable def rheostatref04_by_l2 (K n : Nat) : Int → Int → Int → Int → Int → Int → Int → Int → Int → Int → Int → Int → Int → Int → Int → Int → Int → Int → Int → Int → Int → Int → Int → Int → Int → Int → Int → Int → Int → Int → Int → Int → Int → Int → Int → Int → Int → Int → Int → Int → Int → Int → Int → Int → Int → Int → Int → Int → Int → Int → Int → Int → Int → Int → Int → Int → Int → Int → Int → Int → Int → Int → Int → Int → Int → Int → Int → Int → Int → Int → Int → Int → Int → Int → Int → Int → Int → Int → Int → Int → Int → Int → Int → Int → Int → Int → Int → Int → Int → Int → Int → Int → Int → Int → Int → Int → Int → Int → Int → Int → Int → Int → Int → Int → Int → Int → Int → Int → Int → Int → Int → Int → Int → Int → Int → Int → Int → Int → Int → Int → Int → Int → Option (Int × Int × Int × Int × Int × Int × Int × Int × Int × Int × Int × Int × Int × Int × Int × Int × Int × Int × Int × Int × Int × Int × Int × Int × Int × Int × Int × Int × Int × Int × Int × Int × Int × Int × Int × Int × Int × Int × Int × Int × Int × Int × Int × Int × Int × Int × Int × Int × Int × Int × Int × Int × Int × Int × Int × Int × Int × Int × Int × Int × Int × Int × Int × Int × Int × Int × Int × Int × Int × Int × Int × Int × Int × Int × Int × Int × Int × Int × Int × Int × Int × Int × Int × Int × Int × Int × Int × Int × Int × Int × Int × Int × Int × Int × Int × Int × Int × Int × Int × Int × Int × Int × Int × Int × Int × Int × Int × Int × Int × Int × Int × Int × Int × Int × Int × Int × Int × Int × Int × Int × Int × Unit) := Nat.rec (motive := fun _ => Int → Int → Int → Int → Int → Int → Int → Int → Int → Int → Int → Int → Int → Int → Int → Int → Int → Int → Int → Int → Int → Int → Int → Int → Int → Int → Int → Int → Int → Int → Int → Int → Int → Int → Int → Int → Int → Int → Int → Int → Int → Int → Int → Int → Int → Int → Int → Int → Int → Int → Int → Int → Int → Int → Int → Int → Int → Int → Int → Int → Int → Int → Int → Int → Int → Int → Int → Int → Int → Int → Int → Int → Int → Int → Int → Int → Int → Int → Int → Int → Int → Int → Int → Int → Int → Int → Int → Int → Int → Int → Int → Int → Int → Int → Int → Int → Int → Int → Int → Int → Int → Int → Int → Int → Int → Int → Int → Int → Int → Int → Int → Int → Int → Int → Int → Int → Int → Int → Int → Int → Int → Int → Option (Int × Int × Int × Int × Int × Int × Int × Int × Int × Int × Int × Int × Int × Int × Int × Int × Int × Int × Int × Int × Int × Int × Int × Int × Int × Int × Int × Int × Int × Int × Int × Int × Int × Int × Int × Int × Int × Int × Int × Int × Int × Int × Int × Int × Int × Int × Int × Int × Int × Int × Int × Int × Int × Int × Int × Int × Int × Int × Int × Int × Int × Int × Int × Int × Int × Int × Int × Int × Int × Int × Int × Int × Int × Int × Int × Int × Int × Int × Int × Int × Int × Int × Int × Int × Int × Int × Int × Int × Int × Int × Int × Int × Int × Int × Int × Int × Int × Int × Int × Int × Int × Int × Int × Int × Int × Int × Int × Int × Int × Int × Int × Int × Int × Int × Int × Int × Int × Int × Int × Int × Int × Unit)) (fun _ _ _ _ _ _ _ _ _ _ _ _ _ _ _ _ _ _ _ _ _ _ _ _ _ _ _ _ _ _ _ _ _ _ _ _ _ _ _ _ _ _ _ _ _ _ _ _ _ _ _ _ _ _ _ _ _ _ _ _ _ _ _ _ _ _ _ _ _ _ _ _ _ _ _ _ _ _ _ _ _ _ _ _ _ _ _ _ _ _ _ _ _ _ _ _ _ _ _ _ _ _ _ _ _ _ _ _ _ _ _ _ _ _ _ _ _ _ _ _ _ _ => none) (fun _ ih => rheostatref04_by_l2r K ih) n
noncomputable def rheostatref04_by_l2u (K n : Nat) (t : rheostatref04_by_l2h.T) : Option (Int × Int × Int × Int × Int × Int × Int × Int × Int × Int × Int × Int × Int × Int × Int × Int × Int × Int × Int × Int × Int × Int × Int × Int × Int × Int × Int × Int × Int × Int × Int × Int × Int × Int × Int × Int × Int × Int × Int × Int × Int × Int × Int × Int × Int × Int × Int × Int × Int × Int × Int × Int × Int × Int × Int × Int × Int × Int × Int × Int × Int × Int × Int × Int × Int × Int × Int × Int × Int × Int × Int × Int × Int × Int × Int × Int × Int × Int × Int × Int × Int × Int × Int × Int × Int × Int × Int × Int × Int × Int × Int × Int × Int × Int × Int × Int × Int × Int × Int × Int × Int × Int × Int × Int × Int × Int × Int × Int × Int × Int × Int × Int × Int × Int × Int × Int × Int × Int × Int × Int × Int × Unit) :=
  let u1 := t.2
  let u2 := u1.2
  let u3 := u2.2
  let u4 := u3.2
  let u5 := u4.2
  let u6 := u5.2
  let u7 := u6.2
  let u8 := u7.2
  let u9 := u8.2
  let u10 := u9.2
  let u11 := u10.2
  let u12 := u11.2
  let u13 := u12.2
  let u14 := u13.2
  let u15 := u14.2
  let u16 := u15.2
  let u17 := u16.2
  let u18 := u17.2
  let u19 := u18.2
  let u20 := u19.2
  let u21 := u20.2
  let u22 := u21.2
  let u23 := u22.2
  let u24 := u23.2
  let u25 := u24.2
  let u26 := u25.2
  let u27 := u26.2
  let u28 := u27.2
  let u29 := u28.2
  let u30 := u29.2
  let u31 := u30.2
  let u32 := u31.2
  let u33 := u32.2
  let u34 := u33.2
  let u35 := u34.2
  let u36 := u35.2
  let u37 := u36.2
  let u38 := u37.2
  let u39 := u38.2
  let u40 := u39.2
  let u41 := u40.2
  let u42 := u41.2
  let u43 := u42.2
  let u44 := u43.2
  let u45 := u44.2
  let u46 := u45.2
  let u47 := u46.2
  let u48 := u47.2
  let u49 := u48.2
  let u50 := u49.2
  let u51 := u50.2
  let u52 := u51.2
  let u53 := u52.2
  let u54 := u53.2
  let u55 := u54.2
  let u56 := u55.2
  let u57 := u56.2
  let u58 := u57.2
  let u59 := u58.2
  let u60 := u59.2
  let u61 := u60.2
  let u62 := u61.2
  let u63 := u62.2
  let u64 := u63.2
  let u65 := u64.2
  let u66 := u65.2
  let u67 := u66.2
  let u68 := u67.2
  let u69 := u68.2
  let u70 := u69.2
  let u71 := u70.2
  let u72 := u71.2
  let u73 := u72.2
  let u74 := u73.2
  let u75 := u74.2
  let u76 := u75.2
  let u77 := u76.2
  let u78 := u77.2
  let u79 := u78.2
  let u80 := u79.2
  let u81 := u80.2
  let u82 := u81.2
  let u83 := u82.2
  let u84 := u83.2
  let u85 := u84.2
  let u86 := u85.2
  let u87 := u86.2
  let u88 := u87.2
  let u89 := u88.2
  let u90 := u89.2
  let u91 := u90.2
  let u92 := u91.2
  let u93 := u92.2
  let u94 := u93.2
  let u95 := u94.2
  let u96 := u95.2
  let u97 := u96.2
  let u98 := u97.2
  let u99 := u98.2
  let u100 := u99.2
  let u101 := u100.2
  let u102 := u101.2
  let u103 := u102.2
  let u104 := u103.2
  let u105 := u104.2
  let u106 := u105.2
  let u107 := u106.2
  let u108 := u107.2
  let u109 := u108.2
  let u110 := u109.2
  let u111 := u110.2
  let u112 := u111.2
  let u113 := u112.2
  let u114 := u113.2
  let u115 := u114.2
  let u116 := u115.2
  let u117 := u116.2
  let u118 := u117.2
  let u119 := u118.2
  let u120 := u119.2
  let u121 := u120.2
  rheostatref04_by_l2 K n t.1 u1.1 u2.1 u3.1 u4.1 u5.1 u6.1 u7.1 u8.1 u9.1 u10.1 u11.1 u12.1 u13.1 u14.1 u15.1 u16.1 u17.1 u18.1 u19.1 u20.1 u21.1 u22.1 u23.1 u24.1 u25.1 u26.1 u27.1 u28.1 u29.1 u30.1 u31.1 u32.1 u33.1 u34.1 u35.1 u36.1 u37.1 u38.1 u39.1 u40.1 u41.1 u42.1 u43.1 u44.1 u45.1 u46.1 u47.1 u48.1 u49.1 u50.1 u51.1 u52.1 u53.1 u54.1 u55.1 u56.1 u57.1 u58.1 u59.1 u60.1 u61.1 u62.1 u63.1 u64.1 u65.1 u66.1 u67.1 u68.1 u69.1 u70.1 u71.1 u72.1 u73.1 u74.1 u75.1 u76.1 u77.1 u78.1 u79.1 u80.1 u81.1 u82.1 u83.1 u84.1 u85.1 u86.1 u87.1 u88.1 u89.1 u90.1 u91.1 u92.1 u93.1 u94.1 u95.1 u96.1 u97.1 u98.1 u99.1 u100.1 u101.1 u102.1 u103.1 u104.1 u105.1 u106.1 u107.1 u108.1 u109.1 u110.1 u111.1 u112.1 u113.1 u114.1 u115.1 u116.1 u117.1 u118.1 u119.1 u120.1 u121.1
noncomputable def rheostatref04_by_l2o (K : Nat) : LO := loopLO rheostatref04_by_l2h rheostatref04_by_l2O fun t => rheostatref04_by_l2u K K t
noncomputable def rheostatref04_by_l2C : Code := bodyOf Try.f44
noncomputable def rheostatref04_by_l2B : Code := (findLoops 13 (loopsIn rheostatref04_by_l2C)).headD .skip
theorem rheostatref04_by_l2F : findLoops 13 (loopsIn rheostatref04_by_l2C) = [rheostatref04_by_l2B] := by kernel_rfl
theorem rheostatref04_by_l2q (K n : Nat) (t : rheostatref04_by_l2h.T) : exC (rheostatref04_by_e1 K) (hdl (rheostatref04_by_e1 K) 0) (44 :: []) rheostatref04_by_l2B (rheostatref04_by_l2h.put t) (fun s => (rheostatref04_by_l2h.take s).bind fun t => rheostatref04_by_l2u K n t) (fun id s => rheostatref04_by_l2O.get (some id) s) (fun s => rheostatref04_by_l2O.get none s) = rheostatref04_by_l2u K (n + 1) t := by kernel_rfl
noncomputable def rheostatref04_by_l2E (K : Nat) : LoopE Try.prog := ⟨[13, 44], rheostatref04_by_l2o K, Try.f44, rheostatref04_by_l2C, rheostatref04_by_l2B, ⟨13, 44, [], rfl, Try.func44, by kernel_rfl, rheostatref04_by_l2F⟩,
  loop_rule (F := fun n t => rheostatref04_by_l2u K n t) (rheostatref04_by_t1 K) (rheostatref04_by_i1 K) (draws (rheostatref04_by_t1 K)) 0 Try.func44 (c := rheostatref04_by_l2C) (by kernel_rfl) (body_in rheostatref04_by_l2F) (ctx' := []) (h := rheostatref04_by_l2h) (O := rheostatref04_by_l2O) (fun _ => rfl) (fun m t => rheostatref04_by_l2q K m t) K⟩
noncomputable def rheostatref04_by_e2 (K : Nat) : Env := ⟨tt, [(45, rheostatref04_against_o K), (57, rheostatref04_less_o K)], [], [([5, 44], rheostatref04_by_l0o K), ([13, 44], rheostatref04_by_l2o K)], eqs⟩
theorem rheostatref04_by_t2 (K : Nat) : EnvT Try.prog (rheostatref04_by_e2 K) := envT_of tt_ok eqs_ok ⟨rheostatref04_against_ok K, rheostatref04_less_ok K, trivial⟩
theorem rheostatref04_by_i2 (K : Nat) : EnvI Try.prog (rheostatref04_by_e2 K) := envI_of (es := [rheostatref04_by_l0E K, rheostatref04_by_l2E K]) trivial ⟨⟨rfl, rfl⟩, ⟨rfl, rfl⟩, trivial⟩
noncomputable def rheostatref04_by_l3h : Sh := ⟨60, [(2, .sc (.lit (.p 0 0 0 []))), (4, .sc (.lit (.p 1 0 0 []))), (5, .sc (.lit (.p 2 0 0 []))), (6, .sc (.lit (.p 3 0 0 []))), (7, .sc (.lit (.p 4 0 0 []))), (8, .sc (.lit (.p 5 0 0 []))), (11, .sc (.i .i64))], [(0, [])], [(true, false, [.i .i64, .i .i64, .i .i64, .i .i64, .i .i64, .i .i64, .i .i64, .i .i64, .i .i64, .i .i64, .i .i64, .i .i64, .i .i64, .i .i64, .i .i64, .i .i64, .i .i64, .i .i64, .i .i64, .i .i64]), (true, false, [.i .i64, .i .i64, .i .i64, .i .i64, .i .i64, .i .i64, .i .i64, .i .i64, .i .i64, .i .i64, .i .i64, .i .i64, .i .i64, .i .i64, .i .i64, .i .i64, .i .i64, .i .i64, .i .i64, .i .i64]), (true, false, [.i .i64, .i .i64, .i .i64, .i .i64, .i .i64, .i .i64, .i .i64, .i .i64, .i .i64, .i .i64, .i .i64, .i .i64, .i .i64, .i .i64, .i .i64, .i .i64, .i .i64, .i .i64, .i .i64, .i .i64]), (true, false, [.i .i64, .i .i64, .i .i64, .i .i64, .i .i64, .i .i64, .i .i64, .i .i64, .i .i64, .i .i64, .i .i64, .i .i64, .i .i64, .i .i64, .i .i64, .i .i64, .i .i64, .i .i64, .i .i64, .i .i64]), (true, false, [.i .i64, .i .i64, .i .i64, .i .i64, .i .i64, .i .i64, .i .i64, .i .i64, .i .i64, .i .i64, .i .i64, .i .i64, .i .i64, .i .i64, .i .i64, .i .i64, .i .i64, .i .i64, .i .i64, .i .i64]), (true, false, [.i .i64, .i .i64, .i .i64, .i .i64, .i .i64, .i .i64, .i .i64, .i .i64, .i .i64, .i .i64, .i .i64, .i .i64, .i .i64, .i .i64, .i .i64, .i .i64, .i .i64, .i .i64, .i .i64, .i .i64])]⟩
noncomputable def rheostatref04_by_l3x0 : Sh := ⟨60, [(2, .sc (.lit (.p 0 0 0 []))), (4, .sc (.lit (.p 1 0 0 []))), (5, .sc (.lit (.p 2 0 0 []))), (6, .sc (.lit (.p 3 0 0 []))), (7, .sc (.lit (.p 4 0 0 []))), (8, .sc (.lit (.p 5 0 0 []))), (11, .sc (.i .i64))], [(0, [])], [(true, false, [.i .i64, .i .i64, .i .i64, .i .i64, .i .i64, .i .i64, .i .i64, .i .i64, .i .i64, .i .i64, .i .i64, .i .i64, .i .i64, .i .i64, .i .i64, .i .i64, .i .i64, .i .i64, .i .i64, .i .i64]), (true, false, [.i .i64, .i .i64, .i .i64, .i .i64, .i .i64, .i .i64, .i .i64, .i .i64, .i .i64, .i .i64, .i .i64, .i .i64, .i .i64, .i .i64, .i .i64, .i .i64, .i .i64, .i .i64, .i .i64, .i .i64]), (true, false, [.i .i64, .i .i64, .i .i64, .i .i64, .i .i64, .i .i64, .i .i64, .i .i64, .i .i64, .i .i64, .i .i64, .i .i64, .i .i64, .i .i64, .i .i64, .i .i64, .i .i64, .i .i64, .i .i64, .i .i64]), (true, false, [.i .i64, .i .i64, .i .i64, .i .i64, .i .i64, .i .i64, .i .i64, .i .i64, .i .i64, .i .i64, .i .i64, .i .i64, .i .i64, .i .i64, .i .i64, .i .i64, .i .i64, .i .i64, .i .i64, .i .i64]), (true, false, [.i .i64, .i .i64, .i .i64, .i .i64, .i .i64, .i .i64, .i .i64, .i .i64, .i .i64, .i .i64, .i .i64, .i .i64, .i .i64, .i .i64, .i .i64, .i .i64, .i .i64, .i .i64, .i .i64, .i .i64]), (true, false, [.i .i64, .i .i64, .i .i64, .i .i64, .i .i64, .i .i64, .i .i64, .i .i64, .i .i64, .i .i64, .i .i64, .i .i64, .i .i64, .i .i64, .i .i64, .i .i64, .i .i64, .i .i64, .i .i64, .i .i64])]⟩
noncomputable def rheostatref04_by_l3O : OutI (Int × Int × Int × Int × Int × Int × Int × Int × Int × Int × Int × Int × Int × Int × Int × Int × Int × Int × Int × Int × Int × Int × Int × Int × Int × Int × Int × Int × Int × Int × Int × Int × Int × Int × Int × Int × Int × Int × Int × Int × Int × Int × Int × Int × Int × Int × Int × Int × Int × Int × Int × Int × Int × Int × Int × Int × Int × Int × Int × Int × Int × Int × Int × Int × Int × Int × Int × Int × Int × Int × Int × Int × Int × Int × Int × Int × Int × Int × Int × Int × Int × Int × Int × Int × Int × Int × Int × Int × Int × Int × Int × Int × Int × Int × Int × Int × Int × Int × Int × Int × Int × Int × Int × Int × Int × Int × Int × Int × Int × Int × Int × Int × Int × Int × Int × Int × Int × Int × Int × Int × Int × Unit) := (OutI.exit 6 rheostatref04_by_l3x0)
noncomputable def rheostatref04_by_l3r (K : Nat) (rec : Int → Int → Int → Int → Int → Int → Int → Int → Int → Int → Int → Int → Int → Int → Int → Int → Int → Int → Int → Int → Int → Int → Int → Int → Int → Int → Int → Int → Int → Int → Int → Int → Int → Int → Int → Int → Int → Int → Int → Int → Int → Int → Int → Int → Int → Int → Int → Int → Int → Int → Int → Int → Int → Int → Int → Int → Int → Int → Int → Int → Int → Int → Int → Int → Int → Int → Int → Int → Int → Int → Int → Int → Int → Int → Int → Int → Int → Int → Int → Int → Int → Int → Int → Int → Int → Int → Int → Int → Int → Int → Int → Int → Int → Int → Int → Int → Int → Int → Int → Int → Int → Int → Int → Int → Int → Int → Int → Int → Int → Int → Int → Int → Int → Int → Int → Int → Int → Int → Int → Int → Int → Option (Int × Int × Int × Int × Int × Int × Int × Int × Int × Int × Int × Int × Int × Int × Int × Int × Int × Int × Int × Int × Int × Int × Int × Int × Int × Int × Int × Int × Int × Int × Int × Int × Int × Int × Int × Int × Int × Int × Int × Int × Int × Int × Int × Int × Int × Int × Int × Int × Int × Int × Int × Int × Int × Int × Int × Int × Int × Int × Int × Int × Int × Int × Int × Int × Int × Int × Int × Int × Int × Int × Int × Int × Int × Int × Int × Int × Int × Int × Int × Int × Int × Int × Int × Int × Int × Int × Int × Int × Int × Int × Int × Int × Int × Int × Int × Int × Int × Int × Int × Int × Int × Int × Int × Int × Int × Int × Int × Int × Int × Int × Int × Int × Int × Int × Int × Int × Int × Int × Int × Int × Int × Unit)) (i_11 : Int) (m0_0 : Int) (m0_1 : Int) (m0_2 : Int) (m0_3 : Int) (m0_4 : Int) (m0_5 : Int) (m0_6 : Int) (m0_7 : Int) (m0_8 : Int) (m0_9 : Int) (m0_10 : Int) (m0_11 : Int) (m0_12 : Int) (m0_13 : Int) (m0_14 : Int) (m0_15 : Int) (m0_16 : Int) (m0_17 : Int) (m0_18 : Int) (m0_19 : Int) (m1_0 : Int) (m1_1 : Int) (m1_2 : Int) (m1_3 : Int) (m1_4 : Int) (m1_5 : Int) (m1_6 : Int) (m1_7 : Int) (m1_8 : Int) (m1_9 : Int) (m1_10 : Int) (m1_11 : Int) (m1_12 : Int) (m1_13 : Int) (m1_14 : Int) (m1_15 : Int) (m1_16 : Int) (m1_17 : Int) (m1_18 : Int) (m1_19 : Int) (m2_0 : Int) (m2_1 : Int) (m2_2 : Int) (m2_3 : Int) (m2_4 : Int) (m2_5 : Int) (m2_6 : Int) (m2_7 : Int) (m2_8 : Int) (m2_9 : Int) (m2_10 : Int) (m2_11 : Int) (m2_12 : Int) (m2_13 : Int) (m2_14 : Int) (m2_15 : Int) (m2_16 : Int) (m2_17 : Int) (m2_18 : Int) (m2_19 : Int) (m3_0 : Int) (m3_1 : Int) (m3_2 : Int) (m3_3 : Int) (m3_4 : Int) (m3_5 : Int) (m3_6 : Int) (m3_7 : Int) (m3_8 : Int) (m3_9 : Int) (m3_10 : Int) (m3_11 : Int) (m3_12 : Int) (m3_13 : Int) (m3_14 : Int) (m3_15 : Int) (m3_16 : Int) (m3_17 : Int) (m3_18 : Int) (m3_19 : Int) (m4_0 : Int) (m4_1 : Int) (m4_2 : Int) (m4_3 : Int) (m4_4 : Int) (m4_5 : Int) (m4_6 : Int) (m4_7 : Int) (m4_8 : Int) (m4_9 : Int) (m4_10 : Int) (m4_11 : Int) (m4_12 : Int) (m4_13 : Int) (m4_14 : Int) (m4_15 : Int) (m4_16 : Int) (m4_17 : Int) (m4_18 : Int) (m4_19 : Int) (m5_0 : Int) (m5_1 : Int) (m5_2 : Int) (m5_3 : Int) (m5_4 : Int) (m5_5 : Int) (m5_6 : Int) (m5_7 : Int) (m5_8 : Int) (m5_9 : Int) (m5_10 : Int) (m5_11 : Int) (m5_12 : Int) (m5_13 : Int) (m5_14 : Int) (m5_15 : Int) (m5_16 : Int) (m5_17 : Int) (m5_18 : Int) (m5_19 : Int) : Option (Int × Int × Int × Int × Int × Int × Int × Int × Int × Int × Int × Int × Int × Int × Int × Int × Int × Int × Int × Int × Int × Int × Int × Int × Int × Int × Int × Int × Int × Int × Int × Int × Int × Int × Int × Int × Int × Int × Int × Int × Int × Int × Int × Int × Int × Int × Int × Int × Int × Int × Int × Int × Int × Int × Int × Int × Int × Int × Int × Int × Int × Int × Int × Int × Int × Int × Int × Int × Int × Int × Int × Int × Int × Int × Int × Int × Int × Int × Int × Int × Int × Int × Int × Int × Int × Int × Int × Int × Int × Int × Int × Int × Int × Int × Int × Int × Int × Int × Int × Int × Int × Int × Int × Int × Int × Int × Int × Int × Int × Int × Int × Int × Int × Int × Int × Int × Int × Int × Int × Int × Int × Unit) :=
  ((rheostatref04_against_g K m4_0 m4_1 m4_2 m4_3 m4_4 m4_5 m4_6 m4_7 m4_8 m4_9 m4_10 m4_11 m4_12 m4_13 m4_14 m4_15 m4_16 m4_17 m4_18 m4_19 m5_0 m5_1 m5_2 m5_3 m5_4 m5_5 m5_6 m5_7 m5_8 m5_9 m5_10 m5_11 m5_12 m5_13 m5_14 m5_15 m5_16 m5_17 m5_18 m5_19).bind fun q1 => (bif (decide (q1.1 ≥ 0)) then ((rheostatref04_less_g K m4_0 m4_1 m4_2 m4_3 m4_4 m4_5 m4_6 m4_7 m4_8 m4_9 m4_10 m4_11 m4_12 m4_13 m4_14 m4_15 m4_16 m4_17 m4_18 m4_19 m5_0 m5_1 m5_2 m5_3 m5_4 m5_5 m5_6 m5_7 m5_8 m5_9 m5_10 m5_11 m5_12 m5_13 m5_14 m5_15 m5_16 m5_17 m5_18 m5_19).bind fun q2 => (bif ((decide (0 ≤ i_11)) && (decide (i_11 < 20))) then (bif ((decide (0 ≤ i_11)) && (decide (i_11 < 20))) then ((fun (q3 : Int) => (rec i_11 m0_0 m0_1 m0_2 m0_3 m0_4 m0_5 m0_6 m0_7 m0_8 m0_9 m0_10 m0_11 m0_12 m0_13 m0_14 m0_15 m0_16 m0_17 m0_18 m0_19 m1_0 m1_1 m1_2 m1_3 m1_4 m1_5 m1_6 m1_7 m1_8 m1_9 m1_10 m1_11 m1_12 m1_13 m1_14 m1_15 m1_16 m1_17 m1_18 m1_19 m2_0 m2_1 m2_2 m2_3 m2_4 m2_5 m2_6 m2_7 m2_8 m2_9 m2_10 m2_11 m2_12 m2_13 m2_14 m2_15 m2_16 m2_17 m2_18 m2_19 (bif (Nat.beq (Int.toNat i_11) 0) then q3 else m3_0) (bif (Nat.beq (Int.toNat i_11) 1) then q3 else m3_1) (bif (Nat.beq (Int.toNat i_11) 2) then q3 else m3_2) (bif (Nat.beq (Int.toNat i_11) 3) then q3 else m3_3) (bif (Nat.beq (Int.toNat i_11) 4) then q3 else m3_4) (bif (Nat.beq (Int.toNat i_11) 5) then q3 else m3_5) (bif (Nat.beq (Int.toNat i_11) 6) then q3 else m3_6) (bif (Nat.beq (Int.toNat i_11) 7) then q3 else m3_7) (bif (Nat.beq (Int.toNat i_11) 8) then q3 else m3_8) (bif (Nat.beq (Int.toNat i_11) 9) then q3 else m3_9) (bif (Nat.beq (Int.toNat i_11) 10) then q3 else m3_10) (bif (Nat.beq (Int.toNat i_11) 11) then q3 else m3_11) (bif (Nat.beq (Int.toNat i_11) 12) then q3 else m3_12) (bif (Nat.beq (Int.toNat i_11) 13) then q3 else m3_13) (bif (Nat.beq (Int.toNat i_11) 14) then q3 else m3_14) (bif (Nat.beq (Int.toNat i_11) 15) then q3 else m3_15) (bif (Nat.beq (Int.toNat i_11) 16) then q3 else m3_16) (bif (Nat.beq (Int.toNat i_11) 17) then q3 else m3_17) (bif (Nat.beq (Int.toNat i_11) 18) then q3 else m3_18) (bif (Nat.beq (Int.toNat i_11) 19) then q3 else m3_19) q2.1 q2.2.1 q2.2.2.1 q2.2.2.2.1 q2.2.2.2.2.1 q2.2.2.2.2.2.1 q2.2.2.2.2.2.2.1 q2.2.2.2.2.2.2.2.1 q2.2.2.2.2.2.2.2.2.1 q2.2.2.2.2.2.2.2.2.2.1 q2.2.2.2.2.2.2.2.2.2.2.1 q2.2.2.2.2.2.2.2.2.2.2.2.1 q2.2.2.2.2.2.2.2.2.2.2.2.2.1 q2.2.2.2.2.2.2.2.2.2.2.2.2.2.1 q2.2.2.2.2.2.2.2.2.2.2.2.2.2.2.1 q2.2.2.2.2.2.2.2.2.2.2.2.2.2.2.2.1 q2.2.2.2.2.2.2.2.2.2.2.2.2.2.2.2.2.1 q2.2.2.2.2.2.2.2.2.2.2.2.2.2.2.2.2.2.1 q2.2.2.2.2.2.2.2.2.2.2.2.2.2.2.2.2.2.2.1 q2.2.2.2.2.2.2.2.2.2.2.2.2.2.2.2.2.2.2.2.1 m5_0 m5_1 m5_2 m5_3 m5_4 m5_5 m5_6 m5_7 m5_8 m5_9 m5_10 m5_11 m5_12 m5_13 m5_14 m5_15 m5_16 m5_17 m5_18 m5_19)) ((wi64 ((selI [m3_0, m3_1, m3_2, m3_3, m3_4, m3_5, m3_6, m3_7, m3_8, m3_9, m3_10, m3_11, m3_12, m3_13, m3_14, m3_15, m3_16, m3_17, m3_18, m3_19] (Int.toNat i_11)) + 1)))) else none) else none)) else (some (i_11, m0_0, m0_1, m0_2, m0_3, m0_4, m0_5, m0_6, m0_7, m0_8, m0_9, m0_10, m0_11, m0_12, m0_13, m0_14, m0_15, m0_16, m0_17, m0_18, m0_19, m1_0, m1_1, m1_2, m1_3, m1_4, m1_5, m1_6, m1_7, m1_8, m1_9, m1_10, m1_11, m1_12, m1_13, m1_14, m1_15, m1_16, m1_17, m1_18, m1_19, m2_0, m2_1, m2_2, m2_3, m2_4, m2_5, m2_6, m2_7, m2_8, m2_9, m2_10, m2_11, m2_12, m2_13, m2_14, m2_15, m2_16, m2_17, m2_18, m2_19, m3_0, m3_1, m3_2, m3_3, m3_4, m3_5, m3_6, m3_7, m3_8, m3_9, m3_10, m3_11, m3_12, m3_13, m3_14, m3_15, m3_16, m3_17, m3_18, m3_19, m4_0, m4_1, m4_2, m4_3, m4_4, m4_5, m4_6, m4_7, m4_8, m4_9, m4_10, m4_11, m4_12, m4_13, m4_14, m4_15, m4_16, m4_17, m4_18, m4_19, m5_0, m5_1, m5_2, m5_3, m5_4, m5_5, m5_6, m5_7, m5_8, m5_9, m5_10, m5_11, m5_12, m5_13, m5_14, m5_15, m5_16, m5_17, m5_18, m5_19, ()))))
noncomputable def rheostatref04_by_l3 (K n : Nat) : Int → Int → Int → Int → Int → Int → Int → Int → Int → Int → Int → Int → Int → Int → Int → Int → Int → Int → Int → Int → Int → Int → Int → Int → Int → Int → Int → Int → Int → Int → Int → Int → Int → Int → Int → Int → Int → Int → Int → Int → Int → Int → Int → Int → Int → Int → Int → Int → Int → Int → Int → Int → Int → Int → Int → Int → Int → Int → Int → Int → Int → Int → Int → Int → Int → Int → Int → Int → Int → Int → Int → Int → Int → Int → Int → Int → Int → Int → Int → Int → Int → Int → Int → Int → Int → Int → Int → Int → Int → Int → Int → Int → Int → Int → Int → Int → Int → Int → Int → Int → Int → Int → Int → Int → Int → Int → Int → Int → Int → Int → Int → Int → Int → Int → Int → Int → Int → Int → Int → Int → Int → Option (Int × Int × Int × Int × Int × Int × Int × Int × Int × Int × Int × Int × Int × Int × Int × Int × Int × Int × Int × Int × Int × Int × Int × Int × Int × Int × Int × Int × Int × Int × Int × Int × Int × Int × Int × Int × Int × Int × Int × Int × Int × Int × Int × Int × Int × Int × Int × Int × Int × Int × Int × Int × Int × Int × Int × Int × Int × Int × Int × Int × Int × Int × Int × Int × Int × Int × Int × Int × Int × Int × Int × Int × Int × Int × Int × Int × Int × Int × Int × Int × Int × Int × Int × Int × Int × Int × Int × Int × Int × Int × Int × Int × Int × Int × Int × Int × Int × Int × Int × Int × Int × Int × Int × Int × Int × Int × Int × Int × Int × Int × Int × Int × Int × Int × Int × Int × Int × Int × Int × Int × Int × Unit) := Nat.rec (motive := fun _ => Int → Int → Int → Int → Int → Int → Int → Int → Int → Int → Int → Int → Int → Int → Int → Int → Int → Int → Int → Int → Int → Int → Int → Int → Int → Int → Int → Int → Int → Int → Int → Int → Int → Int → Int → Int → Int → Int → Int → Int → Int → Int → Int → Int → Int → Int → Int → Int → Int → Int → Int → Int → Int → Int → Int → Int → Int → Int → Int → Int → Int → Int → Int → Int → Int → Int → Int → Int → Int → Int → Int → Int → Int → Int → Int → Int → Int → Int → Int → Int → Int → Int → Int → Int → Int → Int → Int → Int → Int → Int → Int → Int → Int → Int → Int → Int → Int → Int → Int → Int → Int → Int → Int → Int → Int → Int → Int → Int → Int → Int → Int → Int → Int → Int → Int → Int → Int → Int → Int → Int → Int → Option (Int × Int × Int × Int × Int × Int × Int × Int × Int × Int × Int × Int × Int × Int × Int × Int × Int × Int × Int × Int × Int × Int × Int × Int × Int × Int × Int × Int × Int × Int × Int × Int × Int × Int × Int × Int × Int × Int × Int × Int × Int × Int × Int × Int × Int × Int × Int × Int × Int × Int × Int × Int × Int × Int × Int × Int × Int × Int × Int × Int × Int × Int × Int × Int × Int × Int × Int × Int × Int × Int × Int × Int × Int × Int × Int × Int × Int × Int × Int × Int × Int × Int × Int × Int × Int × Int × Int × Int × Int × Int × Int × Int × Int × Int × Int × Int × Int × Int × Int × Int × Int × Int × Int × Int × Int × Int × Int × Int × Int × Int × Int × Int × Int × Int × Int × Int × Int × Int × Int × Int × Int × Unit)) (fun _ _ _ _ _ _ _ _ _ _ _ _ _ _ _ _ _ _ _ _ _ _ _ _ _ _ _ _ _ _ _ _ _ _ _ _ _ _ _ _ _ _ _ _ _ _ _ _ _ _ _ _ _ _ _ _ _ _ _ _ _ _ _ _ _ _ _ _ _ _ _ _ _ _ _ _ _ _ _ _ _ _ _ _ _ _ _ _ _ _ _ _ _ _ _ _ _ _ _ _ _ _ _ _ _ _ _ _ _ _ _ _ _ _ _ _ _ _ _ _ _ => none) (fun _ ih => rheostatref04_by_l3r K ih) n
noncomputable def rheostatref04_by_l3u (K n : Nat) (t : rheostatref04_by_l3h.T) : Option (Int × Int × Int × Int × Int × Int × Int × Int × Int × Int × Int × Int × Int × Int × Int × Int × Int × Int × Int × Int × Int × Int × Int × Int × Int × Int × Int × Int × Int × Int × Int × Int × Int × Int × Int × Int × Int × Int × Int × Int × Int × Int × Int × Int × Int × Int × Int × Int × Int × Int × Int × Int × Int × Int × Int × Int × Int × Int × Int × Int × Int × Int × Int × Int × Int × Int × Int × Int × Int × Int × Int × Int × Int × Int × Int × Int × Int × Int × Int × Int × Int × Int × Int × Int × Int × Int × Int × Int × Int × Int × Int × Int × Int × Int × Int × Int × Int × Int × Int × Int × Int × Int × Int × Int × Int × Int × Int × Int × Int × Int × Int × Int × Int × Int × Int × Int × Int × Int × Int × Int × Int × Unit) :=
  let u1 := t.2
  let u2 := u1.2
  let u3 := u2.2
  let u4 := u3.2
  let u5 := u4.2
  let u6 := u5.2
  let u7 := u6.2
  let u8 := u7.2
  let u9 := u8.2
  let u10 := u9.2
  let u11 := u10.2
  let u12 := u11.2
  let u13 := u12.2
  let u14 := u13.2
  let u15 := u14.2
  let u16 := u15.2
  let u17 := u16.2
  let u18 := u17.2
  let u19 := u18.2
  let u20 := u19.2
  let u21 := u20.2
  let u22 := u21.2
  let u23 := u22.2
  let u24 := u23.2
  let u25 := u24.2
  let u26 := u25.2
  let u27 := u26.2
  let u28 := u27.2
  let u29 := u28.2
  let u30 := u29.2
  let u31 := u30.2
  let u32 := u31.2
  let u33 := u32.2
  let u34 := u33.2
  let u35 := u34.2
  let u36 := u35.2
  let u37 := u36.2
  let u38 := u37.2
  let u39 := u38.2
  let u40 := u39.2
  let u41 := u40.2
  let u42 := u41.2
  let u43 := u42.2
  let u44 := u43.2
  let u45 := u44.2
  let u46 := u45.2
  let u47 := u46.2
  let u48 := u47.2
  let u49 := u48.2
  let u50 := u49.2
  let u51 := u50.2
  let u52 := u51.2
  let u53 := u52.2
  let u54 := u53.2
  let u55 := u54.2
  let u56 := u55.2
  let u57 := u56.2
  let u58 := u57.2
  let u59 := u58.2
  let u60 := u59.2
  let u61 := u60.2
  let u62 := u61.2
  let u63 := u62.2
  let u64 := u63.2
  let u65 := u64.2
  let u66 := u65.2
  let u67 := u66.2
  let u68 := u67.2
  let u69 := u68.2
  let u70 := u69.2
  let u71 := u70.2
  let u72 := u71.2
  let u73 := u72.2
  let u74 := u73.2
  let u75 := u74.2
  let u76 := u75.2
  let u77 := u76.2
  let u78 := u77.2
  let u79 := u78.2
  let u80 := u79.2
  let u81 := u80.2
  let u82 := u81.2
  let u83 := u82.2
  let u84 := u83.2
  let u85 := u84.2
  let u86 := u85.2
  let u87 := u86.2
  let u88 := u87.2
  let u89 := u88.2
  let u90 := u89.2
  let u91 := u90.2
  let u92 := u91.2
  let u93 := u92.2
  let u94 := u93.2
  let u95 := u94.2
  let u96 := u95.2
  let u97 := u96.2
  let u98 := u97.2
  let u99 := u98.2
  let u100 := u99.2
  let u101 := u100.2
  let u102 := u101.2
  let u103 := u102.2
  let u104 := u103.2
  let u105 := u104.2
  let u106 := u105.2
  let u107 := u106.2
  let u108 := u107.2
  let u109 := u108.2
  let u110 := u109.2
  let u111 := u110.2
  let u112 := u111.2
  let u113 := u112.2
  let u114 := u113.2
  let u115 := u114.2
  let u116 := u115.2
  let u117 := u116.2
  let u118 := u117.2
  let u119 := u118.2
  let u120 := u119.2
  rheostatref04_by_l3 K n t.1 u1.1 u2.1 u3.1 u4.1 u5.1 u6.1 u7.1 u8.1 u9.1 u10.1 u11.1 u12.1 u13.1 u14.1 u15.1 u16.1 u17.1 u18.1 u19.1 u20.1 u21.1 u22.1 u23.1 u24.1 u25.1 u26.1 u27.1 u28.1 u29.1 u30.1 u31.1 u32.1 u33.1 u34.1 u35.1 u36.1 u37.1 u38.1 u39.1 u40.1 u41.1 u42.1 u43.1 u44.1 u45.1 u46.1 u47.1 u48.1 u49.1 u50.1 u51.1 u52.1 u53.1 u54.1 u55.1 u56.1 u57.1 u58.1 u59.1 u60.1 u61.1 u62.1 u63.1 u64.1 u65.1 u66.1 u67.1 u68.1 u69.1 u70.1 u71.1 u72.1 u73.1 u74.1 u75.1 u76.1 u77.1 u78.1 u79.1 u80.1 u81.1 u82.1 u83.1 u84.1 u85.1 u86.1 u87.1 u88.1 u89.1 u90.1 u91.1 u92.1 u93.1 u94.1 u95.1 u96.1 u97.1 u98.1 u99.1 u100.1 u101.1 u102.1 u103.1 u104.1 u105.1 u106.1 u107.1 u108.1 u109.1 u110.1 u111.1 u112.1 u113.1 u114.1 u115.1 u116.1 u117.1 u118.1 u119.1 u120.1
noncomputable def rheostatref04_by_l3o (K : Nat) : LO := loopLO rheostatref04_by_l3h rheostatref04_by_l3O fun t => rheostatref04_by_l3u K K t
noncomputable def rheostatref04_by_l3C : Code := bodyOf Try.f44
noncomputable def rheostatref04_by_l3B : Code := (findLoops 17 (loopsIn rheostatref04_by_l3C)).headD .skip
theorem rheostatref04_by_l3F : findLoops 17 (loopsIn rheostatref04_by_l3C) = [rheostatref04_by_l3B] := by kernel_rfl
theorem rheostatref04_by_l3q (K n : Nat) (t : rheostatref04_by_l3h.T) : exC (rheostatref04_by_e2 K) (hdl (rheostatref04_by_e2 K) 0) (44 :: []) rheostatref04_by_l3B (rheostatref04_by_l3h.put t) (fun s => (rheostatref04_by_l3h.take s).bind fun t => rheostatref04_by_l3u K n t) (fun id s => rheostatref04_by_l3O.get (some id) s) (fun s => rheostatref04_by_l3O.get none s) = rheostatref04_by_l3u K (n + 1) t := by kernel_rfl
noncomputable def rheostatref04_by_l3E (K : Nat) : LoopE Try.prog := ⟨[17, 44], rheostatref04_by_l3o K, Try.f44, rheostatref04_by_l3C, rheostatref04_by_l3B, ⟨17, 44, [], rfl, Try.func44, by kernel_rfl, rheostatref04_by_l3F⟩,
  loop_rule (F := fun n t => rheostatref04_by_l3u K n t) (rheostatref04_by_t2 K) (rheostatref04_by_i2 K) (draws (rheostatref04_by_t2 K)) 0 Try.func44 (c := rheostatref04_by_l3C) (by kernel_rfl) (body_in rheostatref04_by_l3F) (ctx' := []) (h := rheostatref04_by_l3h) (O := rheostatref04_by_l3O) (fun _ => rfl) (fun m t => rheostatref04_by_l3q K m t) K⟩
noncomputable def rheostatref04_by_e3 (K : Nat) : Env := ⟨tt, [(45, rheostatref04_against_o K), (57, rheostatref04_less_o K)], [], [([5, 44], rheostatref04_by_l0o K), ([13, 44], rheostatref04_by_l2o K), ([17, 44], rheostatref04_by_l3o K)], eqs⟩
theorem rheostatref04_by_t3 (K : Nat) : EnvT Try.prog (rheostatref04_by_e3 K) := envT_of tt_ok eqs_ok ⟨rheostatref04_against_ok K, rheostatref04_less_ok K, trivial⟩
theorem rheostatref04_by_i3 (K : Nat) : EnvI Try.prog (rheostatref04_by_e3 K) := envI_of (es := [rheostatref04_by_l0E K, rheostatref04_by_l2E K, rheostatref04_by_l3E K]) trivial ⟨⟨rfl, rfl⟩, ⟨rfl, rfl⟩, ⟨rfl, rfl⟩, trivial⟩
noncomputable def rheostatref04_by_l1h : Sh := ⟨60, [(2, .sc (.lit (.p 0 0 0 []))), (4, .sc (.lit (.p 1 0 0 []))), (5, .sc (.lit (.p 2 0 0 []))), (6, .sc (.lit (.p 3 0 0 []))), (7, .sc (.lit (.p 4 0 0 []))), (8, .sc (.lit (.p 5 0 0 []))), (11, .sc (.i .i64))], [(0, [])], [(true, false, [.i .i64, .i .i64, .i .i64, .i .i64, .i .i64, .i .i64, .i .i64, .i .i64, .i .i64, .i .i64, .i .i64, .i .i64, .i .i64, .i .i64, .i .i64, .i .i64, .i .i64, .i .i64, .i .i64, .i .i64]), (true, false, [.i .i64, .i .i64, .i .i64, .i .i64, .i .i64, .i .i64, .i .i64, .i .i64, .i .i64, .i .i64, .i .i64, .i .i64, .i .i64, .i .i64, .i .i64, .i .i64, .i .i64, .i .i64, .i .i64, .i .i64]), (true, false, [.i .i64, .i .i64, .i .i64, .i .i64, .i .i64, .i .i64, .i .i64, .i .i64, .i .i64, .i .i64, .i .i64, .i .i64, .i .i64, .i .i64, .i .i64, .i .i64, .i .i64, .i .i64, .i .i64, .i .i64]), (true, false, [.i .i64, .i .i64, .i .i64, .i .i64, .i .i64, .i .i64, .i .i64, .i .i64, .i .i64, .i .i64, .i .i64, .i .i64, .i .i64, .i .i64, .i .i64, .i .i64, .i .i64, .i .i64, .i .i64, .i .i64]), (true, false, [.i .i64, .i .i64, .i .i64, .i .i64, .i .i64, .i .i64, .i .i64, .i .i64, .i .i64, .i .i64, .i .i64, .i .i64, .i .i64, .i .i64, .i .i64, .i .i64, .i .i64, .i .i64, .i .i64, .i .i64]), (true, false, [.i .i64, .i .i64, .i .i64, .i .i64, .i .i64, .i .i64, .i .i64, .i .i64, .i .i64, .i .i64, .i .i64, .i .i64, .i .i64, .i .i64, .i .i64, .i .i64, .i .i64, .i .i64, .i .i64, .i .i64])]⟩
noncomputable def rheostatref04_by_l1x0 : Sh := ⟨60, [(4, .sc (.lit (.p 0 0 0 []))), (5, .sc (.lit (.p 1 0 0 []))), (6, .sc (.lit (.p 2 0 0 []))), (7, .sc (.lit (.p 3 0 0 [])))], [(0, [])], [(true, false, [.i .i64, .i .i64, .i .i64, .i .i64, .i .i64, .i .i64, .i .i64, .i .i64, .i .i64, .i .i64, .i .i64, .i .i64, .i .i64, .i .i64, .i .i64, .i .i64, .i .i64, .i .i64, .i .i64, .i .i64]), (true, false, [.i .i64, .i .i64, .i .i64, .i .i64, .i .i64, .i .i64, .i .i64, .i .i64, .i .i64, .i .i64, .i .i64, .i .i64, .i .i64, .i .i64, .i .i64, .i .i64, .i .i64, .i .i64, .i .i64, .i .i64]), (true, false, [.i .i64, .i .i64, .i .i64, .i .i64, .i .i64, .i .i64, .i .i64, .i .i64, .i .i64, .i .i64, .i .i64, .i .i64, .i .i64, .i .i64, .i .i64, .i .i64, .i .i64, .i .i64, .i .i64, .i .i64]), (true, false, [.i .i64, .i .i64, .i .i64, .i .i64, .i .i64, .i .i64, .i .i64, .i .i64, .i .i64, .i .i64, .i .i64, .i .i64, .i .i64, .i .i64, .i .i64, .i .i64, .i .i64, .i .i64, .i .i64, .i .i64])]⟩
noncomputable def rheostatref04_by_l1O : OutI (Int × Int × Int × Int × Int × Int × Int × Int × Int × Int × Int × Int × Int × Int × Int × Int × Int × Int × Int × Int × Int × Int × Int × Int × Int × Int × Int × Int × Int × Int × Int × Int × Int × Int × Int × Int × Int × Int × Int × Int × Int × Int × Int × Int × Int × Int × Int × Int × Int × Int × Int × Int × Int × Int × Int × Int × Int × Int × Int × Int × Int × Int × Int × Int × Int × Int × Int × Int × Int × Int × Int × Int × Int × Int × Int × Int × Int × Int × Int × Int × Unit) := (OutI.exit 2 rheostatref04_by_l1x0)
noncomputable def rheostatref04_by_l1r (K : Nat) (rec : Int → Int → Int → Int → Int → Int → Int → Int → Int → Int → Int → Int → Int → Int → Int → Int → Int → Int → Int → Int → Int → Int → Int → Int → Int → Int → Int → Int → Int → Int → Int → Int → Int → Int → Int → Int → Int → Int → Int → Int → Int → Int → Int → Int → Int → Int → Int → Int → Int → Int → Int → Int → Int → Int → Int → Int → Int → Int → Int → Int → Int → Int → Int → Int → Int → Int → Int → Int → Int → Int → Int → Int → Int → Int → Int → Int → Int → Int → Int → Int → Int → Int → Int → Int → Int → Int → Int → Int → Int → Int → Int → Int → Int → Int → Int → Int → Int → Int → Int → Int → Int → Int → Int → Int → Int → Int → Int → Int → Int → Int → Int → Int → Int → Int → Int → Int → Int → Int → Int → Int → Int → Option (Int × Int × Int × Int × Int × Int × Int × Int × Int × Int × Int × Int × Int × Int × Int × Int × Int × Int × Int × Int × Int × Int × Int × Int × Int × Int × Int × Int × Int × Int × Int × Int × Int × Int × Int × Int × Int × Int × Int × Int × Int × Int × Int × Int × Int × Int × Int × Int × Int × Int × Int × Int × Int × Int × Int × Int × Int × Int × Int × Int × Int × Int × Int × Int × Int × Int × Int × Int × Int × Int × Int × Int × Int × Int × Int × Int × Int × Int × Int × Int × Unit)) (i_11 : Int) (m0_0 : Int) (m0_1 : Int) (m0_2 : Int) (m0_3 : Int) (m0_4 : Int) (m0_5 : Int) (m0_6 : Int) (m0_7 : Int) (m0_8 : Int) (m0_9 : Int) (m0_10 : Int) (m0_11 : Int) (m0_12 : Int) (m0_13 : Int) (m0_14 : Int) (m0_15 : Int) (m0_16 : Int) (m0_17 : Int) (m0_18 : Int) (m0_19 : Int) (m1_0 : Int) (m1_1 : Int) (m1_2 : Int) (m1_3 : Int) (m1_4 : Int) (m1_5 : Int) (m1_6 : Int) (m1_7 : Int) (m1_8 : Int) (m1_9 : Int) (m1_10 : Int) (m1_11 : Int) (m1_12 : Int) (m1_13 : Int) (m1_14 : Int) (m1_15 : Int) (m1_16 : Int) (m1_17 : Int) (m1_18 : Int) (m1_19 : Int) (m2_0 : Int) (m2_1 : Int) (m2_2 : Int) (m2_3 : Int) (m2_4 : Int) (m2_5 : Int) (m2_6 : Int) (m2_7 : Int) (m2_8 : Int) (m2_9 : Int) (m2_10 : Int) (m2_11 : Int) (m2_12 : Int) (m2_13 : Int) (m2_14 : Int) (m2_15 : Int) (m2_16 : Int) (m2_17 : Int) (m2_18 : Int) (m2_19 : Int) (m3_0 : Int) (m3_1 : Int) (m3_2 : Int) (m3_3 : Int) (m3_4 : Int) (m3_5 : Int) (m3_6 : Int) (m3_7 : Int) (m3_8 : Int) (m3_9 : Int) (m3_10 : Int) (m3_11 : Int) (m3_12 : Int) (m3_13 : Int) (m3_14 : Int) (m3_15 : Int) (m3_16 : Int) (m3_17 : Int) (m3_18 : Int) (m3_19 : Int) (m4_0 : Int) (m4_1 : Int) (m4_2 : Int) (m4_3 : Int) (m4_4 : Int) (m4_5 : Int) (m4_6 : Int) (m4_7 : Int) (m4_8 : Int) (m4_9 : Int) (m4_10 : Int) (m4_11 : Int) (m4_12 : Int) (m4_13 : Int) (m4_14 : Int) (m4_15 : Int) (m4_16 : Int) (m4_17 : Int) (m4_18 : Int) (m4_19 : Int) (m5_0 : Int) (m5_1 : Int) (m5_2 : Int) (m5_3 : Int) (m5_4 : Int) (m5_5 : Int) (m5_6 : Int) (m5_7 : Int) (m5_8 : Int) (m5_9 : Int) (m5_10 : Int) (m5_11 : Int) (m5_12 : Int) (m5_13 : Int) (m5_14 : Int) (m5_15 : Int) (m5_16 : Int) (m5_17 : Int) (m5_18 : Int) (m5_19 : Int) : Option (Int × Int × Int × Int × Int × Int × Int × Int × Int × Int × Int × Int × Int × Int × Int × Int × Int × Int × Int × Int × Int × Int × Int × Int × Int × Int × Int × Int × Int × Int × Int × Int × Int × Int × Int × Int × Int × Int × Int × Int × Int × Int × Int × Int × Int × Int × Int × Int × Int × Int × Int × Int × Int × Int × Int × Int × Int × Int × Int × Int × Int × Int × Int × Int × Int × Int × Int × Int × Int × Int × Int × Int × Int × Int × Int × Int × Int × Int × Int × Int × Unit) :=
  (bif (decide (i_11 ≥ 0)) then ((rheostatref04_by_l2 K K i_11 19 m0_0 m0_1 m0_2 m0_3 m0_4 m0_5 m0_6 m0_7 m0_8 m0_9 m0_10 m0_11 m0_12 m0_13 m0_14 m0_15 m0_16 m0_17 m0_18 m0_19 m1_0 m1_1 m1_2 m1_3 m1_4 m1_5 m1_6 m1_7 m1_8 m1_9 m1_10 m1_11 m1_12 m1_13 m1_14 m1_15 m1_16 m1_17 m1_18 m1_19 m2_0 m2_1 m2_2 m2_3 m2_4 m2_5 m2_6 m2_7 m2_8 m2_9 m2_10 m2_11 m2_12 m2_13 m2_14 m2_15 m2_16 m2_17 m2_18 m2_19 m3_0 m3_1 m3_2 m3_3 m3_4 m3_5 m3_6 m3_7 m3_8 m3_9 m3_10 m3_11 m3_12 m3_13 m3_14 m3_15 m3_16 m3_17 m3_18 m3_19 m4_0 m4_1 m4_2 m4_3 m4_4 m4_5 m4_6 m4_7 m4_8 m4_9 m4_10 m4_11 m4_12 m4_13 m4_14 m4_15 m4_16 m4_17 m4_18 m4_19 m5_0 m5_1 m5_2 m5_3 m5_4 m5_5 m5_6 m5_7 m5_8 m5_9 m5_10 m5_11 m5_12 m5_13 m5_14 m5_15 m5_16 m5_17 m5_18 m5_19).bind fun q1 => (bif ((decide (0 ≤ q1.1)) && (decide (q1.1 < 20))) then ((fun (q2 : Int) => ((rheostatref04_by_l3 K K q1.1 q1.2.1 q1.2.2.1 q1.2.2.2.1 q1.2.2.2.2.1 q1.2.2.2.2.2.1 q1.2.2.2.2.2.2.1 q1.2.2.2.2.2.2.2.1 q1.2.2.2.2.2.2.2.2.1 q1.2.2.2.2.2.2.2.2.2.1 q1.2.2.2.2.2.2.2.2.2.2.1 q1.2.2.2.2.2.2.2.2.2.2.2.1 q1.2.2.2.2.2.2.2.2.2.2.2.2.1 q1.2.2.2.2.2.2.2.2.2.2.2.2.2.1 q1.2.2.2.2.2.2.2.2.2.2.2.2.2.2.1 q1.2.2.2.2.2.2.2.2.2.2.2.2.2.2.2.1 q1.2.2.2.2.2.2.2.2.2.2.2.2.2.2.2.2.1 q1.2.2.2.2.2.2.2.2.2.2.2.2.2.2.2.2.2.1 q1.2.2.2.2.2.2.2.2.2.2.2.2.2.2.2.2.2.2.1 q1.2.2.2.2.2.2.2.2.2.2.2.2.2.2.2.2.2.2.2.1 q1.2.2.2.2.2.2.2.2.2.2.2.2.2.2.2.2.2.2.2.2.1 q1.2.2.2.2.2.2.2.2.2.2.2.2.2.2.2.2.2.2.2.2.2.1 q1.2.2.2.2.2.2.2.2.2.2.2.2.2.2.2.2.2.2.2.2.2.2.1 q1.2.2.2.2.2.2.2.2.2.2.2.2.2.2.2.2.2.2.2.2.2.2.2.1 q1.2.2.2.2.2.2.2.2.2.2.2.2.2.2.2.2.2.2.2.2.2.2.2.2.1 q1.2.2.2.2.2.2.2.2.2.2.2.2.2.2.2.2.2.2.2.2.2.2.2.2.2.1 q1.2.2.2.2.2.2.2.2.2.2.2.2.2.2.2.2.2.2.2.2.2.2.2.2.2.2.1 q1.2.2.2.2.2.2.2.2.2.2.2.2.2.2.2.2.2.2.2.2.2.2.2.2.2.2.2.1 q1.2.2.2.2.2.2.2.2.2.2.2.2.2.2.2.2.2.2.2.2.2.2.2.2.2.2.2.2.1 q1.2.2.2.2.2.2.2.2.2.2.2.2.2.2.2.2.2.2.2.2.2.2.2.2.2.2.2.2.2.1 q1.2.2.2.2.2.2.2.2.2.2.2.2.2.2.2.2.2.2.2.2.2.2.2.2.2.2.2.2.2.2.1 q1.2.2.2.2.2.2.2.2.2.2.2.2.2.2.2.2.2.2.2.2.2.2.2.2.2.2.2.2.2.2.2.1 q1.2.2.2.2.2.2.2.2.2.2.2.2.2.2.2.2.2.2.2.2.2.2.2.2.2.2.2.2.2.2.2.2.1 q1.2.2.2.2.2.2.2.2.2.2.2.2.2.2.2.2.2.2.2.2.2.2.2.2.2.2.2.2.2.2.2.2.2.1 q1.2.2.2.2.2.2.2.2.2.2.2.2.2.2.2.2.2.2.2.2.2.2.2.2.2.2.2.2.2.2.2.2.2.2.1 q1.2.2.2.2.2.2.2.2.2.2.2.2.2.2.2.2.2.2.2.2.2.2.2.2.2.2.2.2.2.2.2.2.2.2.2.1 q1.2.2.2.2.2.2.2.2.2.2.2.2.2.2.2.2.2.2.2.2.2.2.2.2.2.2.2.2.2.2.2.2.2.2.2.2.1 q1.2.2.2.2.2.2.2.2.2.2.2.2.2.2.2.2.2.2.2.2.2.2.2.2.2.2.2.2.2.2.2.2.2.2.2.2.2.1 q1.2.2.2.2.2.2.2.2.2.2.2.2.2.2.2.2.2.2.2.2.2.2.2.2.2.2.2.2.2.2.2.2.2.2.2.2.2.2.1 q1.2.2.2.2.2.2.2.2.2.2.2.2.2.2.2.2.2.2.2.2.2.2.2.2.2.2.2.2.2.2.2.2.2.2.2.2.2.2.2.1 q1.2.2.2.2.2.2.2.2.2.2.2.2.2.2.2.2.2.2.2.2.2.2.2.2.2.2.2.2.2.2.2.2.2.2.2.2.2.2.2.2.1 q1.2.2.2.2.2.2.2.2.2.2.2.2.2.2.2.2.2.2.2.2.2.2.2.2.2.2.2.2.2.2.2.2.2.2.2.2.2.2.2.2.2.1 q1.2.2.2.2.2.2.2.2.2.2.2.2.2.2.2.2.2.2.2.2.2.2.2.2.2.2.2.2.2.2.2.2.2.2.2.2.2.2.2.2.2.2.1 q1.2.2.2.2.2.2.2.2.2.2.2.2.2.2.2.2.2.2.2.2.2.2.2.2.2.2.2.2.2.2.2.2.2.2.2.2.2.2.2.2.2.2.2.1 q1.2.2.2.2.2.2.2.2.2.2.2.2.2.2.2.2.2.2.2.2.2.2.2.2.2.2.2.2.2.2.2.2.2.2.2.2.2.2.2.2.2.2.2.2.1 q1.2.2.2.2.2.2.2.2.2.2.2.2.2.2.2.2.2.2.2.2.2.2.2.2.2.2.2.2.2.2.2.2.2.2.2.2.2.2.2.2.2.2.2.2.2.1 q1.2.2.2.2.2.2.2.2.2.2.2.2.2.2.2.2.2.2.2.2.2.2.2.2.2.2.2.2.2.2.2.2.2.2.2.2.2.2.2.2.2.2.2.2.2.2.1 q1.2.2.2.2.2.2.2.2.2.2.2.2.2.2.2.2.2.2.2.2.2.2.2.2.2.2.2.2.2.2.2.2.2.2.2.2.2.2.2.2.2.2.2.2.2.2.2.1 q1.2.2.2.2.2.2.2.2.2.2.2.2.2.2.2.2.2.2.2.2.2.2.2.2.2.2.2.2.2.2.2.2.2.2.2.2.2.2.2.2.2.2.2.2.2.2.2.2.1 q1.2.2.2.2.2.2.2.2.2.2.2.2.2.2.2.2.2.2.2.2.2.2.2.2.2.2.2.2.2.2.2.2.2.2.2.2.2.2.2.2.2.2.2.2.2.2.2.2.2.1 q1.2.2.2.2.2.2.2.2.2.2.2.2.2.2.2.2.2.2.2.2.2.2.2.2.2.2.2.2.2.2.2.2.2.2.2.2.2.2.2.2.2.2.2.2.2.2.2.2.2.2.1 q1.2.2.2.2.2.2.2.2.2.2.2.2.2.2.2.2.2.2.2.2.2.2.2.2.2.2.2.2.2.2.2.2.2.2.2.2.2.2.2.2.2.2.2.2.2.2.2.2.2.2.2.1 q1.2.2.2.2.2.2.2.2.2.2.2.2.2.2.2.2.2.2.2.2.2.2.2.2.2.2.2.2.2.2.2.2.2.2.2.2.2.2.2.2.2.2.2.2.2.2.2.2.2.2.2.2.1 q1.2.2.2.2.2.2.2.2.2.2.2.2.2.2.2.2.2.2.2.2.2.2.2.2.2.2.2.2.2.2.2.2.2.2.2.2.2.2.2.2.2.2.2.2.2.2.2.2.2.2.2.2.2.1 q1.2.2.2.2.2.2.2.2.2.2.2.2.2.2.2.2.2.2.2.2.2.2.2.2.2.2.2.2.2.2.2.2.2.2.2.2.2.2.2.2.2.2.2.2.2.2.2.2.2.2.2.2.2.2.1 q1.2.2.2.2.2.2.2.2.2.2.2.2.2.2.2.2.2.2.2.2.2.2.2.2.2.2.2.2.2.2.2.2.2.2.2.2.2.2.2.2.2.2.2.2.2.2.2.2.2.2.2.2.2.2.2.1 q1.2.2.2.2.2.2.2.2.2.2.2.2.2.2.2.2.2.2.2.2.2.2.2.2.2.2.2.2.2.2.2.2.2.2.2.2.2.2.2.2.2.2.2.2.2.2.2.2.2.2.2.2.2.2.2.2.1 q1.2.2.2.2.2.2.2.2.2.2.2.2.2.2.2.2.2.2.2.2.2.2.2.2.2.2.2.2.2.2.2.2.2.2.2.2.2.2.2.2.2.2.2.2.2.2.2.2.2.2.2.2.2.2.2.2.2.1 q1.2.2.2.2.2.2.2.2.2.2.2.2.2.2.2.2.2.2.2.2.2.2.2.2.2.2.2.2.2.2.2.2.2.2.2.2.2.2.2.2.2.2.2.2.2.2.2.2.2.2.2.2.2.2.2.2.2.2.1 q1.2.2.2.2.2.2.2.2.2.2.2.2.2.2.2.2.2.2.2.2.2.2.2.2.2.2.2.2.2.2.2.2.2.2.2.2.2.2.2.2.2.2.2.2.2.2.2.2.2.2.2.2.2.2.2.2.2.2.2.1 q1.2.2.2.2.2.2.2.2.2.2.2.2.2.2.2.2.2.2.2.2.2.2.2.2.2.2.2.2.2.2.2.2.2.2.2.2.2.2.2.2.2.2.2.2.2.2.2.2.2.2.2.2.2.2.2.2.2.2.2.2.1 q1.2.2.2.2.2.2.2.2.2.2.2.2.2.2.2.2.2.2.2.2.2.2.2.2.2.2.2.2.2.2.2.2.2.2.2.2.2.2.2.2.2.2.2.2.2.2.2.2.2.2.2.2.2.2.2.2.2.2.2.2.2.1 q1.2.2.2.2.2.2.2.2.2.2.2.2.2.2.2.2.2.2.2.2.2.2.2.2.2.2.2.2.2.2.2.2.2.2.2.2.2.2.2.2.2.2.2.2.2.2.2.2.2.2.2.2.2.2.2.2.2.2.2.2.2.2.1 q1.2.2.2.2.2.2.2.2.2.2.2.2.2.2.2.2.2.2.2.2.2.2.2.2.2.2.2.2.2.2.2.2.2.2.2.2.2.2.2.2.2.2.2.2.2.2.2.2.2.2.2.2.2.2.2.2.2.2.2.2.2.2.2.1 q1.2.2.2.2.2.2.2.2.2.2.2.2.2.2.2.2.2.2.2.2.2.2.2.2.2.2.2.2.2.2.2.2.2.2.2.2.2.2.2.2.2.2.2.2.2.2.2.2.2.2.2.2.2.2.2.2.2.2.2.2.2.2.2.2.1 q1.2.2.2.2.2.2.2.2.2.2.2.2.2.2.2.2.2.2.2.2.2.2.2.2.2.2.2.2.2.2.2.2.2.2.2.2.2.2.2.2.2.2.2.2.2.2.2.2.2.2.2.2.2.2.2.2.2.2.2.2.2.2.2.2.2.1 q1.2.2.2.2.2.2.2.2.2.2.2.2.2.2.2.2.2.2.2.2.2.2.2.2.2.2.2.2.2.2.2.2.2.2.2.2.2.2.2.2.2.2.2.2.2.2.2.2.2.2.2.2.2.2.2.2.2.2.2.2.2.2.2.2.2.2.1 q1.2.2.2.2.2.2.2.2.2.2.2.2.2.2.2.2.2.2.2.2.2.2.2.2.2.2.2.2.2.2.2.2.2.2.2.2.2.2.2.2.2.2.2.2.2.2.2.2.2.2.2.2.2.2.2.2.2.2.2.2.2.2.2.2.2.2.2.1 q1.2.2.2.2.2.2.2.2.2.2.2.2.2.2.2.2.2.2.2.2.2.2.2.2.2.2.2.2.2.2.2.2.2.2.2.2.2.2.2.2.2.2.2.2.2.2.2.2.2.2.2.2.2.2.2.2.2.2.2.2.2.2.2.2.2.2.2.2.1 q1.2.2.2.2.2.2.2.2.2.2.2.2.2.2.2.2.2.2.2.2.2.2.2.2.2.2.2.2.2.2.2.2.2.2.2.2.2.2.2.2.2.2.2.2.2.2.2.2.2.2.2.2.2.2.2.2.2.2.2.2.2.2.2.2.2.2.2.2.2.1 q1.2.2.2.2.2.2.2.2.2.2.2.2.2.2.2.2.2.2.2.2.2.2.2.2.2.2.2.2.2.2.2.2.2.2.2.2.2.2.2.2.2.2.2.2.2.2.2.2.2.2.2.2.2.2.2.2.2.2.2.2.2.2.2.2.2.2.2.2.2.2.1 q1.2.2.2.2.2.2.2.2.2.2.2.2.2.2.2.2.2.2.2.2.2.2.2.2.2.2.2.2.2.2.2.2.2.2.2.2.2.2.2.2.2.2.2.2.2.2.2.2.2.2.2.2.2.2.2.2.2.2.2.2.2.2.2.2.2.2.2.2.2.2.2.1 q1.2.2.2.2.2.2.2.2.2.2.2.2.2.2.2.2.2.2.2.2.2.2.2.2.2.2.2.2.2.2.2.2.2.2.2.2.2.2.2.2.2.2.2.2.2.2.2.2.2.2.2.2.2.2.2.2.2.2.2.2.2.2.2.2.2.2.2.2.2.2.2.2.1 q1.2.2.2.2.2.2.2.2.2.2.2.2.2.2.2.2.2.2.2.2.2.2.2.2.2.2.2.2.2.2.2.2.2.2.2.2.2.2.2.2.2.2.2.2.2.2.2.2.2.2.2.2.2.2.2.2.2.2.2.2.2.2.2.2.2.2.2.2.2.2.2.2.2.1 q1.2.2.2.2.2.2.2.2.2.2.2.2.2.2.2.2.2.2.2.2.2.2.2.2.2.2.2.2.2.2.2.2.2.2.2.2.2.2.2.2.2.2.2.2.2.2.2.2.2.2.2.2.2.2.2.2.2.2.2.2.2.2.2.2.2.2.2.2.2.2.2.2.2.2.1 q1.2.2.2.2.2.2.2.2.2.2.2.2.2.2.2.2.2.2.2.2.2.2.2.2.2.2.2.2.2.2.2.2.2.2.2.2.2.2.2.2.2.2.2.2.2.2.2.2.2.2.2.2.2.2.2.2.2.2.2.2.2.2.2.2.2.2.2.2.2.2.2.2.2.2.2.1 q1.2.2.2.2.2.2.2.2.2.2.2.2.2.2.2.2.2.2.2.2.2.2.2.2.2.2.2.2.2.2.2.2.2.2.2.2.2.2.2.2.2.2.2.2.2.2.2.2.2.2.2.2.2.2.2.2.2.2.2.2.2.2.2.2.2.2.2.2.2.2.2.2.2.2.2.2.1 q1.2.2.2.2.2.2.2.2.2.2.2.2.2.2.2.2.2.2.2.2.2.2.2.2.2.2.2.2.2.2.2.2.2.2.2.2.2.2.2.2.2.2.2.2.2.2.2.2.2.2.2.2.2.2.2.2.2.2.2.2.2.2.2.2.2.2.2.2.2.2.2.2.2.2.2.2.2.1 q1.2.2.2.2.2.2.2.2.2.2.2.2.2.2.2.2.2.2.2.2.2.2.2.2.2.2.2.2.2.2.2.2.2.2.2.2.2.2.2.2.2.2.2.2.2.2.2.2.2.2.2.2.2.2.2.2.2.2.2.2.2.2.2.2.2.2.2.2.2.2.2.2.2.2.2.2.2.2.1 q1.2.2.2.2.2.2.2.2.2.2.2.2.2.2.2.2.2.2.2.2.2.2.2.2.2.2.2.2.2.2.2.2.2.2.2.2.2.2.2.2.2.2.2.2.2.2.2.2.2.2.2.2.2.2.2.2.2.2.2.2.2.2.2.2.2.2.2.2.2.2.2.2.2.2.2.2.2.2.2.1 q1.2.2.2.2.2.2.2.2.2.2.2.2.2.2.2.2.2.2.2.2.2.2.2.2.2.2.2.2.2.2.2.2.2.2.2.2.2.2.2.2.2.2.2.2.2.2.2.2.2.2.2.2.2.2.2.2.2.2.2.2.2.2.2.2.2.2.2.2.2.2.2.2.2.2.2.2.2.2.2.2.1 q2 q1.2.2.2.2.2.2.2.2.2.2.2.2.2.2.2.2.2.2.2.2.2.2.2.2.2.2.2.2.2.2.2.2.2.2.2.2.2.2.2.2.2.2.2.2.2.2.2.2.2.2.2.2.2.2.2.2.2.2.2.2.2.2.2.2.2.2.2.2.2.2.2.2.2.2.2.2.2.2.2.2.2.2.1 q1.2.2.2.2.2.2.2.2.2.2.2.2.2.2.2.2.2.2.2.2.2.2.2.2.2.2.2.2.2.2.2.2.2.2.2.2.2.2.2.2.2.2.2.2.2.2.2.2.2.2.2.2.2.2.2.2.2.2.2.2.2.2.2.2.2.2.2.2.2.2.2.2.2.2.2.2.2.2.2.2.2.2.2.1 q1.2.2.2.2.2.2.2.2.2.2.2.2.2.2.2.2.2.2.2.2.2.2.2.2.2.2.2.2.2.2.2.2.2.2.2.2.2.2.2.2.2.2.2.2.2.2.2.2.2.2.2.2.2.2.2.2.2.2.2.2.2.2.2.2.2.2.2.2.2.2.2.2.2.2.2.2.2.2.2.2.2.2.2.2.1 q1.2.2.2.2.2.2.2.2.2.2.2.2.2.2.2.2.2.2.2.2.2.2.2.2.2.2.2.2.2.2.2.2.2.2.2.2.2.2.2.2.2.2.2.2.2.2.2.2.2.2.2.2.2.2.2.2.2.2.2.2.2.2.2.2.2.2.2.2.2.2.2.2.2.2.2.2.2.2.2.2.2.2.2.2.2.1 q1.2.2.2.2.2.2.2.2.2.2.2.2.2.2.2.2.2.2.2.2.2.2.2.2.2.2.2.2.2.2.2.2.2.2.2.2.2.2.2.2.2.2.2.2.2.2.2.2.2.2.2.2.2.2.2.2.2.2.2.2.2.2.2.2.2.2.2.2.2.2.2.2.2.2.2.2.2.2.2.2.2.2.2.2.2.2.1 q1.2.2.2.2.2.2.2.2.2.2.2.2.2.2.2.2.2.2.2.2.2.2.2.2.2.2.2.2.2.2.2.2.2.2.2.2.2.2.2.2.2.2.2.2.2.2.2.2.2.2.2.2.2.2.2.2.2.2.2.2.2.2.2.2.2.2.2.2.2.2.2.2.2.2.2.2.2.2.2.2.2.2.2.2.2.2.2.1 q1.2.2.2.2.2.2.2.2.2.2.2.2.2.2.2.2.2.2.2.2.2.2.2.2.2.2.2.2.2.2.2.2.2.2.2.2.2.2.2.2.2.2.2.2.2.2.2.2.2.2.2.2.2.2.2.2.2.2.2.2.2.2.2.2.2.2.2.2.2.2.2.2.2.2.2.2.2.2.2.2.2.2.2.2.2.2.2.2.1 q1.2.2.2.2.2.2.2.2.2.2.2.2.2.2.2.2.2.2.2.2.2.2.2.2.2.2.2.2.2.2.2.2.2.2.2.2.2.2.2.2.2.2.2.2.2.2.2.2.2.2.2.2.2.2.2.2.2.2.2.2.2.2.2.2.2.2.2.2.2.2.2.2.2.2.2.2.2.2.2.2.2.2.2.2.2.2.2.2.2.1 q1.2.2.2.2.2.2.2.2.2.2.2.2.2.2.2.2.2.2.2.2.2.2.2.2.2.2.2.2.2.2.2.2.2.2.2.2.2.2.2.2.2.2.2.2.2.2.2.2.2.2.2.2.2.2.2.2.2.2.2.2.2.2.2.2.2.2.2.2.2.2.2.2.2.2.2.2.2.2.2.2.2.2.2.2.2.2.2.2.2.2.1 q1.2.2.2.2.2.2.2.2.2.2.2.2.2.2.2.2.2.2.2.2.2.2.2.2.2.2.2.2.2.2.2.2.2.2.2.2.2.2.2.2.2.2.2.2.2.2.2.2.2.2.2.2.2.2.2.2.2.2.2.2.2.2.2.2.2.2.2.2.2.2.2.2.2.2.2.2.2.2.2.2.2.2.2.2.2.2.2.2.2.2.2.1 q1.2.2.2.2.2.2.2.2.2.2.2.2.2.2.2.2.2.2.2.2.2.2.2.2.2.2.2.2.2.2.2.2.2.2.2.2.2.2.2.2.2.2.2.2.2.2.2.2.2.2.2.2.2.2.2.2.2.2.2.2.2.2.2.2.2.2.2.2.2.2.2.2.2.2.2.2.2.2.2.2.2.2.2.2.2.2.2.2.2.2.2.2.1 q1.2.2.2.2.2.2.2.2.2.2.2.2.2.2.2.2.2.2.2.2.2.2.2.2.2.2.2.2.2.2.2.2.2.2.2.2.2.2.2.2.2.2.2.2.2.2.2.2.2.2.2.2.2.2.2.2.2.2.2.2.2.2.2.2.2.2.2.2.2.2.2.2.2.2.2.2.2.2.2.2.2.2.2.2.2.2.2.2.2.2.2.2.2.1 q1.2.2.2.2.2.2.2.2.2.2.2.2.2.2.2.2.2.2.2.2.2.2.2.2.2.2.2.2.2.2.2.2.2.2.2.2.2.2.2.2.2.2.2.2.2.2.2.2.2.2.2.2.2.2.2.2.2.2.2.2.2.2.2.2.2.2.2.2.2.2.2.2.2.2.2.2.2.2.2.2.2.2.2.2.2.2.2.2.2.2.2.2.2.2.1 q1.2.2.2.2.2.2.2.2.2.2.2.2.2.2.2.2.2.2.2.2.2.2.2.2.2.2.2.2.2.2.2.2.2.2.2.2.2.2.2.2.2.2.2.2.2.2.2.2.2.2.2.2.2.2.2.2.2.2.2.2.2.2.2.2.2.2.2.2.2.2.2.2.2.2.2.2.2.2.2.2.2.2.2.2.2.2.2.2.2.2.2.2.2.2.2.1 q1.2.2.2.2.2.2.2.2.2.2.2.2.2.2.2.2.2.2.2.2.2.2.2.2.2.2.2.2.2.2.2.2.2.2.2.2.2.2.2.2.2.2.2.2.2.2.2.2.2.2.2.2.2.2.2.2.2.2.2.2.2.2.2.2.2.2.2.2.2.2.2.2.2.2.2.2.2.2.2.2.2.2.2.2.2.2.2.2.2.2.2.2.2.2.2.2.1 q1.2.2.2.2.2.2.2.2.2.2.2.2.2.2.2.2.2.2.2.2.2.2.2.2.2.2.2.2.2.2.2.2.2.2.2.2.2.2.2.2.2.2.2.2.2.2.2.2.2.2.2.2.2.2.2.2.2.2.2.2.2.2.2.2.2.2.2.2.2.2.2.2.2.2.2.2.2.2.2.2.2.2.2.2.2.2.2.2.2.2.2.2.2.2.2.2.2.1 q1.2.2.2.2.2.2.2.2.2.2.2.2.2.2.2.2.2.2.2.2.2.2.2.2.2.2.2.2.2.2.2.2.2.2.2.2.2.2.2.2.2.2.2.2.2.2.2.2.2.2.2.2.2.2.2.2.2.2.2.2.2.2.2.2.2.2.2.2.2.2.2.2.2.2.2.2.2.2.2.2.2.2.2.2.2.2.2.2.2.2.2.2.2.2.2.2.2.2.1 q1.2.2.2.2.2.2.2.2.2.2.2.2.2.2.2.2.2.2.2.2.2.2.2.2.2.2.2.2.2.2.2.2.2.2.2.2.2.2.2.2.2.2.2.2.2.2.2.2.2.2.2.2.2.2.2.2.2.2.2.2.2.2.2.2.2.2.2.2.2.2.2.2.2.2.2.2.2.2.2.2.2.2.2.2.2.2.2.2.2.2.2.2.2.2.2.2.2.2.2.1 q1.2.2.2.2.2.2.2.2.2.2.2.2.2.2.2.2.2.2.2.2.2.2.2.2.2.2.2.2.2.2.2.2.2.2.2.2.2.2.2.2.2.2.2.2.2.2.2.2.2.2.2.2.2.2.2.2.2.2.2.2.2.2.2.2.2.2.2.2.2.2.2.2.2.2.2.2.2.2.2.2.2.2.2.2.2.2.2.2.2.2.2.2.2.2.2.2.2.2.2.2.1 q1.2.2.2.2.2.2.2.2.2.2.2.2.2.2.2.2.2.2.2.2.2.2.2.2.2.2.2.2.2.2.2.2.2.2.2.2.2.2.2.2.2.2.2.2.2.2.2.2.2.2.2.2.2.2.2.2.2.2.2.2.2.2.2.2.2.2.2.2.2.2.2.2.2.2.2.2.2.2.2.2.2.2.2.2.2.2.2.2.2.2.2.2.2.2.2.2.2.2.2.2.2.1 q1.2.2.2.2.2.2.2.2.2.2.2.2.2.2.2.2.2.2.2.2.2.2.2.2.2.2.2.2.2.2.2.2.2.2.2.2.2.2.2.2.2.2.2.2.2.2.2.2.2.2.2.2.2.2.2.2.2.2.2.2.2.2.2.2.2.2.2.2.2.2.2.2.2.2.2.2.2.2.2.2.2.2.2.2.2.2.2.2.2.2.2.2.2.2.2.2.2.2.2.2.2.2.1 q1.2.2.2.2.2.2.2.2.2.2.2.2.2.2.2.2.2.2.2.2.2.2.2.2.2.2.2.2.2.2.2.2.2.2.2.2.2.2.2.2.2.2.2.2.2.2.2.2.2.2.2.2.2.2.2.2.2.2.2.2.2.2.2.2.2.2.2.2.2.2.2.2.2.2.2.2.2.2.2.2.2.2.2.2.2.2.2.2.2.2.2.2.2.2.2.2.2.2.2.2.2.2.2.1 q1.2.2.2.2.2.2.2.2.2.2.2.2.2.2.2.2.2.2.2.2.2.2.2.2.2.2.2.2.2.2.2.2.2.2.2.2.2.2.2.2.2.2.2.2.2.2.2.2.2.2.2.2.2.2.2.2.2.2.2.2.2.2.2.2.2.2.2.2.2.2.2.2.2.2.2.2.2.2.2.2.2.2.2.2.2.2.2.2.2.2.2.2.2.2.2.2.2.2.2.2.2.2.2.2.1 q1.2.2.2.2.2.2.2.2.2.2.2.2.2.2.2.2.2.2.2.2.2.2.2.2.2.2.2.2.2.2.2.2.2.2.2.2.2.2.2.2.2.2.2.2.2.2.2.2.2.2.2.2.2.2.2.2.2.2.2.2.2.2.2.2.2.2.2.2.2.2.2.2.2.2.2.2.2.2.2.2.2.2.2.2.2.2.2.2.2.2.2.2.2.2.2.2.2.2.2.2.2.2.2.2.2.1 q1.2.2.2.2.2.2.2.2.2.2.2.2.2.2.2.2.2.2.2.2.2.2.2.2.2.2.2.2.2.2.2.2.2.2.2.2.2.2.2.2.2.2.2.2.2.2.2.2.2.2.2.2.2.2.2.2.2.2.2.2.2.2.2.2.2.2.2.2.2.2.2.2.2.2.2.2.2.2.2.2.2.2.2.2.2.2.2.2.2.2.2.2.2.2.2.2.2.2.2.2.2.2.2.2.2.2.1 q1.2.2.2.2.2.2.2.2.2.2.2.2.2.2.2.2.2.2.2.2.2.2.2.2.2.2.2.2.2.2.2.2.2.2.2.2.2.2.2.2.2.2.2.2.2.2.2.2.2.2.2.2.2.2.2.2.2.2.2.2.2.2.2.2.2.2.2.2.2.2.2.2.2.2.2.2.2.2.2.2.2.2.2.2.2.2.2.2.2.2.2.2.2.2.2.2.2.2.2.2.2.2.2.2.2.2.2.1 q1.2.2.2.2.2.2.2.2.2.2.2.2.2.2.2.2.2.2.2.2.2.2.2.2.2.2.2.2.2.2.2.2.2.2.2.2.2.2.2.2.2.2.2.2.2.2.2.2.2.2.2.2.2.2.2.2.2.2.2.2.2.2.2.2.2.2.2.2.2.2.2.2.2.2.2.2.2.2.2.2.2.2.2.2.2.2.2.2.2.2.2.2.2.2.2.2.2.2.2.2.2.2.2.2.2.2.2.2.1 q1.2.2.2.2.2.2.2.2.2.2.2.2.2.2.2.2.2.2.2.2.2.2.2.2.2.2.2.2.2.2.2.2.2.2.2.2.2.2.2.2.2.2.2.2.2.2.2.2.2.2.2.2.2.2.2.2.2.2.2.2.2.2.2.2.2.2.2.2.2.2.2.2.2.2.2.2.2.2.2.2.2.2.2.2.2.2.2.2.2.2.2.2.2.2.2.2.2.2.2.2.2.2.2.2.2.2.2.2.2.1 q1.2.2.2.2.2.2.2.2.2.2.2.2.2.2.2.2.2.2.2.2.2.2.2.2.2.2.2.2.2.2.2.2.2.2.2.2.2.2.2.2.2.2.2.2.2.2.2.2.2.2.2.2.2.2.2.2.2.2.2.2.2.2.2.2.2.2.2.2.2.2.2.2.2.2.2.2.2.2.2.2.2.2.2.2.2.2.2.2.2.2.2.2.2.2.2.2.2.2.2.2.2.2.2.2.2.2.2.2.2.2.1 q1.2.2.2.2.2.2.2.2.2.2.2.2.2.2.2.2.2.2.2.2.2.2.2.2.2.2.2.2.2.2.2.2.2.2.2.2.2.2.2.2.2.2.2.2.2.2.2.2.2.2.2.2.2.2.2.2.2.2.2.2.2.2.2.2.2.2.2.2.2.2.2.2.2.2.2.2.2.2.2.2.2.2.2.2.2.2.2.2.2.2.2.2.2.2.2.2.2.2.2.2.2.2.2.2.2.2.2.2.2.2.2.1 q1.2.2.2.2.2.2.2.2.2.2.2.2.2.2.2.2.2.2.2.2.2.2.2.2.2.2.2.2.2.2.2.2.2.2.2.2.2.2.2.2.2.2.2.2.2.2.2.2.2.2.2.2.2.2.2.2.2.2.2.2.2.2.2.2.2.2.2.2.2.2.2.2.2.2.2.2.2.2.2.2.2.2.2.2.2.2.2.2.2.2.2.2.2.2.2.2.2.2.2.2.2.2.2.2.2.2.2.2.2.2.2.2.1 q1.2.2.2.2.2.2.2.2.2.2.2.2.2.2.2.2.2.2.2.2.2.2.2.2.2.2.2.2.2.2.2.2.2.2.2.2.2.2.2.2.2.2.2.2.2.2.2.2.2.2.2.2.2.2.2.2.2.2.2.2.2.2.2.2.2.2.2.2.2.2.2.2.2.2.2.2.2.2.2.2.2.2.2.2.2.2.2.2.2.2.2.2.2.2.2.2.2.2.2.2.2.2.2.2.2.2.2.2.2.2.2.2.2.1 q1.2.2.2.2.2.2.2.2.2.2.2.2.2.2.2.2.2.2.2.2.2.2.2.2.2.2.2.2.2.2.2.2.2.2.2.2.2.2.2.2.2.2.2.2.2.2.2.2.2.2.2.2.2.2.2.2.2.2.2.2.2.2.2.2.2.2.2.2.2.2.2.2.2.2.2.2.2.2.2.2.2.2.2.2.2.2.2.2.2.2.2.2.2.2.2.2.2.2.2.2.2.2.2.2.2.2.2.2.2.2.2.2.2.2.1 q1.2.2.2.2.2.2.2.2.2.2.2.2.2.2.2.2.2.2.2.2.2.2.2.2.2.2.2.2.2.2.2.2.2.2.2.2.2.2.2.2.2.2.2.2.2.2.2.2.2.2.2.2.2.2.2.2.2.2.2.2.2.2.2.2.2.2.2.2.2.2.2.2.2.2.2.2.2.2.2.2.2.2.2.2.2.2.2.2.2.2.2.2.2.2.2.2.2.2.2.2.2.2.2.2.2.2.2.2.2.2.2.2.2.2.2.1 q1.2.2.2.2.2.2.2.2.2.2.2.2.2.2.2.2.2.2.2.2.2.2.2.2.2.2.2.2.2.2.2.2.2.2.2.2.2.2.2.2.2.2.2.2.2.2.2.2.2.2.2.2.2.2.2.2.2.2.2.2.2.2.2.2.2.2.2.2.2.2.2.2.2.2.2.2.2.2.2.2.2.2.2.2.2.2.2.2.2.2.2.2.2.2.2.2.2.2.2.2.2.2.2.2.2.2.2.2.2.2.2.2.2.2.2.2.1 q1.2.2.2.2.2.2.2.2.2.2.2.2.2.2.2.2.2.2.2.2.2.2.2.2.2.2.2.2.2.2.2.2.2.2.2.2.2.2.2.2.2.2.2.2.2.2.2.2.2.2.2.2.2.2.2.2.2.2.2.2.2.2.2.2.2.2.2.2.2.2.2.2.2.2.2.2.2.2.2.2.2.2.2.2.2.2.2.2.2.2.2.2.2.2.2.2.2.2.2.2.2.2.2.2.2.2.2.2.2.2.2.2.2.2.2.2.2.1 q1.2.2.2.2.2.2.2.2.2.2.2.2.2.2.2.2.2.2.2.2.2.2.2.2.2.2.2.2.2.2.2.2.2.2.2.2.2.2.2.2.2.2.2.2.2.2.2.2.2.2.2.2.2.2.2.2.2.2.2.2.2.2.2.2.2.2.2.2.2.2.2.2.2.2.2.2.2.2.2.2.2.2.2.2.2.2.2.2.2.2.2.2.2.2.2.2.2.2.2.2.2.2.2.2.2.2.2.2.2.2.2.2.2.2.2.2.2.2.1 q1.2.2.2.2.2.2.2.2.2.2.2.2.2.2.2.2.2.2.2.2.2.2.2.2.2.2.2.2.2.2.2.2.2.2.2.2.2.2.2.2.2.2.2.2.2.2.2.2.2.2.2.2.2.2.2.2.2.2.2.2.2.2.2.2.2.2.2.2.2.2.2.2.2.2.2.2.2.2.2.2.2.2.2.2.2.2.2.2.2.2.2.2.2.2.2.2.2.2.2.2.2.2.2.2.2.2.2.2.2.2.2.2.2.2.2.2.2.2.2.1 q1.2.2.2.2.2.2.2.2.2.2.2.2.2.2.2.2.2.2.2.2.2.2.2.2.2.2.2.2.2.2.2.2.2.2.2.2.2.2.2.2.2.2.2.2.2.2.2.2.2.2.2.2.2.2.2.2.2.2.2.2.2.2.2.2.2.2.2.2.2.2.2.2.2.2.2.2.2.2.2.2.2.2.2.2.2.2.2.2.2.2.2.2.2.2.2.2.2.2.2.2.2.2.2.2.2.2.2.2.2.2.2.2.2.2.2.2.2.2.2.2.1).bind fun q3 => (rec (wi64 (q3.1 - 1)) q3.2.1 q3.2.2.1 q3.2.2.2.1 q3.2.2.2.2.1 q3.2.2.2.2.2.1 q3.2.2.2.2.2.2.1 q3.2.2.2.2.2.2.2.1 q3.2.2.2.2.2.2.2.2.1 q3.2.2.2.2.2.2.2.2.2.1 q3.2.2.2.2.2.2.2.2.2.2.1 q3.2.2.2.2.2.2.2.2.2.2.2.1 q3.2.2.2.2.2.2.2.2.2.2.2.2.1 q3.2.2.2.2.2.2.2.2.2.2.2.2.2.1 q3.2.2.2.2.2.2.2.2.2.2.2.2.2.2.1 q3.2.2.2.2.2.2.2.2.2.2.2.2.2.2.2.1 q3.2.2.2.2.2.2.2.2.2.2.2.2.2.2.2.2.1 q3.2.2.2.2.2.2.2.2.2.2.2.2.2.2.2.2.2.1 q3.2.2.2.2.2.2.2.2.2.2.2.2.2.2.2.2.2.2.1 q3.2.2.2.2.2.2.2.2.2.2.2.2.2.2.2.2.2.2.2.1 q3.2.2.2.2.2.2.2.2.2.2.2.2.2.2.2.2.2.2.2.2.1 q3.2.2.2.2.2.2.2.2.2.2.2.2.2.2.2.2.2.2.2.2.2.1 q3.2.2.2.2.2.2.2.2.2.2.2.2.2.2.2.2.2.2.2.2.2.2.1 q3.2.2.2.2.2.2.2.2.2.2.2.2.2.2.2.2.2.2.2.2.2.2.2.1 q3.2.2.2.2.2.2.2.2.2.2.2.2.2.2.2.2.2.2.2.2.2.2.2.2.1 q3.2.2.2.2.2.2.2.2.2.2.2.2.2.2.2.2.2.2.2.2.2.2.2.2.2.1 q3.2.2.2.2.2.2.2.2.2.2.2.2.2.2.2.2.2.2.2.2.2.2.2.2.2.2.1 q3.2.2.2.2.2.2.2.2.2.2.2.2.2.2.2.2.2.2.2.2.2.2.2.2.2.2.2.1 q3.2.2.2.2.2.2.2.2.2.2.2.2.2.2.2.2.2.2.2.2.2.2.2.2.2.2.2.2.1 q3.2.2.2.2.2.2.2.2.2.2.2.2.2.2.2.2.2.2.2.2.2.2.2.2.2.2.2.2.2.1 q3.2.2.2.2.2.2.2.2.2.2.2.2.2.2.2.2.2.2.2.2.2.2.2.2.2.2.2.2.2.2.1 q3.2.2.2.2.2.2.2.2.2.2.2.2.2.2.2.2.2.2.2.2.2.2.2.2.2.2.2.2.2.2.2.1 q3.2.2.2.2.2.2.2.2.2.2.2.2.2.2.2.2.2.2.2.2.2.2.2.2.2.2.2.2.2.2.2.2.1 q3.2.2.2.2.2.2.2.2.2.2.2.2.2.2.2.2.2.2.2.2.2.2.2.2.2.2.2.2.2.2.2.2.2.1 q3.2.2.2.2.2.2.2.2.2.2.2.2.2.2.2.2.2.2.2.2.2.2.2.2.2.2.2.2.2.2.2.2.2.2.1 q3.2.2.2.2.2.2.2.2.2.2.2.2.2.2.2.2.2.2.2.2.2.2.2.2.2.2.2.2.2.2.2.2.2.2.2.1 q3.2.2.2.2.2.2.2.2.2.2.2.2.2.2.2.2.2.2.2.2.2.2.2.2.2.2.2.2.2.2.2.2.2.2.2.2.1 q3.2.2.2.2.2.2.2.2.2.2.2.2.2.2.2.2.2.2.2.2.2.2.2.2.2.2.2.2.2.2.2.2.2.2.2.2.2.1 q3.2.2.2.2.2.2.2.2.2.2.2.2.2.2.2.2.2.2.2.2.2.2.2.2.2.2.2.2.2.2.2.2.2.2.2.2.2.2.1 q3.2.2.2.2.2.2.2.2.2.2.2.2.2.2.2.2.2.2.2.2.2.2.2.2.2.2.2.2.2.2.2.2.2.2.2.2.2.2.2.1 q3.2.2.2.2.2.2.2.2.2.2.2.2.2.2.2.2.2.2.2.2.2.2.2.2.2.2.2.2.2.2.2.2.2.2.2.2.2.2.2.2.1 q3.2.2.2.2.2.2.2.2.2.2.2.2.2.2.2.2.2.2.2.2.2.2.2.2.2.2.2.2.2.2.2.2.2.2.2.2.2.2.2.2.2.1 q3.2.2.2.2.2.2.2.2.2.2.2.2.2.2.2.2.2.2.2.2.2.2.2.2.2.2.2.2.2.2.2.2.2.2.2.2.2.2.2.2.2.2.1 q3.2.2.2.2.2.2.2.2.2.2.2.2.2.2.2.2.2.2.2.2.2.2.2.2.2.2.2.2.2.2.2.2.2.2.2.2.2.2.2.2.2.2.2.1 q3.2.2.2.2.2.2.2.2.2.2.2.2.2.2.2.2.2.2.2.2.2.2.2.2.2.2.2.2.2.2.2.2.2.2.2.2.2.2.2.2.2.2.2.2.1 q3.2.2.2.2.2.2.2.2.2.2.2.2.2.2.2.2.2.2.2.2.2.2.2.2.2.2.2.2.2.2.2.2.2.2.2.2.2.2.2.2.2.2.2.2.2.1 q3.2.2.2.2.2.2.2.2.2.2.2.2.2.2.2.2.2.2.2.2.2.2.2.2.2.2.2.2.2.2.2.2.2.2.2.2.2.2.2.2.2.2.2.2.2.2.1 q3.2.2.2.2.2.2.2.2.2.2.2.2.2.2.2.2.2.2.2.2.2.2.2.2.2.2.2.2.2.2.2.2.2.2.2.2.2.2.2.2.2.2.2.2.2.2.2.1 q3.2.2.2.2.2.2.2.2.2.2.2.2.2.2.2.2.2.2.2.2.2.2.2.2.2.2.2.2.2.2.2.2.2.2.2.2.2.2.2.2.2.2.2.2.2.2.2.2.1 q3.2.2.2.2.2.2.2.2.2.2.2.2.2.2.2.2.2.2.2.2.2.2.2.2.2.2.2.2.2.2.2.2.2.2.2.2.2.2.2.2.2.2.2.2.2.2.2.2.2.1 q3.2.2.2.2.2.2.2.2.2.2.2.2.2.2.2.2.2.2.2.2.2.2.2.2.2.2.2.2.2.2.2.2.2.2.2.2.2.2.2.2.2.2.2.2.2.2.2.2.2.2.1 q3.2.2.2.2.2.2.2.2.2.2.2.2.2.2.2.2.2.2.2.2.2.2.2.2.2.2.2.2.2.2.2.2.2.2.2.2.2.2.2.2.2.2.2.2.2.2.2.2.2.2.2.1 q3.2.2.2.2.2.2.2.2.2.2.2.2.2.2.2.2.2.2.2.2.2.2.2.2.2.2.2.2.2.2.2.2.2.2.2.2.2.2.2.2.2.2.2.2.2.2.2.2.2.2.2.2.1 q3.2.2.2.2.2.2.2.2.2.2.2.2.2.2.2.2.2.2.2.2.2.2.2.2.2.2.2.2.2.2.2.2.2.2.2.2.2.2.2.2.2.2.2.2.2.2.2.2.2.2.2.2.2.1 q3.2.2.2.2.2.2.2.2.2.2.2.2.2.2.2.2.2.2.2.2.2.2.2.2.2.2.2.2.2.2.2.2.2.2.2.2.2.2.2.2.2.2.2.2.2.2.2.2.2.2.2.2.2.2.1 q3.2.2.2.2.2.2.2.2.2.2.2.2.2.2.2.2.2.2.2.2.2.2.2.2.2.2.2.2.2.2.2.2.2.2.2.2.2.2.2.2.2.2.2.2.2.2.2.2.2.2.2.2.2.2.2.1 q3.2.2.2.2.2.2.2.2.2.2.2.2.2.2.2.2.2.2.2.2.2.2.2.2.2.2.2.2.2.2.2.2.2.2.2.2.2.2.2.2.2.2.2.2.2.2.2.2.2.2.2.2.2.2.2.2.1 q3.2.2.2.2.2.2.2.2.2.2.2.2.2.2.2.2.2.2.2.2.2.2.2.2.2.2.2.2.2.2.2.2.2.2.2.2.2.2.2.2.2.2.2.2.2.2.2.2.2.2.2.2.2.2.2.2.2.1 q3.2.2.2.2.2.2.2.2.2.2.2.2.2.2.2.2.2.2.2.2.2.2.2.2.2.2.2.2.2.2.2.2.2.2.2.2.2.2.2.2.2.2.2.2.2.2.2.2.2.2.2.2.2.2.2.2.2.2.1 q3.2.2.2.2.2.2.2.2.2.2.2.2.2.2.2.2.2.2.2.2.2.2.2.2.2.2.2.2.2.2.2.2.2.2.2.2.2.2.2.2.2.2.2.2.2.2.2.2.2.2.2.2.2.2.2.2.2.2.2.1 q3.2.2.2.2.2.2.2.2.2.2.2.2.2.2.2.2.2.2.2.2.2.2.2.2.2.2.2.2.2.2.2.2.2.2.2.2.2.2.2.2.2.2.2.2.2.2.2.2.2.2.2.2.2.2.2.2.2.2.2.2.1 q3.2.2.2.2.2.2.2.2.2.2.2.2.2.2.2.2.2.2.2.2.2.2.2.2.2.2.2.2.2.2.2.2.2.2.2.2.2.2.2.2.2.2.2.2.2.2.2.2.2.2.2.2.2.2.2.2.2.2.2.2.2.1 q3.2.2.2.2.2.2.2.2.2.2.2.2.2.2.2.2.2.2.2.2.2.2.2.2.2.2.2.2.2.2.2.2.2.2.2.2.2.2.2.2.2.2.2.2.2.2.2.2.2.2.2.2.2.2.2.2.2.2.2.2.2.2.1 q3.2.2.2.2.2.2.2.2.2.2.2.2.2.2.2.2.2.2.2.2.2.2.2.2.2.2.2.2.2.2.2.2.2.2.2.2.2.2.2.2.2.2.2.2.2.2.2.2.2.2.2.2.2.2.2.2.2.2.2.2.2.2.2.1 q3.2.2.2.2.2.2.2.2.2.2.2.2.2.2.2.2.2.2.2.2.2.2.2.2.2.2.2.2.2.2.2.2.2.2.2.2.2.2.2.2.2.2.2.2.2.2.2.2.2.2.2.2.2.2.2.2.2.2.2.2.2.2.2.2.1 q3.2.2.2.2.2.2.2.2.2.2.2.2.2.2.2.2.2.2.2.2.2.2.2.2.2.2.2.2.2.2.2.2.2.2.2.2.2.2.2.2.2.2.2.2.2.2.2.2.2.2.2.2.2.2.2.2.2.2.2.2.2.2.2.2.2.1 q3.2.2.2.2.2.2.2.2.2.2.2.2.2.2.2.2.2.2.2.2.2.2.2.2.2.2.2.2.2.2.2.2.2.2.2.2.2.2.2.2.2.2.2.2.2.2.2.2.2.2.2.2.2.2.2.2.2.2.2.2.2.2.2.2.2.2.1 q3.2.2.2.2.2.2.2.2.2.2.2.2.2.2.2.2.2.2.2.2.2.2.2.2.2.2.2.2.2.2.2.2.2.2.2.2.2.2.2.2.2.2.2.2.2.2.2.2.2.2.2.2.2.2.2.2.2.2.2.2.2.2.2.2.2.2.2.1 q3.2.2.2.2.2.2.2.2.2.2.2.2.2.2.2.2.2.2.2.2.2.2.2.2.2.2.2.2.2.2.2.2.2.2.2.2.2.2.2.2.2.2.2.2.2.2.2.2.2.2.2.2.2.2.2.2.2.2.2.2.2.2.2.2.2.2.2.2.1 q3.2.2.2.2.2.2.2.2.2.2.2.2.2.2.2.2.2.2.2.2.2.2.2.2.2.2.2.2.2.2.2.2.2.2.2.2.2.2.2.2.2.2.2.2.2.2.2.2.2.2.2.2.2.2.2.2.2.2.2.2.2.2.2.2.2.2.2.2.2.1 q3.2.2.2.2.2.2.2.2.2.2.2.2.2.2.2.2.2.2.2.2.2.2.2.2.2.2.2.2.2.2.2.2.2.2.2.2.2.2.2.2.2.2.2.2.2.2.2.2.2.2.2.2.2.2.2.2.2.2.2.2.2.2.2.2.2.2.2.2.2.2.1 q3.2.2.2.2.2.2.2.2.2.2.2.2.2.2.2.2.2.2.2.2.2.2.2.2.2.2.2.2.2.2.2.2.2.2.2.2.2.2.2.2.2.2.2.2.2.2.2.2.2.2.2.2.2.2.2.2.2.2.2.2.2.2.2.2.2.2.2.2.2.2.2.1 q3.2.2.2.2.2.2.2.2.2.2.2.2.2.2.2.2.2.2.2.2.2.2.2.2.2.2.2.2.2.2.2.2.2.2.2.2.2.2.2.2.2.2.2.2.2.2.2.2.2.2.2.2.2.2.2.2.2.2.2.2.2.2.2.2.2.2.2.2.2.2.2.2.1 q3.2.2.2.2.2.2.2.2.2.2.2.2.2.2.2.2.2.2.2.2.2.2.2.2.2.2.2.2.2.2.2.2.2.2.2.2.2.2.2.2.2.2.2.2.2.2.2.2.2.2.2.2.2.2.2.2.2.2.2.2.2.2.2.2.2.2.2.2.2.2.2.2.2.1 q3.2.2.2.2.2.2.2.2.2.2.2.2.2.2.2.2.2.2.2.2.2.2.2.2.2.2.2.2.2.2.2.2.2.2.2.2.2.2.2.2.2.2.2.2.2.2.2.2.2.2.2.2.2.2.2.2.2.2.2.2.2.2.2.2.2.2.2.2.2.2.2.2.2.2.1 q3.2.2.2.2.2.2.2.2.2.2.2.2.2.2.2.2.2.2.2.2.2.2.2.2.2.2.2.2.2.2.2.2.2.2.2.2.2.2.2.2.2.2.2.2.2.2.2.2.2.2.2.2.2.2.2.2.2.2.2.2.2.2.2.2.2.2.2.2.2.2.2.2.2.2.2.1 q3.2.2.2.2.2.2.2.2.2.2.2.2.2.2.2.2.2.2.2.2.2.2.2.2.2.2.2.2.2.2.2.2.2.2.2.2.2.2.2.2.2.2.2.2.2.2.2.2.2.2.2.2.2.2.2.2.2.2.2.2.2.2.2.2.2.2.2.2.2.2.2.2.2.2.2.2.1 q3.2.2.2.2.2.2.2.2.2.2.2.2.2.2.2.2.2.2.2.2.2.2.2.2.2.2.2.2.2.2.2.2.2.2.2.2.2.2.2.2.2.2.2.2.2.2.2.2.2.2.2.2.2.2.2.2.2.2.2.2.2.2.2.2.2.2.2.2.2.2.2.2.2.2.2.2.2.1 q3.2.2.2.2.2.2.2.2.2.2.2.2.2.2.2.2.2.2.2.2.2.2.2.2.2.2.2.2.2.2.2.2.2.2.2.2.2.2.2.2.2.2.2.2.2.2.2.2.2.2.2.2.2.2.2.2.2.2.2.2.2.2.2.2.2.2.2.2.2.2.2.2.2.2.2.2.2.2.1 q3.2.2.2.2.2.2.2.2.2.2.2.2.2.2.2.2.2.2.2.2.2.2.2.2.2.2.2.2.2.2.2.2.2.2.2.2.2.2.2.2.2.2.2.2.2.2.2.2.2.2.2.2.2.2.2.2.2.2.2.2.2.2.2.2.2.2.2.2.2.2.2.2.2.2.2.2.2.2.2.1 q3.2.2.2.2.2.2.2.2.2.2.2.2.2.2.2.2.2.2.2.2.2.2.2.2.2.2.2.2.2.2.2.2.2.2.2.2.2.2.2.2.2.2.2.2.2.2.2.2.2.2.2.2.2.2.2.2.2.2.2.2.2.2.2.2.2.2.2.2.2.2.2.2.2.2.2.2.2.2.2.2.1 q3.2.2.2.2.2.2.2.2.2.2.2.2.2.2.2.2.2.2.2.2.2.2.2.2.2.2.2.2.2.2.2.2.2.2.2.2.2.2.2.2.2.2.2.2.2.2.2.2.2.2.2.2.2.2.2.2.2.2.2.2.2.2.2.2.2.2.2.2.2.2.2.2.2.2.2.2.2.2.2.2.2.1 q3.2.2.2.2.2.2.2.2.2.2.2.2.2.2.2.2.2.2.2.2.2.2.2.2.2.2.2.2.2.2.2.2.2.2.2.2.2.2.2.2.2.2.2.2.2.2.2.2.2.2.2.2.2.2.2.2.2.2.2.2.2.2.2.2.2.2.2.2.2.2.2.2.2.2.2.2.2.2.2.2.2.2.1 q3.2.2.2.2.2.2.2.2.2.2.2.2.2.2.2.2.2.2.2.2.2.2.2.2.2.2.2.2.2.2.2.2.2.2.2.2.2.2.2.2.2.2.2.2.2.2.2.2.2.2.2.2.2.2.2.2.2.2.2.2.2.2.2.2.2.2.2.2.2.2.2.2.2.2.2.2.2.2.2.2.2.2.2.1 q3.2.2.2.2.2.2.2.2.2.2.2.2.2.2.2.2.2.2.2.2.2.2.2.2.2.2.2.2.2.2.2.2.2.2.2.2.2.2.2.2.2.2.2.2.2.2.2.2.2.2.2.2.2.2.2.2.2.2.2.2.2.2.2.2.2.2.2.2.2.2.2.2.2.2.2.2.2.2.2.2.2.2.2.2.1 q3.2.2.2.2.2.2.2.2.2.2.2.2.2.2.2.2.2.2.2.2.2.2.2.2.2.2.2.2.2.2.2.2.2.2.2.2.2.2.2.2.2.2.2.2.2.2.2.2.2.2.2.2.2.2.2.2.2.2.2.2.2.2.2.2.2.2.2.2.2.2.2.2.2.2.2.2.2.2.2.2.2.2.2.2.2.1 q3.2.2.2.2.2.2.2.2.2.2.2.2.2.2.2.2.2.2.2.2.2.2.2.2.2.2.2.2.2.2.2.2.2.2.2.2.2.2.2.2.2.2.2.2.2.2.2.2.2.2.2.2.2.2.2.2.2.2.2.2.2.2.2.2.2.2.2.2.2.2.2.2.2.2.2.2.2.2.2.2.2.2.2.2.2.2.1 q3.2.2.2.2.2.2.2.2.2.2.2.2.2.2.2.2.2.2.2.2.2.2.2.2.2.2.2.2.2.2.2.2.2.2.2.2.2.2.2.2.2.2.2.2.2.2.2.2.2.2.2.2.2.2.2.2.2.2.2.2.2.2.2.2.2.2.2.2.2.2.2.2.2.2.2.2.2.2.2.2.2.2.2.2.2.2.2.1 q3.2.2.2.2.2.2.2.2.2.2.2.2.2.2.2.2.2.2.2.2.2.2.2.2.2.2.2.2.2.2.2.2.2.2.2.2.2.2.2.2.2.2.2.2.2.2.2.2.2.2.2.2.2.2.2.2.2.2.2.2.2.2.2.2.2.2.2.2.2.2.2.2.2.2.2.2.2.2.2.2.2.2.2.2.2.2.2.2.1 q3.2.2.2.2.2.2.2.2.2.2.2.2.2.2.2.2.2.2.2.2.2.2.2.2.2.2.2.2.2.2.2.2.2.2.2.2.2.2.2.2.2.2.2.2.2.2.2.2.2.2.2.2.2.2.2.2.2.2.2.2.2.2.2.2.2.2.2.2.2.2.2.2.2.2.2.2.2.2.2.2.2.2.2.2.2.2.2.2.2.1 q3.2.2.2.2.2.2.2.2.2.2.2.2.2.2.2.2.2.2.2.2.2.2.2.2.2.2.2.2.2.2.2.2.2.2.2.2.2.2.2.2.2.2.2.2.2.2.2.2.2.2.2.2.2.2.2.2.2.2.2.2.2.2.2.2.2.2.2.2.2.2.2.2.2.2.2.2.2.2.2.2.2.2.2.2.2.2.2.2.2.2.1 q3.2.2.2.2.2.2.2.2.2.2.2.2.2.2.2.2.2.2.2.2.2.2.2.2.2.2.2.2.2.2.2.2.2.2.2.2.2.2.2.2.2.2.2.2.2.2.2.2.2.2.2.2.2.2.2.2.2.2.2.2.2.2.2.2.2.2.2.2.2.2.2.2.2.2.2.2.2.2.2.2.2.2.2.2.2.2.2.2.2.2.2.1 q3.2.2.2.2.2.2.2.2.2.2.2.2.2.2.2.2.2.2.2.2.2.2.2.2.2.2.2.2.2.2.2.2.2.2.2.2.2.2.2.2.2.2.2.2.2.2.2.2.2.2.2.2.2.2.2.2.2.2.2.2.2.2.2.2.2.2.2.2.2.2.2.2.2.2.2.2.2.2.2.2.2.2.2.2.2.2.2.2.2.2.2.2.1 q3.2.2.2.2.2.2.2.2.2.2.2.2.2.2.2.2.2.2.2.2.2.2.2.2.2.2.2.2.2.2.2.2.2.2.2.2.2.2.2.2.2.2.2.2.2.2.2.2.2.2.2.2.2.2.2.2.2.2.2.2.2.2.2.2.2.2.2.2.2.2.2.2.2.2.2.2.2.2.2.2.2.2.2.2.2.2.2.2.2.2.2.2.2.1 q3.2.2.2.2.2.2.2.2.2.2.2.2.2.2.2.2.2.2.2.2.2.2.2.2.2.2.2.2.2.2.2.2.2.2.2.2.2.2.2.2.2.2.2.2.2.2.2.2.2.2.2.2.2.2.2.2.2.2.2.2.2.2.2.2.2.2.2.2.2.2.2.2.2.2.2.2.2.2.2.2.2.2.2.2.2.2.2.2.2.2.2.2.2.2.1 q3.2.2.2.2.2.2.2.2.2.2.2.2.2.2.2.2.2.2.2.2.2.2.2.2.2.2.2.2.2.2.2.2.2.2.2.2.2.2.2.2.2.2.2.2.2.2.2.2.2.2.2.2.2.2.2.2.2.2.2.2.2.2.2.2.2.2.2.2.2.2.2.2.2.2.2.2.2.2.2.2.2.2.2.2.2.2.2.2.2.2.2.2.2.2.2.1 q3.2.2.2.2.2.2.2.2.2.2.2.2.2.2.2.2.2.2.2.2.2.2.2.2.2.2.2.2.2.2.2.2.2.2.2.2.2.2.2.2.2.2.2.2.2.2.2.2.2.2.2.2.2.2.2.2.2.2.2.2.2.2.2.2.2.2.2.2.2.2.2.2.2.2.2.2.2.2.2.2.2.2.2.2.2.2.2.2.2.2.2.2.2.2.2.2.1 q3.2.2.2.2.2.2.2.2.2.2.2.2.2.2.2.2.2.2.2.2.2.2.2.2.2.2.2.2.2.2.2.2.2.2.2.2.2.2.2.2.2.2.2.2.2.2.2.2.2.2.2.2.2.2.2.2.2.2.2.2.2.2.2.2.2.2.2.2.2.2.2.2.2.2.2.2.2.2.2.2.2.2.2.2.2.2.2.2.2.2.2.2.2.2.2.2.2.1 q3.2.2.2.2.2.2.2.2.2.2.2.2.2.2.2.2.2.2.2.2.2.2.2.2.2.2.2.2.2.2.2.2.2.2.2.2.2.2.2.2.2.2.2.2.2.2.2.2.2.2.2.2.2.2.2.2.2.2.2.2.2.2.2.2.2.2.2.2.2.2.2.2.2.2.2.2.2.2.2.2.2.2.2.2.2.2.2.2.2.2.2.2.2.2.2.2.2.2.1 q3.2.2.2.2.2.2.2.2.2.2.2.2.2.2.2.2.2.2.2.2.2.2.2.2.2.2.2.2.2.2.2.2.2.2.2.2.2.2.2.2.2.2.2.2.2.2.2.2.2.2.2.2.2.2.2.2.2.2.2.2.2.2.2.2.2.2.2.2.2.2.2.2.2.2.2.2.2.2.2.2.2.2.2.2.2.2.2.2.2.2.2.2.2.2.2.2.2.2.2.1 q3.2.2.2.2.2.2.2.2.2.2.2.2.2.2.2.2.2.2.2.2.2.2.2.2.2.2.2.2.2.2.2.2.2.2.2.2.2.2.2.2.2.2.2.2.2.2.2.2.2.2.2.2.2.2.2.2.2.2.2.2.2.2.2.2.2.2.2.2.2.2.2.2.2.2.2.2.2.2.2.2.2.2.2.2.2.2.2.2.2.2.2.2.2.2.2.2.2.2.2.2.1 q3.2.2.2.2.2.2.2.2.2.2.2.2.2.2.2.2.2.2.2.2.2.2.2.2.2.2.2.2.2.2.2.2.2.2.2.2.2.2.2.2.2.2.2.2.2.2.2.2.2.2.2.2.2.2.2.2.2.2.2.2.2.2.2.2.2.2.2.2.2.2.2.2.2.2.2.2.2.2.2.2.2.2.2.2.2.2.2.2.2.2.2.2.2.2.2.2.2.2.2.2.2.1 q3.2.2.2.2.2.2.2.2.2.2.2.2.2.2.2.2.2.2.2.2.2.2.2.2.2.2.2.2.2.2.2.2.2.2.2.2.2.2.2.2.2.2.2.2.2.2.2.2.2.2.2.2.2.2.2.2.2.2.2.2.2.2.2.2.2.2.2.2.2.2.2.2.2.2.2.2.2.2.2.2.2.2.2.2.2.2.2.2.2.2.2.2.2.2.2.2.2.2.2.2.2.2.1 q3.2.2.2.2.2.2.2.2.2.2.2.2.2.2.2.2.2.2.2.2.2.2.2.2.2.2.2.2.2.2.2.2.2.2.2.2.2.2.2.2.2.2.2.2.2.2.2.2.2.2.2.2.2.2.2.2.2.2.2.2.2.2.2.2.2.2.2.2.2.2.2.2.2.2.2.2.2.2.2.2.2.2.2.2.2.2.2.2.2.2.2.2.2.2.2.2.2.2.2.2.2.2.2.1 q3.2.2.2.2.2.2.2.2.2.2.2.2.2.2.2.2.2.2.2.2.2.2.2.2.2.2.2.2.2.2.2.2.2.2.2.2.2.2.2.2.2.2.2.2.2.2.2.2.2.2.2.2.2.2.2.2.2.2.2.2.2.2.2.2.2.2.2.2.2.2.2.2.2.2.2.2.2.2.2.2.2.2.2.2.2.2.2.2.2.2.2.2.2.2.2.2.2.2.2.2.2.2.2.2.1 q3.2.2.2.2.2.2.2.2.2.2.2.2.2.2.2.2.2.2.2.2.2.2.2.2.2.2.2.2.2.2.2.2.2.2.2.2.2.2.2.2.2.2.2.2.2.2.2.2.2.2.2.2.2.2.2.2.2.2.2.2.2.2.2.2.2.2.2.2.2.2.2.2.2.2.2.2.2.2.2.2.2.2.2.2.2.2.2.2.2.2.2.2.2.2.2.2.2.2.2.2.2.2.2.2.2.1 q3.2.2.2.2.2.2.2.2.2.2.2.2.2.2.2.2.2.2.2.2.2.2.2.2.2.2.2.2.2.2.2.2.2.2.2.2.2.2.2.2.2.2.2.2.2.2.2.2.2.2.2.2.2.2.2.2.2.2.2.2.2.2.2.2.2.2.2.2.2.2.2.2.2.2.2.2.2.2.2.2.2.2.2.2.2.2.2.2.2.2.2.2.2.2.2.2.2.2.2.2.2.2.2.2.2.2.1 q3.2.2.2.2.2.2.2.2.2.2.2.2.2.2.2.2.2.2.2.2.2.2.2.2.2.2.2.2.2.2.2.2.2.2.2.2.2.2.2.2.2.2.2.2.2.2.2.2.2.2.2.2.2.2.2.2.2.2.2.2.2.2.2.2.2.2.2.2.2.2.2.2.2.2.2.2.2.2.2.2.2.2.2.2.2.2.2.2.2.2.2.2.2.2.2.2.2.2.2.2.2.2.2.2.2.2.2.1 q3.2.2.2.2.2.2.2.2.2.2.2.2.2.2.2.2.2.2.2.2.2.2.2.2.2.2.2.2.2.2.2.2.2.2.2.2.2.2.2.2.2.2.2.2.2.2.2.2.2.2.2.2.2.2.2.2.2.2.2.2.2.2.2.2.2.2.2.2.2.2.2.2.2.2.2.2.2.2.2.2.2.2.2.2.2.2.2.2.2.2.2.2.2.2.2.2.2.2.2.2.2.2.2.2.2.2.2.2.1 q3.2.2.2.2.2.2.2.2.2.2.2.2.2.2.2.2.2.2.2.2.2.2.2.2.2.2.2.2.2.2.2.2.2.2.2.2.2.2.2.2.2.2.2.2.2.2.2.2.2.2.2.2.2.2.2.2.2.2.2.2.2.2.2.2.2.2.2.2.2.2.2.2.2.2.2.2.2.2.2.2.2.2.2.2.2.2.2.2.2.2.2.2.2.2.2.2.2.2.2.2.2.2.2.2.2.2.2.2.2.1 q3.2.2.2.2.2.2.2.2.2.2.2.2.2.2.2.2.2.2.2.2.2.2.2.2.2.2.2.2.2.2.2.2.2.2.2.2.2.2.2.2.2.2.2.2.2.2.2.2.2.2.2.2.2.2.2.2.2.2.2.2.2.2.2.2.2.2.2.2.2.2.2.2.2.2.2.2.2.2.2.2.2.2.2.2.2.2.2.2.2.2.2.2.2.2.2.2.2.2.2.2.2.2.2.2.2.2.2.2.2.2.1 q3.2.2.2.2.2.2.2.2.2.2.2.2.2.2.2.2.2.2.2.2.2.2.2.2.2.2.2.2.2.2.2.2.2.2.2.2.2.2.2.2.2.2.2.2.2.2.2.2.2.2.2.2.2.2.2.2.2.2.2.2.2.2.2.2.2.2.2.2.2.2.2.2.2.2.2.2.2.2.2.2.2.2.2.2.2.2.2.2.2.2.2.2.2.2.2.2.2.2.2.2.2.2.2.2.2.2.2.2.2.2.2.1 q3.2.2.2.2.2.2.2.2.2.2.2.2.2.2.2.2.2.2.2.2.2.2.2.2.2.2.2.2.2.2.2.2.2.2.2.2.2.2.2.2.2.2.2.2.2.2.2.2.2.2.2.2.2.2.2.2.2.2.2.2.2.2.2.2.2.2.2.2.2.2.2.2.2.2.2.2.2.2.2.2.2.2.2.2.2.2.2.2.2.2.2.2.2.2.2.2.2.2.2.2.2.2.2.2.2.2.2.2.2.2.2.2.1 q3.2.2.2.2.2.2.2.2.2.2.2.2.2.2.2.2.2.2.2.2.2.2.2.2.2.2.2.2.2.2.2.2.2.2.2.2.2.2.2.2.2.2.2.2.2.2.2.2.2.2.2.2.2.2.2.2.2.2.2.2.2.2.2.2.2.2.2.2.2.2.2.2.2.2.2.2.2.2.2.2.2.2.2.2.2.2.2.2.2.2.2.2.2.2.2.2.2.2.2.2.2.2.2.2.2.2.2.2.2.2.2.2.2.1 q3.2.2.2.2.2.2.2.2.2.2.2.2.2.2.2.2.2.2.2.2.2.2.2.2.2.2.2.2.2.2.2.2.2.2.2.2.2.2.2.2.2.2.2.2.2.2.2.2.2.2.2.2.2.2.2.2.2.2.2.2.2.2.2.2.2.2.2.2.2.2.2.2.2.2.2.2.2.2.2.2.2.2.2.2.2.2.2.2.2.2.2.2.2.2.2.2.2.2.2.2.2.2.2.2.2.2.2.2.2.2.2.2.2.2.1 q3.2.2.2.2.2.2.2.2.2.2.2.2.2.2.2.2.2.2.2.2.2.2.2.2.2.2.2.2.2.2.2.2.2.2.2.2.2.2.2.2.2.2.2.2.2.2.2.2.2.2.2.2.2.2.2.2.2.2.2.2.2.2.2.2.2.2.2.2.2.2.2.2.2.2.2.2.2.2.2.2.2.2.2.2.2.2.2.2.2.2.2.2.2.2.2.2.2.2.2.2.2.2.2.2.2.2.2.2.2.2.2.2.2.2.2.1 q3.2.2.2.2.2.2.2.2.2.2.2.2.2.2.2.2.2.2.2.2.2.2.2.2.2.2.2.2.2.2.2.2.2.2.2.2.2.2.2.2.2.2.2.2.2.2.2.2.2.2.2.2.2.2.2.2.2.2.2.2.2.2.2.2.2.2.2.2.2.2.2.2.2.2.2.2.2.2.2.2.2.2.2.2.2.2.2.2.2.2.2.2.2.2.2.2.2.2.2.2.2.2.2.2.2.2.2.2.2.2.2.2.2.2.2.2.1 q3.2.2.2.2.2.2.2.2.2.2.2.2.2.2.2.2.2.2.2.2.2.2.2.2.2.2.2.2.2.2.2.2.2.2.2.2.2.2.2.2.2.2.2.2.2.2.2.2.2.2.2.2.2.2.2.2.2.2.2.2.2.2.2.2.2.2.2.2.2.2.2.2.2.2.2.2.2.2.2.2.2.2.2.2.2.2.2.2.2.2.2.2.2.2.2.2.2.2.2.2.2.2.2.2.2.2.2.2.2.2.2.2.2.2.2.2.2.1 q3.2.2.2.2.2.2.2.2.2.2.2.2.2.2.2.2.2.2.2.2.2.2.2.2.2.2.2.2.2.2.2.2.2.2.2.2.2.2.2.2.2.2.2.2.2.2.2.2.2.2.2.2.2.2.2.2.2.2.2.2.2.2.2.2.2.2.2.2.2.2.2.2.2.2.2.2.2.2.2.2.2.2.2.2.2.2.2.2.2.2.2.2.2.2.2.2.2.2.2.2.2.2.2.2.2.2.2.2.2.2.2.2.2.2.2.2.2.2.1 q3.2.2.2.2.2.2.2.2.2.2.2.2.2.2.2.2.2.2.2.2.2.2.2.2.2.2.2.2.2.2.2.2.2.2.2.2.2.2.2.2.2.2.2.2.2.2.2.2.2.2.2.2.2.2.2.2.2.2.2.2.2.2.2.2.2.2.2.2.2.2.2.2.2.2.2.2.2.2.2.2.2.2.2.2.2.2.2.2.2.2.2.2.2.2.2.2.2.2.2.2.2.2.2.2.2.2.2.2.2.2.2.2.2.2.2.2.2.2.2.1 q3.2.2.2.2.2.2.2.2.2.2.2.2.2.2.2.2.2.2.2.2.2.2.2.2.2.2.2.2.2.2.2.2.2.2.2.2.2.2.2.2.2.2.2.2.2.2.2.2.2.2.2.2.2.2.2.2.2.2.2.2.2.2.2.2.2.2.2.2.2.2.2.2.2.2.2.2.2.2.2.2.2.2.2.2.2.2.2.2.2.2.2.2.2.2.2.2.2.2.2.2.2.2.2.2.2.2.2.2.2.2.2.2.2.2.2.2.2.2.2.2.1))) ((selI [q1.2.1, q1.2.2.1, q1.2.2.2.1, q1.2.2.2.2.1, q1.2.2.2.2.2.1, q1.2.2.2.2.2.2.1, q1.2.2.2.2.2.2.2.1, q1.2.2.2.2.2.2.2.2.1, q1.2.2.2.2.2.2.2.2.2.1, q1.2.2.2.2.2.2.2.2.2.2.1, q1.2.2.2.2.2.2.2.2.2.2.2.1, q1.2.2.2.2.2.2.2.2.2.2.2.2.1, q1.2.2.2.2.2.2.2.2.2.2.2.2.2.1, q1.2.2.2.2.2.2.2.2.2.2.2.2.2.2.1, q1.2.2.2.2.2.2.2.2.2.2.2.2.2.2.2.1, q1.2.2.2.2.2.2.2.2.2.2.2.2.2.2.2.2.1, q1.2.2.2.2.2.2.2.2.2.2.2.2.2.2.2.2.2.1, q1.2.2.2.2.2.2.2.2.2.2.2.2.2.2.2.2.2.2.1, q1.2.2.2.2.2.2.2.2.2.2.2.2.2.2.2.2.2.2.2.1, q1.2.2.2.2.2.2.2.2.2.2.2.2.2.2.2.2.2.2.2.2.1] (Int.toNat q1.1)))) else none)) else (some (m1_0, m1_1, m1_2, m1_3, m1_4, m1_5, m1_6, m1_7, m1_8, m1_9, m1_10, m1_11, m1_12, m1_13, m1_14, m1_15, m1_16, m1_17, m1_18, m1_19, m2_0, m2_1, m2_2, m2_3, m2_4, m2_5, m2_6, m2_7, m2_8, m2_9, m2_10, m2_11, m2_12, m2_13, m2_14, m2_15, m2_16, m2_17, m2_18, m2_19, m3_0, m3_1, m3_2, m3_3, m3_4, m3_5, m3_6, m3_7, m3_8, m3_9, m3_10, m3_11, m3_12, m3_13, m3_14, m3_15, m3_16, m3_17, m3_18, m3_19, m4_0, m4_1, m4_2, m4_3, m4_4, m4_5, m4_6, m4_7, m4_8, m4_9, m4_10, m4_11, m4_12, m4_13, m4_14, m4_15, m4_16, m4_17, m4_18, m4_19, ())))
noncomputable def rheostatref04_by_l1 (K n : Nat) : Int → Int → Int → Int → Int → Int → Int → Int → Int → Int → Int → Int → Int → Int → Int → Int → Int → Int → Int → Int → Int → Int → Int → Int → Int → Int → Int → Int → Int → Int → Int → Int → Int → Int → Int → Int → Int → Int → Int → Int → Int → Int → Int → Int → Int → Int → Int → Int → Int → Int → Int → Int → Int → Int → Int → Int → Int → Int → Int → Int → Int → Int → Int → Int → Int → Int → Int → Int → Int → Int → Int → Int → Int → Int → Int → Int → Int → Int → Int → Int → Int → Int → Int → Int → Int → Int → Int → Int → Int → Int → Int → Int → Int → Int → Int → Int → Int → Int → Int → Int → Int → Int → Int → Int → Int → Int → Int → Int → Int → Int → Int → Int → Int → Int → Int → Int → Int → Int → Int → Int → Int → Option (Int × Int × Int × Int × Int × Int × Int × Int × Int × Int × Int × Int × Int × Int × Int × Int × Int × Int × Int × Int × Int × Int × Int × Int × Int × Int × Int × Int × Int × Int × Int × Int × Int × Int × Int × Int × Int × Int × Int × Int × Int × Int × Int × Int × Int × Int × Int × Int × Int × Int × Int × Int × Int × Int × Int × Int × Int × Int × Int × Int × Int × Int × Int × Int × Int × Int × Int × Int × Int × Int × Int × Int × Int × Int × Int × Int × Int × Int × Int × Int × Unit) := Nat.rec (motive := fun _ => Int → Int → Int → Int → Int → Int → Int → Int → Int → Int → Int → Int → Int → Int → Int → Int → Int → Int → Int → Int → Int → Int → Int → Int → Int → Int → Int → Int → Int → Int → Int → Int → Int → Int → Int → Int → Int → Int → Int → Int → Int → Int → Int → Int → Int → Int → Int → Int → Int → Int → Int → Int → Int → Int → Int → Int → Int → Int → Int → Int → Int → Int → Int → Int → Int → Int → Int → Int → Int → Int → Int → Int → Int → Int → Int → Int → Int → Int → Int → Int → Int → Int → Int → Int → Int → Int → Int → Int → Int → Int → Int → Int → Int → Int → Int → Int → Int → Int → Int → Int → Int → Int → Int → Int → Int → Int → Int → Int → Int → Int → Int → Int → Int → Int → Int → Int → Int → Int → Int → Int → Int → Option (Int × Int × Int × Int × Int × Int × Int × Int × Int × Int × Int × Int × Int × Int × Int × Int × Int × Int × Int × Int × Int × Int × Int × Int × Int × Int × Int × Int × Int × Int × Int × Int × Int × Int × Int × Int × Int × Int × Int × Int × Int × Int × Int × Int × Int × Int × Int × Int × Int × Int × Int × Int × Int × Int × Int × Int × Int × Int × Int × Int × Int × Int × Int × Int × Int × Int × Int × Int × Int × Int × Int × Int × Int × Int × Int × Int × Int × Int × Int × Int × Unit)) (fun _ _ _ _ _ _ _ _ _ _ _ _ _ _ _ _ _ _ _ _ _ _ _ _ _ _ _ _ _ _ _ _ _ _ _ _ _ _ _ _ _ _ _ _ _ _ _ _ _ _ _ _ _ _ _ _ _ _ _ _ _ _ _ _ _ _ _ _ _ _ _ _ _ _ _ _ _ _ _ _ _ _ _ _ _ _ _ _ _ _ _ _ _ _ _ _ _ _ _ _ _ _ _ _ _ _ _ _ _ _ _ _ _ _ _ _ _ _ _ _ _ => none) (fun _ ih => rheostatref04_by_l1r K ih) n
noncomputable def rheostatref04_by_l1u (K n : Nat) (t : rheostatref04_by_l1h.T) : Option (Int × Int × Int × Int × Int × Int × Int × Int × Int × Int × Int × Int × Int × Int × Int × Int × Int × Int × Int × Int × Int × Int × Int × Int × Int × Int × Int × Int × Int × Int × Int × Int × Int × Int × Int × Int × Int × Int × Int × Int × Int × Int × Int × Int × Int × Int × Int × Int × Int × Int × Int × Int × Int × Int × Int × Int × Int × Int × Int × Int × Int × Int × Int × Int × Int × Int × Int × Int × Int × Int × Int × Int × Int × Int × Int × Int × Int × Int × Int × Int × Unit) :=
  let u1 := t.2
  let u2 := u1.2
  let u3 := u2.2
  let u4 := u3.2
  let u5 := u4.2
  let u6 := u5.2
  let u7 := u6.2
  let u8 := u7.2
  let u9 := u8.2
  let u10 := u9.2
  let u11 := u10.2
  let u12 := u11.2
  let u13 := u12.2
  let u14 := u13.2
  let u15 := u14.2
  let u16 := u15.2
  let u17 := u16.2
  let u18 := u17.2
  let u19 := u18.2
  let u20 := u19.2
  let u21 := u20.2
  let u22 := u21.2
  let u23 := u22.2
  let u24 := u23.2
  let u25 := u24.2
  let u26 := u25.2
  let u27 := u26.2
  let u28 := u27.2
  let u29 := u28.2
  let u30 := u29.2
  let u31 := u30.2
  let u32 := u31.2
  let u33 := u32.2
  let u34 := u33.2
  let u35 := u34.2
  let u36 := u35.2
  let u37 := u36.2
  let u38 := u37.2
  let u39 := u38.2
  let u40 := u39.2
  let u41 := u40.2
  let u42 := u41.2
  let u43 := u42.2
  let u44 := u43.2
  let u45 := u44.2
  let u46 := u45.2
  let u47 := u46.2
  let u48 := u47.2
  let u49 := u48.2
  let u50 := u49.2
  let u51 := u50.2
  let u52 := u51.2
  let u53 := u52.2
  let u54 := u53.2
  let u55 := u54.2
  let u56 := u55.2
  let u57 := u56.2
  let u58 := u57.2
  let u59 := u58.2
  let u60 := u59.2
  let u61 := u60.2
  let u62 := u61.2
  let u63 := u62.2
  let u64 := u63.2
  let u65 := u64.2
  let u66 := u65.2
  let u67 := u66.2
  let u68 := u67.2
  let u69 := u68.2
  let u70 := u69.2
  let u71 := u70.2
  let u72 := u71.2
  let u73 := u72.2
  let u74 := u73.2
  let u75 := u74.2
  let u76 := u75.2
  let u77 := u76.2
  let u78 := u77.2
  let u79 := u78.2
  let u80 := u79.2
  let u81 := u80.2
  let u82 := u81.2
  let u83 := u82.2
  let u84 := u83.2
  let u85 := u84.2
  let u86 := u85.2
  let u87 := u86.2
  let u88 := u87.2
  let u89 := u88.2
  let u90 := u89.2
  let u91 := u90.2
  let u92 := u91.2
  let u93 := u92.2
  let u94 := u93.2
  let u95 := u94.2
  let u96 := u95.2
  let u97 := u96.2
  let u98 := u97.2
  let u99 := u98.2
  let u100 := u99.2
  let u101 := u100.2
  let u102 := u101.2
  let u103 := u102.2
  let u104 := u103.2
  let u105 := u104.2
  let u106 := u105.2
  let u107 := u106.2
  let u108 := u107.2
  let u109 := u108.2
  let u110 := u109.2
  let u111 := u110.2
  let u112 := u111.2
  let u113 := u112.2
  let u114 := u113.2
  let u115 := u114.2
  let u116 := u115.2
  let u117 := u116.2
  let u118 := u117.2
  let u119 := u118.2
  let u120 := u119.2
  rheostatref04_by_l1 K n t.1 u1.1 u2.1 u3.1 u4.1 u5.1 u6.1 u7.1 u8.1 u9.1 u10.1 u11.1 u12.1 u13.1 u14.1 u15.1 u16.1 u17.1 u18.1 u19.1 u20.1 u21.1 u22.1 u23.1 u24.1 u25.1 u26.1 u27.1 u28.1 u29.1 u30.1 u31.1 u32.1 u33.1 u34.1 u35.1 u36.1 u37.1 u38.1 u39.1 u40.1 u41.1 u42.1 u43.1 u44.1 u45.1 u46.1 u47.1 u48.1 u49.1 u50.1 u51.1 u52.1 u53.1 u54.1 u55.1 u56.1 u57.1 u58.1 u59.1 u60.1 u61.1 u62.1 u63.1 u64.1 u65.1 u66.1 u67.1 u68.1 u69.1 u70.1 u71.1 u72.1 u73.1 u74.1 u75.1 u76.1 u77.1 u78.1 u79.1 u80.1 u81.1 u82.1 u83.1 u84.1 u85.1 u86.1 u87.1 u88.1 u89.1 u90.1 u91.1 u92.1 u93.1 u94.1 u95.1 u96.1 u97.1 u98.1 u99.1 u100.1 u101.1 u102.1 u103.1 u104.1 u105.1 u106.1 u107.1 u108.1 u109.1 u110.1 u111.1 u112.1 u113.1 u114.1 u115.1 u116.1 u117.1 u118.1 u119.1 u120.1
noncomputable def rheostatref04_by_l1o (K : Nat) : LO := loopLO rheostatref04_by_l1h rheostatref04_by_l1O fun t => rheostatref04_by_l1u K K t
noncomputable def rheostatref04_by_l1C : Code := bodyOf Try.f44
noncomputable def rheostatref04_by_l1B : Code := (findLoops 10 (loopsIn rheostatref04_by_l1C)).headD .skip
theorem rheostatref04_by_l1F : findLoops 10 (loopsIn rheostatref04_by_l1C) = [rheostatref04_by_l1B] := by kernel_rfl
theorem rheostatref04_by_l1q (K n : Nat) (t : rheostatref04_by_l1h.T) : exC (rheostatref04_by_e3 K) (hdl (rheostatref04_by_e3 K) 0) (44 :: []) rheostatref04_by_l1B (rheostatref04_by_l1h.put t) (fun s => (rheostatref04_by_l1h.take s).bind fun t => rheostatref04_by_l1u K n t) (fun id s => rheostatref04_by_l1O.get (some id) s) (fun s => rheostatref04_by_l1O.get none s) = rheostatref04_by_l1u K (n + 1) t := by kernel_rfl
noncomputable def rheostatref04_by_l1E (K : Nat) : LoopE Try.prog := ⟨[10, 44], rheostatref04_by_l1o K, Try.f44, rheostatref04_by_l1C, rheostatref04_by_l1B, ⟨10, 44, [], rfl, Try.func44, by kernel_rfl, rheostatref04_by_l1F⟩,
  loop_rule (F := fun n t => rheostatref04_by_l1u K n t) (rheostatref04_by_t3 K) (rheostatref04_by_i3 K) (draws (rheostatref04_by_t3 K)) 0 Try.func44 (c := rheostatref04_by_l1C) (by kernel_rfl) (body_in rheostatref04_by_l1F) (ctx' := []) (h := rheostatref04_by_l1h) (O := rheostatref04_by_l1O) (fun _ => rfl) (fun m t => rheostatref04_by_l1q K m t) K⟩
noncomputable def rheostatref04_by_e4 (K : Nat) : Env := ⟨tt, [(45, rheostatref04_against_o K), (57, rheostatref04_less_o K)], [], [([5, 44], rheostatref04_by_l0o K), ([13, 44], rheostatref04_by_l2o K), ([17, 44], rheostatref04_by_l3o K), ([10, 44], rheostatref04_by_l1o K)], eqs⟩
theorem rheostatref04_by_t4 (K : Nat) : EnvT Try.prog (rheostatref04_by_e4 K) := envT_of tt_ok eqs_ok ⟨rheostatref04_against_ok K, rheostatref04_less_ok K, trivial⟩
theorem rheostatref04_by_i4 (K : Nat) : EnvI Try.prog (rheostatref04_by_e4 K) := envI_of (es := [rheostatref04_by_l0E K, rheostatref04_by_l2E K, rheostatref04_by_l3E K, rheostatref04_by_l1E K]) trivial ⟨⟨rfl, rfl⟩, ⟨rfl, rfl⟩, ⟨rfl, rfl⟩, ⟨rfl, rfl⟩, trivial⟩
noncomputable def rheostatref04_by_h : Sh := ⟨2, [(0, .ag [.i .i64, .i .i64, .i .i64, .i .i64, .i .i64, .i .i64, .i .i64, .i .i64, .i .i64, .i .i64, .i .i64, .i .i64, .i .i64, .i .i64, .i .i64, .i .i64, .i .i64, .i .i64, .i .i64, .i .i64]), (1, .sc (.i .u64))], [], []⟩
noncomputable def rheostatref04_by_r : Sh := ⟨2, [(0, .ag [.i .i64, .i .i64, .i .i64, .i .i64, .i .i64, .i .i64, .i .i64, .i .i64, .i .i64, .i .i64, .i .i64, .i .i64, .i .i64, .i .i64, .i .i64, .i .i64, .i .i64, .i .i64, .i .i64, .i .i64]), (1, .ag [.i .i64, .i .i64, .i .i64, .i .i64, .i .i64, .i .i64, .i .i64, .i .i64, .i .i64, .i .i64, .i .i64, .i .i64, .i .i64, .i .i64, .i .i64, .i .i64, .i .i64, .i .i64, .i .i64, .i .i64])], [], []⟩
noncomputable def rheostatref04_by_g (K : Nat) (d_0_0 : Int) (d_0_1 : Int) (d_0_2 : Int) (d_0_3 : Int) (d_0_4 : Int) (d_0_5 : Int) (d_0_6 : Int) (d_0_7 : Int) (d_0_8 : Int) (d_0_9 : Int) (d_0_10 : Int) (d_0_11 : Int) (d_0_12 : Int) (d_0_13 : Int) (d_0_14 : Int) (d_0_15 : Int) (d_0_16 : Int) (d_0_17 : Int) (d_0_18 : Int) (d_0_19 : Int) (c_1 : Int) : Option (Int × Int × Int × Int × Int × Int × Int × Int × Int × Int × Int × Int × Int × Int × Int × Int × Int × Int × Int × Int × Int × Int × Int × Int × Int × Int × Int × Int × Int × Int × Int × Int × Int × Int × Int × Int × Int × Int × Int × Int × Unit) :=
  ((rheostatref04_by_l0 K K c_1 0 d_0_0 d_0_1 d_0_2 d_0_3 d_0_4 d_0_5 d_0_6 d_0_7 d_0_8 d_0_9 d_0_10 d_0_11 d_0_12 d_0_13 d_0_14 d_0_15 d_0_16 d_0_17 d_0_18 d_0_19 0 0 0 0 0 0 0 0 0 0 0 0 0 0 0 0 0 0 0 0 0 0 0 0 0 0 0 0 0 0 0 0 0 0 0 0 0 0 0 0 0 0 0 0 0 0 0 0 0 0 0 0 0 0 0 0 0 0 0 0 0 0 0 0 0 0 0 0 0 0 0 0 0 0 0 0 0 0 0 0 0 0 0 0 0 0 0 0 0 0 0 0 0 0 0 0 0 0 0 0).bind fun q1 => ((rheostatref04_by_l1 K K 19 q1.1 q1.2.1 q1.2.2.1 q1.2.2.2.1 q1.2.2.2.2.1 q1.2.2.2.2.2.1 q1.2.2.2.2.2.2.1 q1.2.2.2.2.2.2.2.1 q1.2.2.2.2.2.2.2.2.1 q1.2.2.2.2.2.2.2.2.2.1 q1.2.2.2.2.2.2.2.2.2.2.1 q1.2.2.2.2.2.2.2.2.2.2.2.1 q1.2.2.2.2.2.2.2.2.2.2.2.2.1 q1.2.2.2.2.2.2.2.2.2.2.2.2.2.1 q1.2.2.2.2.2.2.2.2.2.2.2.2.2.2.1 q1.2.2.2.2.2.2.2.2.2.2.2.2.2.2.2.1 q1.2.2.2.2.2.2.2.2.2.2.2.2.2.2.2.2.1 q1.2.2.2.2.2.2.2.2.2.2.2.2.2.2.2.2.2.1 q1.2.2.2.2.2.2.2.2.2.2.2.2.2.2.2.2.2.2.1 q1.2.2.2.2.2.2.2.2.2.2.2.2.2.2.2.2.2.2.2.1 q1.2.2.2.2.2.2.2.2.2.2.2.2.2.2.2.2.2.2.2.2.1 q1.2.2.2.2.2.2.2.2.2.2.2.2.2.2.2.2.2.2.2.2.2.1 q1.2.2.2.2.2.2.2.2.2.2.2.2.2.2.2.2.2.2.2.2.2.2.1 q1.2.2.2.2.2.2.2.2.2.2.2.2.2.2.2.2.2.2.2.2.2.2.2.1 q1.2.2.2.2.2.2.2.2.2.2.2.2.2.2.2.2.2.2.2.2.2.2.2.2.1 q1.2.2.2.2.2.2.2.2.2.2.2.2.2.2.2.2.2.2.2.2.2.2.2.2.2.1 q1.2.2.2.2.2.2.2.2.2.2.2.2.2.2.2.2.2.2.2.2.2.2.2.2.2.2.1 q1.2.2.2.2.2.2.2.2.2.2.2.2.2.2.2.2.2.2.2.2.2.2.2.2.2.2.2.1 q1.2.2.2.2.2.2.2.2.2.2.2.2.2.2.2.2.2.2.2.2.2.2.2.2.2.2.2.2.1 q1.2.2.2.2.2.2.2.2.2.2.2.2.2.2.2.2.2.2.2.2.2.2.2.2.2.2.2.2.2.1 q1.2.2.2.2.2.2.2.2.2.2.2.2.2.2.2.2.2.2.2.2.2.2.2.2.2.2.2.2.2.2.1 q1.2.2.2.2.2.2.2.2.2.2.2.2.2.2.2.2.2.2.2.2.2.2.2.2.2.2.2.2.2.2.2.1 q1.2.2.2.2.2.2.2.2.2.2.2.2.2.2.2.2.2.2.2.2.2.2.2.2.2.2.2.2.2.2.2.2.1 q1.2.2.2.2.2.2.2.2.2.2.2.2.2.2.2.2.2.2.2.2.2.2.2.2.2.2.2.2.2.2.2.2.2.1 q1.2.2.2.2.2.2.2.2.2.2.2.2.2.2.2.2.2.2.2.2.2.2.2.2.2.2.2.2.2.2.2.2.2.2.1 q1.2.2.2.2.2.2.2.2.2.2.2.2.2.2.2.2.2.2.2.2.2.2.2.2.2.2.2.2.2.2.2.2.2.2.2.1 q1.2.2.2.2.2.2.2.2.2.2.2.2.2.2.2.2.2.2.2.2.2.2.2.2.2.2.2.2.2.2.2.2.2.2.2.2.1 q1.2.2.2.2.2.2.2.2.2.2.2.2.2.2.2.2.2.2.2.2.2.2.2.2.2.2.2.2.2.2.2.2.2.2.2.2.2.1 q1.2.2.2.2.2.2.2.2.2.2.2.2.2.2.2.2.2.2.2.2.2.2.2.2.2.2.2.2.2.2.2.2.2.2.2.2.2.2.1 q1.2.2.2.2.2.2.2.2.2.2.2.2.2.2.2.2.2.2.2.2.2.2.2.2.2.2.2.2.2.2.2.2.2.2.2.2.2.2.2.1 q1.2.2.2.2.2.2.2.2.2.2.2.2.2.2.2.2.2.2.2.2.2.2.2.2.2.2.2.2.2.2.2.2.2.2.2.2.2.2.2.2.1 q1.2.2.2.2.2.2.2.2.2.2.2.2.2.2.2.2.2.2.2.2.2.2.2.2.2.2.2.2.2.2.2.2.2.2.2.2.2.2.2.2.2.1 q1.2.2.2.2.2.2.2.2.2.2.2.2.2.2.2.2.2.2.2.2.2.2.2.2.2.2.2.2.2.2.2.2.2.2.2.2.2.2.2.2.2.2.1 q1.2.2.2.2.2.2.2.2.2.2.2.2.2.2.2.2.2.2.2.2.2.2.2.2.2.2.2.2.2.2.2.2.2.2.2.2.2.2.2.2.2.2.2.1 q1.2.2.2.2.2.2.2.2.2.2.2.2.2.2.2.2.2.2.2.2.2.2.2.2.2.2.2.2.2.2.2.2.2.2.2.2.2.2.2.2.2.2.2.2.1 q1.2.2.2.2.2.2.2.2.2.2.2.2.2.2.2.2.2.2.2.2.2.2.2.2.2.2.2.2.2.2.2.2.2.2.2.2.2.2.2.2.2.2.2.2.2.1 q1.2.2.2.2.2.2.2.2.2.2.2.2.2.2.2.2.2.2.2.2.2.2.2.2.2.2.2.2.2.2.2.2.2.2.2.2.2.2.2.2.2.2.2.2.2.2.1 q1.2.2.2.2.2.2.2.2.2.2.2.2.2.2.2.2.2.2.2.2.2.2.2.2.2.2.2.2.2.2.2.2.2.2.2.2.2.2.2.2.2.2.2.2.2.2.2.1 q1.2.2.2.2.2.2.2.2.2.2.2.2.2.2.2.2.2.2.2.2.2.2.2.2.2.2.2.2.2.2.2.2.2.2.2.2.2.2.2.2.2.2.2.2.2.2.2.2.1 q1.2.2.2.2.2.2.2.2.2.2.2.2.2.2.2.2.2.2.2.2.2.2.2.2.2.2.2.2.2.2.2.2.2.2.2.2.2.2.2.2.2.2.2.2.2.2.2.2.2.1 q1.2.2.2.2.2.2.2.2.2.2.2.2.2.2.2.2.2.2.2.2.2.2.2.2.2.2.2.2.2.2.2.2.2.2.2.2.2.2.2.2.2.2.2.2.2.2.2.2.2.2.1 q1.2.2.2.2.2.2.2.2.2.2.2.2.2.2.2.2.2.2.2.2.2.2.2.2.2.2.2.2.2.2.2.2.2.2.2.2.2.2.2.2.2.2.2.2.2.2.2.2.2.2.2.1 q1.2.2.2.2.2.2.2.2.2.2.2.2.2.2.2.2.2.2.2.2.2.2.2.2.2.2.2.2.2.2.2.2.2.2.2.2.2.2.2.2.2.2.2.2.2.2.2.2.2.2.2.2.1 q1.2.2.2.2.2.2.2.2.2.2.2.2.2.2.2.2.2.2.2.2.2.2.2.2.2.2.2.2.2.2.2.2.2.2.2.2.2.2.2.2.2.2.2.2.2.2.2.2.2.2.2.2.2.1 q1.2.2.2.2.2.2.2.2.2.2.2.2.2.2.2.2.2.2.2.2.2.2.2.2.2.2.2.2.2.2.2.2.2.2.2.2.2.2.2.2.2.2.2.2.2.2.2.2.2.2.2.2.2.2.1 q1.2.2.2.2.2.2.2.2.2.2.2.2.2.2.2.2.2.2.2.2.2.2.2.2.2.2.2.2.2.2.2.2.2.2.2.2.2.2.2.2.2.2.2.2.2.2.2.2.2.2.2.2.2.2.2.1 q1.2.2.2.2.2.2.2.2.2.2.2.2.2.2.2.2.2.2.2.2.2.2.2.2.2.2.2.2.2.2.2.2.2.2.2.2.2.2.2.2.2.2.2.2.2.2.2.2.2.2.2.2.2.2.2.2.1 q1.2.2.2.2.2.2.2.2.2.2.2.2.2.2.2.2.2.2.2.2.2.2.2.2.2.2.2.2.2.2.2.2.2.2.2.2.2.2.2.2.2.2.2.2.2.2.2.2.2.2.2.2.2.2.2.2.2.1 q1.2.2.2.2.2.2.2.2.2.2.2.2.2.2.2.2.2.2.2.2.2.2.2.2.2.2.2.2.2.2.2.2.2.2.2.2.2.2.2.2.2.2.2.2.2.2.2.2.2.2.2.2.2.2.2.2.2.2.1 q1.2.2.2.2.2.2.2.2.2.2.2.2.2.2.2.2.2.2.2.2.2.2.2.2.2.2.2.2.2.2.2.2.2.2.2.2.2.2.2.2.2.2.2.2.2.2.2.2.2.2.2.2.2.2.2.2.2.2.2.1 q1.2.2.2.2.2.2.2.2.2.2.2.2.2.2.2.2.2.2.2.2.2.2.2.2.2.2.2.2.2.2.2.2.2.2.2.2.2.2.2.2.2.2.2.2.2.2.2.2.2.2.2.2.2.2.2.2.2.2.2.2.1 q1.2.2.2.2.2.2.2.2.2.2.2.2.2.2.2.2.2.2.2.2.2.2.2.2.2.2.2.2.2.2.2.2.2.2.2.2.2.2.2.2.2.2.2.2.2.2.2.2.2.2.2.2.2.2.2.2.2.2.2.2.2.1 q1.2.2.2.2.2.2.2.2.2.2.2.2.2.2.2.2.2.2.2.2.2.2.2.2.2.2.2.2.2.2.2.2.2.2.2.2.2.2.2.2.2.2.2.2.2.2.2.2.2.2.2.2.2.2.2.2.2.2.2.2.2.2.1 q1.2.2.2.2.2.2.2.2.2.2.2.2.2.2.2.2.2.2.2.2.2.2.2.2.2.2.2.2.2.2.2.2.2.2.2.2.2.2.2.2.2.2.2.2.2.2.2.2.2.2.2.2.2.2.2.2.2.2.2.2.2.2.2.1 q1.2.2.2.2.2.2.2.2.2.2.2.2.2.2.2.2.2.2.2.2.2.2.2.2.2.2.2.2.2.2.2.2.2.2.2.2.2.2.2.2.2.2.2.2.2.2.2.2.2.2.2.2.2.2.2.2.2.2.2.2.2.2.2.2.1 q1.2.2.2.2.2.2.2.2.2.2.2.2.2.2.2.2.2.2.2.2.2.2.2.2.2.2.2.2.2.2.2.2.2.2.2.2.2.2.2.2.2.2.2.2.2.2.2.2.2.2.2.2.2.2.2.2.2.2.2.2.2.2.2.2.2.1 q1.2.2.2.2.2.2.2.2.2.2.2.2.2.2.2.2.2.2.2.2.2.2.2.2.2.2.2.2.2.2.2.2.2.2.2.2.2.2.2.2.2.2.2.2.2.2.2.2.2.2.2.2.2.2.2.2.2.2.2.2.2.2.2.2.2.2.1 q1.2.2.2.2.2.2.2.2.2.2.2.2.2.2.2.2.2.2.2.2.2.2.2.2.2.2.2.2.2.2.2.2.2.2.2.2.2.2.2.2.2.2.2.2.2.2.2.2.2.2.2.2.2.2.2.2.2.2.2.2.2.2.2.2.2.2.2.1 q1.2.2.2.2.2.2.2.2.2.2.2.2.2.2.2.2.2.2.2.2.2.2.2.2.2.2.2.2.2.2.2.2.2.2.2.2.2.2.2.2.2.2.2.2.2.2.2.2.2.2.2.2.2.2.2.2.2.2.2.2.2.2.2.2.2.2.2.2.1 q1.2.2.2.2.2.2.2.2.2.2.2.2.2.2.2.2.2.2.2.2.2.2.2.2.2.2.2.2.2.2.2.2.2.2.2.2.2.2.2.2.2.2.2.2.2.2.2.2.2.2.2.2.2.2.2.2.2.2.2.2.2.2.2.2.2.2.2.2.2.1 q1.2.2.2.2.2.2.2.2.2.2.2.2.2.2.2.2.2.2.2.2.2.2.2.2.2.2.2.2.2.2.2.2.2.2.2.2.2.2.2.2.2.2.2.2.2.2.2.2.2.2.2.2.2.2.2.2.2.2.2.2.2.2.2.2.2.2.2.2.2.2.1 q1.2.2.2.2.2.2.2.2.2.2.2.2.2.2.2.2.2.2.2.2.2.2.2.2.2.2.2.2.2.2.2.2.2.2.2.2.2.2.2.2.2.2.2.2.2.2.2.2.2.2.2.2.2.2.2.2.2.2.2.2.2.2.2.2.2.2.2.2.2.2.2.1 q1.2.2.2.2.2.2.2.2.2.2.2.2.2.2.2.2.2.2.2.2.2.2.2.2.2.2.2.2.2.2.2.2.2.2.2.2.2.2.2.2.2.2.2.2.2.2.2.2.2.2.2.2.2.2.2.2.2.2.2.2.2.2.2.2.2.2.2.2.2.2.2.2.1 q1.2.2.2.2.2.2.2.2.2.2.2.2.2.2.2.2.2.2.2.2.2.2.2.2.2.2.2.2.2.2.2.2.2.2.2.2.2.2.2.2.2.2.2.2.2.2.2.2.2.2.2.2.2.2.2.2.2.2.2.2.2.2.2.2.2.2.2.2.2.2.2.2.2.1 q1.2.2.2.2.2.2.2.2.2.2.2.2.2.2.2.2.2.2.2.2.2.2.2.2.2.2.2.2.2.2.2.2.2.2.2.2.2.2.2.2.2.2.2.2.2.2.2.2.2.2.2.2.2.2.2.2.2.2.2.2.2.2.2.2.2.2.2.2.2.2.2.2.2.2.1 q1.2.2.2.2.2.2.2.2.2.2.2.2.2.2.2.2.2.2.2.2.2.2.2.2.2.2.2.2.2.2.2.2.2.2.2.2.2.2.2.2.2.2.2.2.2.2.2.2.2.2.2.2.2.2.2.2.2.2.2.2.2.2.2.2.2.2.2.2.2.2.2.2.2.2.2.1 q1.2.2.2.2.2.2.2.2.2.2.2.2.2.2.2.2.2.2.2.2.2.2.2.2.2.2.2.2.2.2.2.2.2.2.2.2.2.2.2.2.2.2.2.2.2.2.2.2.2.2.2.2.2.2.2.2.2.2.2.2.2.2.2.2.2.2.2.2.2.2.2.2.2.2.2.2.1 q1.2.2.2.2.2.2.2.2.2.2.2.2.2.2.2.2.2.2.2.2.2.2.2.2.2.2.2.2.2.2.2.2.2.2.2.2.2.2.2.2.2.2.2.2.2.2.2.2.2.2.2.2.2.2.2.2.2.2.2.2.2.2.2.2.2.2.2.2.2.2.2.2.2.2.2.2.2.1 q1.2.2.2.2.2.2.2.2.2.2.2.2.2.2.2.2.2.2.2.2.2.2.2.2.2.2.2.2.2.2.2.2.2.2.2.2.2.2.2.2.2.2.2.2.2.2.2.2.2.2.2.2.2.2.2.2.2.2.2.2.2.2.2.2.2.2.2.2.2.2.2.2.2.2.2.2.2.2.1 q1.2.2.2.2.2.2.2.2.2.2.2.2.2.2.2.2.2.2.2.2.2.2.2.2.2.2.2.2.2.2.2.2.2.2.2.2.2.2.2.2.2.2.2.2.2.2.2.2.2.2.2.2.2.2.2.2.2.2.2.2.2.2.2.2.2.2.2.2.2.2.2.2.2.2.2.2.2.2.2.1 q1.2.2.2.2.2.2.2.2.2.2.2.2.2.2.2.2.2.2.2.2.2.2.2.2.2.2.2.2.2.2.2.2.2.2.2.2.2.2.2.2.2.2.2.2.2.2.2.2.2.2.2.2.2.2.2.2.2.2.2.2.2.2.2.2.2.2.2.2.2.2.2.2.2.2.2.2.2.2.2.2.1 q1.2.2.2.2.2.2.2.2.2.2.2.2.2.2.2.2.2.2.2.2.2.2.2.2.2.2.2.2.2.2.2.2.2.2.2.2.2.2.2.2.2.2.2.2.2.2.2.2.2.2.2.2.2.2.2.2.2.2.2.2.2.2.2.2.2.2.2.2.2.2.2.2.2.2.2.2.2.2.2.2.2.1 q1.2.2.2.2.2.2.2.2.2.2.2.2.2.2.2.2.2.2.2.2.2.2.2.2.2.2.2.2.2.2.2.2.2.2.2.2.2.2.2.2.2.2.2.2.2.2.2.2.2.2.2.2.2.2.2.2.2.2.2.2.2.2.2.2.2.2.2.2.2.2.2.2.2.2.2.2.2.2.2.2.2.2.1 q1.2.2.2.2.2.2.2.2.2.2.2.2.2.2.2.2.2.2.2.2.2.2.2.2.2.2.2.2.2.2.2.2.2.2.2.2.2.2.2.2.2.2.2.2.2.2.2.2.2.2.2.2.2.2.2.2.2.2.2.2.2.2.2.2.2.2.2.2.2.2.2.2.2.2.2.2.2.2.2.2.2.2.2.1 q1.2.2.2.2.2.2.2.2.2.2.2.2.2.2.2.2.2.2.2.2.2.2.2.2.2.2.2.2.2.2.2.2.2.2.2.2.2.2.2.2.2.2.2.2.2.2.2.2.2.2.2.2.2.2.2.2.2.2.2.2.2.2.2.2.2.2.2.2.2.2.2.2.2.2.2.2.2.2.2.2.2.2.2.2.1 q1.2.2.2.2.2.2.2.2.2.2.2.2.2.2.2.2.2.2.2.2.2.2.2.2.2.2.2.2.2.2.2.2.2.2.2.2.2.2.2.2.2.2.2.2.2.2.2.2.2.2.2.2.2.2.2.2.2.2.2.2.2.2.2.2.2.2.2.2.2.2.2.2.2.2.2.2.2.2.2.2.2.2.2.2.2.1 q1.2.2.2.2.2.2.2.2.2.2.2.2.2.2.2.2.2.2.2.2.2.2.2.2.2.2.2.2.2.2.2.2.2.2.2.2.2.2.2.2.2.2.2.2.2.2.2.2.2.2.2.2.2.2.2.2.2.2.2.2.2.2.2.2.2.2.2.2.2.2.2.2.2.2.2.2.2.2.2.2.2.2.2.2.2.2.1 q1.2.2.2.2.2.2.2.2.2.2.2.2.2.2.2.2.2.2.2.2.2.2.2.2.2.2.2.2.2.2.2.2.2.2.2.2.2.2.2.2.2.2.2.2.2.2.2.2.2.2.2.2.2.2.2.2.2.2.2.2.2.2.2.2.2.2.2.2.2.2.2.2.2.2.2.2.2.2.2.2.2.2.2.2.2.2.2.1 q1.2.2.2.2.2.2.2.2.2.2.2.2.2.2.2.2.2.2.2.2.2.2.2.2.2.2.2.2.2.2.2.2.2.2.2.2.2.2.2.2.2.2.2.2.2.2.2.2.2.2.2.2.2.2.2.2.2.2.2.2.2.2.2.2.2.2.2.2.2.2.2.2.2.2.2.2.2.2.2.2.2.2.2.2.2.2.2.2.1 q1.2.2.2.2.2.2.2.2.2.2.2.2.2.2.2.2.2.2.2.2.2.2.2.2.2.2.2.2.2.2.2.2.2.2.2.2.2.2.2.2.2.2.2.2.2.2.2.2.2.2.2.2.2.2.2.2.2.2.2.2.2.2.2.2.2.2.2.2.2.2.2.2.2.2.2.2.2.2.2.2.2.2.2.2.2.2.2.2.2.1 q1.2.2.2.2.2.2.2.2.2.2.2.2.2.2.2.2.2.2.2.2.2.2.2.2.2.2.2.2.2.2.2.2.2.2.2.2.2.2.2.2.2.2.2.2.2.2.2.2.2.2.2.2.2.2.2.2.2.2.2.2.2.2.2.2.2.2.2.2.2.2.2.2.2.2.2.2.2.2.2.2.2.2.2.2.2.2.2.2.2.2.1 q1.2.2.2.2.2.2.2.2.2.2.2.2.2.2.2.2.2.2.2.2.2.2.2.2.2.2.2.2.2.2.2.2.2.2.2.2.2.2.2.2.2.2.2.2.2.2.2.2.2.2.2.2.2.2.2.2.2.2.2.2.2.2.2.2.2.2.2.2.2.2.2.2.2.2.2.2.2.2.2.2.2.2.2.2.2.2.2.2.2.2.2.1 q1.2.2.2.2.2.2.2.2.2.2.2.2.2.2.2.2.2.2.2.2.2.2.2.2.2.2.2.2.2.2.2.2.2.2.2.2.2.2.2.2.2.2.2.2.2.2.2.2.2.2.2.2.2.2.2.2.2.2.2.2.2.2.2.2.2.2.2.2.2.2.2.2.2.2.2.2.2.2.2.2.2.2.2.2.2.2.2.2.2.2.2.2.1 q1.2.2.2.2.2.2.2.2.2.2.2.2.2.2.2.2.2.2.2.2.2.2.2.2.2.2.2.2.2.2.2.2.2.2.2.2.2.2.2.2.2.2.2.2.2.2.2.2.2.2.2.2.2.2.2.2.2.2.2.2.2.2.2.2.2.2.2.2.2.2.2.2.2.2.2.2.2.2.2.2.2.2.2.2.2.2.2.2.2.2.2.2.2.1 q1.2.2.2.2.2.2.2.2.2.2.2.2.2.2.2.2.2.2.2.2.2.2.2.2.2.2.2.2.2.2.2.2.2.2.2.2.2.2.2.2.2.2.2.2.2.2.2.2.2.2.2.2.2.2.2.2.2.2.2.2.2.2.2.2.2.2.2.2.2.2.2.2.2.2.2.2.2.2.2.2.2.2.2.2.2.2.2.2.2.2.2.2.2.2.1 q1.2.2.2.2.2.2.2.2.2.2.2.2.2.2.2.2.2.2.2.2.2.2.2.2.2.2.2.2.2.2.2.2.2.2.2.2.2.2.2.2.2.2.2.2.2.2.2.2.2.2.2.2.2.2.2.2.2.2.2.2.2.2.2.2.2.2.2.2.2.2.2.2.2.2.2.2.2.2.2.2.2.2.2.2.2.2.2.2.2.2.2.2.2.2.2.1 q1.2.2.2.2.2.2.2.2.2.2.2.2.2.2.2.2.2.2.2.2.2.2.2.2.2.2.2.2.2.2.2.2.2.2.2.2.2.2.2.2.2.2.2.2.2.2.2.2.2.2.2.2.2.2.2.2.2.2.2.2.2.2.2.2.2.2.2.2.2.2.2.2.2.2.2.2.2.2.2.2.2.2.2.2.2.2.2.2.2.2.2.2.2.2.2.2.1 q1.2.2.2.2.2.2.2.2.2.2.2.2.2.2.2.2.2.2.2.2.2.2.2.2.2.2.2.2.2.2.2.2.2.2.2.2.2.2.2.2.2.2.2.2.2.2.2.2.2.2.2.2.2.2.2.2.2.2.2.2.2.2.2.2.2.2.2.2.2.2.2.2.2.2.2.2.2.2.2.2.2.2.2.2.2.2.2.2.2.2.2.2.2.2.2.2.2.1 q1.2.2.2.2.2.2.2.2.2.2.2.2.2.2.2.2.2.2.2.2.2.2.2.2.2.2.2.2.2.2.2.2.2.2.2.2.2.2.2.2.2.2.2.2.2.2.2.2.2.2.2.2.2.2.2.2.2.2.2.2.2.2.2.2.2.2.2.2.2.2.2.2.2.2.2.2.2.2.2.2.2.2.2.2.2.2.2.2.2.2.2.2.2.2.2.2.2.2.1 q1.2.2.2.2.2.2.2.2.2.2.2.2.2.2.2.2.2.2.2.2.2.2.2.2.2.2.2.2.2.2.2.2.2.2.2.2.2.2.2.2.2.2.2.2.2.2.2.2.2.2.2.2.2.2.2.2.2.2.2.2.2.2.2.2.2.2.2.2.2.2.2.2.2.2.2.2.2.2.2.2.2.2.2.2.2.2.2.2.2.2.2.2.2.2.2.2.2.2.2.1 q1.2.2.2.2.2.2.2.2.2.2.2.2.2.2.2.2.2.2.2.2.2.2.2.2.2.2.2.2.2.2.2.2.2.2.2.2.2.2.2.2.2.2.2.2.2.2.2.2.2.2.2.2.2.2.2.2.2.2.2.2.2.2.2.2.2.2.2.2.2.2.2.2.2.2.2.2.2.2.2.2.2.2.2.2.2.2.2.2.2.2.2.2.2.2.2.2.2.2.2.2.1 q1.2.2.2.2.2.2.2.2.2.2.2.2.2.2.2.2.2.2.2.2.2.2.2.2.2.2.2.2.2.2.2.2.2.2.2.2.2.2.2.2.2.2.2.2.2.2.2.2.2.2.2.2.2.2.2.2.2.2.2.2.2.2.2.2.2.2.2.2.2.2.2.2.2.2.2.2.2.2.2.2.2.2.2.2.2.2.2.2.2.2.2.2.2.2.2.2.2.2.2.2.2.1 q1.2.2.2.2.2.2.2.2.2.2.2.2.2.2.2.2.2.2.2.2.2.2.2.2.2.2.2.2.2.2.2.2.2.2.2.2.2.2.2.2.2.2.2.2.2.2.2.2.2.2.2.2.2.2.2.2.2.2.2.2.2.2.2.2.2.2.2.2.2.2.2.2.2.2.2.2.2.2.2.2.2.2.2.2.2.2.2.2.2.2.2.2.2.2.2.2.2.2.2.2.2.2.1 q1.2.2.2.2.2.2.2.2.2.2.2.2.2.2.2.2.2.2.2.2.2.2.2.2.2.2.2.2.2.2.2.2.2.2.2.2.2.2.2.2.2.2.2.2.2.2.2.2.2.2.2.2.2.2.2.2.2.2.2.2.2.2.2.2.2.2.2.2.2.2.2.2.2.2.2.2.2.2.2.2.2.2.2.2.2.2.2.2.2.2.2.2.2.2.2.2.2.2.2.2.2.2.2.1 q1.2.2.2.2.2.2.2.2.2.2.2.2.2.2.2.2.2.2.2.2.2.2.2.2.2.2.2.2.2.2.2.2.2.2.2.2.2.2.2.2.2.2.2.2.2.2.2.2.2.2.2.2.2.2.2.2.2.2.2.2.2.2.2.2.2.2.2.2.2.2.2.2.2.2.2.2.2.2.2.2.2.2.2.2.2.2.2.2.2.2.2.2.2.2.2.2.2.2.2.2.2.2.2.2.1 q1.2.2.2.2.2.2.2.2.2.2.2.2.2.2.2.2.2.2.2.2.2.2.2.2.2.2.2.2.2.2.2.2.2.2.2.2.2.2.2.2.2.2.2.2.2.2.2.2.2.2.2.2.2.2.2.2.2.2.2.2.2.2.2.2.2.2.2.2.2.2.2.2.2.2.2.2.2.2.2.2.2.2.2.2.2.2.2.2.2.2.2.2.2.2.2.2.2.2.2.2.2.2.2.2.2.1 q1.2.2.2.2.2.2.2.2.2.2.2.2.2.2.2.2.2.2.2.2.2.2.2.2.2.2.2.2.2.2.2.2.2.2.2.2.2.2.2.2.2.2.2.2.2.2.2.2.2.2.2.2.2.2.2.2.2.2.2.2.2.2.2.2.2.2.2.2.2.2.2.2.2.2.2.2.2.2.2.2.2.2.2.2.2.2.2.2.2.2.2.2.2.2.2.2.2.2.2.2.2.2.2.2.2.2.1 q1.2.2.2.2.2.2.2.2.2.2.2.2.2.2.2.2.2.2.2.2.2.2.2.2.2.2.2.2.2.2.2.2.2.2.2.2.2.2.2.2.2.2.2.2.2.2.2.2.2.2.2.2.2.2.2.2.2.2.2.2.2.2.2.2.2.2.2.2.2.2.2.2.2.2.2.2.2.2.2.2.2.2.2.2.2.2.2.2.2.2.2.2.2.2.2.2.2.2.2.2.2.2.2.2.2.2.2.1 q1.2.2.2.2.2.2.2.2.2.2.2.2.2.2.2.2.2.2.2.2.2.2.2.2.2.2.2.2.2.2.2.2.2.2.2.2.2.2.2.2.2.2.2.2.2.2.2.2.2.2.2.2.2.2.2.2.2.2.2.2.2.2.2.2.2.2.2.2.2.2.2.2.2.2.2.2.2.2.2.2.2.2.2.2.2.2.2.2.2.2.2.2.2.2.2.2.2.2.2.2.2.2.2.2.2.2.2.2.1 q1.2.2.2.2.2.2.2.2.2.2.2.2.2.2.2.2.2.2.2.2.2.2.2.2.2.2.2.2.2.2.2.2.2.2.2.2.2.2.2.2.2.2.2.2.2.2.2.2.2.2.2.2.2.2.2.2.2.2.2.2.2.2.2.2.2.2.2.2.2.2.2.2.2.2.2.2.2.2.2.2.2.2.2.2.2.2.2.2.2.2.2.2.2.2.2.2.2.2.2.2.2.2.2.2.2.2.2.2.2.1 q1.2.2.2.2.2.2.2.2.2.2.2.2.2.2.2.2.2.2.2.2.2.2.2.2.2.2.2.2.2.2.2.2.2.2.2.2.2.2.2.2.2.2.2.2.2.2.2.2.2.2.2.2.2.2.2.2.2.2.2.2.2.2.2.2.2.2.2.2.2.2.2.2.2.2.2.2.2.2.2.2.2.2.2.2.2.2.2.2.2.2.2.2.2.2.2.2.2.2.2.2.2.2.2.2.2.2.2.2.2.2.1 q1.2.2.2.2.2.2.2.2.2.2.2.2.2.2.2.2.2.2.2.2.2.2.2.2.2.2.2.2.2.2.2.2.2.2.2.2.2.2.2.2.2.2.2.2.2.2.2.2.2.2.2.2.2.2.2.2.2.2.2.2.2.2.2.2.2.2.2.2.2.2.2.2.2.2.2.2.2.2.2.2.2.2.2.2.2.2.2.2.2.2.2.2.2.2.2.2.2.2.2.2.2.2.2.2.2.2.2.2.2.2.2.1 q1.2.2.2.2.2.2.2.2.2.2.2.2.2.2.2.2.2.2.2.2.2.2.2.2.2.2.2.2.2.2.2.2.2.2.2.2.2.2.2.2.2.2.2.2.2.2.2.2.2.2.2.2.2.2.2.2.2.2.2.2.2.2.2.2.2.2.2.2.2.2.2.2.2.2.2.2.2.2.2.2.2.2.2.2.2.2.2.2.2.2.2.2.2.2.2.2.2.2.2.2.2.2.2.2.2.2.2.2.2.2.2.2.1 q1.2.2.2.2.2.2.2.2.2.2.2.2.2.2.2.2.2.2.2.2.2.2.2.2.2.2.2.2.2.2.2.2.2.2.2.2.2.2.2.2.2.2.2.2.2.2.2.2.2.2.2.2.2.2.2.2.2.2.2.2.2.2.2.2.2.2.2.2.2.2.2.2.2.2.2.2.2.2.2.2.2.2.2.2.2.2.2.2.2.2.2.2.2.2.2.2.2.2.2.2.2.2.2.2.2.2.2.2.2.2.2.2.2.1 q1.2.2.2.2.2.2.2.2.2.2.2.2.2.2.2.2.2.2.2.2.2.2.2.2.2.2.2.2.2.2.2.2.2.2.2.2.2.2.2.2.2.2.2.2.2.2.2.2.2.2.2.2.2.2.2.2.2.2.2.2.2.2.2.2.2.2.2.2.2.2.2.2.2.2.2.2.2.2.2.2.2.2.2.2.2.2.2.2.2.2.2.2.2.2.2.2.2.2.2.2.2.2.2.2.2.2.2.2.2.2.2.2.2.2.1 q1.2.2.2.2.2.2.2.2.2.2.2.2.2.2.2.2.2.2.2.2.2.2.2.2.2.2.2.2.2.2.2.2.2.2.2.2.2.2.2.2.2.2.2.2.2.2.2.2.2.2.2.2.2.2.2.2.2.2.2.2.2.2.2.2.2.2.2.2.2.2.2.2.2.2.2.2.2.2.2.2.2.2.2.2.2.2.2.2.2.2.2.2.2.2.2.2.2.2.2.2.2.2.2.2.2.2.2.2.2.2.2.2.2.2.2.1 q1.2.2.2.2.2.2.2.2.2.2.2.2.2.2.2.2.2.2.2.2.2.2.2.2.2.2.2.2.2.2.2.2.2.2.2.2.2.2.2.2.2.2.2.2.2.2.2.2.2.2.2.2.2.2.2.2.2.2.2.2.2.2.2.2.2.2.2.2.2.2.2.2.2.2.2.2.2.2.2.2.2.2.2.2.2.2.2.2.2.2.2.2.2.2.2.2.2.2.2.2.2.2.2.2.2.2.2.2.2.2.2.2.2.2.2.2.1 q1.2.2.2.2.2.2.2.2.2.2.2.2.2.2.2.2.2.2.2.2.2.2.2.2.2.2.2.2.2.2.2.2.2.2.2.2.2.2.2.2.2.2.2.2.2.2.2.2.2.2.2.2.2.2.2.2.2.2.2.2.2.2.2.2.2.2.2.2.2.2.2.2.2.2.2.2.2.2.2.2.2.2.2.2.2.2.2.2.2.2.2.2.2.2.2.2.2.2.2.2.2.2.2.2.2.2.2.2.2.2.2.2.2.2.2.2.2.1 q1.2.2.2.2.2.2.2.2.2.2.2.2.2.2.2.2.2.2.2.2.2.2.2.2.2.2.2.2.2.2.2.2.2.2.2.2.2.2.2.2.2.2.2.2.2.2.2.2.2.2.2.2.2.2.2.2.2.2.2.2.2.2.2.2.2.2.2.2.2.2.2.2.2.2.2.2.2.2.2.2.2.2.2.2.2.2.2.2.2.2.2.2.2.2.2.2.2.2.2.2.2.2.2.2.2.2.2.2.2.2.2.2.2.2.2.2.2.2.1 q1.2.2.2.2.2.2.2.2.2.2.2.2.2.2.2.2.2.2.2.2.2.2.2.2.2.2.2.2.2.2.2.2.2.2.2.2.2.2.2.2.2.2.2.2.2.2.2.2.2.2.2.2.2.2.2.2.2.2.2.2.2.2.2.2.2.2.2.2.2.2.2.2.2.2.2.2.2.2.2.2.2.2.2.2.2.2.2.2.2.2.2.2.2.2.2.2.2.2.2.2.2.2.2.2.2.2.2.2.2.2.2.2.2.2.2.2.2.2.2.1).bind fun q2 => (some (q2.2.2.2.2.2.2.2.2.2.2.2.2.2.2.2.2.2.2.2.2.2.2.2.2.2.2.2.2.2.2.2.2.2.2.2.2.2.2.2.2.1, q2.2.2.2.2.2.2.2.2.2.2.2.2.2.2.2.2.2.2.2.2.2.2.2.2.2.2.2.2.2.2.2.2.2.2.2.2.2.2.2.2.2.1, q2.2.2.2.2.2.2.2.2.2.2.2.2.2.2.2.2.2.2.2.2.2.2.2.2.2.2.2.2.2.2.2.2.2.2.2.2.2.2.2.2.2.2.1, q2.2.2.2.2.2.2.2.2.2.2.2.2.2.2.2.2.2.2.2.2.2.2.2.2.2.2.2.2.2.2.2.2.2.2.2.2.2.2.2.2.2.2.2.1, q2.2.2.2.2.2.2.2.2.2.2.2.2.2.2.2.2.2.2.2.2.2.2.2.2.2.2.2.2.2.2.2.2.2.2.2.2.2.2.2.2.2.2.2.2.1, q2.2.2.2.2.2.2.2.2.2.2.2.2.2.2.2.2.2.2.2.2.2.2.2.2.2.2.2.2.2.2.2.2.2.2.2.2.2.2.2.2.2.2.2.2.2.1, q2.2.2.2.2.2.2.2.2.2.2.2.2.2.2.2.2.2.2.2.2.2.2.2.2.2.2.2.2.2.2.2.2.2.2.2.2.2.2.2.2.2.2.2.2.2.2.1, q2.2.2.2.2.2.2.2.2.2.2.2.2.2.2.2.2.2.2.2.2.2.2.2.2.2.2.2.2.2.2.2.2.2.2.2.2.2.2.2.2.2.2.2.2.2.2.2.1, q2.2.2.2.2.2.2.2.2.2.2.2.2.2.2.2.2.2.2.2.2.2.2.2.2.2.2.2.2.2.2.2.2.2.2.2.2.2.2.2.2.2.2.2.2.2.2.2.2.1, q2.2.2.2.2.2.2.2.2.2.2.2.2.2.2.2.2.2.2.2.2.2.2.2.2.2.2.2.2.2.2.2.2.2.2.2.2.2.2.2.2.2.2.2.2.2.2.2.2.2.1, q2.2.2.2.2.2.2.2.2.2.2.2.2.2.2.2.2.2.2.2.2.2.2.2.2.2.2.2.2.2.2.2.2.2.2.2.2.2.2.2.2.2.2.2.2.2.2.2.2.2.2.1, q2.2.2.2.2.2.2.2.2.2.2.2.2.2.2.2.2.2.2.2.2.2.2.2.2.2.2.2.2.2.2.2.2.2.2.2.2.2.2.2.2.2.2.2.2.2.2.2.2.2.2.2.1, q2.2.2.2.2.2.2.2.2.2.2.2.2.2.2.2.2.2.2.2.2.2.2.2.2.2.2.2.2.2.2.2.2.2.2.2.2.2.2.2.2.2.2.2.2.2.2.2.2.2.2.2.2.1, q2.2.2.2.2.2.2.2.2.2.2.2.2.2.2.2.2.2.2.2.2.2.2.2.2.2.2.2.2.2.2.2.2.2.2.2.2.2.2.2.2.2.2.2.2.2.2.2.2.2.2.2.2.2.1, q2.2.2.2.2.2.2.2.2.2.2.2.2.2.2.2.2.2.2.2.2.2.2.2.2.2.2.2.2.2.2.2.2.2.2.2.2.2.2.2.2.2.2.2.2.2.2.2.2.2.2.2.2.2.2.1, q2.2.2.2.2.2.2.2.2.2.2.2.2.2.2.2.2.2.2.2.2.2.2.2.2.2.2.2.2.2.2.2.2.2.2.2.2.2.2.2.2.2.2.2.2.2.2.2.2.2.2.2.2.2.2.2.1, q2.2.2.2.2.2.2.2.2.2.2.2.2.2.2.2.2.2.2.2.2.2.2.2.2.2.2.2.2.2.2.2.2.2.2.2.2.2.2.2.2.2.2.2.2.2.2.2.2.2.2.2.2.2.2.2.2.1, q2.2.2.2.2.2.2.2.2.2.2.2.2.2.2.2.2.2.2.2.2.2.2.2.2.2.2.2.2.2.2.2.2.2.2.2.2.2.2.2.2.2.2.2.2.2.2.2.2.2.2.2.2.2.2.2.2.2.1, q2.2.2.2.2.2.2.2.2.2.2.2.2.2.2.2.2.2.2.2.2.2.2.2.2.2.2.2.2.2.2.2.2.2.2.2.2.2.2.2.2.2.2.2.2.2.2.2.2.2.2.2.2.2.2.2.2.2.2.1, q2.2.2.2.2.2.2.2.2.2.2.2.2.2.2.2.2.2.2.2.2.2.2.2.2.2.2.2.2.2.2.2.2.2.2.2.2.2.2.2.2.2.2.2.2.2.2.2.2.2.2.2.2.2.2.2.2.2.2.2.1, q2.2.2.2.2.2.2.2.2.2.2.2.2.2.2.2.2.2.2.2.2.2.2.2.2.2.2.2.2.2.2.2.2.2.2.2.2.2.2.2.2.2.2.2.2.2.2.2.2.2.2.2.2.2.2.2.2.2.2.2.2.1, q2.2.2.2.2.2.2.2.2.2.2.2.2.2.2.2.2.2.2.2.2.2.2.2.2.2.2.2.2.2.2.2.2.2.2.2.2.2.2.2.2.2.2.2.2.2.2.2.2.2.2.2.2.2.2.2.2.2.2.2.2.2.1, q2.2.2.2.2.2.2.2.2.2.2.2.2.2.2.2.2.2.2.2.2.2.2.2.2.2.2.2.2.2.2.2.2.2.2.2.2.2.2.2.2.2.2.2.2.2.2.2.2.2.2.2.2.2.2.2.2.2.2.2.2.2.2.1, q2.2.2.2.2.2.2.2.2.2.2.2.2.2.2.2.2.2.2.2.2.2.2.2.2.2.2.2.2.2.2.2.2.2.2.2.2.2.2.2.2.2.2.2.2.2.2.2.2.2.2.2.2.2.2.2.2.2.2.2.2.2.2.2.1, q2.2.2.2.2.2.2.2.2.2.2.2.2.2.2.2.2.2.2.2.2.2.2.2.2.2.2.2.2.2.2.2.2.2.2.2.2.2.2.2.2.2.2.2.2.2.2.2.2.2.2.2.2.2.2.2.2.2.2.2.2.2.2.2.2.1, q2.2.2.2.2.2.2.2.2.2.2.2.2.2.2.2.2.2.2.2.2.2.2.2.2.2.2.2.2.2.2.2.2.2.2.2.2.2.2.2.2.2.2.2.2.2.2.2.2.2.2.2.2.2.2.2.2.2.2.2.2.2.2.2.2.2.1, q2.2.2.2.2.2.2.2.2.2.2.2.2.2.2.2.2.2.2.2.2.2.2.2.2.2.2.2.2.2.2.2.2.2.2.2.2.2.2.2.2.2.2.2.2.2.2.2.2.2.2.2.2.2.2.2.2.2.2.2.2.2.2.2.2.2.2.1, q2.2.2.2.2.2.2.2.2.2.2.2.2.2.2.2.2.2.2.2.2.2.2.2.2.2.2.2.2.2.2.2.2.2.2.2.2.2.2.2.2.2.2.2.2.2.2.2.2.2.2.2.2.2.2.2.2.2.2.2.2.2.2.2.2.2.2.2.1, q2.2.2.2.2.2.2.2.2.2.2.2.2.2.2.2.2.2.2.2.2.2.2.2.2.2.2.2.2.2.2.2.2.2.2.2.2.2.2.2.2.2.2.2.2.2.2.2.2.2.2.2.2.2.2.2.2.2.2.2.2.2.2.2.2.2.2.2.2.1, q2.2.2.2.2.2.2.2.2.2.2.2.2.2.2.2.2.2.2.2.2.2.2.2.2.2.2.2.2.2.2.2.2.2.2.2.2.2.2.2.2.2.2.2.2.2.2.2.2.2.2.2.2.2.2.2.2.2.2.2.2.2.2.2.2.2.2.2.2.2.1, q2.2.2.2.2.2.2.2.2.2.2.2.2.2.2.2.2.2.2.2.2.2.2.2.2.2.2.2.2.2.2.2.2.2.2.2.2.2.2.2.2.2.2.2.2.2.2.2.2.2.2.2.2.2.2.2.2.2.2.2.2.2.2.2.2.2.2.2.2.2.2.1, q2.2.2.2.2.2.2.2.2.2.2.2.2.2.2.2.2.2.2.2.2.2.2.2.2.2.2.2.2.2.2.2.2.2.2.2.2.2.2.2.2.2.2.2.2.2.2.2.2.2.2.2.2.2.2.2.2.2.2.2.2.2.2.2.2.2.2.2.2.2.2.2.1, q2.2.2.2.2.2.2.2.2.2.2.2.2.2.2.2.2.2.2.2.2.2.2.2.2.2.2.2.2.2.2.2.2.2.2.2.2.2.2.2.2.2.2.2.2.2.2.2.2.2.2.2.2.2.2.2.2.2.2.2.2.2.2.2.2.2.2.2.2.2.2.2.2.1, q2.2.2.2.2.2.2.2.2.2.2.2.2.2.2.2.2.2.2.2.2.2.2.2.2.2.2.2.2.2.2.2.2.2.2.2.2.2.2.2.2.2.2.2.2.2.2.2.2.2.2.2.2.2.2.2.2.2.2.2.2.2.2.2.2.2.2.2.2.2.2.2.2.2.1, q2.2.2.2.2.2.2.2.2.2.2.2.2.2.2.2.2.2.2.2.2.2.2.2.2.2.2.2.2.2.2.2.2.2.2.2.2.2.2.2.2.2.2.2.2.2.2.2.2.2.2.2.2.2.2.2.2.2.2.2.2.2.2.2.2.2.2.2.2.2.2.2.2.2.2.1, q2.2.2.2.2.2.2.2.2.2.2.2.2.2.2.2.2.2.2.2.2.2.2.2.2.2.2.2.2.2.2.2.2.2.2.2.2.2.2.2.2.2.2.2.2.2.2.2.2.2.2.2.2.2.2.2.2.2.2.2.2.2.2.2.2.2.2.2.2.2.2.2.2.2.2.2.1, q2.2.2.2.2.2.2.2.2.2.2.2.2.2.2.2.2.2.2.2.2.2.2.2.2.2.2.2.2.2.2.2.2.2.2.2.2.2.2.2.2.2.2.2.2.2.2.2.2.2.2.2.2.2.2.2.2.2.2.2.2.2.2.2.2.2.2.2.2.2.2.2.2.2.2.2.2.1, q2.2.2.2.2.2.2.2.2.2.2.2.2.2.2.2.2.2.2.2.2.2.2.2.2.2.2.2.2.2.2.2.2.2.2.2.2.2.2.2.2.2.2.2.2.2.2.2.2.2.2.2.2.2.2.2.2.2.2.2.2.2.2.2.2.2.2.2.2.2.2.2.2.2.2.2.2.2.1, q2.2.2.2.2.2.2.2.2.2.2.2.2.2.2.2.2.2.2.2.2.2.2.2.2.2.2.2.2.2.2.2.2.2.2.2.2.2.2.2.2.2.2.2.2.2.2.2.2.2.2.2.2.2.2.2.2.2.2.2.2.2.2.2.2.2.2.2.2.2.2.2.2.2.2.2.2.2.2.1, q2.2.2.2.2.2.2.2.2.2.2.2.2.2.2.2.2.2.2.2.2.2.2.2.2.2.2.2.2.2.2.2.2.2.2.2.2.2.2.2.2.2.2.2.2.2.2.2.2.2.2.2.2.2.2.2.2.2.2.2.2.2.2.2.2.2.2.2.2.2.2.2.2.2.2.2.2.2.2.2.1, ()))))
noncomputable def rheostatref04_by_gu (K : Nat) (t : rheostatref04_by_h.T) : Option (Int × Int × Int × Int × Int × Int × Int × Int × Int × Int × Int × Int × Int × Int × Int × Int × Int × Int × Int × Int × Int × Int × Int × Int × Int × Int × Int × Int × Int × Int × Int × Int × Int × Int × Int × Int × Int × Int × Int × Int × Unit) :=
  let u1 := t.2
  let u2 := u1.2
  let u3 := u2.2
  let u4 := u3.2
  let u5 := u4.2
  let u6 := u5.2
  let u7 := u6.2
  let u8 := u7.2
  let u9 := u8.2
  let u10 := u9.2
  let u11 := u10.2
  let u12 := u11.2
  let u13 := u12.2
  let u14 := u13.2
  let u15 := u14.2
  let u16 := u15.2
  let u17 := u16.2
  let u18 := u17.2
  let u19 := u18.2
  let u20 := u19.2
  rheostatref04_by_g K t.1 u1.1 u2.1 u3.1 u4.1 u5.1 u6.1 u7.1 u8.1 u9.1 u10.1 u11.1 u12.1 u13.1 u14.1 u15.1 u16.1 u17.1 u18.1 u19.1 u20.1
noncomputable def rheostatref04_by_o (K : Nat) : FO := fnFO rheostatref04_by_h rheostatref04_by_r fun t => rheostatref04_by_gu K t
theorem rheostatref04_by_q (K : Nat) (t : rheostatref04_by_h.T) : exFn (rheostatref04_by_e4 K) (hdl (rheostatref04_by_e4 K) 0) [44] Try.f44 (slVals (rheostatref04_by_h.put t).fr.sl) ⟨⟨0, []⟩, [], (rheostatref04_by_h.put t).mem⟩ (takeRes rheostatref04_by_r) = rheostatref04_by_gu K t := by kernel_rfl
theorem rheostatref04_by_ok (K : Nat) : FOok Try.prog 44 (rheostatref04_by_o K) :=
  fn_rule (rheostatref04_by_t4 K) (rheostatref04_by_i4 K) (draws (rheostatref04_by_t4 K)) 0 Try.func44 (fnB_ok Try.func44 (by kernel_rfl)) rfl rfl (allOwn_ok false (by kernel_rfl)) rfl (allOwn_ok true (by kernel_rfl)) (fun t => rheostatref04_by_q K t)
/-! rheostatref04_plus -/
noncomputable def rheostatref04_plus_e0 (K : Nat) : Env := ⟨tt, [], [], [], eqs⟩
theorem rheostatref04_plus_t0 (K : Nat) : EnvT Try.prog (rheostatref04_plus_e0 K) := envT_of tt_ok eqs_ok trivial
theorem rheostatref04_plus_i0 (K : Nat) : EnvI Try.prog (rheostatref04_plus_e0 K) := envI_of (es := []) trivial trivial
noncomputable def rheostatref04_plus_l0h : Sh := ⟨28, [(2, .sc (.lit (.p 0 0 0 []))), (3, .sc (.lit (.p 1 0 0 []))), (4, .sc (.lit (.p 2 0 0 []))), (5, .sc (.i .i64)), (6, .sc (.i .i64))], [(0, [])], [(true, false, [.i .i64, .i .i64, .i .i64, .i .i64, .i .i64, .i .i64, .i .i64, .i .i64, .i .i64, .i .i64, .i .i64, .i .i64, .i .i64, .i .i64, .i .i64, .i .i64, .i .i64, .i .i64, .i .i64, .i .i64]), (true, false, [.i .i64, .i .i64, .i .i64, .i .i64, .i .i64, .i .i64, .i .i64, .i .i64, .i .i64, .i .i64, .i .i64, .i .i64, .i .i64, .i .i64, .i .i64, .i .i64, .i .i64, .i .i64, .i .i64, .i .i64]), (true, false, [.i .i64, .i .i64, .i .i64, .i .i64, .i .i64, .i .i64, .i .i64, .i .i64, .i .i64, .i .i64, .i .i64, .i .i64, .i .i64, .i .i64, .i .i64, .i .i64, .i .i64, .i .i64, .i .i64, .i .i64])]⟩
noncomputable def rheostatref04_plus_l0x0 : Sh := ⟨28, [(2, .sc (.lit (.p 0 0 0 []))), (4, .sc (.lit (.p 1 0 0 [])))], [(0, [])], [(true, false, [.i .i64, .i .i64, .i .i64, .i .i64, .i .i64, .i .i64, .i .i64, .i .i64, .i .i64, .i .i64, .i .i64, .i .i64, .i .i64, .i .i64, .i .i64, .i .i64, .i .i64, .i .i64, .i .i64, .i .i64]), (true, false, [.i .i64, .i .i64, .i .i64, .i .i64, .i .i64, .i .i64, .i .i64, .i .i64, .i .i64, .i .i64, .i .i64, .i .i64, .i .i64, .i .i64, .i .i64, .i .i64, .i .i64, .i .i64, .i .i64, .i .i64])]⟩
noncomputable def rheostatref04_plus_l0O : OutI (Int × Int × Int × Int × Int × Int × Int × Int × Int × Int × Int × Int × Int × Int × Int × Int × Int × Int × Int × Int × Int × Int × Int × Int × Int × Int × Int × Int × Int × Int × Int × Int × Int × Int × Int × Int × Int × Int × Int × Int × Unit) := (OutI.exit 0 rheostatref04_plus_l0x0)
noncomputable def rheostatref04_plus_l0r (K : Nat) (rec : Int → Int → Int → Int → Int → Int → Int → Int → Int → Int → Int → Int → Int → Int → Int → Int → Int → Int → Int → Int → Int → Int → Int → Int → Int → Int → Int → Int → Int → Int → Int → Int → Int → Int → Int → Int → Int → Int → Int → Int → Int → Int → Int → Int → Int → Int → Int → Int → Int → Int → Int → Int → Int → Int → Int → Int → Int → Int → Int → Int → Int → Int → Option (Int × Int × Int × Int × Int × Int × Int × Int × Int × Int × Int × Int × Int × Int × Int × Int × Int × Int × Int × Int × Int × Int × Int × Int × Int × Int × Int × Int × Int × Int × Int × Int × Int × Int × Int × Int × Int × Int × Int × Int × Unit)) (c_5 : Int) (i_6 : Int) (m0_0 : Int) (m0_1 : Int) (m0_2 : Int) (m0_3 : Int) (m0_4 : Int) (m0_5 : Int) (m0_6 : Int) (m0_7 : Int) (m0_8 : Int) (m0_9 : Int) (m0_10 : Int) (m0_11 : Int) (m0_12 : Int) (m0_13 : Int) (m0_14 : Int) (m0_15 : Int) (m0_16 : Int) (m0_17 : Int) (m0_18 : Int) (m0_19 : Int) (m1_0 : Int) (m1_1 : Int) (m1_2 : Int) (m1_3 : Int) (m1_4 : Int) (m1_5 : Int) (m1_6 : Int) (m1_7 : Int) (m1_8 : Int) (m1_9 : Int) (m1_10 : Int) (m1_11 : Int) (m1_12 : Int) (m1_13 : Int) (m1_14 : Int) (m1_15 : Int) (m1_16 : Int) (m1_17 : Int) (m1_18 : Int) (m1_19 : Int) (m2_0 : Int) (m2_1 : Int) (m2_2 : Int) (m2_3 : Int) (m2_4 : Int) (m2_5 : Int) (m2_6 : Int) (m2_7 : Int) (m2_8 : Int) (m2_9 : Int) (m2_10 : Int) (m2_11 : Int) (m2_12 : Int) (m2_13 : Int) (m2_14 : Int) (m2_15 : Int) (m2_16 : Int) (m2_17 : Int) (m2_18 : Int) (m2_19 : Int) : Option (Int × Int × Int × Int × Int × Int × Int × Int × Int × Int × Int × Int × Int × Int × Int × Int × Int × Int × Int × Int × Int × Int × Int × Int × Int × Int × Int × Int × Int × Int × Int × Int × Int × Int × Int × Int × Int × Int × Int × Int × Unit) :=
  (bif (decide (i_6 < 20)) then (bif ((decide (0 ≤ i_6)) && (decide (i_6 < 20))) then (bif ((decide (0 ≤ i_6)) && (decide (i_6 < 20))) then (bif ((decide (0 ≤ i_6)) && (decide (i_6 < 20))) then ((fun (q1 : Int) => (rec (wi64 (Int.tdiv (wi64 ((wi64 ((selI [m0_0, m0_1, m0_2, m0_3, m0_4, m0_5, m0_6, m0_7, m0_8, m0_9, m0_10, m0_11, m0_12, m0_13, m0_14, m0_15, m0_16, m0_17, m0_18, m0_19] (Int.toNat i_6)) + (selI [m1_0, m1_1, m1_2, m1_3, m1_4, m1_5, m1_6, m1_7, m1_8, m1_9, m1_10, m1_11, m1_12, m1_13, m1_14, m1_15, m1_16, m1_17, m1_18, m1_19] (Int.toNat i_6)))) + c_5)) 256)) (wi64 (i_6 + 1)) (bif (Nat.beq (Int.toNat i_6) 0) then q1 else m0_0) (bif (Nat.beq (Int.toNat i_6) 1) then q1 else m0_1) (bif (Nat.beq (Int.toNat i_6) 2) then q1 else m0_2) (bif (Nat.beq (Int.toNat i_6) 3) then q1 else m0_3) (bif (Nat.beq (Int.toNat i_6) 4) then q1 else m0_4) (bif (Nat.beq (Int.toNat i_6) 5) then q1 else m0_5) (bif (Nat.beq (Int.toNat i_6) 6) then q1 else m0_6) (bif (Nat.beq (Int.toNat i_6) 7) then q1 else m0_7) (bif (Nat.beq (Int.toNat i_6) 8) then q1 else m0_8) (bif (Nat.beq (Int.toNat i_6) 9) then q1 else m0_9) (bif (Nat.beq (Int.toNat i_6) 10) then q1 else m0_10) (bif (Nat.beq (Int.toNat i_6) 11) then q1 else m0_11) (bif (Nat.beq (Int.toNat i_6) 12) then q1 else m0_12) (bif (Nat.beq (Int.toNat i_6) 13) then q1 else m0_13) (bif (Nat.beq (Int.toNat i_6) 14) then q1 else m0_14) (bif (Nat.beq (Int.toNat i_6) 15) then q1 else m0_15) (bif (Nat.beq (Int.toNat i_6) 16) then q1 else m0_16) (bif (Nat.beq (Int.toNat i_6) 17) then q1 else m0_17) (bif (Nat.beq (Int.toNat i_6) 18) then q1 else m0_18) (bif (Nat.beq (Int.toNat i_6) 19) then q1 else m0_19) m1_0 m1_1 m1_2 m1_3 m1_4 m1_5 m1_6 m1_7 m1_8 m1_9 m1_10 m1_11 m1_12 m1_13 m1_14 m1_15 m1_16 m1_17 m1_18 m1_19 m2_0 m2_1 m2_2 m2_3 m2_4 m2_5 m2_6 m2_7 m2_8 m2_9 m2_10 m2_11 m2_12 m2_13 m2_14 m2_15 m2_16 m2_17 m2_18 m2_19)) ((Int.tmod (wi64 ((wi64 ((selI [m0_0, m0_1, m0_2, m0_3, m0_4, m0_5, m0_6, m0_7, m0_8, m0_9, m0_10, m0_11, m0_12, m0_13, m0_14, m0_15, m0_16, m0_17, m0_18, m0_19] (Int.toNat i_6)) + (selI [m1_0, m1_1, m1_2, m1_3, m1_4, m1_5, m1_6, m1_7, m1_8, m1_9, m1_10, m1_11, m1_12, m1_13, m1_14, m1_15, m1_16, m1_17, m1_18, m1_19] (Int.toNat i_6)))) + c_5)) 256))) else none) else none) else none) else (some (m0_0, m0_1, m0_2, m0_3, m0_4, m0_5, m0_6, m0_7, m0_8, m0_9, m0_10, m0_11, m0_12, m0_13, m0_14, m0_15, m0_16, m0_17, m0_18, m0_19, m2_0, m2_1, m2_2, m2_3, m2_4, m2_5, m2_6, m2_7, m2_8, m2_9, m2_10, m2_11, m2_12, m2_13, m2_14, m2_15, m2_16, m2_17, m2_18, m2_19, ())))
noncomputable def rheostatref04_plus_l0 (K n : Nat) : Int → Int → Int → Int → Int → Int → Int → Int → Int → Int → Int → Int → Int → Int → Int → Int → Int → Int → Int → Int → Int → Int → Int → Int → Int → Int → Int → Int → Int → Int → Int → Int → Int → Int → Int → Int → Int → Int → Int → Int → Int → Int → Int → Int → Int → Int → Int → Int → Int → Int → Int → Int → Int → Int → Int → Int → Int → Int → Int → Int → Int → Int → Option (Int × Int × Int × Int × Int × Int × Int × Int × Int × Int × Int × Int × Int × Int × Int × Int × Int × Int × Int × Int × Int × Int × Int × Int × Int × Int × Int × Int × Int × Int × Int × Int × Int × Int × Int × Int × Int × Int × Int × Int × Unit) := Nat.rec (motive := fun _ => Int → Int → Int → Int → Int → Int → Int → Int → Int → Int → Int → Int → Int → Int → Int → Int → Int → Int → Int → Int → Int → Int → Int → Int → Int → Int → Int → Int → Int → Int → Int → Int → Int → Int → Int → Int → Int → Int → Int → Int → Int → Int → Int → Int → Int → Int → Int → Int → Int → Int → Int → Int → Int → Int → Int → Int → Int → Int → Int → Int → Int → Int → Option (Int × Int × Int × Int × Int × Int × Int × Int × Int × Int × Int × Int × Int × Int × Int × Int × Int × Int × Int × Int × Int × Int × Int × Int × Int × Int × Int × Int × Int × Int × Int × Int × Int × Int × Int × Int × Int × Int × Int × Int × Unit)) (fun _ _ _ _ _ _ _ _ _ _ _ _ _ _ _ _ _ _ _ _ _ _ _ _ _ _ _ _ _ _ _ _ _ _ _ _ _ _ _ _ _ _ _ _ _ _ _ _ _ _ _ _ _ _ _ _ _ _ _ _ _ _ => none) (fun _ ih => rheostatref04_plus_l0r K ih) n
noncomputable def rheostatref04_plus_l0u (K n : Nat) (t : rheostatref04_plus_l0h.T) : Option (Int × Int × Int × Int × Int × Int × Int × Int × Int × Int × Int × Int × Int × Int × Int × Int × Int × Int × Int × Int × Int × Int × Int × Int × Int × Int × Int × Int × Int × Int × Int × Int × Int × Int × Int × Int × Int × Int × Int × Int × Unit) :=
  let u1 := t.2
  let u2 := u1.2
  let u3 := u2.2
  let u4 := u3.2
  let u5 := u4.2
  let u6 := u5.2
  let u7 := u6.2
  let u8 := u7.2
  let u9 := u8.2
  let u10 := u9.2
  let u11 := u10.2
  let u12 := u11.2
  let u13 := u12.2
  let u14 := u13.2
  let u15 := u14.2
  let u16 := u15.2
  let u17 := u16.2
  let u18 := u17.2
  let u19 := u18.2
  let u20 := u19.2
  let u21 := u20.2
  let u22 := u21.2
  let u23 := u22.2
  let u24 := u23.2
  let u25 := u24.2
  let u26 := u25.2
  let u27 := u26.2
  let u28 := u27.2
  let u29 := u28.2
  let u30 := u29.2
  let u31 := u30.2
  let u32 := u31.2
  let u33 := u32.2
  let u34 := u33.2
  let u35 := u34.2
  let u36 := u35.2
  let u37 := u36.2
  let u38 := u37.2
  let u39 := u38.2
  let u40 := u39.2
  let u41 := u40.2
  let u42 := u41.2
  let u43 := u42.2
  let u44 := u43.2
  let u45 := u44.2
  let u46 := u45.2
  let u47 := u46.2
  let u48 := u47.2
  let u49 := u48.2
  let u50 := u49.2
  let u51 := u50.2
  let u52 := u51.2
  let u53 := u52.2
  let u54 := u53.2
  let u55 := u54.2
  let u56 := u55.2
  let u57 := u56.2
  let u58 := u57.2
  let u59 := u58.2
  let u60 := u59.2
  let u61 := u60.2
  rheostatref04_plus_l0 K n t.1 u1.1 u2.1 u3.1 u4.1 u5.1 u6.1 u7.1 u8.1 u9.1 u10.1 u11.1 u12.1 u13.1 u14.1 u15.1 u16.1 u17.1 u18.1 u19.1 u20.1 u21.1 u22.1 u23.1 u24.1 u25.1 u26.1 u27.1 u28.1 u29.1 u30.1 u31.1 u32.1 u33.1 u34.1 u35.1 u36.1 u37.1 u38.1 u39.1 u40.1 u41.1 u42.1 u43.1 u44.1 u45.1 u46.1 u47.1 u48.1 u49.1 u50.1 u51.1 u52.1 u53.1 u54.1 u55.1 u56.1 u57.1 u58.1 u59.1 u60.1 u61.1
noncomputable def rheostatref04_plus_l0o (K : Nat) : LO := loopLO rheostatref04_plus_l0h rheostatref04_plus_l0O fun t => rheostatref04_plus_l0u K K t
noncomputable def rheostatref04_plus_l0C : Code := bodyOf Try.f46
noncomputable def rheostatref04_plus_l0B : Code := (findLoops 3 (loopsIn rheostatref04_plus_l0C)).headD .skip
theorem rheostatref04_plus_l0F : findLoops 3 (loopsIn rheostatref04_plus_l0C) = [rheostatref04_plus_l0B] := by kernel_rfl
theorem rheostatref04_plus_l0q (K n : Nat) (t : rheostatref04_plus_l0h.T) : exC (rheostatref04_plus_e0 K) (hdl (rheostatref04_plus_e0 K) 0) (46 :: []) rheostatref04_plus_l0B (rheostatref04_plus_l0h.put t) (fun s => (rheostatref04_plus_l0h.take s).bind fun t => rheostatref04_plus_l0u K n t) (fun id s => rheostatref04_plus_l0O.get (some id) s) (fun s => rheostatref04_plus_l0O.get none s) = rheostatref04_plus_l0u K (n + 1) t := by kernel_rfl
noncomputable def rheostatref04_plus_l0E (K : Nat) : LoopE Try.prog := ⟨[3, 46], rheostatref04_plus_l0o K, Try.f46, rheostatref04_plus_l0C, rheostatref04_plus_l0B, ⟨3, 46, [], rfl, Try.func46, by kernel_rfl, rheostatref04_plus_l0F⟩,
  loop_rule (F := fun n t => rheostatref04_plus_l0u K n t) (rheostatref04_plus_t0 K) (rheostatref04_plus_i0 K) (draws (rheostatref04_plus_t0 K)) 0 Try.func46 (c := rheostatref04_plus_l0C) (by kernel_rfl) (body_in rheostatref04_plus_l0F) (ctx' := []) (h := rheostatref04_plus_l0h) (O := rheostatref04_plus_l0O) (fun _ => rfl) (fun m t => rheostatref04_plus_l0q K m t) K⟩
noncomputable def rheostatref04_plus_e1 (K : Nat) : Env := ⟨tt, [], [], [([3, 46], rheostatref04_plus_l0o K)], eqs⟩
theorem rheostatref04_plus_t1 (K : Nat) : EnvT Try.prog (rheostatref04_plus_e1 K) := envT_of tt_ok eqs_ok trivial
theorem rheostatref04_plus_i1 (K : Nat) : EnvI Try.prog (rheostatref04_plus_e1 K) := envI_of (es := [rheostatref04_plus_l0E K]) trivial ⟨⟨rfl, rfl⟩, trivial⟩
noncomputable def rheostatref04_plus_h : Sh := ⟨2, [(0, .ag [.i .i64, .i .i64, .i .i64, .i .i64, .i .i64, .i .i64, .i .i64, .i .i64, .i .i64, .i .i64, .i .i64, .i .i64, .i .i64, .i .i64, .i .i64, .i .i64, .i .i64, .i .i64, .i .i64, .i .i64]), (1, .ag [.i .i64, .i .i64, .i .i64, .i .i64, .i .i64, .i .i64, .i .i64, .i .i64, .i .i64, .i .i64, .i .i64, .i .i64, .i .i64, .i .i64, .i .i64, .i .i64, .i .i64, .i .i64, .i .i64, .i .i64])], [], []⟩
noncomputable def rheostatref04_plus_r : Sh := ⟨1, [(0, .ag [.i .i64, .i .i64, .i .i64, .i .i64, .i .i64, .i .i64, .i .i64, .i .i64, .i .i64, .i .i64, .i .i64, .i .i64, .i .i64, .i .i64, .i .i64, .i .i64, .i .i64, .i .i64, .i .i64, .i .i64])], [], []⟩
noncomputable def rheostatref04_plus_g (K : Nat) (a_0_0 : Int) (a_0_1 : Int) (a_0_2 : Int) (a_0_3 : Int) (a_0_4 : Int) (a_0_5 : Int) (a_0_6 : Int) (a_0_7 : Int) (a_0_8 : Int) (a_0_9 : Int) (a_0_10 : Int) (a_0_11 : Int) (a_0_12 : Int) (a_0_13 : Int) (a_0_14 : Int) (a_0_15 : Int) (a_0_16 : Int) (a_0_17 : Int) (a_0_18 : Int) (a_0_19 : Int) (b_1_0 : Int) (b_1_1 : Int) (b_1_2 : Int) (b_1_3 : Int) (b_1_4 : Int) (b_1_5 : Int) (b_1_6 : Int) (b_1_7 : Int) (b_1_8 : Int) (b_1_9 : Int) (b_1_10 : Int) (b_1_11 : Int) (b_1_12 : Int) (b_1_13 : Int) (b_1_14 : Int) (b_1_15 : Int) (b_1_16 : Int) (b_1_17 : Int) (b_1_18 : Int) (b_1_19 : Int) : Option (Int × Int × Int × Int × Int × Int × Int × Int × Int × Int × Int × Int × Int × Int × Int × Int × Int × Int × Int × Int × Unit) :=
  ((rheostatref04_plus_l0 K K 0 0 a_0_0 a_0_1 a_0_2 a_0_3 a_0_4 a_0_5 a_0_6 a_0_7 a_0_8 a_0_9 a_0_10 a_0_11 a_0_12 a_0_13 a_0_14 a_0_15 a_0_16 a_0_17 a_0_18 a_0_19 b_1_0 b_1_1 b_1_2 b_1_3 b_1_4 b_1_5 b_1_6 b_1_7 b_1_8 b_1_9 b_1_10 b_1_11 b_1_12 b_1_13 b_1_14 b_1_15 b_1_16 b_1_17 b_1_18 b_1_19 0 0 0 0 0 0 0 0 0 0 0 0 0 0 0 0 0 0 0 0).bind fun q1 => (some (q1.1, q1.2.1, q1.2.2.1, q1.2.2.2.1, q1.2.2.2.2.1, q1.2.2.2.2.2.1, q1.2.2.2.2.2.2.1, q1.2.2.2.2.2.2.2.1, q1.2.2.2.2.2.2.2.2.1, q1.2.2.2.2.2.2.2.2.2.1, q1.2.2.2.2.2.2.2.2.2.2.1, q1.2.2.2.2.2.2.2.2.2.2.2.1, q1.2.2.2.2.2.2.2.2.2.2.2.2.1, q1.2.2.2.2.2.2.2.2.2.2.2.2.2.1, q1.2.2.2.2.2.2.2.2.2.2.2.2.2.2.1, q1.2.2.2.2.2.2.2.2.2.2.2.2.2.2.2.1, q1.2.2.2.2.2.2.2.2.2.2.2.2.2.2.2.2.1, q1.2.2.2.2.2.2.2.2.2.2.2.2.2.2.2.2.2.1, q1.2.2.2.2.2.2.2.2.2.2.2.2.2.2.2.2.2.2.1, q1.2.2.2.2.2.2.2.2.2.2.2.2.2.2.2.2.2.2.2.1, ())))
noncomputable def rheostatref04_plus_gu (K : Nat) (t : rheostatref04_plus_h.T) : Option (Int × Int × Int × Int × Int × Int × Int × Int × Int × Int × Int × Int × Int × Int × Int × Int × Int × Int × Int × Int × Unit) :=
  let u1 := t.2
  let u2 := u1.2
  let u3 := u2.2
  let u4 := u3.2
  let u5 := u4.2
  let u6 := u5.2
  let u7 := u6.2
  let u8 := u7.2
  let u9 := u8.2
  let u10 := u9.2
  let u11 := u10.2
  let u12 := u11.2
  let u13 := u12.2
  let u14 := u13.2
  let u15 := u14.2
  let u16 := u15.2
  let u17 := u16.2
  let u18 := u17.2
  let u19 := u18.2
  let u20 := u19.2
  let u21 := u20.2
  let u22 := u21.2
  let u23 := u22.2
  let u24 := u23.2
  let u25 := u24.2
  let u26 := u25.2
  let u27 := u26.2
  let u28 := u27.2
  let u29 := u28.2
  let u30 := u29.2
  let u31 := u30.2
  let u32 := u31.2
  let u33 := u32.2
  let u34 := u33.2
  let u35 := u34.2
  let u36 := u35.2
  let u37 := u36.2
  let u38 := u37.2
  let u39 := u38.2
  rheostatref04_plus_g K t.1 u1.1 u2.1 u3.1 u4.1 u5.1 u6.1 u7.1 u8.1 u9.1 u10.1 u11.1 u12.1 u13.1 u14.1 u15.1 u16.1 u17.1 u18.1 u19.1 u20.1 u21.1 u22.1 u23.1 u24.1 u25.1 u26.1 u27.1 u28.1 u29.1 u30.1 u31.1 u32.1 u33.1 u34.1 u35.1 u36.1 u37.1 u38.1 u39.1
noncomputable def rheostatref04_plus_o (K : Nat) : FO := fnFO rheostatref04_plus_h rheostatref04_plus_r fun t => rheostatref04_plus_gu K t
theorem rheostatref04_plus_q (K : Nat) (t : rheostatref04_plus_h.T) : exFn (rheostatref04_plus_e1 K) (hdl (rheostatref04_plus_e1 K) 0) [46] Try.f46 (slVals (rheostatref04_plus_h.put t).fr.sl) ⟨⟨0, []⟩, [], (rheostatref04_plus_h.put t).mem⟩ (takeRes rheostatref04_plus_r) = rheostatref04_plus_gu K t := by kernel_rfl
theorem rheostatref04_plus_ok (K : Nat) : FOok Try.prog 46 (rheostatref04_plus_o K) :=
  fn_rule (rheostatref04_plus_t1 K) (rheostatref04_plus_i1 K) (draws (rheostatref04_plus_t1 K)) 0 Try.func46 (fnB_ok Try.func46 (by kernel_rfl)) rfl rfl (allOwn_ok false (by kernel_rfl)) rfl (allOwn_ok true (by kernel_rfl)) (fun t => rheostatref04_plus_q K t)
/-! rheostatref04_one -/
noncomputable def rheostatref04_one_e0 (K : Nat) : Env := ⟨tt, [], [], [], eqs⟩
theorem rheostatref04_one_t0 (K : Nat) : EnvT Try.prog (rheostatref04_one_e0 K) := envT_of tt_ok eqs_ok trivial
theorem rheostatref04_one_i0 (K : Nat) : EnvI Try.prog (rheostatref04_one_e0 K) := envI_of (es := []) trivial trivial
noncomputable def rheostatref04_one_h : Sh := ⟨0, [], [], []⟩
noncomputable def rheostatref04_one_r : Sh := ⟨1, [(0, .ag [.i .i64, .i .i64, .i .i64, .i .i64, .i .i64, .i .i64, .i .i64, .i .i64, .i .i64, .i .i64, .i .i64, .i .i64, .i .i64, .i .i64, .i .i64, .i .i64, .i .i64, .i .i64, .i .i64, .i .i64])], [], []⟩
noncomputable def rheostatref04_one_g (K : Nat)  : Option (Int × Int × Int × Int × Int × Int × Int × Int × Int × Int × Int × Int × Int × Int × Int × Int × Int × Int × Int × Int × Unit) :=
  (some (1, 0, 0, 0, 0, 0, 0, 0, 0, 0, 0, 0, 0, 0, 0, 0, 0, 0, 0, 0, ()))
noncomputable def rheostatref04_one_o (K : Nat) : FO := fnFO rheostatref04_one_h rheostatref04_one_r fun t => rheostatref04_one_g K
theorem rheostatref04_one_q (K : Nat) (t : rheostatref04_one_h.T) : exFn (rheostatref04_one_e0 K) (hdl (rheostatref04_one_e0 K) 0) [48] Try.f48 (slVals (rheostatref04_one_h.put t).fr.sl) ⟨⟨0, []⟩, [], (rheostatref04_one_h.put t).mem⟩ (takeRes rheostatref04_one_r) = rheostatref04_one_g K := by kernel_rfl
theorem rheostatref04_one_ok (K : Nat) : FOok Try.prog 48 (rheostatref04_one_o K) :=
  fn_rule (rheostatref04_one_t0 K) (rheostatref04_one_i0 K) (draws (rheostatref04_one_t0 K)) 0 Try.func48 (fnB_ok Try.func48 (by kernel_rfl)) rfl rfl (allOwn_ok false (by kernel_rfl)) rfl (allOwn_ok true (by kernel_rfl)) (fun t => rheostatref04_one_q K t)
/-! rheostatref04_whole -/
noncomputable def rheostatref04_whole_e0 (K : Nat) : Env := ⟨tt, [], [], [], eqs⟩
theorem rheostatref04_whole_t0 (K : Nat) : EnvT Try.prog (rheostatref04_whole_e0 K) := envT_of tt_ok eqs_ok trivial
theorem rheostatref04_whole_i0 (K : Nat) : EnvI Try.prog (rheostatref04_whole_e0 K) := envI_of (es := []) trivial trivial
noncomputable def rheostatref04_whole_l0h : Sh := ⟨40, [(1, .sc (.lit (.p 0 0 0 []))), (4, .sc (.i .u64)), (5, .sc (.i .i64))], [(0, [])], [(true, false, [.b, .i .i64, .i .i64, .i .i64, .i .i64, .i .i64, .i .i64, .i .i64, .i .i64, .i .i64, .i .i64, .i .i64, .i .i64, .i .i64, .i .i64, .i .i64, .i .i64, .i .i64, .i .i64, .i .i64, .i .i64])]⟩
noncomputable def rheostatref04_whole_l0x0 : Sh := ⟨40, [(1, .sc (.lit (.p 0 0 0 []))), (4, .sc (.i .u64))], [(0, [])], [(true, false, [.b, .i .i64, .i .i64, .i .i64, .i .i64, .i .i64, .i .i64, .i .i64, .i .i64, .i .i64, .i .i64, .i .i64, .i .i64, .i .i64, .i .i64, .i .i64, .i .i64, .i .i64, .i .i64, .i .i64, .i .i64])]⟩
noncomputable def rheostatref04_whole_l0x1 : Sh := ⟨40, [(2, .sc (.i .i64)), (3, .sc (.b))], [(0, [])], []⟩
noncomputable def rheostatref04_whole_l0O : OutI ((Int × Bool × Int × Int × Int × Int × Int × Int × Int × Int × Int × Int × Int × Int × Int × Int × Int × Int × Int × Int × Int × Int × Unit) ⊕ (Int × Bool × Unit)) := (OutI.or (OutI.exit 0 rheostatref04_whole_l0x0) (OutI.ret rheostatref04_whole_l0x1))
noncomputable def rheostatref04_whole_l0r (K : Nat) (rec : Int → Int → Bool → Int → Int → Int → Int → Int → Int → Int → Int → Int → Int → Int → Int → Int → Int → Int → Int → Int → Int → Int → Int → Option ((Int × Bool × Int × Int × Int × Int × Int × Int × Int × Int × Int × Int × Int × Int × Int × Int × Int × Int × Int × Int × Int × Int × Unit) ⊕ (Int × Bool × Unit))) (x_4 : Int) (i_5 : Int) (m0_0 : Bool) (m0_1 : Int) (m0_2 : Int) (m0_3 : Int) (m0_4 : Int) (m0_5 : Int) (m0_6 : Int) (m0_7 : Int) (m0_8 : Int) (m0_9 : Int) (m0_10 : Int) (m0_11 : Int) (m0_12 : Int) (m0_13 : Int) (m0_14 : Int) (m0_15 : Int) (m0_16 : Int) (m0_17 : Int) (m0_18 : Int) (m0_19 : Int) (m0_20 : Int) : Option ((Int × Bool × Int × Int × Int × Int × Int × Int × Int × Int × Int × Int × Int × Int × Int × Int × Int × Int × Int × Int × Int × Int × Unit) ⊕ (Int × Bool × Unit)) :=
  (bif (decide (i_5 ≥ 0)) then (bif (decide (i_5 ≥ 8)) then (bif ((decide (0 ≤ i_5)) && (decide (i_5 < 20))) then (bif ((selI [m0_1, m0_2, m0_3, m0_4, m0_5, m0_6, m0_7, m0_8, m0_9, m0_10, m0_11, m0_12, m0_13, m0_14, m0_15, m0_16, m0_17, m0_18, m0_19, m0_20] (Int.toNat i_5)) != 0) then (some (.inr (0, false, ()))) else (bif (decide (i_5 < 8)) then (bif ((decide (0 ≤ i_5)) && (decide (i_5 < 20))) then (rec (wu64 ((wu64 (x_4 * 256)) + (wu64 ((selI [m0_1, m0_2, m0_3, m0_4, m0_5, m0_6, m0_7, m0_8, m0_9, m0_10, m0_11, m0_12, m0_13, m0_14, m0_15, m0_16, m0_17, m0_18, m0_19, m0_20] (Int.toNat i_5)))))) (wi64 (i_5 - 1)) m0_0 m0_1 m0_2 m0_3 m0_4 m0_5 m0_6 m0_7 m0_8 m0_9 m0_10 m0_11 m0_12 m0_13 m0_14 m0_15 m0_16 m0_17 m0_18 m0_19 m0_20) else none) else (rec x_4 (wi64 (i_5 - 1)) m0_0 m0_1 m0_2 m0_3 m0_4 m0_5 m0_6 m0_7 m0_8 m0_9 m0_10 m0_11 m0_12 m0_13 m0_14 m0_15 m0_16 m0_17 m0_18 m0_19 m0_20))) else none) else (bif (decide (i_5 < 8)) then (bif ((decide (0 ≤ i_5)) && (decide (i_5 < 20))) then (rec (wu64 ((wu64 (x_4 * 256)) + (wu64 ((selI [m0_1, m0_2, m0_3, m0_4, m0_5, m0_6, m0_7, m0_8, m0_9, m0_10, m0_11, m0_12, m0_13, m0_14, m0_15, m0_16, m0_17, m0_18, m0_19, m0_20] (Int.toNat i_5)))))) (wi64 (i_5 - 1)) m0_0 m0_1 m0_2 m0_3 m0_4 m0_5 m0_6 m0_7 m0_8 m0_9 m0_10 m0_11 m0_12 m0_13 m0_14 m0_15 m0_16 m0_17 m0_18 m0_19 m0_20) else none) else (rec x_4 (wi64 (i_5 - 1)) m0_0 m0_1 m0_2 m0_3 m0_4 m0_5 m0_6 m0_7 m0_8 m0_9 m0_10 m0_11 m0_12 m0_13 m0_14 m0_15 m0_16 m0_17 m0_18 m0_19 m0_20))) else (some (.inl (x_4, m0_0, m0_1, m0_2, m0_3, m0_4, m0_5, m0_6, m0_7, m0_8, m0_9, m0_10, m0_11, m0_12, m0_13, m0_14, m0_15, m0_16, m0_17, m0_18, m0_19, m0_20, ()))))
noncomputable def rheostatref04_whole_l0 (K n : Nat) : Int → Int → Bool → Int → Int → Int → Int → Int → Int → Int → Int → Int → Int → Int → Int → Int → Int → Int → Int → Int → Int → Int → Int → Option ((Int × Bool × Int × Int × Int × Int × Int × Int × Int × Int × Int × Int × Int × Int × Int × Int × Int × Int × Int × Int × Int × Int × Unit) ⊕ (Int × Bool × Unit)) := Nat.rec (motive := fun _ => Int → Int → Bool → Int → Int → Int → Int → Int → Int → Int → Int → Int → Int → Int → Int → Int → Int → Int → Int → Int → Int → Int → Int → Option ((Int × Bool × Int × Int × Int × Int × Int × Int × Int × Int × Int × Int × Int × Int × Int × Int × Int × Int × Int × Int × Int × Int × Unit) ⊕ (Int × Bool × Unit))) (fun _ _ _ _ _ _ _ _ _ _ _ _ _ _ _ _ _ _ _ _ _ _ _ => none) (fun _ ih => rheostatref04_whole_l0r K ih) n
noncomputable def rheostatref04_whole_l0u (K n : Nat) (t : rheostatref04_whole_l0h.T) : Option ((Int × Bool × Int × Int × Int × Int × Int × Int × Int × Int × Int × Int × Int × Int × Int × Int × Int × Int × Int × Int × Int × Int × Unit) ⊕ (Int × Bool × Unit)) :=
  let u1 := t.2
  let u2 := u1.2
  let u3 := u2.2
  let u4 := u3.2
  let u5 := u4.2
  let u6 := u5.2
  let u7 := u6.2
  let u8 := u7.2
  let u9 := u8.2
  let u10 := u9.2
  let u11 := u10.2
  let u12 := u11.2
  let u13 := u12.2
  let u14 := u13.2
  let u15 := u14.2
  let u16 := u15.2
  let u17 := u16.2
  let u18 := u17.2
  let u19 := u18.2
  let u20 := u19.2
  let u21 := u20.2
  let u22 := u21.2
  rheostatref04_whole_l0 K n t.1 u1.1 u2.1 u3.1 u4.1 u5.1 u6.1 u7.1 u8.1 u9.1 u10.1 u11.1 u12.1 u13.1 u14.1 u15.1 u16.1 u17.1 u18.1 u19.1 u20.1 u21.1 u22.1
noncomputable def rheostatref04_whole_l0o (K : Nat) : LO := loopLO rheostatref04_whole_l0h rheostatref04_whole_l0O fun t => rheostatref04_whole_l0u K K t
noncomputable def rheostatref04_whole_l0C : Code := bodyOf Try.f49
noncomputable def rheostatref04_whole_l0B : Code := (findLoops 3 (loopsIn rheostatref04_whole_l0C)).headD .skip
theorem rheostatref04_whole_l0F : findLoops 3 (loopsIn rheostatref04_whole_l0C) = [rheostatref04_whole_l0B] := by kernel_rfl
theorem rheostatref04_whole_l0q (K n : Nat) (t : rheostatref04_whole_l0h.T) : exC (rheostatref04_whole_e0 K) (hdl (rheostatref04_whole_e0 K) 0) (49 :: []) rheostatref04_whole_l0B (rheostatref04_whole_l0h.put t) (fun s => (rheostatref04_whole_l0h.take s).bind fun t => rheostatref04_whole_l0u K n t) (fun id s => rheostatref04_whole_l0O.get (some id) s) (fun s => rheostatref04_whole_l0O.get none s) = rheostatref04_whole_l0u K (n + 1) t := by kernel_rfl
noncomputable def rheostatref04_whole_l0E (K : Nat) : LoopE Try.prog := ⟨[3, 49], rheostatref04_whole_l0o K, Try.f49, rheostatref04_whole_l0C, rheostatref04_whole_l0B, ⟨3, 49, [], rfl, Try.func49, by kernel_rfl, rheostatref04_whole_l0F⟩,
  loop_rule (F := fun n t => rheostatref04_whole_l0u K n t) (rheostatref04_whole_t0 K) (rheostatref04_whole_i0 K) (draws (rheostatref04_whole_t0 K)) 0 Try.func49 (c := rheostatref04_whole_l0C) (by kernel_rfl) (body_in rheostatref04_whole_l0F) (ctx' := []) (h := rheostatref04_whole_l0h) (O := rheostatref04_whole_l0O) (fun _ => rfl) (fun m t => rheostatref04_whole_l0q K m t) K⟩
noncomputable def rheostatref04_whole_e1 (K : Nat) : Env := ⟨tt, [], [], [([3, 49], rheostatref04_whole_l0o K)], eqs⟩
theorem rheostatref04_whole_t1 (K : Nat) : EnvT Try.prog (rheostatref04_whole_e1 K) := envT_of tt_ok eqs_ok trivial
theorem rheostatref04_whole_i1 (K : Nat) : EnvI Try.prog (rheostatref04_whole_e1 K) := envI_of (es := [rheostatref04_whole_l0E K]) trivial ⟨⟨rfl, rfl⟩, trivial⟩
noncomputable def rheostatref04_whole_h : Sh := ⟨1, [(0, .ag [.b, .i .i64, .i .i64, .i .i64, .i .i64, .i .i64, .i .i64, .i .i64, .i .i64, .i .i64, .i .i64, .i .i64, .i .i64, .i .i64, .i .i64, .i .i64, .i .i64, .i .i64, .i .i64, .i .i64, .i .i64])], [], []⟩
noncomputable def rheostatref04_whole_r : Sh := ⟨2, [(0, .sc (.i .i64)), (1, .sc (.b))], [], []⟩
noncomputable def rheostatref04_whole_g (K : Nat) (n_0_0 : Bool) (n_0_1 : Int) (n_0_2 : Int) (n_0_3 : Int) (n_0_4 : Int) (n_0_5 : Int) (n_0_6 : Int) (n_0_7 : Int) (n_0_8 : Int) (n_0_9 : Int) (n_0_10 : Int) (n_0_11 : Int) (n_0_12 : Int) (n_0_13 : Int) (n_0_14 : Int) (n_0_15 : Int) (n_0_16 : Int) (n_0_17 : Int) (n_0_18 : Int) (n_0_19 : Int) (n_0_20 : Int) : Option (Int × Bool × Unit) :=
  ((rheostatref04_whole_l0 K K 0 19 n_0_0 n_0_1 n_0_2 n_0_3 n_0_4 n_0_5 n_0_6 n_0_7 n_0_8 n_0_9 n_0_10 n_0_11 n_0_12 n_0_13 n_0_14 n_0_15 n_0_16 n_0_17 n_0_18 n_0_19 n_0_20).bind fun q1 => (Sum.elim (fun q2 => (bif q2.2.1 then (bif (decide (q2.1 > 9223372036854775808)) then (some (0, false, ())) else (some ((wi64 ((wu64 (0 - q2.1)))), true, ()))) else (bif (decide (q2.1 > 9223372036854775807)) then (some (0, false, ())) else (some ((wi64 (q2.1)), true, ()))))) (fun q3 => (some (q3.1, q3.2.1, ()))) q1))
noncomputable def rheostatref04_whole_gu (K : Nat) (t : rheostatref04_whole_h.T) : Option (Int × Bool × Unit) :=
  let u1 := t.2
  let u2 := u1.2
  let u3 := u2.2
  let u4 := u3.2
  let u5 := u4.2
  let u6 := u5.2
  let u7 := u6.2
  let u8 := u7.2
  let u9 := u8.2
  let u10 := u9.2
  let u11 := u10.2
  let u12 := u11.2
  let u13 := u12.2
  let u14 := u13.2
  let u15 := u14.2
  let u16 := u15.2
  let u17 := u16.2
  let u18 := u17.2
  let u19 := u18.2
  let u20 := u19.2
  rheostatref04_whole_g K t.1 u1.1 u2.1 u3.1 u4.1 u5.1 u6.1 u7.1 u8.1 u9.1 u10.1 u11.1 u12.1 u13.1 u14.1 u15.1 u16.1 u17.1 u18.1 u19.1 u20.1
noncomputable def rheostatref04_whole_o (K : Nat) : FO := fnFO rheostatref04_whole_h rheostatref04_whole_r fun t => rheostatref04_whole_gu K t
theorem rheostatref04_whole_q (K : Nat) (t : rheostatref04_whole_h.T) : exFn (rheostatref04_whole_e1 K) (hdl (rheostatref04_whole_e1 K) 0) [49] Try.f49 (slVals (rheostatref04_whole_h.put t).fr.sl) ⟨⟨0, []⟩, [], (rheostatref04_whole_h.put t).mem⟩ (takeRes rheostatref04_whole_r) = rheostatref04_whole_gu K t := by kernel_rfl
theorem rheostatref04_whole_ok (K : Nat) : FOok Try.prog 49 (rheostatref04_whole_o K) :=
  fn_rule (rheostatref04_whole_t1 K) (rheostatref04_whole_i1 K) (draws (rheostatref04_whole_t1 K)) 0 Try.func49 (fnB_ok Try.func49 (by kernel_rfl)) rfl rfl (allOwn_ok false (by kernel_rfl)) rfl (allOwn_ok true (by kernel_rfl)) (fun t => rheostatref04_whole_q K t)
end Go.Proofs.Ytdcjkkgfimbodaa
