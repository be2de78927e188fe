/-
  The functions of law 21, as plain functions, and that the program does what they say. Printed by a program of ours.
-/
import Derived.Test.YtjmbhhinmbgneaaGreatG
namespace Go.Proofs.YtjmbhhinmbgneaaGreat
open Go.Sy
set_option maxRecDepth 100000
set_option linter.unusedVariables false
/-! w_works -/
noncomputable def w_works_n (K : Nat) : List (FuncId × FO) := [(27, state_Default_o K), (12, state_New_o K), (25, rb_SameInts_o K), (10, state_Step_o K), (16, state_Fits_o K)]
theorem w_works_k (K : Nat) : fnsOk Tryz.prog (w_works_n K) := ⟨state_Default_ok K, state_New_ok K, rb_SameInts_ok K, state_Step_ok K, state_Fits_ok K, trivial⟩
noncomputable def w_works_h : Sh := ⟨0, [], [], []⟩
noncomputable def w_works_r : Sh := ⟨1, [(0, .sc (.b))], [], []⟩
noncomputable def w_works_g (K : Nat)  : Option (Bool × Unit) :=
  ((state_Default_g K).bind fun q1 => let q1_1 := q1.2; let q1_2 := q1_1.2; let q1_3 := q1_2.2; let q1_4 := q1_3.2; let q1_5 := q1_4.2; let q1_6 := q1_5.2; let q1_7 := q1_6.2; let q1_8 := q1_7.2; let q1_9 := q1_8.2; let q1_10 := q1_9.2; let q1_11 := q1_10.2; let q1_12 := q1_11.2; let q1_13 := q1_12.2; let q1_14 := q1_13.2; let q1_15 := q1_14.2; let q1_16 := q1_15.2; let q1_17 := q1_16.2; let q1_18 := q1_17.2; let q1_19 := q1_18.2; let q1_20 := q1_19.2; let q1_21 := q1_20.2; let q1_22 := q1_21.2; let q1_23 := q1_22.2; let q1_24 := q1_23.2; let q1_25 := q1_24.2; let q1_26 := q1_25.2; let q1_27 := q1_26.2; let q1_28 := q1_27.2; let q1_29 := q1_28.2; let q1_30 := q1_29.2; let q1_31 := q1_30.2; let q1_32 := q1_31.2; let q1_33 := q1_32.2; let q1_34 := q1_33.2; let q1_35 := q1_34.2; let q1_36 := q1_35.2; let q1_37 := q1_36.2; let q1_38 := q1_37.2; let q1_39 := q1_38.2; let q1_40 := q1_39.2; let q1_41 := q1_40.2; let q1_42 := q1_41.2; let q1_43 := q1_42.2; let q1_44 := q1_43.2; let q1_45 := q1_44.2; let q1_46 := q1_45.2; let q1_47 := q1_46.2; let q1_48 := q1_47.2; let q1_49 := q1_48.2; let q1_50 := q1_49.2; let q1_51 := q1_50.2; let q1_52 := q1_51.2; let q1_53 := q1_52.2; let q1_54 := q1_53.2; let q1_55 := q1_54.2; let q1_56 := q1_55.2; let q1_57 := q1_56.2; let q1_58 := q1_57.2; let q1_59 := q1_58.2; let q1_60 := q1_59.2; let q1_61 := q1_60.2; let q1_62 := q1_61.2; let q1_63 := q1_62.2; let q1_64 := q1_63.2; let q1_65 := q1_64.2; let q1_66 := q1_65.2; let q1_67 := q1_66.2; let q1_68 := q1_67.2; let q1_69 := q1_68.2; let q1_70 := q1_69.2; ((state_New_g K q1.1 q1_1.1 q1_2.1 q1_3.1 q1_4.1 q1_5.1 q1_6.1 q1_7.1 q1_8.1 q1_9.1 q1_10.1 q1_11.1 q1_12.1 q1_13.1 q1_14.1 q1_15.1 q1_16.1 q1_17.1 q1_18.1 q1_19.1 q1_20.1 q1_21.1 q1_22.1 q1_24.1 q1_26.1 q1_28.1 q1_29.1 q1_30.1 q1_31.1 q1_32.1 q1_33.1 q1_34.1 q1_35.1 q1_36.1 q1_37.1 q1_38.1 q1_39.1 q1_40.1 q1_41.1 q1_42.1 q1_43.1 q1_44.1 q1_45.1 q1_46.1 q1_47.1 q1_48.1 q1_49.1 q1_50.1 q1_51.1 q1_52.1 q1_53.1 q1_54.1 q1_55.1 q1_56.1 q1_57.1 q1_58.1 q1_59.1 (fun j => (selI [q1_60.1, q1_61.1, q1_62.1] (j + q1_23.1))) (fun j => (selI [q1_63.1, q1_64.1] (j + q1_25.1))) (fun j => (selI [q1_65.1, q1_66.1, q1_67.1, q1_68.1, q1_69.1, q1_70.1] (j + q1_27.1)))).bind fun q2 => let q2_1 := q2.2; let q2_2 := q2_1.2; let q2_3 := q2_2.2; let q2_4 := q2_3.2; let q2_5 := q2_4.2; let q2_6 := q2_5.2; let q2_7 := q2_6.2; let q2_8 := q2_7.2; let q2_9 := q2_8.2; let q2_10 := q2_9.2; let q2_11 := q2_10.2; let q2_12 := q2_11.2; let q2_13 := q2_12.2; let q2_14 := q2_13.2; let q2_15 := q2_14.2; let q2_16 := q2_15.2; let q2_17 := q2_16.2; let q2_18 := q2_17.2; let q2_19 := q2_18.2; let q2_20 := q2_19.2; let q2_21 := q2_20.2; let q2_22 := q2_21.2; let q2_23 := q2_22.2; (bif (q2_23.1 != 0) then (some (false, ())) else (bif (q2_2.1 != 5000) then (some (false, ())) else (bif (q2_9.1 != (-1)) then (some (false, ())) else (bif (q1_29.1 != 50) then (some (false, ())) else (bif (q1_59.1 != 100000000) then (some (false, ())) else (bif (q1_58.1 != 3) then (some (false, ())) else ((rb_SameInts_g K q1_28.1 6 (fun j => (selI [q1_65.1, q1_66.1, q1_67.1, q1_68.1, q1_69.1, q1_70.1] (j + q1_27.1))) (fun j => (selI [0, 200, 5000, 5200, 9800, 10000] j))).bind fun q3 => (bif (!q3.1) then (some (false, ())) else ((state_Step_g K q1.1 q1_1.1 q1_2.1 q1_3.1 q1_4.1 q1_5.1 q1_6.1 q1_7.1 q1_8.1 q1_9.1 q1_10.1 q1_11.1 q1_12.1 q1_13.1 q1_14.1 q1_15.1 q1_16.1 q1_17.1 q1_18.1 q1_19.1 q1_20.1 q1_21.1 q1_22.1 q1_24.1 q1_26.1 q1_28.1 q1_29.1 q1_30.1 q1_31.1 q1_32.1 q1_33.1 q1_34.1 q1_35.1 q1_36.1 q1_37.1 q1_38.1 q1_39.1 q1_40.1 q1_41.1 q1_42.1 q1_43.1 q1_44.1 q1_45.1 q1_46.1 q1_47.1 q1_48.1 q1_49.1 q1_50.1 q1_51.1 q1_52.1 q1_53.1 q1_54.1 q1_55.1 q1_56.1 q1_57.1 q1_58.1 q1_59.1 q2.1 q2_1.1 q2_2.1 q2_3.1 q2_4.1 q2_5.1 q2_6.1 q2_7.1 q2_8.1 q2_9.1 q2_10.1 q2_11.1 q2_12.1 q2_13.1 q2_14.1 q2_15.1 q2_16.1 q2_17.1 q2_18.1 q2_19.1 q2_20.1 q2_21.1 q2_22.1 1000 0 25000 1000 (fun j => (selI [q1_60.1, q1_61.1, q1_62.1] (j + q1_23.1))) (fun j => (selI [q1_63.1, q1_64.1] (j + q1_25.1))) (fun j => (selI [q1_65.1, q1_66.1, q1_67.1, q1_68.1, q1_69.1, q1_70.1] (j + q1_27.1)))).bind fun q4 => let q4_1 := q4.2; let q4_2 := q4_1.2; let q4_3 := q4_2.2; let q4_4 := q4_3.2; let q4_5 := q4_4.2; let q4_6 := q4_5.2; let q4_7 := q4_6.2; let q4_8 := q4_7.2; let q4_9 := q4_8.2; let q4_10 := q4_9.2; let q4_11 := q4_10.2; let q4_12 := q4_11.2; let q4_13 := q4_12.2; let q4_14 := q4_13.2; let q4_15 := q4_14.2; let q4_16 := q4_15.2; let q4_17 := q4_16.2; let q4_18 := q4_17.2; let q4_19 := q4_18.2; let q4_20 := q4_19.2; let q4_21 := q4_20.2; let q4_22 := q4_21.2; let q4_23 := q4_22.2; ((state_Step_g K q1.1 q1_1.1 q1_2.1 q1_3.1 q1_4.1 q1_5.1 q1_6.1 q1_7.1 q1_8.1 q1_9.1 q1_10.1 q1_11.1 q1_12.1 q1_13.1 q1_14.1 q1_15.1 q1_16.1 q1_17.1 q1_18.1 q1_19.1 q1_20.1 q1_21.1 q1_22.1 q1_24.1 q1_26.1 q1_28.1 q1_29.1 q1_30.1 q1_31.1 q1_32.1 q1_33.1 q1_34.1 q1_35.1 q1_36.1 q1_37.1 q1_38.1 q1_39.1 q1_40.1 q1_41.1 q1_42.1 q1_43.1 q1_44.1 q1_45.1 q1_46.1 q1_47.1 q1_48.1 q1_49.1 q1_50.1 q1_51.1 q1_52.1 q1_53.1 q1_54.1 q1_55.1 q1_56.1 q1_57.1 q1_58.1 q1_59.1 q2.1 q2_1.1 q2_2.1 q2_3.1 q2_4.1 q2_5.1 q2_6.1 q2_7.1 q2_8.1 q2_9.1 q2_10.1 q2_11.1 q2_12.1 q2_13.1 q2_14.1 q2_15.1 q2_16.1 q2_17.1 q2_18.1 q2_19.1 q2_20.1 q2_21.1 q2_22.1 1000 0 90001 1000 (fun j => (selI [q1_60.1, q1_61.1, q1_62.1] (j + q1_23.1))) (fun j => (selI [q1_63.1, q1_64.1] (j + q1_25.1))) (fun j => (selI [q1_65.1, q1_66.1, q1_67.1, q1_68.1, q1_69.1, q1_70.1] (j + q1_27.1)))).bind fun q5 => let q5_1 := q5.2; let q5_2 := q5_1.2; let q5_3 := q5_2.2; let q5_4 := q5_3.2; let q5_5 := q5_4.2; let q5_6 := q5_5.2; let q5_7 := q5_6.2; let q5_8 := q5_7.2; let q5_9 := q5_8.2; let q5_10 := q5_9.2; let q5_11 := q5_10.2; let q5_12 := q5_11.2; let q5_13 := q5_12.2; let q5_14 := q5_13.2; let q5_15 := q5_14.2; let q5_16 := q5_15.2; let q5_17 := q5_16.2; let q5_18 := q5_17.2; let q5_19 := q5_18.2; let q5_20 := q5_19.2; let q5_21 := q5_20.2; let q5_22 := q5_21.2; let q5_23 := q5_22.2; (bif (q4_23.1 == 0) then (bif (q4.1 == 1000000) then (bif (q4_21.1 == 1) then (bif (q5_23.1 == 130) then ((state_Fits_g K q1.1 q1_1.1 q1_2.1 q1_3.1 q1_4.1 q1_5.1 q1_6.1 q1_7.1 q1_8.1 q1_9.1 q1_10.1 q1_11.1 q1_12.1 q1_13.1 q1_14.1 q1_15.1 q1_16.1 q1_17.1 q1_18.1 q1_19.1 q1_20.1 q1_21.1 q1_22.1 q1_24.1 q1_26.1 q1_28.1 q1_29.1 q1_30.1 q1_31.1 q1_32.1 q1_33.1 q1_34.1 q1_35.1 q1_36.1 q1_37.1 q1_38.1 q1_39.1 q1_40.1 q1_41.1 q1_42.1 q1_43.1 q1_44.1 q1_45.1 q1_46.1 q1_47.1 q1_48.1 q1_49.1 q1_50.1 q1_51.1 q1_52.1 q1_53.1 q1_54.1 q1_55.1 q1_56.1 q1_57.1 q1_58.1 q1_59.1 q4.1 q4_1.1 q4_2.1 q4_3.1 q4_4.1 q4_5.1 q4_6.1 q4_7.1 q4_8.1 q4_9.1 q4_10.1 q4_11.1 q4_12.1 q4_13.1 q4_14.1 q4_15.1 q4_16.1 q4_17.1 q4_18.1 q4_19.1 q4_20.1 q4_21.1 q4_22.1 (fun j => (selI [q1_60.1, q1_61.1, q1_62.1] (j + q1_23.1))) (fun j => (selI [q1_63.1, q1_64.1] (j + q1_25.1))) (fun j => (selI [q1_65.1, q1_66.1, q1_67.1, q1_68.1, q1_69.1, q1_70.1] (j + q1_27.1)))).bind fun q6 => (some (q6.1, ()))) else (some (false, ()))) else (some (false, ()))) else (some (false, ()))) else (some (false, ())))))))))))))))
noncomputable def w_works_o (K : Nat) : FO := fnFO w_works_h w_works_r fun t => w_works_g K
theorem w_works_ok (K : Nat) : FOok Tryz.prog 18 (w_works_o K) := fnE Bs (w_works_n K) [] [] (w_works_k K) trivial 0 Tryz.func18 fun t => by kernel_rfl
/-! w_light -/
noncomputable def w_light_h : Sh := ⟨1, [(0, .ag [i6, i6, i6, i6, i6, i6, i6, i6, i6, i6, i6, i6, i6, i6, i6, i6, i6, i6, i6, i6, i6, i6, i6, .slr0 0, .slr0 1, .slr0 2, i6, i6, i6, i6, i6, i6, .b, i6, i6, i6, .b, i6, i6, i6, .b, i6, i6, i6, .b, i6, i6, i6, .b, i6, i6, i6, .b, i6, i6, i6, i6])], [], [(false, true, [r6]), (false, true, [r6]), (false, true, [r6])]⟩
noncomputable def w_light_r : Sh := ⟨1, [(0, .sc (.b))], [], []⟩
noncomputable def w_light_g (K : Nat) (a0 a1 a2 a3 a4 a5 a6 a7 a8 a9 a10 a11 a12 a13 a14 a15 a16 a17 a18 a19 a20 a21 a22 : Int) (n23 n24 n25 : Nat) (a26 a27 a28 a29 a30 a31 : Int) (b32 : Bool) (a33 a34 a35 : Int) (b36 : Bool) (a37 a38 a39 : Int) (b40 : Bool) (a41 a42 a43 : Int) (b44 : Bool) (a45 a46 a47 : Int) (b48 : Bool) (a49 a50 a51 : Int) (b52 : Bool) (a53 a54 a55 a56 : Int) (m57 m58 m59 : (Nat → Int)) : Option (Bool × Unit) :=
  (bif (decide ((wi64 (((n23 : Nat) : Int) + ((n24 : Nat) : Int))) ≤ 100)) then (some ((decide (((n25 : Nat) : Int) ≤ 1000)), ())) else (some (false, ())))
noncomputable def w_light_gu (K : Nat) (t : w_light_h.T) : Option (Bool × Unit) :=
  let u1 := t.2
  let u2 := u1.2
  let u3 := u2.2
  let u4 := u3.2
  let u5 := u4.2
  let u6 := u5.2
  let u7 := u6.2
  let u8 := u7.2
  let u9 := u8.2
  let u10 := u9.2
  let u11 := u10.2
  let u12 := u11.2
  let u13 := u12.2
  let u14 := u13.2
  let u15 := u14.2
  let u16 := u15.2
  let u17 := u16.2
  let u18 := u17.2
  let u19 := u18.2
  let u20 := u19.2
  let u21 := u20.2
  let u22 := u21.2
  let u23 := u22.2
  let u24 := u23.2
  let u25 := u24.2
  let u26 := u25.2
  let u27 := u26.2
  let u28 := u27.2
  let u29 := u28.2
  let u30 := u29.2
  let u31 := u30.2
  let u32 := u31.2
  let u33 := u32.2
  let u34 := u33.2
  let u35 := u34.2
  let u36 := u35.2
  let u37 := u36.2
  let u38 := u37.2
  let u39 := u38.2
  let u40 := u39.2
  let u41 := u40.2
  let u42 := u41.2
  let u43 := u42.2
  let u44 := u43.2
  let u45 := u44.2
  let u46 := u45.2
  let u47 := u46.2
  let u48 := u47.2
  let u49 := u48.2
  let u50 := u49.2
  let u51 := u50.2
  let u52 := u51.2
  let u53 := u52.2
  let u54 := u53.2
  let u55 := u54.2
  let u56 := u55.2
  let u57 := u56.2
  let u58 := u57.2
  let u59 := u58.2
  w_light_g K t.1 u1.1 u2.1 u3.1 u4.1 u5.1 u6.1 u7.1 u8.1 u9.1 u10.1 u11.1 u12.1 u13.1 u14.1 u15.1 u16.1 u17.1 u18.1 u19.1 u20.1 u21.1 u22.1 u23.1 u24.1 u25.1 u26.1 u27.1 u28.1 u29.1 u30.1 u31.1 u32.1 u33.1 u34.1 u35.1 u36.1 u37.1 u38.1 u39.1 u40.1 u41.1 u42.1 u43.1 u44.1 u45.1 u46.1 u47.1 u48.1 u49.1 u50.1 u51.1 u52.1 u53.1 u54.1 u55.1 u56.1 u57.1 u58.1 u59.1
noncomputable def w_light_o (K : Nat) : FO := fnFO w_light_h w_light_r fun t => w_light_gu K t
theorem w_light_ok (K : Nat) : FOok Tryz.prog 9 (w_light_o K) := fnE Bs [] [] [] trivial trivial 0 Tryz.func9 fun t => by kernel_rfl
/-! rb_Ints -/
noncomputable def rb_Ints_h : Sh := ⟨1, [(0, .sc (.slr0 0))], [], [(false, true, [r6])]⟩
noncomputable def rb_Ints_r : Sh := ⟨1, [(0, .sc (.slr0 0))], [], [(true, true, [r6])]⟩
noncomputable def rb_Ints_g (K : Nat) (n0 : Nat) (m1 : (Nat → Int)) : Option (Nat × (Nat → Int) × Unit) :=
  (bif (Nat.blt 0 n0) then (bif (Nat.ble ((0 + n0) * 8) 140737488355328) then (some ((0 + n0), (fun j => (m1 j)), ())) else none) else (some (0, (fun _ => 0), ())))
noncomputable def rb_Ints_o (K : Nat) : FO := fnFO rb_Ints_h rb_Ints_r fun t => rb_Ints_g K t.1 t.2.1
theorem rb_Ints_ok (K : Nat) : FOok Tryz.prog 24 (rb_Ints_o K) := fnE Bs [] [] [] trivial trivial 0 Tryz.func24 fun t => by kernel_rfl
/-! r11_within -/
noncomputable def r11_within_l0h : Sh := ⟨22, [(0, .sc (.slr0 0)), (3, .sc (i6))], [(0, [])], [(false, true, [r6])]⟩
noncomputable def r11_within_l0x0 : Sh := ⟨22, [], [(0, [])], []⟩
noncomputable def r11_within_l0x1 : Sh := ⟨22, [(2, .sc (.b))], [(0, [])], []⟩
noncomputable def r11_within_l0r (K : Nat) (rec : Nat → Int → (Nat → Int) → Option ((Unit) ⊕ (Bool × Unit))) (n0 : Nat) (a1 : Int) (m2 : (Nat → Int)) : Option ((Unit) ⊕ (Bool × Unit)) :=
  (bif (decide (a1 < ((n0 : Nat) : Int))) then (bif ((decide (0 ≤ a1)) && (decide (a1 < ((n0 : Nat) : Int)))) then (bif (decide ((m2 (Int.toNat a1)) < (-2147483648))) then (some (.inr (false, ()))) else (bif ((decide (0 ≤ a1)) && (decide (a1 < ((n0 : Nat) : Int)))) then (bif (decide ((m2 (Int.toNat a1)) > 2147483648)) then (some (.inr (false, ()))) else (rec n0 (wi64 (a1 + 1)) m2)) else none)) else none) else (some (.inl (()))))
noncomputable def r11_within_l0 (K n : Nat) := itN (fun _ _ _ => none) (r11_within_l0r K) n
noncomputable def r11_within_l0E (K : Nat) : LoopE Tryz.prog := lpE Bs [] [] [] trivial trivial 0 Tryz.func76 2 [] r11_within_l0h (OutI.or (OutI.exit 0 r11_within_l0x0) (OutI.ret r11_within_l0x1)) (fun n t => r11_within_l0 K n t.1 t.2.1 t.2.2.1) (fun _ => rfl) (fun n t => by kernel_rfl) K
noncomputable def r11_within_h : Sh := ⟨1, [(0, .sc (.slr0 0))], [], [(false, true, [r6])]⟩
noncomputable def r11_within_r : Sh := ⟨1, [(0, .sc (.b))], [], []⟩
noncomputable def r11_within_g (K : Nat) (n0 : Nat) (m1 : (Nat → Int)) : Option (Bool × Unit) :=
  ((r11_within_l0 K K n0 0 m1).bind fun q1 => (Sum.elim (fun q2 => (some (true, ()))) (fun q3 => (some (q3.1, ()))) q1))
noncomputable def r11_within_o (K : Nat) : FO := fnFO r11_within_h r11_within_r fun t => r11_within_g K t.1 t.2.1
theorem r11_within_ok (K : Nat) : FOok Tryz.prog 76 (r11_within_o K) := fnE Bs [] [] [r11_within_l0E K] trivial trivial 0 Tryz.func76 fun t => by kernel_rfl
/-! r11_rising -/
noncomputable def r11_rising_l0h : Sh := ⟨20, [(0, .sc (.slr0 0)), (3, .sc (i6))], [(0, [])], [(false, true, [r6])]⟩
noncomputable def r11_rising_l0x0 : Sh := ⟨20, [], [(0, [])], []⟩
noncomputable def r11_rising_l0x1 : Sh := ⟨20, [(2, .sc (.b))], [(0, [])], []⟩
noncomputable def r11_rising_l0r (K : Nat) (rec : Nat → Int → (Nat → Int) → Option ((Unit) ⊕ (Bool × Unit))) (n0 : Nat) (a1 : Int) (m2 : (Nat → Int)) : Option ((Unit) ⊕ (Bool × Unit)) :=
  (bif (decide (a1 < ((n0 : Nat) : Int))) then (bif ((decide (0 ≤ a1)) && (decide (a1 < ((n0 : Nat) : Int)))) then (bif ((decide (0 ≤ (wi64 (a1 - 1)))) && (decide ((wi64 (a1 - 1)) < ((n0 : Nat) : Int)))) then (bif (decide ((m2 (Int.toNat a1)) ≤ (m2 (Int.toNat (wi64 (a1 - 1)))))) then (some (.inr (false, ()))) else (rec n0 (wi64 (a1 + 1)) m2)) else none) else none) else (some (.inl (()))))
noncomputable def r11_rising_l0 (K n : Nat) := itN (fun _ _ _ => none) (r11_rising_l0r K) n
noncomputable def r11_rising_l0E (K : Nat) : LoopE Tryz.prog := lpE Bs [] [] [] trivial trivial 0 Tryz.func77 2 [] r11_rising_l0h (OutI.or (OutI.exit 0 r11_rising_l0x0) (OutI.ret r11_rising_l0x1)) (fun n t => r11_rising_l0 K n t.1 t.2.1 t.2.2.1) (fun _ => rfl) (fun n t => by kernel_rfl) K
noncomputable def r11_rising_h : Sh := ⟨1, [(0, .sc (.slr0 0))], [], [(false, true, [r6])]⟩
noncomputable def r11_rising_r : Sh := ⟨1, [(0, .sc (.b))], [], []⟩
noncomputable def r11_rising_g (K : Nat) (n0 : Nat) (m1 : (Nat → Int)) : Option (Bool × Unit) :=
  ((r11_rising_l0 K K n0 1 m1).bind fun q1 => (Sum.elim (fun q2 => (some (true, ()))) (fun q3 => (some (q3.1, ()))) q1))
noncomputable def r11_rising_o (K : Nat) : FO := fnFO r11_rising_h r11_rising_r fun t => r11_rising_g K t.1 t.2.1
theorem r11_rising_ok (K : Nat) : FOok Tryz.prog 77 (r11_rising_o K) := fnE Bs [] [] [r11_rising_l0E K] trivial trivial 0 Tryz.func77 fun t => by kernel_rfl
/-! r11_Check -/
noncomputable def r11_Check_n (K : Nat) : List (FuncId × FO) := [(76, r11_within_o K), (77, r11_rising_o K)]
theorem r11_Check_k (K : Nat) : fnsOk Tryz.prog (r11_Check_n K) := ⟨r11_within_ok K, r11_rising_ok K, trivial⟩
noncomputable def r11_Check_h : Sh := ⟨1, [(0, .ag [.slr0 0, .slr0 1, .slr0 2])], [], [(false, true, [r6]), (false, true, [r6]), (false, true, [r6])]⟩
noncomputable def r11_Check_r : Sh := ⟨1, [(0, .sc (i6))], [], []⟩
noncomputable def r11_Check_g (K : Nat) (n0 n1 n2 : Nat) (m3 m4 m5 : (Nat → Int)) : Option (Int × Unit) :=
  (bif (decide (((n0 : Nat) : Int) < 2)) then (some (110, ())) else (bif (decide (((n0 : Nat) : Int) > 256)) then (some (110, ())) else (bif (decide (((n1 : Nat) : Int) < 1)) then (some (110, ())) else (bif (decide (((n1 : Nat) : Int) > 256)) then (some (110, ())) else (bif (decide ((wi64 (((n0 : Nat) : Int) * ((n1 : Nat) : Int))) > 4096)) then (some (110, ())) else (bif (((n2 : Nat) : Int) != (wi64 (((n0 : Nat) : Int) * ((n1 : Nat) : Int)))) then (some (110, ())) else ((r11_within_g K n0 m3).bind fun q1 => (bif (!q1.1) then (some (110, ())) else ((r11_within_g K n1 m4).bind fun q2 => (bif (!q2.1) then (some (110, ())) else ((r11_within_g K n2 m5).bind fun q3 => (bif (!q3.1) then (some (110, ())) else ((r11_rising_g K n0 m3).bind fun q4 => (bif (!q4.1) then (some (110, ())) else ((r11_rising_g K n1 m4).bind fun q5 => (bif (!q5.1) then (some (110, ())) else (some (0, ()))))))))))))))))))
noncomputable def r11_Check_gu (K : Nat) (t : r11_Check_h.T) : Option (Int × Unit) :=
  r11_Check_g K t.1 t.2.1 t.2.2.1 t.2.2.2.1 t.2.2.2.2.1 t.2.2.2.2.2.1
noncomputable def r11_Check_o (K : Nat) : FO := fnFO r11_Check_h r11_Check_r fun t => r11_Check_gu K t
theorem r11_Check_ok (K : Nat) : FOok Tryz.prog 26 (r11_Check_o K) := fnE Bs (r11_Check_n K) [] [] (r11_Check_k K) trivial 0 Tryz.func26 fun t => by kernel_rfl
/-! w_StateTwice -/
noncomputable def w_StateTwice_n (K : Nat) : List (FuncId × FO) := [(18, w_works_o K), (9, w_light_o K), (24, rb_Ints_o K), (10, state_Step_o K), (25, rb_SameInts_o K), (27, state_Default_o K), (26, r11_Check_o K)]
theorem w_StateTwice_k (K : Nat) : fnsOk Tryz.prog (w_StateTwice_n K) := ⟨w_works_ok K, w_light_ok K, rb_Ints_ok K, state_Step_ok K, rb_SameInts_ok K, state_Default_ok K, r11_Check_ok K, trivial⟩
noncomputable def w_StateTwice_g (K : Nat) (a0 a1 a2 a3 a4 a5 a6 a7 a8 a9 a10 a11 a12 a13 a14 a15 a16 a17 a18 a19 a20 a21 a22 : Int) (n23 n24 n25 : Nat) (a26 a27 a28 a29 a30 a31 : Int) (b32 : Bool) (a33 a34 a35 : Int) (b36 : Bool) (a37 a38 a39 : Int) (b40 : Bool) (a41 a42 a43 : Int) (b44 : Bool) (a45 a46 a47 : Int) (b48 : Bool) (a49 a50 a51 : Int) (b52 : Bool) (a53 a54 a55 a56 a57 a58 a59 a60 a61 a62 a63 a64 a65 a66 a67 a68 a69 a70 a71 a72 a73 a74 a75 a76 a77 a78 a79 a80 a81 a82 a83 : Int) (m84 m85 m86 : (Nat → Int)) : Option Bool :=
  ((w_works_g K).bind fun q1 => (bif (!q1.1) then (some false) else ((w_light_g K a0 a1 a2 a3 a4 a5 a6 a7 a8 a9 a10 a11 a12 a13 a14 a15 a16 a17 a18 a19 a20 a21 a22 n23 n24 n25 a26 a27 a28 a29 a30 a31 b32 a33 a34 a35 b36 a37 a38 a39 b40 a41 a42 a43 b44 a45 a46 a47 b48 a49 a50 a51 b52 a53 a54 a55 a56 m84 m85 m86).bind fun q2 => (bif (!q2.1) then (some true) else ((rb_Ints_g K n23 m84).bind fun q3 => ((rb_Ints_g K n24 m85).bind fun q4 => ((rb_Ints_g K n25 m86).bind fun q5 => ((state_Step_g K a0 a1 a2 a3 a4 a5 a6 a7 a8 a9 a10 a11 a12 a13 a14 a15 a16 a17 a18 a19 a20 a21 a22 n23 n24 n25 a26 a27 a28 a29 a30 a31 b32 a33 a34 a35 b36 a37 a38 a39 b40 a41 a42 a43 b44 a45 a46 a47 b48 a49 a50 a51 b52 a53 a54 a55 a56 a57 a58 a59 a60 a61 a62 a63 a64 a65 a66 a67 a68 a69 a70 a71 a72 a73 a74 a75 a76 a77 a78 a79 a80 a81 a82 a83 m84 m85 m86).bind fun q6 => let q6_1 := q6.2; let q6_2 := q6_1.2; let q6_3 := q6_2.2; let q6_4 := q6_3.2; let q6_5 := q6_4.2; let q6_6 := q6_5.2; let q6_7 := q6_6.2; let q6_8 := q6_7.2; let q6_9 := q6_8.2; let q6_10 := q6_9.2; let q6_11 := q6_10.2; let q6_12 := q6_11.2; let q6_13 := q6_12.2; let q6_14 := q6_13.2; let q6_15 := q6_14.2; let q6_16 := q6_15.2; let q6_17 := q6_16.2; let q6_18 := q6_17.2; let q6_19 := q6_18.2; let q6_20 := q6_19.2; let q6_21 := q6_20.2; let q6_22 := q6_21.2; let q6_23 := q6_22.2; ((state_Step_g K a0 a1 a2 a3 a4 a5 a6 a7 a8 a9 a10 a11 a12 a13 a14 a15 a16 a17 a18 a19 a20 a21 a22 n23 n24 n25 a26 a27 a28 a29 a30 a31 b32 a33 a34 a35 b36 a37 a38 a39 b40 a41 a42 a43 b44 a45 a46 a47 b48 a49 a50 a51 b52 a53 a54 a55 a56 a57 a58 a59 a60 a61 a62 a63 a64 a65 a66 a67 a68 a69 a70 a71 a72 a73 a74 a75 a76 a77 a78 a79 a80 a81 a82 a83 m84 m85 m86).bind fun q7 => let q7_1 := q7.2; let q7_2 := q7_1.2; let q7_3 := q7_2.2; let q7_4 := q7_3.2; let q7_5 := q7_4.2; let q7_6 := q7_5.2; let q7_7 := q7_6.2; let q7_8 := q7_7.2; let q7_9 := q7_8.2; let q7_10 := q7_9.2; let q7_11 := q7_10.2; let q7_12 := q7_11.2; let q7_13 := q7_12.2; let q7_14 := q7_13.2; let q7_15 := q7_14.2; let q7_16 := q7_15.2; let q7_17 := q7_16.2; let q7_18 := q7_17.2; let q7_19 := q7_18.2; let q7_20 := q7_19.2; let q7_21 := q7_20.2; let q7_22 := q7_21.2; let q7_23 := q7_22.2; (bif ((q6.1 == q7.1) && ((q6_1.1 == q7_1.1) && ((q6_2.1 == q7_2.1) && ((q6_3.1 == q7_3.1) && ((q6_4.1 == q7_4.1) && ((q6_5.1 == q7_5.1) && ((q6_6.1 == q7_6.1) && ((q6_7.1 == q7_7.1) && ((q6_8.1 == q7_8.1) && ((q6_9.1 == q7_9.1) && ((q6_10.1 == q7_10.1) && ((q6_11.1 == q7_11.1) && ((q6_12.1 == q7_12.1) && ((q6_13.1 == q7_13.1) && ((q6_14.1 == q7_14.1) && ((q6_15.1 == q7_15.1) && ((q6_16.1 == q7_16.1) && ((q6_17.1 == q7_17.1) && ((q6_18.1 == q7_18.1) && ((q6_19.1 == q7_19.1) && ((q6_20.1 == q7_20.1) && ((q6_21.1 == q7_21.1) && (q6_22.1 == q7_22.1))))))))))))))))))))))) then (bif (q6_23.1 == q7_23.1) then ((rb_SameInts_g K n23 q3.1 m84 q3.2.1).bind fun q8 => (bif q8.1 then ((rb_SameInts_g K n24 q4.1 m85 q4.2.1).bind fun q9 => (bif q9.1 then ((rb_SameInts_g K n25 q5.1 m86 q5.2.1).bind fun q10 => (bif q10.1 then ((state_Default_g K).bind fun q11 => let q11_1 := q11.2; let q11_2 := q11_1.2; let q11_3 := q11_2.2; let q11_4 := q11_3.2; let q11_5 := q11_4.2; let q11_6 := q11_5.2; let q11_7 := q11_6.2; let q11_8 := q11_7.2; let q11_9 := q11_8.2; let q11_10 := q11_9.2; let q11_11 := q11_10.2; let q11_12 := q11_11.2; let q11_13 := q11_12.2; let q11_14 := q11_13.2; let q11_15 := q11_14.2; let q11_16 := q11_15.2; let q11_17 := q11_16.2; let q11_18 := q11_17.2; let q11_19 := q11_18.2; let q11_20 := q11_19.2; let q11_21 := q11_20.2; let q11_22 := q11_21.2; let q11_23 := q11_22.2; let q11_24 := q11_23.2; let q11_25 := q11_24.2; let q11_26 := q11_25.2; let q11_27 := q11_26.2; let q11_28 := q11_27.2; let q11_29 := q11_28.2; let q11_30 := q11_29.2; let q11_31 := q11_30.2; let q11_32 := q11_31.2; let q11_33 := q11_32.2; let q11_34 := q11_33.2; let q11_35 := q11_34.2; let q11_36 := q11_35.2; let q11_37 := q11_36.2; let q11_38 := q11_37.2; let q11_39 := q11_38.2; let q11_40 := q11_39.2; let q11_41 := q11_40.2; let q11_42 := q11_41.2; let q11_43 := q11_42.2; let q11_44 := q11_43.2; let q11_45 := q11_44.2; let q11_46 := q11_45.2; let q11_47 := q11_46.2; let q11_48 := q11_47.2; let q11_49 := q11_48.2; let q11_50 := q11_49.2; let q11_51 := q11_50.2; let q11_52 := q11_51.2; let q11_53 := q11_52.2; let q11_54 := q11_53.2; let q11_55 := q11_54.2; let q11_56 := q11_55.2; let q11_57 := q11_56.2; let q11_58 := q11_57.2; let q11_59 := q11_58.2; let q11_60 := q11_59.2; let q11_61 := q11_60.2; let q11_62 := q11_61.2; let q11_63 := q11_62.2; let q11_64 := q11_63.2; let q11_65 := q11_64.2; let q11_66 := q11_65.2; let q11_67 := q11_66.2; let q11_68 := q11_67.2; let q11_69 := q11_68.2; let q11_70 := q11_69.2; ((r11_Check_g K q11_24.1 q11_26.1 q11_28.1 (fun j => (selI [q11_60.1, q11_61.1, q11_62.1] (j + q11_23.1))) (fun j => (selI [q11_63.1, q11_64.1] (j + q11_25.1))) (fun j => (selI [q11_65.1, q11_66.1, q11_67.1, q11_68.1, q11_69.1, q11_70.1] (j + q11_27.1)))).bind fun q12 => (some (q12.1 == 0)))) else (some false))) else (some false))) else (some false))) else (some false)) else (some false)))))))))))
noncomputable def w_StateTwice_ps : List (Bool × List WC) := [(true, [.sc (.i .i64), .sc (.i .i64), .sc (.i .i64), .sc (.i .i64), .sc (.i .i64), .sc (.i .i64), .sc (.i .i64), .sc (.i .i64), .sc (.i .i64), .sc (.i .i64), .sc (.i .i64), .sc (.i .i64), .sc (.i .i64), .sc (.i .i64), .sc (.i .i64), .sc (.i .i64), .sc (.i .i64), .sc (.i .i64), .sc (.i .i64), .sc (.i .i64), .sc (.i .i64), .sc (.i .i64), .sc (.i .i64), .slc [.i .i64], .slc [.i .i64], .slc [.i .i64], .sc (.i .i64), .sc (.i .i64), .sc (.i .i64), .sc (.i .i64), .sc (.i .i64), .sc (.i .i64), .sc .b, .sc (.i .i64), .sc (.i .i64), .sc (.i .i64), .sc .b, .sc (.i .i64), .sc (.i .i64), .sc (.i .i64), .sc .b, .sc (.i .i64), .sc (.i .i64), .sc (.i .i64), .sc .b, .sc (.i .i64), .sc (.i .i64), .sc (.i .i64), .sc .b, .sc (.i .i64), .sc (.i .i64), .sc (.i .i64), .sc .b, .sc (.i .i64), .sc (.i .i64), .sc (.i .i64), .sc (.i .i64)]), (true, [.sc (.i .i64), .sc (.i .i64), .sc (.i .i64), .sc (.i .i64), .sc (.i .i64), .sc (.i .i64), .sc (.i .i64), .sc (.i .i64), .sc (.i .i64), .sc (.i .i64), .sc (.i .i64), .sc (.i .i64), .sc (.i .i64), .sc (.i .i64), .sc (.i .i64), .sc (.i .i64), .sc (.i .i64), .sc (.i .i64), .sc (.i .i64), .sc (.i .i64), .sc (.i .i64), .sc (.i .i64), .sc (.i .i64)]), (true, [.sc (.i .i64), .sc (.i .i64), .sc (.i .i64), .sc (.i .i64)])]
noncomputable def w_StateTwice_gu (K : Nat) (t : (shOf w_StateTwice_ps).T) : Option Bool :=
  let u1 := t.2
  let u2 := u1.2
  let u3 := u2.2
  let u4 := u3.2
  let u5 := u4.2
  let u6 := u5.2
  let u7 := u6.2
  let u8 := u7.2
  let u9 := u8.2
  let u10 := u9.2
  let u11 := u10.2
  let u12 := u11.2
  let u13 := u12.2
  let u14 := u13.2
  let u15 := u14.2
  let u16 := u15.2
  let u17 := u16.2
  let u18 := u17.2
  let u19 := u18.2
  let u20 := u19.2
  let u21 := u20.2
  let u22 := u21.2
  let u23 := u22.2
  let u24 := u23.2
  let u25 := u24.2
  let u26 := u25.2
  let u27 := u26.2
  let u28 := u27.2
  let u29 := u28.2
  let u30 := u29.2
  let u31 := u30.2
  let u32 := u31.2
  let u33 := u32.2
  let u34 := u33.2
  let u35 := u34.2
  let u36 := u35.2
  let u37 := u36.2
  let u38 := u37.2
  let u39 := u38.2
  let u40 := u39.2
  let u41 := u40.2
  let u42 := u41.2
  let u43 := u42.2
  let u44 := u43.2
  let u45 := u44.2
  let u46 := u45.2
  let u47 := u46.2
  let u48 := u47.2
  let u49 := u48.2
  let u50 := u49.2
  let u51 := u50.2
  let u52 := u51.2
  let u53 := u52.2
  let u54 := u53.2
  let u55 := u54.2
  let u56 := u55.2
  let u57 := u56.2
  let u58 := u57.2
  let u59 := u58.2
  let u60 := u59.2
  let u61 := u60.2
  let u62 := u61.2
  let u63 := u62.2
  let u64 := u63.2
  let u65 := u64.2
  let u66 := u65.2
  let u67 := u66.2
  let u68 := u67.2
  let u69 := u68.2
  let u70 := u69.2
  let u71 := u70.2
  let u72 := u71.2
  let u73 := u72.2
  let u74 := u73.2
  let u75 := u74.2
  let u76 := u75.2
  let u77 := u76.2
  let u78 := u77.2
  let u79 := u78.2
  let u80 := u79.2
  let u81 := u80.2
  let u82 := u81.2
  let u83 := u82.2
  let u84 := u83.2
  let u85 := u84.2
  let u86 := u85.2
  w_StateTwice_g K t.1 u1.1 u2.1 u3.1 u4.1 u5.1 u6.1 u7.1 u8.1 u9.1 u10.1 u11.1 u12.1 u13.1 u14.1 u15.1 u16.1 u17.1 u18.1 u19.1 u20.1 u21.1 u22.1 u23.1 u24.1 u25.1 u26.1 u27.1 u28.1 u29.1 u30.1 u31.1 u32.1 u33.1 u34.1 u35.1 u36.1 u37.1 u38.1 u39.1 u40.1 u41.1 u42.1 u43.1 u44.1 u45.1 u46.1 u47.1 u48.1 u49.1 u50.1 u51.1 u52.1 u53.1 u54.1 u55.1 u56.1 u57.1 u58.1 u59.1 u60.1 u61.1 u62.1 u63.1 u64.1 u65.1 u66.1 u67.1 u68.1 u69.1 u70.1 u71.1 u72.1 u73.1 u74.1 u75.1 u76.1 u77.1 u78.1 u79.1 u80.1 u81.1 u82.1 u83.1 u84.1 u85.1 u86.1
theorem w_StateTwice_q (K : Nat) (t : (shOf w_StateTwice_ps).T) : exFn (mkE Bs (w_StateTwice_n K) [] []) (hdl (mkE Bs (w_StateTwice_n K) [] []) 0) [8] Tryz.f8 (slVals ((shOf w_StateTwice_ps).put t).fr.sl) ⟨⟨0, []⟩, [], ((shOf w_StateTwice_ps).put t).mem⟩ outBool = w_StateTwice_gu K t := by kernel_rfl
theorem w_StateTwice_call (K : Nat) (hF : ∀ t, argsBnd w_StateTwice_ps t → w_StateTwice_gu K t = some true) {w : World} {vals : List Value} (hp : PFits w w_StateTwice_ps vals) :
    Calls Tryz.prog 8 vals.toArray w fun e w' => e = .returned (.bool true) ∧ RowKit.Below w.heap.size w w' :=
  lawE Bs (w_StateTwice_n K) [] [] (w_StateTwice_k K) trivial 0 Tryz.func8 (w_StateTwice_q K) hF hp
theorem w_StateTwice_callU (M K : Nat) (hF : ∀ t, argsBnd w_StateTwice_ps t → argsLen M w_StateTwice_ps t → w_StateTwice_gu K t = some true) {w : World} {vals : List Value} (hp : PFits w w_StateTwice_ps vals) (hl : LenVs M w_StateTwice_ps vals) :
    Calls Tryz.prog 8 vals.toArray w fun e w' => e = .returned (.bool true) ∧ RowKit.Below w.heap.size w w' :=
  lawU M Bs (w_StateTwice_n K) [] [] (w_StateTwice_k K) trivial 0 Tryz.func8 (w_StateTwice_q K) hF hp hl
end Go.Proofs.YtjmbhhinmbgneaaGreat
