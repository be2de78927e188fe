/-
  The functions of law 21, as plain functions, and that the program does what they say. Printed by a program of ours.
-/
import Derived.Test.YtjmbhhinmbgneaaGreatsH
namespace Go.Proofs.YtjmbhhinmbgneaaGreat
open Go.Sy
set_option maxRecDepth 100000
set_option linter.unusedVariables false
noncomputable def w_StatePlays_l0r (K : Nat) (rec : Nat → Int → (Nat → Int) → (Nat → Int) → (Nat → Int) → (Nat → Int) → J16 (J4 (Int → Int → Int → Nat → Nat → Nat → J4 (Int → Int → Bool → Int → Int → Int → Bool → Int → Int → Int → Bool → Int → Int → Int → Bool → Int → Int → Int → Bool → Int → Int → Int → Bool → J16 (J16 (J16 (Int → Int → (Nat → Int) → (Nat → Int) → (Nat → Int) → Option ((Unit) ⊕ (Bool × Unit))))))))) (n0 : Nat) (a1 : Int) (m2 m3 m4 m5 : (Nat → Int)) (a6 a7 a8 a9 a10 a11 a12 a13 a14 a15 a16 a17 a18 a19 a20 a21 a22 a23 a24 a25 a26 a27 a28 : Int) (n29 n30 n31 : Nat) (a32 a33 a34 a35 a36 a37 : Int) (b38 : Bool) (a39 a40 a41 : Int) (b42 : Bool) (a43 a44 a45 : Int) (b46 : Bool) (a47 a48 a49 : Int) (b50 : Bool) (a51 a52 a53 : Int) (b54 : Bool) (a55 a56 a57 : Int) (b58 : Bool) (a59 a60 a61 a62 a63 a64 a65 a66 a67 a68 a69 a70 a71 a72 a73 a74 a75 a76 a77 a78 a79 a80 a81 a82 a83 a84 a85 a86 a87 a88 a89 a90 a91 a92 a93 a94 a95 a96 a97 a98 a99 a100 a101 a102 a103 a104 a105 a106 a107 a108 : Int) (m109 m110 m111 : (Nat → Int)) : Option ((Unit) ⊕ (Bool × Unit)) :=
  (bif (decide (a1 < ((n0 : Nat) : Int))) then (bif (decide (a1 < 60)) then (bif ((decide (0 ≤ a1)) && (decide (a1 < ((n0 : Nat) : Int)))) then ((state_Step_g K a6 a7 a8 a9 a10 a11 a12 a13 a14 a15 a16 a17 a18 a19 a20 a21 a22 a23 a24 a25 a26 a27 a28 n29 n30 n31 a32 a33 a34 a35 a36 a37 b38 a39 a40 a41 b42 a43 a44 a45 b46 a47 a48 a49 b50 a51 a52 a53 b54 a55 a56 a57 b58 a59 a60 a61 a62 a63 a64 a65 a66 a67 a68 a69 a70 a71 a72 a73 a74 a75 a76 a77 a78 a79 a80 a81 a82 a83 a84 a85 (m2 (Int.toNat a1)) (m3 (Int.toNat a1)) (m4 (Int.toNat a1)) (m5 (Int.toNat a1)) m109 m110 m111).bind fun q1 => let Aa := q1.2; let Ab := Aa.2; let Ac := Ab.2; let Ad := Ac.2; let Ae := Ad.2; let Af := Ae.2; let Ag := Af.2; let Ah := Ag.2; let Ai := Ah.2; let Aj := Ai.2; let Ak := Aj.2; let Al := Ak.2; let Am := Al.2; let An := Am.2; let Ao := An.2; let Ap := Ao.2; let Aq := Ap.2; let Ar := Aq.2; let As := Ar.2; let At := As.2; let Au := At.2; let Av := Au.2; let Aw := Av.2; (bif ((decide (0 ≤ a1)) && (decide (a1 < ((n0 : Nat) : Int)))) then ((r21_Step_g K a6 a7 a8 a9 a10 a11 a12 a13 a14 a15 a16 a17 a18 a19 a20 a21 a22 a23 a24 a25 a26 a27 a28 n29 n30 n31 a32 a33 a34 a35 a36 a37 b38 a39 a40 a41 b42 a43 a44 a45 b46 a47 a48 a49 b50 a51 a52 a53 b54 a55 a56 a57 b58 a59 a60 a61 a62 a86 a87 a88 a89 a90 a91 a92 a93 a94 a95 a96 a97 a98 a99 a100 a101 a102 a103 a104 a105 a106 a107 a108 (m2 (Int.toNat a1)) (m3 (Int.toNat a1)) (m4 (Int.toNat a1)) (m5 (Int.toNat a1)) m109 m110 m111).bind fun q2 => let Ax := q2.2; let Ay := Ax.2; let Az := Ay.2; let A0 := Az.2; let A1 := A0.2; let A2 := A1.2; let A3 := A2.2; let A4 := A3.2; let A5 := A4.2; let A6 := A5.2; let A7 := A6.2; let A8 := A7.2; let A9 := A8.2; let Ba := A9.2; let Bb := Ba.2; let Bc := Bb.2; let Bd := Bc.2; let Be := Bd.2; let Bf := Be.2; let Bg := Bf.2; let Bh := Bg.2; let Bi := Bh.2; let Bj := Bi.2; (bif (!((q1.1 == q2.1) && ((Aa.1 == Ax.1) && ((Ab.1 == Ay.1) && ((Ac.1 == Az.1) && ((Ad.1 == A0.1) && ((Ae.1 == A1.1) && ((Af.1 == A2.1) && ((Ag.1 == A3.1) && ((Ah.1 == A4.1) && ((Ai.1 == A5.1) && ((Aj.1 == A6.1) && ((Ak.1 == A7.1) && ((Al.1 == A8.1) && ((Am.1 == A9.1) && ((An.1 == Ba.1) && ((Ao.1 == Bb.1) && ((Ap.1 == Bc.1) && ((Aq.1 == Bd.1) && ((Ar.1 == Be.1) && ((As.1 == Bf.1) && ((At.1 == Bg.1) && ((Au.1 == Bh.1) && (Av.1 == Bi.1)))))))))))))))))))))))) then (some (.inr (false, ()))) else (bif (Aw.1 != Bj.1) then (some (.inr (false, ()))) else (rec n0 (wi64 (a1 + 1)) m2 m3 m4 m5 a6 a7 a8 a9 a10 a11 a12 a13 a14 a15 a16 a17 a18 a19 a20 a21 a22 a23 a24 a25 a26 a27 a28 n29 n30 n31 a32 a33 a34 a35 a36 a37 b38 a39 a40 a41 b42 a43 a44 a45 b46 a47 a48 a49 b50 a51 a52 a53 b54 a55 a56 a57 b58 a59 a60 a61 a62 q1.1 Aa.1 Ab.1 Ac.1 Ad.1 Ae.1 Af.1 Ag.1 Ah.1 Ai.1 Aj.1 Ak.1 Al.1 Am.1 An.1 Ao.1 Ap.1 Aq.1 Ar.1 As.1 At.1 Au.1 Av.1 q2.1 Ax.1 Ay.1 Az.1 A0.1 A1.1 A2.1 A3.1 A4.1 A5.1 A6.1 A7.1 A8.1 A9.1 Ba.1 Bb.1 Bc.1 Bd.1 Be.1 Bf.1 Bg.1 Bh.1 Bi.1 m109 m110 m111)))) else none)) else none) else (some (.inl (())))) else (some (.inl (()))))
noncomputable def w_StatePlays_l0 (K n : Nat) := itN (fun _ _ _ _ _ _ _ _ _ _ _ _ _ _ _ _ _ _ _ _ _ _ _ _ _ _ _ _ _ _ _ _ _ _ _ _ _ _ _ _ _ _ _ _ _ _ _ _ _ _ _ _ _ _ _ _ _ _ _ _ _ _ _ _ _ _ _ _ _ _ _ _ _ _ _ _ _ _ _ _ _ _ _ _ _ _ _ _ _ _ _ _ _ _ _ _ _ _ _ _ _ _ _ _ _ _ _ _ _ _ _ _ => none) (w_StatePlays_l0r K) n
noncomputable def w_StatePlays_l0E (K : Nat) : LoopE Tryz.prog := lpC Bs [w_works K, w_light K, state_New K, r21_New K, state_Step K, r21_Step K] [] [] trivial 0 Tryz.func4 10 [] ⟨84, [(1, .sc (.slr0 0)), (2, .sc (.lit (.p 1 0 0 []))), (5, .sc (.lit (.p 2 0 0 []))), (7, .sc (.lit (.p 3 0 0 []))), (9, .sc (i6))], [(0, [])], [(false, true, [r6, r6, r6, r6]), (true, false, (List.append [i6, i6, i6, i6, i6, i6, i6, i6, i6, i6, i6, i6, i6, i6, i6, i6, i6, i6, i6, i6, i6, i6, i6, .slr0 4, .slr0 5, .slr0 6, i6, i6, i6, i6, i6] [i6, .b, i6, i6, i6, .b, i6, i6, i6, .b, i6, i6, i6, .b, i6, i6, i6, .b, i6, i6, i6, .b, i6, i6, i6, i6])), (true, false, [i6, i6, i6, i6, i6, i6, i6, i6, i6, i6, i6, i6, i6, i6, i6, i6, i6, i6, i6, i6, i6, i6, i6]), (true, false, [i6, i6, i6, i6, i6, i6, i6, i6, i6, i6, i6, i6, i6, i6, i6, i6, i6, i6, i6, i6, i6, i6, i6]), (false, true, [r6]), (false, true, [r6]), (false, true, [r6])]⟩ (OutI.or (OutI.exit 0 ⟨84, [], [(0, [])], []⟩) (OutI.ret ⟨84, [(4, .sc (.b))], [(0, [])], []⟩)) (fun n => fun t => (ap4 (ap4 (ap4 (ap4 (ap4 (ap4 (ap4 (ap4 (ap4 (ap4 (ap4 (ap4 (ap4 (ap4 (ap4 (ap4 (ap4 (ap4 (ap4 (ap4 (ap4 (ap4 (ap4 (ap4 (ap4 (ap4 (ap4 (ap4 (w_StatePlays_l0 K n, t))))))))))))))))))))))))))))).1) (fun _ => rfl) (fun n t => by kernel_rfl) K
noncomputable def w_StatePlays_g (K : Nat) (a0 a1 a2 a3 a4 a5 a6 a7 a8 a9 a10 a11 a12 a13 a14 a15 a16 a17 a18 a19 a20 a21 a22 : Int) (n23 n24 n25 : Nat) (a26 a27 a28 a29 a30 a31 : Int) (b32 : Bool) (a33 a34 a35 : Int) (b36 : Bool) (a37 a38 a39 : Int) (b40 : Bool) (a41 a42 a43 : Int) (b44 : Bool) (a45 a46 a47 : Int) (b48 : Bool) (a49 a50 a51 : Int) (b52 : Bool) (a53 a54 a55 a56 : Int) (n57 : Nat) (m58 m59 m60 m61 m62 m63 m64 : (Nat → Int)) : Option Bool :=
  ((w_works_g K).bind fun q1 => (bif (!q1.1) then (some false) else ((w_light_g K a0 a1 a2 a3 a4 a5 a6 a7 a8 a9 a10 a11 a12 a13 a14 a15 a16 a17 a18 a19 a20 a21 a22 n23 n24 n25 a26 a27 a28 a29 a30 a31 b32 a33 a34 a35 b36 a37 a38 a39 b40 a41 a42 a43 b44 a45 a46 a47 b48 a49 a50 a51 b52 a53 a54 a55 a56 m58 m59 m60).bind fun q2 => (bif (!q2.1) then (some true) else ((state_New_g K a0 a1 a2 a3 a4 a5 a6 a7 a8 a9 a10 a11 a12 a13 a14 a15 a16 a17 a18 a19 a20 a21 a22 n23 n24 n25 a26 a27 a28 a29 a30 a31 b32 a33 a34 a35 b36 a37 a38 a39 b40 a41 a42 a43 b44 a45 a46 a47 b48 a49 a50 a51 b52 a53 a54 a55 a56 m58 m59 m60).bind fun q3 => let Aa := q3.2; let Ab := Aa.2; let Ac := Ab.2; let Ad := Ac.2; let Ae := Ad.2; let Af := Ae.2; let Ag := Af.2; let Ah := Ag.2; let Ai := Ah.2; let Aj := Ai.2; let Ak := Aj.2; let Al := Ak.2; let Am := Al.2; let An := Am.2; let Ao := An.2; let Ap := Ao.2; let Aq := Ap.2; let Ar := Aq.2; let As := Ar.2; let At := As.2; let Au := At.2; let Av := Au.2; let Aw := Av.2; ((r21_New_g K a0 a1 a2 a3 a4 a5 a6 a7 a8 a9 a10 a11 a12 a13 a14 a15 a16 a17 a18 a19 a20 a21 a22 n23 n24 n25 a26 a27 a28 a29 a30 a31 b32 a33 a34 a35 b36 a37 a38 a39 b40 a41 a42 a43 b44 a45 a46 a47 b48 a49 a50 a51 b52 a53 a54 a55 a56 m58 m59 m60).bind fun q4 => let Ax := q4.2; let Ay := Ax.2; let Az := Ay.2; let A0 := Az.2; let A1 := A0.2; let A2 := A1.2; let A3 := A2.2; let A4 := A3.2; let A5 := A4.2; let A6 := A5.2; let A7 := A6.2; let A8 := A7.2; let A9 := A8.2; let Ba := A9.2; let Bb := Ba.2; let Bc := Bb.2; let Bd := Bc.2; let Be := Bd.2; let Bf := Be.2; let Bg := Bf.2; let Bh := Bg.2; let Bi := Bh.2; let Bj := Bi.2; (bif (Aw.1 != Bj.1) then (bif (Aw.1 == Bj.1) then (some ((q3.1 == q4.1) && ((Aa.1 == Ax.1) && ((Ab.1 == Ay.1) && ((Ac.1 == Az.1) && ((Ad.1 == A0.1) && ((Ae.1 == A1.1) && ((Af.1 == A2.1) && ((Ag.1 == A3.1) && ((Ah.1 == A4.1) && ((Ai.1 == A5.1) && ((Aj.1 == A6.1) && ((Ak.1 == A7.1) && ((Al.1 == A8.1) && ((Am.1 == A9.1) && ((An.1 == Ba.1) && ((Ao.1 == Bb.1) && ((Ap.1 == Bc.1) && ((Aq.1 == Bd.1) && ((Ar.1 == Be.1) && ((As.1 == Bf.1) && ((At.1 == Bg.1) && ((Au.1 == Bh.1) && (Av.1 == Bi.1)))))))))))))))))))))))) else (some false)) else (bif (Bj.1 != 0) then (bif (Aw.1 == Bj.1) then (some ((q3.1 == q4.1) && ((Aa.1 == Ax.1) && ((Ab.1 == Ay.1) && ((Ac.1 == Az.1) && ((Ad.1 == A0.1) && ((Ae.1 == A1.1) && ((Af.1 == A2.1) && ((Ag.1 == A3.1) && ((Ah.1 == A4.1) && ((Ai.1 == A5.1) && ((Aj.1 == A6.1) && ((Ak.1 == A7.1) && ((Al.1 == A8.1) && ((Am.1 == A9.1) && ((An.1 == Ba.1) && ((Ao.1 == Bb.1) && ((Ap.1 == Bc.1) && ((Aq.1 == Bd.1) && ((Ar.1 == Be.1) && ((As.1 == Bf.1) && ((At.1 == Bg.1) && ((Au.1 == Bh.1) && (Av.1 == Bi.1)))))))))))))))))))))))) else (some false)) else ((w_StatePlays_l0 K K n57 0 m61 m62 m63 m64 a0 a1 a2 a3 a4 a5 a6 a7 a8 a9 a10 a11 a12 a13 a14 a15 a16 a17 a18 a19 a20 a21 a22 n23 n24 n25 a26 a27 a28 a29 a30 a31 b32 a33 a34 a35 b36 a37 a38 a39 b40 a41 a42 a43 b44 a45 a46 a47 b48 a49 a50 a51 b52 a53 a54 a55 a56 q3.1 Aa.1 Ab.1 Ac.1 Ad.1 Ae.1 Af.1 Ag.1 Ah.1 Ai.1 Aj.1 Ak.1 Al.1 Am.1 An.1 Ao.1 Ap.1 Aq.1 Ar.1 As.1 At.1 Au.1 Av.1 q4.1 Ax.1 Ay.1 Az.1 A0.1 A1.1 A2.1 A3.1 A4.1 A5.1 A6.1 A7.1 A8.1 A9.1 Ba.1 Bb.1 Bc.1 Bd.1 Be.1 Bf.1 Bg.1 Bh.1 Bi.1 m58 m59 m60).bind fun q5 => (Sum.elim (fun q6 => (some true)) (fun q7 => (some q7.1)) q5))))))))))
noncomputable def w_StatePlays_ps : List (Bool × List WC) := [(true, [.sc (.i .i64), .sc (.i .i64), .sc (.i .i64), .sc (.i .i64), .sc (.i .i64), .sc (.i .i64), .sc (.i .i64), .sc (.i .i64), .sc (.i .i64), .sc (.i .i64), .sc (.i .i64), .sc (.i .i64), .sc (.i .i64), .sc (.i .i64), .sc (.i .i64), .sc (.i .i64), .sc (.i .i64), .sc (.i .i64), .sc (.i .i64), .sc (.i .i64), .sc (.i .i64), .sc (.i .i64), .sc (.i .i64), .slc [.i .i64], .slc [.i .i64], .slc [.i .i64], .sc (.i .i64), .sc (.i .i64), .sc (.i .i64), .sc (.i .i64), .sc (.i .i64), .sc (.i .i64), .sc .b, .sc (.i .i64), .sc (.i .i64), .sc (.i .i64), .sc .b, .sc (.i .i64), .sc (.i .i64), .sc (.i .i64), .sc .b, .sc (.i .i64), .sc (.i .i64), .sc (.i .i64), .sc .b, .sc (.i .i64), .sc (.i .i64), .sc (.i .i64), .sc .b, .sc (.i .i64), .sc (.i .i64), .sc (.i .i64), .sc .b, .sc (.i .i64), .sc (.i .i64), .sc (.i .i64), .sc (.i .i64)]), (false, [.slc [.i .i64, .i .i64, .i .i64, .i .i64]])]
noncomputable def w_StatePlays_gu (K : Nat) (t : (shOf w_StatePlays_ps).T) : Option Bool :=
  let u1 := t.2
  let u2 := u1.2
  let u3 := u2.2
  let u4 := u3.2
  let u5 := u4.2
  let u6 := u5.2
  let u7 := u6.2
  let u8 := u7.2
  let u9 := u8.2
  let u10 := u9.2
  let u11 := u10.2
  let u12 := u11.2
  let u13 := u12.2
  let u14 := u13.2
  let u15 := u14.2
  let u16 := u15.2
  let u17 := u16.2
  let u18 := u17.2
  let u19 := u18.2
  let u20 := u19.2
  let u21 := u20.2
  let u22 := u21.2
  let u23 := u22.2
  let u24 := u23.2
  let u25 := u24.2
  let u26 := u25.2
  let u27 := u26.2
  let u28 := u27.2
  let u29 := u28.2
  let u30 := u29.2
  let u31 := u30.2
  let u32 := u31.2
  let u33 := u32.2
  let u34 := u33.2
  let u35 := u34.2
  let u36 := u35.2
  let u37 := u36.2
  let u38 := u37.2
  let u39 := u38.2
  let u40 := u39.2
  let u41 := u40.2
  let u42 := u41.2
  let u43 := u42.2
  let u44 := u43.2
  let u45 := u44.2
  let u46 := u45.2
  let u47 := u46.2
  let u48 := u47.2
  let u49 := u48.2
  let u50 := u49.2
  let u51 := u50.2
  let u52 := u51.2
  let u53 := u52.2
  let u54 := u53.2
  let u55 := u54.2
  let u56 := u55.2
  let u57 := u56.2
  let u58 := u57.2
  let u59 := u58.2
  let u60 := u59.2
  let u61 := u60.2
  let u62 := u61.2
  let u63 := u62.2
  let u64 := u63.2
  w_StatePlays_g K t.1 u1.1 u2.1 u3.1 u4.1 u5.1 u6.1 u7.1 u8.1 u9.1 u10.1 u11.1 u12.1 u13.1 u14.1 u15.1 u16.1 u17.1 u18.1 u19.1 u20.1 u21.1 u22.1 u23.1 u24.1 u25.1 u26.1 u27.1 u28.1 u29.1 u30.1 u31.1 u32.1 u33.1 u34.1 u35.1 u36.1 u37.1 u38.1 u39.1 u40.1 u41.1 u42.1 u43.1 u44.1 u45.1 u46.1 u47.1 u48.1 u49.1 u50.1 u51.1 u52.1 u53.1 u54.1 u55.1 u56.1 u57.1 u58.1 u59.1 u60.1 u61.1 u62.1 u63.1 u64.1
theorem w_StatePlays_q (K : Nat) (t : (shOf w_StatePlays_ps).T) : exFn (mkE Bs (fnsC [w_works K, w_light K, state_New K, r21_New K, state_Step K, r21_Step K]) [] [w_StatePlays_l0E K]) (hdl (mkE Bs (fnsC [w_works K, w_light K, state_New K, r21_New K, state_Step K, r21_Step K]) [] [w_StatePlays_l0E K]) 0) [4] Tryz.f4 (slVals ((shOf w_StatePlays_ps).put t).fr.sl) ⟨⟨0, []⟩, [], ((shOf w_StatePlays_ps).put t).mem⟩ outBool = w_StatePlays_gu K t := by kernel_rfl
theorem w_StatePlays_call (K : Nat) (hF : ∀ t, argsBnd w_StatePlays_ps t → w_StatePlays_gu K t = some true) {w : World} {vals : List Value} (hp : PFits w w_StatePlays_ps vals) :
    Calls Tryz.prog 4 vals.toArray w fun e w' => e = .returned (.bool true) ∧ RowKit.Below w.heap.size w w' :=
  lawE Bs (fnsC [w_works K, w_light K, state_New K, r21_New K, state_Step K, r21_Step K]) [] [w_StatePlays_l0E K] (fnsC_ok _) trivial 0 Tryz.func4 (w_StatePlays_q K) hF hp
end Go.Proofs.YtjmbhhinmbgneaaGreat
