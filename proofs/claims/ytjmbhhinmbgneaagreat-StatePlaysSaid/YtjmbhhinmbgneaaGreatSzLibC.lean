/- The evaluator. -/
import Derived.Test.YtjmbhhinmbgneaaGreatSzRow
import Derived.Test.YtjmbhhinmbgneaaGreatSzExt
import Derived.KernelRfl
namespace Go.Sy
def wi64 (x : Int) : Int := IntKind.wrap .i64 x
def wi32 (x : Int) : Int := IntKind.wrap .i32 x
def wi16 (x : Int) : Int := IntKind.wrap .i16 x
def wi8 (x : Int) : Int := IntKind.wrap .i8 x
def wu64 (x : Int) : Int := IntKind.wrap .u64 x
def wu32 (x : Int) : Int := IntKind.wrap .u32 x
def wu16 (x : Int) : Int := IntKind.wrap .u16 x
def wu8 (x : Int) : Int := IntKind.wrap .u8 x
def bodyOf (fn : Func) : Code := fn.body.getD .skip
def allOwn (b : Bool) : List (Bool × Bool × List Cd) → Bool
 | [] => true
 | m :: r => (m.1 == b) && allOwn b r
theorem allOwn_ok (b : Bool) : ∀ {l : List (Bool × Bool × List Cd)}, allOwn b l = true → ∀ m ∈ l, m.1 = b
 | [], _, m, hm => by cases hm
 | x :: r, h, m, hm => by
  simp only [allOwn, Bool.and_eq_true, beq_iff_eq] at h
  rcases List.mem_cons.1 hm with rfl | hm
  ·exact h.1
  ·exact allOwn_ok b h.2 m hm
theorem wi64_def (x : Int) : wi64 x = if x % 18446744073709551616 ≥ 9223372036854775808 then x % 18446744073709551616 - 18446744073709551616 else x % 18446744073709551616 := by
 simp [wi64, IntKind.wrap, IntKind.bits, IntKind.signed]
theorem wu64_def (x : Int) : wu64 x = x % 18446744073709551616 := by
 simp [wu64, IntKind.wrap, IntKind.bits, IntKind.signed]
theorem wi64_id {x : Int} (h : -9223372036854775808 ≤ x) (h' : x < 9223372036854775808) : wi64 x = x := by
 rw [wi64_def]
 split <;> omega
theorem wi64_range (x : Int) : -9223372036854775808 ≤ wi64 x ∧ wi64 x < 9223372036854775808 := by
 rw [wi64_def]
 split <;> omega
theorem wu64_id {x : Int} (h : 0 ≤ x) (h' : x < 18446744073709551616) : wu64 x = x := by
 rw [wu64_def]
 omega
theorem wf_i64 {n : Int} (h : (Lit.int .i64 n).wf = true) : -9223372036854775808 ≤ n ∧ n < 9223372036854775808 := by
 simp only [Lit.wf, Bool.and_eq_true, decide_eq_true_eq] at h
 have e1 : IntKind.min .i64 = -9223372036854775808 := by decide
 have e2 : IntKind.max .i64 = 9223372036854775807 := by decide
 rw [e1, e2] at h
 omega
structure Base (P : Program) where
 T : List TI
 Q : List (Nat × List EK)
 ht : tabB P 0 T = true
 hq : eqsB P Q = true
 hD : ∀ {E : Env}, EnvT P E → DrawOk P E
section short
open Go.RowKit (Below)
variable {P : Program}
def mkE (B : Base P) (fns : List (FuncId × FO)) (inl : List (FuncId × Func)) (es : List (LoopE P)) : Env := ⟨B.T, fns, inl, es.map fun e => (e.key, e.lo), B.Q⟩
theorem loopsOk_map : ∀ es : List (LoopE P), loopsOk P (es.map fun e => (e.key, e.lo)) es
 | [] => trivial
 | _ :: es => ⟨⟨rfl, rfl⟩, loopsOk_map es⟩
theorem mkE_t (B : Base P) {fns : List (FuncId × FO)} (hf : fnsOk P fns) (inl : List (FuncId × Func)) (es : List (LoopE P)) : EnvT P (mkE B fns inl es) := envT_of B.ht B.hq hf
theorem mkE_i (B : Base P) (fns : List (FuncId × FO)) {inl : List (FuncId × Func)} (hi : inlOk P inl) (es : List (LoopE P)) : EnvI P (mkE B fns inl es) := envI_of hi (loopsOk_map es)
def bodyN (fn : Func) (r : Nat) : Code := (findLoops r (loopsIn (bodyOf fn))).headD .skip
def lpE (B : Base P) (fns : List (FuncId × FO)) (inl : List (FuncId × Func)) (es : List (LoopE P)) (hf : fnsOk P fns) (hi : inlOk P inl) (d : Nat) {f : FuncId} {fn : Func} (hfn : P.funcs[f]? = some fn) (r : Nat) (ctx : List Nat)
  (h : Sh) {Out : Type} (O : OutI Out) (F : Nat → h.T → Option Out) (h0 : ∀ t, F 0 t = none)
  (hr : ∀ n t, exC (mkE B fns inl es) (hdl (mkE B fns inl es) d) (f :: ctx) (bodyN fn r) (h.put t) (fun s => (h.take s).bind (F n)) (fun id s => O.get (some id) s) (fun s => O.get none s) = F (n + 1) t) (K : Nat)
  (hc : fn.body = some (bodyOf fn) := by kernel_rfl) (hl : findLoops r (loopsIn (bodyOf fn)) = [bodyN fn r] := by kernel_rfl) : LoopE P :=
 ⟨r :: f :: ctx, loopLO h O (F K), fn, bodyOf fn, bodyN fn r, ⟨r, f, ctx, rfl, hfn, hc, hl⟩,
  loop_rule (mkE_t B hf inl es) (mkE_i B fns hi es) (B.hD (mkE_t B hf inl es)) d hfn hc (body_in hl) h0 hr K⟩
theorem fnE (B : Base P) (fns : List (FuncId × FO)) (inl : List (FuncId × Func)) (es : List (LoopE P)) (hf : fnsOk P fns) (hi : inlOk P inl) (d : Nat) {f : FuncId} {fn : Func} (hfn : P.funcs[f]? = some fn) {h r : Sh} {F : h.T → Option r.T}
  (hb : ∀ t, exFn (mkE B fns inl es) (hdl (mkE B fns inl es) d) [f] fn (slVals (h.put t).fr.sl) ⟨⟨0, []⟩, [], (h.put t).mem⟩ (takeRes r) = F t)
  (h1 : fnB fn = true := by kernel_rfl) (h2 : h.low = [] := by rfl) (h3 : h.sl.map (·.1) = List.range h.n := by rfl) (h4 : allOwn false h.mem = true := by kernel_rfl) (h5 : r.sl.map (·.1) = List.range r.n := by rfl) (h6 : allOwn true r.mem = true := by kernel_rfl) : FOok P f (fnFO h r F) :=
 fn_rule (mkE_t B hf inl es) (mkE_i B fns hi es) (B.hD (mkE_t B hf inl es)) d hfn (fnB_ok hfn h1) h2 h3 (allOwn_ok false h4) h5 (allOwn_ok true h6) hb
theorem lawE (B : Base P) (fns : List (FuncId × FO)) (inl : List (FuncId × Func)) (es : List (LoopE P)) (hf : fnsOk P fns) (hi : inlOk P inl) (d : Nat) {f : FuncId} {fn : Func} (hfn : P.funcs[f]? = some fn) {ps : List (Bool × List WC)} {F : (shOf ps).T → Option Bool}
  (hb : ∀ t, exFn (mkE B fns inl es) (hdl (mkE B fns inl es) d) [f] fn (slVals ((shOf ps).put t).fr.sl) ⟨⟨0, []⟩, [], ((shOf ps).put t).mem⟩ outBool = F t)
  (hF : ∀ t, argsBnd ps t → F t = some true) {w : World} {vals : List Value} (hp : PFits w ps vals)
  (hpl : (allWC ps).all plainWC = true := by kernel_rfl) (hkey : (psSl 0 0 ps).map (·.1) = List.range ps.length := by kernel_rfl) :
  Calls P f vals.toArray w fun e w' => e = .returned (.bool true) ∧ Below w.heap.size w w' :=
 call_of (mkE_t B hf inl es) (mkE_i B fns hi es) (B.hD (mkE_t B hf inl es)) d hfn hpl hkey outBool_true (fun t ht => (hb t).trans (hF t ht)) hp
structure FC (P : Program) where
 f : FuncId
 o : FO
 h : FOok P f o
def fnsC (l : List (FC P)) : List (FuncId × FO) := l.map fun c => (c.f, c.o)
theorem fnsC_ok : ∀ l : List (FC P), fnsOk P (fnsC l)
 | [] => trivial
 | c :: l => ⟨c.h, fnsC_ok l⟩
def lpC (B : Base P) (cs : List (FC P)) (inl : List (FuncId × Func)) (es : List (LoopE P)) (hi : inlOk P inl) (d : Nat) {f : FuncId} {fn : Func} (hfn : P.funcs[f]? = some fn) (r : Nat) (ctx : List Nat)
  (h : Sh) {Out : Type} (O : OutI Out) (F : Nat → h.T → Option Out) (h0 : ∀ t, F 0 t = none)
  (hr : ∀ n t, exC (mkE B (fnsC cs) inl es) (hdl (mkE B (fnsC cs) inl es) d) (f :: ctx) (bodyN fn r) (h.put t) (fun s => (h.take s).bind (F n)) (fun id s => O.get (some id) s) (fun s => O.get none s) = F (n + 1) t) (K : Nat)
  (hc : fn.body = some (bodyOf fn) := by kernel_rfl) (hl : findLoops r (loopsIn (bodyOf fn)) = [bodyN fn r] := by kernel_rfl) : LoopE P :=
 lpE B (fnsC cs) inl es (fnsC_ok cs) hi d hfn r ctx h O F h0 hr K hc hl
def fnC (B : Base P) (cs : List (FC P)) (inl : List (FuncId × Func)) (es : List (LoopE P)) (hi : inlOk P inl) (d : Nat) {f : FuncId} {fn : Func} (hfn : P.funcs[f]? = some fn) (h r : Sh) (F : h.T → Option r.T)
  (hb : ∀ t, exFn (mkE B (fnsC cs) inl es) (hdl (mkE B (fnsC cs) inl es) d) [f] fn (slVals (h.put t).fr.sl) ⟨⟨0, []⟩, [], (h.put t).mem⟩ (takeRes r) = F t)
  (h1 : fnB fn = true := by kernel_rfl) (h2 : h.low = [] := by rfl) (h3 : h.sl.map (·.1) = List.range h.n := by rfl) (h4 : allOwn false h.mem = true := by kernel_rfl) (h5 : r.sl.map (·.1) = List.range r.n := by rfl) (h6 : allOwn true r.mem = true := by kernel_rfl) : FC P :=
 ⟨f, fnFO h r F, fnE B (fnsC cs) inl es (fnsC_ok cs) hi d hfn hb h1 h2 h3 h4 h5 h6⟩
end short
def itN {T : Type} (z : T) (s : T → T) (n : Nat) : T := Nat.rec (motive := fun _ => T) z (fun _ ih => s ih) n
abbrev i6 : Cd := .i .i64
abbrev r6 : Cd := .ir .i64
abbrev I4 (a : Type) := Int × Int × Int × Int × a
abbrev I16 (a : Type) := I4 (I4 (I4 (I4 a)))
abbrev J4 (a : Type) := Int → Int → Int → Int → a
abbrev J16 (a : Type) := J4 (J4 (J4 (J4 a)))
def ap {A X R : Type} (p : (A → X) × (A × R)) : X × R := (p.1 p.2.1, p.2.2)
def ap4 {A B C D X R : Type} (p : (A → B → C → D → X) × (A × B × C × D × R)) : X × R := (p.1 p.2.1 p.2.2.1 p.2.2.2.1 p.2.2.2.2.1, p.2.2.2.2.2)
end Go.Sy
