/- The evaluator. -/
import Derived.Test.YtjmbhhinmbgneaaGreatSzSplit
namespace Go.Sy
def addV (x y c : Int) : List V1 := [.sc (.i0 .u64 (Int.ofNat ((x.toNat + y.toNat + c.toNat) % 18446744073709551616))), .sc (.i0 .u64 (Int.ofNat ((x.toNat + y.toNat + c.toNat) / 18446744073709551616)))]
def subV (x y c : Int) : List V1 := [.sc (.i0 .u64 (Int.ofNat ((x.toNat + 18446744073709551616 - y.toNat - c.toNat) % 18446744073709551616))), .sc (.i0 .u64 (Int.ofNat (bif Nat.blt x.toNat (y.toNat + c.toNat) then 1 else 0)))]
def addG (x y c : Int) : Option (List V1) := bif decide (c ≤ 1) then some (addV x y c) else none
def subG (x y c : Int) : Option (List V1) := bif decide (c ≤ 1) then some (subV x y c) else none
def extFO (g : Int → Int → Int → List V1) : FO := fun _ args mem k => match args with
 | [.v (.sc (.i0 _ x)), .v (.sc (.i0 _ y)), .v (.sc (.i0 _ c))] => bif decide (c ≤ 1) then k (.tup (g x y c)) mem else none
 | _ => none
theorem extFO_eq (v : Int → Int → Int → List V1) (g : Int → Int → Int → Option (List V1)) (hg : ∀ x y c, g x y c = bif decide (c ≤ 1) then some (v x y c) else none) (β : Type) (args : List PV) (mem : List PBlk) (k : PV → List PBlk → Option β) :
  extFO v β args mem k = match args with
   | [.v (.sc (.i0 _ x)), .v (.sc (.i0 _ y)), .v (.sc (.i0 _ c))] => (g x y c).bind fun r => k (.tup r) mem
   | _ => none := by
 unfold extFO
 split
 ·rename_i x _ y _ c
  rw [hg]
  cases decide (c ≤ 1) <;> rfl
 ·rfl
theorem run_ext {P : Program} {w : World} {f : FuncId} {fn : Func} (hf : P.funcs[f]? = some fn) (hn : (fn.name == "runtime.NumGoroutine") = false) (hb : fn.body.isNone = true) (h1 : Extern.findNext fn = none) {e : Array Value → Sem Value}
  (h2 : Extern.find fn = some e) {args : Array Value} {v : Value} (he : (e args).run P w = .ok v w) : (callFunc f args).run P w = .ok (.value v) w := by
 simp only [callFunc, Sem.run_bind]
 rw [show program.run P w = .ok P w from rfl]
 have hn' : ¬ fn.name = "runtime.NumGoroutine" := by simpa using hn
 have hb' : fn.body = none := by simpa using hb
 simp [hf, hn', hb', h1, h2, he]
def ExtOk (P : Program) (f : FuncId) (e : Array Value → Sem Value) : Prop :=
 ∃ fn, P.funcs[f]? = some fn ∧ (fn.name == "runtime.NumGoroutine") = false ∧ fn.body.isNone = true ∧ Extern.findNext fn = none ∧ Extern.find fn = some e
theorem ext_ok {P : Program} {f : FuncId} {e : Array Value → Sem Value} (h : ExtOk P f e) {o : FO} {g : Int → Int → Int → Option (List V1)}
  (ho : ∀ (β : Type) (args : List PV) (mem : List PBlk) (k : PV → List PBlk → Option β), o β args mem k = match args with
   | [.v (.sc (.i0 _ x)), .v (.sc (.i0 _ y)), .v (.sc (.i0 _ c))] => (g x y c).bind fun r => k (.tup r) mem
   | _ => none)
  (hrun : ∀ (w : World) (kx ky kc : IntKind) (x y c : Int) (r : List V1), g x y c = some r → ∃ us : Array Value, (e #[.int kx x, .int ky y, .int kc c]).run P w = .ok (.tuple us) w ∧ ∀ J, Rel1s J r us.toList) : FOok P f o := by
 obtain ⟨fn, h1, h2, h3, h4, h5⟩ := h
 refine ⟨fun β args mem k x hk => ?_, fun β args mem k x hk base J w vals hv hm hb => .inr ?_⟩
 ·rw [ho] at hk
  split at hk
  ·obtain ⟨r, hr, hk⟩ := bind_some' hk
   exact ⟨.tup r, [], fun γ k' => by rw [ho]; simp [hr]⟩
  ·cases hk
 ·rw [ho] at hk
  split at hk
  ·obtain ⟨r, hr, hk⟩ := bind_some' hk
   match vals, hv with
   | [a, b, c], ⟨ha, hb', hc, _⟩ =>
    cases ha
    cases hb'
    cases hc
    obtain ⟨us, hu, hrel⟩ := hrun w _ _ _ _ _ _ r hr
    exact ⟨_, run_ext h1 h2 h3 h4 h5 hu, .tup r, hk, us, rfl, hrel J⟩
  ·cases hk
def addRow (args : Array Value) : Sem Value := do
 let (x, y, c) ← Extern.MathBitsCarry.three "Add64" args
 pure (Extern.MathBitsCarry.pair ((x + y + c) % Extern.MathBitsCarry.m64) ((x + y + c) / Extern.MathBitsCarry.m64))
def subRow (args : Array Value) : Sem Value := do
 let (x, y, b) ← Extern.MathBitsCarry.three "Sub64" args
 pure (Extern.MathBitsCarry.pair ((x + Extern.MathBitsCarry.m64 - y - b) % Extern.MathBitsCarry.m64) (if x < y + b then 1 else 0))
theorem add_ok {P : Program} {f : FuncId} (h : ExtOk P f addRow) : FOok P f (extFO addV) :=
 ext_ok h (extFO_eq addV addG fun _ _ _ => rfl) fun w kx ky kc x y c r hr => by
  unfold addG addV at hr
  obtain ⟨h1, h2⟩ := cond_some hr
  injection h2 with h2
  subst h2
  have hc : ¬ c.toNat > 1 := by have := of_decide_eq_true h1; omega
  refine ⟨#[.int .u64 _, .int .u64 _], ?_, fun J => ⟨.i0 _ _, .i0 _ _, trivial⟩⟩
  have e3 : (Extern.MathBitsCarry.three "Add64" #[.int kx x, .int ky y, .int kc c]).run P w = .ok (x.toNat, y.toNat, c.toNat) w := by
   have e4 : Extern.MathBitsCarry.three "Add64" #[.int kx x, .int ky y, .int kc c] = (if c.toNat > 1 then (unsupported (.noEntry ("extern/math/bits." ++ "Add64" ++ ": a carry that is neither 0 nor 1")) >>= fun _ => pure (x.toNat, y.toNat, c.toNat)) else pure (x.toNat, y.toNat, c.toNat) : Sem (Nat × Nat × Nat)) := rfl
   rw [e4, if_neg hc]
   rfl
  unfold addRow
  rw [Sem.run_bind, e3]
  rfl
theorem sub_ok {P : Program} {f : FuncId} (h : ExtOk P f subRow) : FOok P f (extFO subV) :=
 ext_ok h (extFO_eq subV subG fun _ _ _ => rfl) fun w kx ky kc x y c r hr => by
  unfold subG subV at hr
  obtain ⟨h1, h2⟩ := cond_some hr
  injection h2 with h2
  subst h2
  have hc : ¬ c.toNat > 1 := by have := of_decide_eq_true h1; omega
  refine ⟨#[.int .u64 _, .int .u64 _], ?_, fun J => ⟨.i0 _ _, .i0 _ _, trivial⟩⟩
  have e3 : (Extern.MathBitsCarry.three "Sub64" #[.int kx x, .int ky y, .int kc c]).run P w = .ok (x.toNat, y.toNat, c.toNat) w := by
   have e4 : Extern.MathBitsCarry.three "Sub64" #[.int kx x, .int ky y, .int kc c] = (if c.toNat > 1 then (unsupported (.noEntry ("extern/math/bits." ++ "Sub64" ++ ": a carry that is neither 0 nor 1")) >>= fun _ => pure (x.toNat, y.toNat, c.toNat)) else pure (x.toNat, y.toNat, c.toNat) : Sem (Nat × Nat × Nat)) := rfl
   rw [e4, if_neg hc]
   rfl
  unfold subRow
  rw [Sem.run_bind, e3]
  have hb : (if x.toNat < y.toNat + c.toNat then 1 else 0) = (bif Nat.blt x.toNat (y.toNat + c.toNat) then 1 else 0 : Nat) := by
   by_cases h : x.toNat < y.toNat + c.toNat
   ·have : Nat.blt x.toNat (y.toNat + c.toNat) = true := by simpa [Nat.blt_eq] using h
    rw [if_pos h, this]; rfl
   ·have : Nat.blt x.toNat (y.toNat + c.toNat) = false := by
     cases hq : Nat.blt x.toNat (y.toNat + c.toNat) with
     | false => rfl
     | true => exact absurd (by simpa [Nat.blt_eq] using hq) h
    rw [if_neg h, this]; rfl
  simp only [Result.andThen_ok, hb]
  rfl
end Go.Sy
