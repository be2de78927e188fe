/-
  A law's row under a bound of what it reads: each slice of an argument is no longer than the bound tells.
-/
import Derived.Test.YtjmbhhinmbgneaaGreatSyRow
import Derived.JoinedCond
namespace Go.Sy
open Go.RowKit (Below)
open Go.ChangeShapes Go.WideShapes Go.RowKit Go.ChangeAt

/-- Each slice among some cells has so many elements at most. -/
def LenV (M : Nat) : List WC → List Value → Prop
  | .sc _ :: c, _ :: v => LenV M c v
  | .slc _ :: c, u :: v => lenOfV u ≤ M ∧ LenV M c v
  | _, _ => True

theorem LenV.append {M : Nat} : ∀ {a : List WC} {x : List Value} {b : List WC} {y : List Value}, a.length = x.length → LenV M a x → LenV M b y → LenV M (a ++ b) (x ++ y)
  | [], [], _, _, _, _, h => h
  | .sc _ :: a, _ :: x, _, _, e, h, h' => LenV.append (a := a) (x := x) (by simpa using e) h h'
  | .slc _ :: a, _ :: x, _, _, e, ⟨h, k⟩, h' => ⟨h, LenV.append (a := a) (x := x) (by simpa using e) k h'⟩

section read
variable {H : Type} {enc : TypeId × Value → H} {P : Program} {w : World} {sp : Nat → Bool} {held : Bool} {M : Nat} {B : DataW H → Prop}

theorem wide_len (hsl : ∀ e s, B (.slice e s) → e.length ≤ M) (hag : ∀ l, B (.agg l) → ∀ d ∈ l, B d) (hsp : ∀ b, sp b = true) :
    ∀ (n : Nat) (t : TypeId) (cds : List WC), wideB P n t = some cds → ∀ (fuel : Nat) (cs : List Value) (x : DataW H × List MemPlace), DataW.trod enc P w 0 sp held fuel t cs = some x → B x.1 → LenV M cds cs
  | 0, _, _, h => by cases h
  | n + 1, t, cds, h => by
    intro fuel cs x hx hB
    have hfit := wide_read hsp (n + 1) t cds h fuel cs x hx
    unfold wideB at h
    split at h
    · injection h with h; subst h
      match cs, hfit with
      | [_], _ => exact trivial
    · injection h with h; subst h
      match cs, hfit with
      | [_], _ => exact trivial
    · injection h with h; subst h
      match cs, hfit with
      | [_], _ => exact trivial
    · rename_i e hu
      obtain ⟨c, h1, h2⟩ := bind_some' h
      obtain ⟨h3, h4⟩ := cond_some h2
      injection h4 with h4; subst h4
      rcases DataW.trod_slice hu hx with ⟨rfl, _⟩ | ⟨a, len, cap, elems, rest, m, _, rfl, rfl, _, hlc, hcm, hel, _, _, _⟩
      · exact ⟨Nat.zero_le _, trivial⟩
      · have := hsl _ _ hB
        refine ⟨?_, trivial⟩
        show len ≤ M
        rw [List.length_map] at this
        omega
    · rename_i fs hu
      obtain ⟨c, h1, h2⟩ := bind_some' h
      obtain ⟨h3, h4⟩ := cond_some h2
      injection h4 with h4; subst h4
      obtain ⟨xs, m, _, rfl, hlen, hxl, hf⟩ := DataW.trod_struct hu hx
      have key : ∀ (r : List Field) (off : Nat) (c : List WC), wideFs P (wideB P n) off r = some c → (∀ f ∈ r, ∃ y, DataW.trod enc P w 0 sp held m f.type ((cs.drop f.offset).take (P.cellsOf f.type)) = some y ∧ B y.1) →
          off + c.length = cs.length → LenV M c (cs.drop off) := by
        intro r
        induction r with
        | nil =>
          intro off c h _ hl
          simp [wideFs] at h
          subst h
          exact trivial
        | cons f r ih =>
          intro off c h hall hl
          simp only [wideFs] at h
          obtain ⟨e1, h⟩ := cond_some h
          obtain ⟨c1, e2, h⟩ := bind_some' h
          obtain ⟨e3, h⟩ := cond_some h
          obtain ⟨c2, e4, e5⟩ := Option.map_eq_some_iff.1 h
          subst e5
          have e1 := nat_beq e1
          have e3 := nat_beq e3
          obtain ⟨y, hy, hy'⟩ := hall f (by simp)
          rw [e1, e3] at hy
          rw [drop_take_drop cs off c1.length]
          exact LenV.append (wide_read hsp n f.type c1 e2 m _ y hy).length (wide_len hsl hag hsp n f.type c1 e2 m _ y hy hy') (ih (off + c1.length) c2 e4 (fun g hg => hall g (by simp [hg])) (by simp at hl; omega))
      have hall : ∀ f ∈ fs.toList, ∃ y, DataW.trod enc P w 0 sp held m f.type ((cs.drop f.offset).take (P.cellsOf f.type)) = some y ∧ B y.1 := by
        intro f hfm
        obtain ⟨i, hi⟩ := List.mem_iff_getElem?.1 hfm
        have hil : i < xs.length := by
          have := (List.getElem?_eq_some_iff.1 hi).1
          rw [hxl]; simpa using this
        exact ⟨xs[i], by rw [hf i f (by rw [← Array.getElem?_toList]; exact hi)]; simp [hil], hag _ hB _ (List.mem_map.2 ⟨xs[i], List.getElem_mem hil, rfl⟩)⟩
      have := key fs.toList 0 c h1 hall (by rw [Nat.zero_add, hlen, nat_beq h3])
      simpa using this
    · rename_i mm e hu
      obtain ⟨c, h1, h2⟩ := bind_some' h
      obtain ⟨h3, h4⟩ := cond_some h2
      injection h4 with h4; subst h4
      simp only [Bool.and_eq_true] at h3
      have h5 := nat_beq h3.1
      have h6 := nat_beq h3.2
      obtain ⟨xs, m, _, rfl, hlen, hxl, hf⟩ := DataW.trod_array hu hx
      have key : ∀ (k i : Nat), i + k = mm → LenV M ((List.replicate k c).flatten) (cs.drop (i * c.length)) := by
        intro k
        induction k with
        | zero =>
          intro i hi
          exact trivial
        | succ k ih =>
          intro i hi
          rw [List.replicate_succ, List.flatten_cons, drop_take_drop cs (i * c.length) c.length]
          have hy := hf i (by omega)
          rw [h5] at hy
          have hil : i < xs.length := by omega
          have hyy : DataW.trod enc P w 0 sp held m e ((cs.drop (i * c.length)).take c.length) = some xs[i] := by rw [hy]; simp [hil]
          refine LenV.append (wide_read hsp n e c h1 m _ xs[i] hyy).length (wide_len hsl hag hsp n e c h1 m _ xs[i] hyy (hag _ hB _ (List.mem_map.2 ⟨xs[i], List.getElem_mem hil, rfl⟩))) ?_
          have := ih (i + 1) (by omega)
          rwa [Nat.succ_mul] at this
      have := key mm 0 (by omega)
      simpa using this
    · cases h
end read

/-! ### The lengths, as the evaluator's state tells them -/
def Cd.Len (M : Nat) : (c : Cd) → {X : Type} → (X → Prop) → c.cons X → Prop
  | .i _, _, Q, t => Q t.2
  | .b, _, Q, t => Q t.2
  | .s, _, Q, t => Q t.2
  | .ir _, _, Q, t => Q t.2
  | .br, _, Q, t => Q t.2
  | .sr, _, Q, t => Q t.2
  | .slr0 _, _, Q, t => t.1 ≤ M ∧ Q t.2
  | .slr _, _, Q, t => Q t.2.2
  | .slf .., _, Q, t => Q t.2.2
  | .lit _, _, Q, t => Q t
  | .unk, _, Q, t => Q t

def cellsLen (M : Nat) : (cs : List Cd) → {X : Type} → (X → Prop) → cellsT cs X → Prop
  | [], _, Q, t => Q t
  | c :: r, _, Q, t => c.Len M (cellsLen M r Q) t

def Sh1.Len (M : Nat) : (h : Sh1) → {X : Type} → (X → Prop) → h.cons X → Prop
  | .sc c, _, Q, t => c.Len M Q t
  | .ag cs, _, Q, t => cellsLen M cs Q t

def slotLen (M : Nat) : (hs : List (Nat × Sh1)) → {X : Type} → (X → Prop) → slT hs X → Prop
  | [], _, Q, t => Q t
  | (_, h) :: r, _, Q, t => h.Len M (slotLen M r Q) t

/-- Lengths of a law's arguments. -/
def argsLen (M : Nat) (ps : List (Bool × List WC)) (t : (shOf ps).T) : Prop :=
  slotLen M (psSl 0 0 ps) (X := memT (psMem ps) Unit) (fun _ => True) t

theorem cells_len {M : Nat} {w : World} : ∀ {c : List WC} {v : List Value} {j : Nat} {X : Type} {Q : X → Prop} {x : X}, WFitL w c v → LenV M c v → Q x → ∃ t, cellsGet (wcCds j c) (lvWs j c v) x = some t ∧ cellsLen M (wcCds j c) Q t
  | [], [], _, _, _, x, _, _, hQ => ⟨x, rfl, hQ⟩
  | .sc c0 :: c, u :: v, j, X, Q, x, ⟨h, k⟩, hl, hQ => by
    obtain ⟨t, h1, h2⟩ := cells_len (j := j) k hl hQ
    cases c0 <;> simp only [WFit1, Fit1] at h
    · obtain ⟨n, rfl, hw⟩ := h
      refine ⟨(n, t), ?_, h2⟩
      simp [wcCds, lvWs, cellsGet, h1, ofV, Cd.get]
      rfl
    · obtain ⟨b, rfl⟩ := h
      refine ⟨(b, t), ?_, h2⟩
      simp [wcCds, lvWs, cellsGet, h1, ofV, Cd.get]
      rfl
    · obtain ⟨s, rfl, hs⟩ := h
      refine ⟨(s, t), ?_, h2⟩
      simp [wcCds, lvWs, cellsGet, h1, ofV, Cd.get]
      rfl
  | .slc cds :: c, u :: v, j, X, Q, x, ⟨h, k⟩, ⟨hl0, hl⟩, hQ => by
    obtain ⟨t, h1, h2⟩ := cells_len (j := j + 1) k hl hQ
    refine ⟨(lenOfV u, t), ?_, hl0, h2⟩
    simp [wcCds, lvWs, cellsGet, h1, Cd.get]
    rfl

def LenVs (M : Nat) : List (Bool × List WC) → List Value → Prop
  | p :: ps, v :: vs => LenV M p.2 (cellsOfP p v) ∧ LenVs M ps vs
  | _, _ => True

theorem slV_lens {M : Nat} {w : World} : ∀ {ps : List (Bool × List WC)} {vs : List Value} {i j : Nat} {X : Type} {Q : X → Prop} {x : X}, PFits w ps vs → LenVs M ps vs → Q x →
    ∃ t, slGet (psSl i j ps) (slV i j ps vs) x = some t ∧ slotLen M (psSl i j ps) Q t
  | [], [], _, _, _, _, x, _, _, hQ => ⟨x, rfl, hQ⟩
  | (true, wcs) :: ps, v :: vs, i, j, X, Q, x, ⟨hp, hps⟩, ⟨hl0, hl⟩, hQ => by
    obtain ⟨t, h1, h2⟩ := slV_lens (i := i + 1) (j := j + nSl wcs) hps hl hQ
    obtain ⟨t', h3, h4⟩ := cells_len (j := j) hp.cells hl0 h2
    refine ⟨t', ?_, h4⟩
    simp only [psSl, slV, slGet, Nat.beq_refl, cond_true]
    rw [h1]
    exact h3
  | (false, wcs) :: ps, v :: vs, i, j, X, Q, x, ⟨hp, hps⟩, ⟨hl0, hl⟩, hQ => by
    obtain ⟨t, h1, h2⟩ := slV_lens (i := i + 1) (j := j + nSl wcs) hps hl hQ
    obtain ⟨t', h3, h4⟩ := cells_len (j := j) hp.cells hl0 h2
    have hp' : WFitL w wcs [v] := hp
    match wcs, hp' with
    | [wc], _ =>
      cases wc with
      | sc c =>
        have h3' : (cellsGet [] [] t).bind (fun y => c.get (ofV v) y) = some t' := h3
        refine ⟨t', ?_, h4⟩
        simp only [psSl, slV, slGet, Nat.beq_refl, cond_true]
        rw [h1]
        exact h3'
      | slc cds =>
        have h3' : (cellsGet [] [] t).bind (fun y => (Cd.slr0 j).get (.slr j 0 (lenOfV v)) y) = some t' := h3
        refine ⟨t', ?_, h4⟩
        simp only [psSl, slV, slGet, Nat.beq_refl, cond_true]
        rw [h1]
        exact h3'

theorem args_state_upto {M : Nat} {w : World} {ps : List (Bool × List WC)} {vals : List Value} (hpl : (allWC ps).all plainWC = true) (hp : PFits w ps vals) (hl : LenVs M ps vals) :
    ∃ t : (shOf ps).T, argsBnd ps t ∧ argsLen M ps t ∧ ∃ J, RelS w.heap.size w J ((shOf ps).put t) vals.toArray [] w := by
  obtain ⟨tm, hm1, hm2⟩ := mem_some (Q := fun (_ : Unit) => True) (x := ()) hpl (allFit hp) trivial
  obtain ⟨t, h1, h2⟩ := slV_some (i := 0) (j := 0) (Q := memBnd (psMem ps) (fun (_ : Unit) => True)) (x := tm) hp hm2
  obtain ⟨t2, h1', h2'⟩ := slV_lens (i := 0) (j := 0) (Q := fun (_ : memT (psMem ps) Unit) => True) (x := tm) hp hl trivial
  obtain rfl : t = t2 := Option.some.inj (h1.symm.trans h1')
  let J : Inj := fun b => ((injV ps vals)[b]?).join
  have hJ : ∀ k x, (injV ps vals)[k]? = some x → J (0 + k) = x := fun k x hx => by simp [J, hx]
  let s : St := { fr := ⟨ps.length, slV 0 0 ps vals⟩, low := [], mem := memWs w (allWC ps) (allVals ps vals) }
  have hget : (shOf ps).get s = some t := by
    unfold Sh.get
    have e1 : Nat.beq (shOf ps).n s.fr.n = true := Nat.beq_refl _
    rw [e1]
    simp only [cond_true]
    show ((memGet (psMem ps) (memWs w (allWC ps) (allVals ps vals)) ()).bind fun x => (lowGet [] [] x).bind fun y => slGet (psSl 0 0 ps) (slV 0 0 ps vals) y) = some t
    unfold psMem
    rw [hm1]
    exact h1
  have hS : RelS w.heap.size w J s vals.toArray [] w := by
    refine ⟨⟨by simp [s, hp.length], fun u y hy => ?_⟩, trivial, ⟨fun b bb hb => ?_, fun b b' bb bb' pb hpb ho => ?_⟩, Below.refl _ _, Nat.le_refl _⟩
    · obtain ⟨v, _, h3, h4⟩ := slV_rel hp hJ u y hy
      exact ⟨v, by simpa using h3, h4⟩
    · have hb' : (injV ps vals)[b]? = some (some bb) := by
        simp only [J] at hb
        cases hq : (injV ps vals)[b]? with
        | none => rw [hq] at hb; cases hb
        | some z => rw [hq] at hb; simp at hb; rw [hb]
      rw [← injV_all hp] at hb'
      obtain ⟨pb, h3, _, h4⟩ := relB_memWs (J := J) (allFit hp) b bb hb'
      exact ⟨pb, h3, h4 _⟩
    · rw [memWs_own w _ _ b pb hpb] at ho; cases ho
  exact ⟨t, h2, h2', J, Sh.get_ok hget hS⟩

theorem call_of_upto {M : Nat} {P : Program} {E : Env} (hT : EnvT P E) (hI : EnvI P E) (hD : DrawOk P E) (d : Nat) {f : FuncId} {fn : Func} (hf : P.funcs[f]? = some fn)
    {ps : List (Bool × List WC)} (hpl : (allWC ps).all plainWC = true) (hkey : (psSl 0 0 ps).map (·.1) = List.range ps.length)
    {out : PV → St → Option Bool} (hout : ∀ pv s, out pv s = some true → pv = .s (.b0 true))
    (hb : ∀ t : (shOf ps).T, argsBnd ps t → argsLen M ps t → exFn E (hdl E d) [f] fn (slVals ((shOf ps).put t).fr.sl) ⟨⟨0, []⟩, [], ((shOf ps).put t).mem⟩ out = some true)
    {w : World} {vals : List Value} (hp : PFits w ps vals) (hl : LenVs M ps vals) :
    Calls P f vals.toArray w fun e w' => e = .returned (.bool true) ∧ Below w.heap.size w w' := by
  obtain ⟨t, hbnd, hlen, J, hS⟩ := args_state_upto hpl hp hl
  have hargs : RelPs J (slVals ((shOf ps).put t).fr.sl) vals := by
    refine frame_vals (n := ps.length) hS.fr ?_
    exact (slPut_keys (psSl 0 0 ps) (X := lowT [] (memT (psMem ps) Unit)) t).trans hkey
  have hS3 : RelS w.heap.size w J ⟨⟨0, []⟩, [], ((shOf ps).put t).mem⟩ #[] [] w := ⟨⟨rfl, fun t x hx => by simp [lookN] at hx⟩, trivial, hS.mem, hS.below, hS.base⟩
  refine (fn_sound (ctx := [f]) hT (hdl_ok hT hI hD d) hD hf (fun c hc => hI.loops f fn c [] hf hc) (hb t hbnd hlen) hS3 hargs).mono fun e w' ⟨v, hev, J', pv, s', hres, hS', hrv⟩ => ?_
  have := hout _ _ hres
  subst this
  cases hrv
  exact ⟨hev, hS'.below⟩

section
variable {H : Type} {enc : TypeId × Value → H} {P : Program} {M : Nat} {B : DataW H → Prop}

theorem param_len (hsl : ∀ e s, B (.slice e s) → e.length ≤ M) (hag : ∀ l, B (.agg l) → ∀ d ∈ l, B d) {W : World} {n : Nat} {t : TypeId} {p : Bool × List WC} (hp : paramB P n t p eqWCs = true) {base : Nat} {v : Value}
    (hval : Value.okWide P W .any base t v) {d : DataW H} {ps : List MemPlace}
    (hd : DataW.Trod enc P W 0 (fun _ => true) true t v d ps) (hB : B d) : LenV M p.2 (cellsOfP p v) := by
  unfold paramB at hp
  split at hp
  · rename_i wcs dd hw hu
    simp only [Bool.and_eq_true] at hp
    obtain ⟨b, q⟩ := p
    have e1 := eqWCs_eq hp.1
    have e2 : isAggD dd = b := eq_of_beq hp.2
    simp only at e1
    subst e1
    obtain ⟨fuel, hf⟩ := hd
    have hlen := wide_len hsl hag (fun _ => rfl) n t wcs hw fuel _ _ hf hB
    cases b with
    | true => exact hlen
    | false =>
      show LenV M wcs [v]
      have hone : v.cells.toList = [v] := by
        cases n with
        | zero => simp [wideB] at hw
        | succ n =>
          unfold wideB at hw
          rw [hu] at hw
          cases dd <;> simp [isAggD] at e2 <;> simp only [reduceCtorEq] at hw
          · obtain ⟨b, rfl⟩ := okWide_bool hu hval; rfl
          · obtain ⟨m, rfl⟩ := okWide_int hu hval; rfl
          · obtain ⟨s, rfl⟩ := okWide_string hu hval; rfl
          · obtain ⟨a, l, c, rfl⟩ := okWide_slice hu hval; rfl
      rw [hone] at hlen
      exact hlen
  · cases hp

theorem params_len (hsl : ∀ e s, B (.slice e s) → e.length ≤ M) (hag : ∀ l, B (.agg l) → ∀ d ∈ l, B d) {W : World} {n : Nat} {base : Nat} : ∀ {ts : List TypeId} {ps : List (Bool × List WC)} {vs : List Value} {ds : List (DataW H)} {q : List MemPlace}, paramsB P n ts ps = true →
    (∀ (j : Nat) t v, ts[j]? = some t → vs[j]? = some v → Value.okWide P W .any base t v) → DataW.TrodAll enc P W 0 (fun _ => true) true ts vs ds q → (∀ d ∈ ds, B d) → LenVs M ps vs
  | [], [], [], [], _, _, _, _, _ => trivial
  | t :: ts, p :: ps, vs, ds, q, hp, hval, hA, hB => by
    simp only [paramsB, Bool.and_eq_true] at hp
    obtain ⟨v, vs', d, ds', a, b, rfl, rfl, rfl, h1, h2⟩ := trodAll_cons hA
    exact ⟨param_len hsl hag hp.1 (hval 0 t v rfl rfl) h1 (hB d (by simp)), params_len hsl hag hp.2 (fun j t' v' ht hv => hval (j + 1) t' v' (by simpa using ht) (by simpa using hv)) h2 (fun e he => hB e (by simp [he]))⟩
  | [], _ :: _, _, _, _, hp, _, _, _ => by simp [paramsB] at hp
  | _ :: _, [], _, _, _, hp, _, _, _ => by simp [paramsB] at hp
  | [], [], _ :: _, _, _, _, _, hA, _ => by cases hA
  | [], [], [], _ :: _, _, _, _, hA, _ => by cases hA
end

/-- The step of a law that is told under a bound of its arguments. -/
theorem lifted_upto {H : Type} {enc : TypeId × Value → H} {C : Checked} {os : Os} {f : FuncId} {fn : Func} {S : OpenSpec} {s : ChangeSpec} {k : (H : Type) → List (DataW H) → Bool} (hk : S.cond = some k) {F : Stop.Interp} (hat : S.at F = s) (hsv : S.vars = [])
    (own : ownKnob C.prog.godebug = none) (started : os.Started) (noInit : C.prog.inits.idxOf? f = none)
    (hf : C.prog.funcs[f]? = some fn)
    (witness : ∃ (w : World) (tape : Tape) (i : Input), w.os = os ∧ (w.forCall tape i).Shaped C.prog ∧ i.vars = [] ∧ Input.okWide C.prog (w.forCall tape i) .any w.heap.size f i ∧
      S.pre6 enc C.prog fn [] false (w.forCall tape i).memory i.args ∧ ({} : Assume).holds C.prog (lone (Frame.enter C.prog f i.args .normal) [] (w.forCall tape i)))
    (hl : laidOutB C.prog = true) {ts : List TypeId} (hts : fn.params.toList = ts) (hread : ∀ t ∈ ts, C.prog.readableRec t = true ∧ t < C.prog.types.size) {tb : TypeId} (hres : fn.resultTypes = #[tb]) (htb : C.prog.underlying tb = some .bool)
    (hvars : s.vars = []) (hspec : ∀ (H : Type) (ds : List (DataW H)), ds.length = ts.length → s.fn H ds = { results := [.lit (.bool true)], args := ds })
    {n M : Nat} {ps : List (Bool × List WC)} (hps : paramsB C.prog n ts ps = true) (B : DataW H → Prop) (hsl : ∀ e s, B (.slice e s) → e.length ≤ M) (hag : ∀ l, B (.agg l) → ∀ d ∈ l, B d)
    (hB : ∀ l : List (DataW H), k H l = true → ∀ d ∈ l, B d)
    (hcall : ∀ (W : World) (vals : List Value), PFits W ps vals → LenVs M ps vals → Calls C.prog f vals.toArray W fun e W' => e = .returned (.bool true) ∧ Below W.heap.size W W') :
    ReturnsInHanded {} C os f .any (S.pre6 enc C.prog fn [] false) ((S.at F).post enc C.prog fn false true false false) := by
  refine returnsInHanded_of_cond hk own started noInit hf witness ?_
  intro W base args ds gs before hval hW _ hkk _
  rw [hat]
  rw [hsv] at hW
  have hW' : DataW.Whole enc C.prog fn.params.toList s.vars false W args.toList ds gs before := by rw [hvars]; exact hW
  obtain ⟨p, q, hA, hV, hbefore, hfz, hnd⟩ := hW
  rw [hts] at hA
  obtain ⟨rfl, rfl⟩ := trodVars_none hV
  have hval' : ∀ (j : Nat) t v, ts[j]? = some t → args.toList[j]? = some v → Value.okWide C.prog W .any base t v := fun j t v ht hv => hval j t v (by rw [← Array.getElem?_toList, hts]; exact ht) (by rw [← Array.getElem?_toList]; exact hv)
  have hfit : PFits W ps args.toList := params_fit hps hval' hA
  have hlenV : LenVs M ps args.toList := params_len hsl hag hps hval' hA (fun d hd => hB _ hkk d (by simp [hd]))
  have hc := hcall W args.toList hfit hlenV
  refine hc.mono fun e W' ⟨he, hb⟩ => ⟨.bool true, he, ?_⟩
  have hlen := trod_len hA
  have hsp := hspec H (ds ++ []) (by simpa using hlen)
  have hlt : ∀ x ∈ p, x.block < W.heap.size := fun x hx => hW'.lt x (by rw [hbefore]; simp [hx])
  refine post_below (pa := p) (pv := []) hW' ?_ ?_ ?_ (by rw [hbefore]) hb ?_
  · intro b sp hd
    rw [hsp, hres]
    exact trodAll_cons_mk (p := []) (p' := []) (shut_bool htb true) rfl
  · intro sp hsp'
    rw [hsp, hts]
    simp only [List.append_nil]
    exact args_stay hl hb hread hA hlt sp (fun x hx => hsp' x (by rw [hbefore]; simp [hx]))
  · intro sp _
    rw [hsp, hvars]
    rfl
  · exact ok_one hres rfl (okWide_bool_mk htb true)
end Go.Sy
