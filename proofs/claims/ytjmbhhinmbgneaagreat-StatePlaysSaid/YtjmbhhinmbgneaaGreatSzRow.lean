/- The evaluator. -/
import Derived.Test.YtjmbhhinmbgneaaGreatSzLaw2
namespace Go.Sy
open Go.RowKit (Below)
open Go.ChangeShapes Go.WideShapes Go.RowKit Go.ChangeAt
section
variable {H : Type} {enc : TypeId × Value → H} {P : Program}
theorem post_below {f : Func} {s : ChangeSpec} {apart fresh handsOn again : Bool} {W W' : World} {args : Array Value} {v : Value} {ds gs : List (DataW H)} {before pa pv : List MemPlace}
  (hW : DataW.Whole enc P f.params.toList s.vars apart W args.toList ds gs before)
  (hres : ∀ (b : Nat) (sp : Nat → Bool) (hd : Bool), DataW.TrodAll enc P W' b sp hd f.resultTypes.toList (v.resultList f.resultTypes.size) (s.fn H (ds ++ gs)).results [])
  (hargs : ∀ sp : Nat → Bool, (∀ p ∈ before, sp p.block = true) → DataW.TrodAll enc P W' 0 sp true f.params.toList args.toList (s.fn H (ds ++ gs)).args pa)
  (hvars : ∀ sp : Nat → Bool, (∀ p ∈ before, sp p.block = true) → DataW.TrodVars enc P W' sp s.vars (s.fn H (ds ++ gs)).vars pv)
  (hps : before = pa ++ pv) (hb : Below W.heap.size W W')
  (hok : ∀ (j : Nat) (t : TypeId) (r : Value), f.resultTypes[j]? = some t → (v.resultList f.resultTypes.size)[j]? = some r → Value.okWide P W' .any 0 t r) :
  s.post enc P f apart fresh handsOn again W args v W' := by
 have hlt : ∀ p ∈ before, p.block < W.heap.size := fun p hp => hW.lt p hp
 have hold : ∀ p ∈ before, (fun b => decide (b < W.heap.size)) p.block = true := fun p hp => by simpa using hlt p hp
 refine ⟨ds, gs, before, [], pa, pv, hW, hres _ _ _, hargs _ hold, hvars _ hold, World.keptBut_mono (fun p hp => ⟨hp, ?_⟩) (hb.frame (· ∈ before)), fun _ => ?_⟩
 ·rw [hps, List.mem_append] at hp
  exact Or.inr hp
 ·obtain ⟨_, _, _, _, _, hz, hn⟩ := hW
  refine ⟨hok, _, _, ([] ++ pa) ++ pv, ⟨[] ++ pa, pv, trodAll_append (hargs _ (fun _ _ => rfl)) (hres _ _ _), hvars _ (fun _ _ => rfl), rfl, ?_, ?_⟩, ?_⟩
  ·intro b off hp
   have hin : MemPlace.cell b off ∈ before := by rw [hps]; simpa using hp
   rw [hb.frozen (hlt _ hin)]
   exact hz b off hin
  ·intro ha
   have := hn ha
   rw [hps] at this
   simpa using this
  ·intro p hp _
   rw [hps]
   simpa using hp
def paramB (P : Program) (n : Nat) (t : TypeId) (p : Bool × List WC) (eqW : List WC → List WC → Bool) : Bool :=
 match wideB P n t, P.underlying t with
 | some w, some d => eqW w p.2 && (isAggD d == p.1)
 | _, _ => false
def eqCd : Cd → Cd → Bool
 | .i k, .i k' => decide (k = k')
 | .b, .b => true
 | .s, .s => true
 | _, _ => false
def eqCds : List Cd → List Cd → Bool
 | [], [] => true
 | a :: x, c :: y => eqCd a c && eqCds x y
 | _, _ => false
def eqWC : WC → WC → Bool
 | .sc a, .sc c => eqCd a c
 | .slc a, .slc c => eqCds a c
 | _, _ => false
def eqWCs : List WC → List WC → Bool
 | [], [] => true
 | a :: x, b :: y => eqWC a b && eqWCs x y
 | _, _ => false
theorem eqCd_eq {a c : Cd} (h : eqCd a c = true) : a = c := by
 unfold eqCd at h
 split at h
 ·rw [of_decide_eq_true h]
 ·rfl
 ·rfl
 ·cases h
theorem eqCds_eq : ∀ {a b : List Cd}, eqCds a b = true → a = b
 | [], [], _ => rfl
 | x :: a, y :: b, h => by
  simp only [eqCds, Bool.and_eq_true] at h
  rw [eqCd_eq h.1, eqCds_eq h.2]
 | [], _ :: _, h => by simp [eqCds] at h
 | _ :: _, [], h => by simp [eqCds] at h
theorem eqWC_eq {a b : WC} (h : eqWC a b = true) : a = b := by
 unfold eqWC at h
 split at h
 ·rw [eqCd_eq h]
 ·rw [eqCds_eq h]
 ·cases h
theorem eqWCs_eq : ∀ {a b : List WC}, eqWCs a b = true → a = b
 | [], [], _ => rfl
 | x :: a, y :: b, h => by
  simp only [eqWCs, Bool.and_eq_true] at h
  rw [eqWC_eq h.1, eqWCs_eq h.2]
 | [], _ :: _, h => by simp [eqWCs] at h
 | _ :: _, [], h => by simp [eqWCs] at h
def paramsB (P : Program) (n : Nat) : List TypeId → List (Bool × List WC) → Bool
 | [], [] => true
 | t :: ts, p :: ps => paramB P n t p eqWCs && paramsB P n ts ps
 | _, _ => false
theorem param_fit {W : World} {n : Nat} {t : TypeId} {p : Bool × List WC} (hp : paramB P n t p eqWCs = true) {base : Nat} {v : Value} (hval : Value.okWide P W .any base t v) {d : DataW H} {ps : List MemPlace}
  (hd : DataW.Trod enc P W 0 (fun _ => true) true t v d ps) : PFit W p v := by
 unfold paramB at hp
 split at hp
 ·rename_i wcs dd hw hu
  simp only [Bool.and_eq_true] at hp
  obtain ⟨b, q⟩ := p
  have e1 := eqWCs_eq hp.1
  have e2 : isAggD dd = b := eq_of_beq hp.2
  simp only at e1
  subst e1
  obtain ⟨fuel, hf⟩ := hd
  have hfit := wide_read (fun _ => rfl) n t wcs hw fuel _ _ hf
  cases b with
  | true =>
   cases dd <;> simp [isAggD] at e2
   ·obtain ⟨cs, rfl, _⟩ := (by unfold Value.okWide at hval; rw [hu] at hval; exact hval : ∃ cs, v = .agg cs ∧ cs.size = P.cellsOf t ∧ Row.okWide P W .any base t cs)
    exact ⟨cs, rfl, hfit⟩
   ·obtain ⟨cs, rfl, _⟩ := (by unfold Value.okWide at hval; rw [hu] at hval; exact hval : ∃ cs, v = .agg cs ∧ cs.size = P.cellsOf t ∧ Row.okWide P W .any base t cs)
    exact ⟨cs, rfl, hfit⟩
  | false =>
   show WFitL W wcs [v]
   have hone : v.cells.toList = [v] := by
    cases n with
    | zero => simp [wideB] at hw
    | succ n =>
     unfold wideB at hw
     rw [hu] at hw
     cases dd <;> simp [isAggD] at e2 <;> simp only [reduceCtorEq] at hw
     ·obtain ⟨b, rfl⟩ := okWide_bool hu hval; rfl
     ·obtain ⟨m, rfl⟩ := okWide_int hu hval; rfl
     ·obtain ⟨s, rfl⟩ := okWide_string hu hval; rfl
     ·obtain ⟨a, l, c, rfl⟩ := okWide_slice hu hval; rfl
   rw [hone] at hfit
   exact hfit
 ·cases hp
theorem params_fit {W : World} {n : Nat} {base : Nat} : ∀ {ts : List TypeId} {ps : List (Bool × List WC)} {vs : List Value} {ds : List (DataW H)} {q : List MemPlace}, paramsB P n ts ps = true →
  (∀ (j : Nat) t v, ts[j]? = some t → vs[j]? = some v → Value.okWide P W .any base t v) → DataW.TrodAll enc P W 0 (fun _ => true) true ts vs ds q → PFits W ps vs
 | [], [], [], [], _, _, _, _ => trivial
 | t :: ts, p :: ps, vs, ds, q, hp, hval, hA => by
  simp only [paramsB, Bool.and_eq_true] at hp
  obtain ⟨v, vs', d, ds', a, b, rfl, rfl, rfl, h1, h2⟩ := trodAll_cons hA
  exact ⟨param_fit hp.1 (hval 0 t v rfl rfl) h1, params_fit hp.2 (fun j t' v' ht hv => hval (j + 1) t' v' (by simpa using ht) (by simpa using hv)) h2⟩
 | [], _ :: _, _, _, _, hp, _, _ => by simp [paramsB] at hp
 | _ :: _, [], _, _, _, hp, _, _ => by simp [paramsB] at hp
 | [], [], _ :: _, _, _, _, _, hA => by cases hA
 | [], [], [], _ :: _, _, _, _, hA => by cases hA
theorem trod_len {W : World} : ∀ {ts : List TypeId} {vs : List Value} {ds : List (DataW H)} {q : List MemPlace}, DataW.TrodAll enc P W 0 (fun _ => true) true ts vs ds q → ds.length = ts.length
 | [], [], [], _, _ => rfl
 | t :: ts, vs, ds, q, hA => by
  obtain ⟨v, vs', d, ds', a, b, rfl, rfl, rfl, _, h2⟩ := trodAll_cons hA
  simp [trod_len h2]
 | [], _ :: _, _, _, hA => by cases hA
 | [], [], _ :: _, _, hA => by cases hA
theorem args_stay (hl : laidOutB P = true) {W W' : World} (hb : Below W.heap.size W W') : ∀ {ts : List TypeId} {vs : List Value} {ds : List (DataW H)} {q : List MemPlace},
  (∀ t ∈ ts, P.readableRec t = true ∧ t < P.types.size) → DataW.TrodAll enc P W 0 (fun _ => true) true ts vs ds q → (∀ x ∈ q, x.block < W.heap.size) →
  ∀ sp : Nat → Bool, (∀ x ∈ q, sp x.block = true) → DataW.TrodAll enc P W' 0 sp true ts vs ds q
 | [], [], [], _, _, hA, _, _, _ => hA
 | t :: ts, vs, ds, q, hr, hA, hlt, sp, hsp => by
  obtain ⟨v, vs', d, ds', a, b, rfl, rfl, rfl, h1, h2⟩ := trodAll_cons hA
  obtain ⟨r1, r2⟩ := hr t (by simp)
  exact trodAll_cons_mk (WideElems.Trod_stays hl r1 r2 h1 (fun x hx => hb.same (hlt x (by simp [hx]))) (fun x hx => hsp x (by simp [hx])))
   (args_stay hl hb (fun t' ht => hr t' (by simp [ht])) h2 (fun x hx => hlt x (by simp [hx])) sp (fun x hx => hsp x (by simp [hx])))
 | [], _ :: _, _, _, _, hA, _, _, _ => by cases hA
 | [], [], _ :: _, _, _, hA, _, _, _ => by cases hA
end
theorem lifted_of {H : Type} {enc : TypeId × Value → H} {C : Checked} {os : Os} {f : FuncId} {fn : Func} {s : ChangeSpec} (own : ownKnob C.prog.godebug = none) (started : os.Started) (noInit : C.prog.inits.idxOf? f = none)
  (hf : C.prog.funcs[f]? = some fn)
  (witness : ∃ (w : World) (tape : Tape) (i : Input), w.os = os ∧ (w.forCall tape i).Shaped C.prog ∧ i.vars = [] ∧ Input.okWide C.prog (w.forCall tape i) .any w.heap.size f i ∧
   s.pre6 enc C.prog fn [] false (w.forCall tape i).memory i.args ∧ ({} : Assume).holds C.prog (lone (Frame.enter C.prog f i.args .normal) [] (w.forCall tape i)))
  (hl : laidOutB C.prog = true) {ts : List TypeId} (hts : fn.params.toList = ts) (hread : ∀ t ∈ ts, C.prog.readableRec t = true ∧ t < C.prog.types.size) {tb : TypeId} (hres : fn.resultTypes = #[tb]) (htb : C.prog.underlying tb = some .bool)
  (hvars : s.vars = []) (hspec : ∀ (H : Type) (ds : List (DataW H)), ds.length = ts.length → s.fn H ds = { results := [.lit (.bool true)], args := ds })
  {n : Nat} {ps : List (Bool × List WC)} (hps : paramsB C.prog n ts ps = true)
  (hcall : ∀ (W : World) (vals : List Value), PFits W ps vals → Calls C.prog f vals.toArray W fun e W' => e = .returned (.bool true) ∧ Below W.heap.size W W') :
  ReturnsInHanded {} C os f .any (s.pre6 enc C.prog fn [] false) (s.post enc C.prog fn false true false false) := by
 refine returnsInHanded_of_change own started noInit hf witness ?_
 intro W base args ds gs before hval hW _ _
 have hW' := hW
 obtain ⟨p, q, hA, hV, hbefore, hfz, hnd⟩ := hW
 rw [hts] at hA
 rw [hvars] at hV
 obtain ⟨rfl, rfl⟩ := trodVars_none hV
 have hfit : PFits W ps args.toList := params_fit hps (fun j t v ht hv => hval j t v (by rw [← Array.getElem?_toList, hts]; exact ht) (by rw [← Array.getElem?_toList]; exact hv)) hA
 have hc := hcall W args.toList hfit
 refine hc.mono fun e W' ⟨he, hb⟩ => ⟨.bool true, he, ?_⟩
 have hlen := trod_len hA
 have hsp := hspec H (ds ++ []) (by simpa using hlen)
 have hlt : ∀ x ∈ p, x.block < W.heap.size := fun x hx => hW'.lt x (by rw [hbefore]; simp [hx])
 refine post_below (pa := p) (pv := []) hW' ?_ ?_ ?_ (by rw [hbefore]) hb ?_
 ·intro b sp hd
  rw [hsp, hres]
  exact trodAll_cons_mk (p := []) (p' := []) (shut_bool htb true) rfl
 ·intro sp hsp'
  rw [hsp, hts]
  simp only [List.append_nil]
  exact args_stay hl hb hread hA hlt sp (fun x hx => hsp' x (by rw [hbefore]; simp [hx]))
 ·intro sp _
  rw [hsp, hvars]
  rfl
 ·exact ok_one hres rfl (okWide_bool_mk htb true)
end Go.Sy
