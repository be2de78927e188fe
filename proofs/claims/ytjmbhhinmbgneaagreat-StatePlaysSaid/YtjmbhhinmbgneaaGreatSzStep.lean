/- The evaluator. -/
import Derived.Test.YtjmbhhinmbgneaaGreatSzEq
namespace Go.Sy
open Go.RowKit (Below)
def FnOk (P : Program) (f : FuncId) : Prop := ∃ fn, P.funcs[f]? = some fn ∧ (fn.name == "runtime.NumGoroutine") = false ∧ fn.body.isNone = false
def RelPs (J : Inj) : List PV → List Value → Prop
 | [], [] => True
 | l :: ls, v :: vs => RelP J l v ∧ RelPs J ls vs
 | _, _ => False
theorem RelPs.length {J : Inj} : ∀ {ls : List PV} {vs : List Value}, RelPs J ls vs → ls.length = vs.length
 | [], [], _ => rfl
 | _ :: _, _ :: _, ⟨_, b⟩ => by simp [RelPs.length b]
theorem RelPs.append {J : Inj} : ∀ {a : List PV} {x : List Value} {b : List PV} {y : List Value}, RelPs J a x → RelPs J b y → RelPs J (a ++ b) (x ++ y)
 | [], [], _, _, _, h => h
 | _ :: _, _ :: _, _, _, ⟨h, k⟩, h' => ⟨h, RelPs.append k h'⟩
theorem RelPs.mono {J J' : Inj} (hj : Inj.le J J') : ∀ {ls : List PV} {vs : List Value}, RelPs J ls vs → RelPs J' ls vs
 | [], [], _ => trivial
 | _ :: _, _ :: _, ⟨a, b⟩ => ⟨a.mono hj, RelPs.mono hj b⟩
structure Ext (J J' : Inj) (n : Nat) (w : World) : Prop where
 le : J.le J'
 old : ∀ b, b < n → J' b = J b
 new : ∀ b bb, n ≤ b → J' b = some bb → w.heap.size ≤ bb.B
theorem Ext.refl {J : Inj} {base : Nat} {mem : List PBlk} {w : World} (h : RelM base J mem w) : Ext J J mem.length w :=
 ⟨fun _ _ h => h, fun _ _ => rfl, fun b bb hb hJ => by have := h.lt hJ; omega⟩
def FOpar (o : FO) : Prop := ∀ (β : Type) (args : List PV) (mem : List PBlk) (k : PV → List PBlk → Option β) (x : β), o β args mem k = some x →
 ∃ pv new, ∀ (γ : Type) (k' : PV → List PBlk → Option γ), o γ args mem k' = k' pv (mem ++ new)
def FOok (P : Program) (f : FuncId) (o : FO) : Prop := FOpar o ∧
 ∀ (β : Type) (args : List PV) (mem : List PBlk) (k : PV → List PBlk → Option β) (x : β), o β args mem k = some x →
  ∀ (base : Nat) (J : Inj) (w : World) (vals : List Value), RelPs J args vals → RelM base J mem w → base ≤ w.heap.size →
   (FnOk P f ∧ Calls P f vals.toArray w fun e w' => ∃ v, e = .returned v ∧ Below w.heap.size w w' ∧
    ∃ pv new J', k pv (mem ++ new) = some x ∧ Ext J J' mem.length w ∧ RelP J' pv v ∧ RelM base J' (mem ++ new) w') ∨
   (∃ v, (callFunc f vals.toArray).run P w = .ok (.value v) w ∧ ∃ pv, k pv mem = some x ∧ RelP J pv v)
structure EnvT (P : Program) (E : Env) : Prop where
 ti : ∀ t, TIok P t (E.ti t)
 fns : ∀ f o, lookFO f E.fns = some o → FOok P f o
 eqs : ∀ t ks, lookN t E.eqs = some ks → EqTy P t ks
def Done (P : Program) (ρ : Operand → Value) (o : Oper) (w : World) (R : Value → World → Prop) : Prop :=
 (∃ v w', (execOp ρ o).run P w = .ok (.value v) w' ∧ R v w') ∨
 (∃ w', (execOp ρ o).run P w = .ok .skip w' ∧ R undef w') ∨
 (∃ f args, (execOp ρ o).run P w = .ok (.enter f args) w ∧ Calls P f args w fun e w' => ∃ v, e = .returned v ∧ R v w')
theorem Done.wp {P : Program} {a : Act} {o : Oper} {w : World} {R : Value → World → Prop} {next : Act → World → Prop} {Q : Exit → Act → World → Prop}
  (h : Done P a.eval o w R) (hn : ∀ v w', R v w' → next (a.put o.dst v) w') : o.wp P a w next Q := by
 unfold Oper.wp
 rcases h with ⟨v, w', hr, hR⟩ | ⟨w', hr, hR⟩ | ⟨f, args, hr, hc⟩
 ·rw [hr]; exact hn _ _ hR
 ·rw [hr]; exact hn _ _ hR
 ·rw [hr]
  exact hc.mono fun e w' ⟨v, he, hR⟩ => by subst he; exact hn _ _ hR
theorem Done.value {P : Program} {ρ : Operand → Value} {o : Oper} {w w' : World} {R : Value → World → Prop} {v : Value}
  (hr : (execOp ρ o).run P w = .ok (.value v) w') (hR : R v w') : Done P ρ o w R := .inl ⟨v, w', hr, hR⟩
def Goes {β : Type} (K : PV → St → Option β) (x : β) (s : St) (base : Nat) (J : Inj) (w : World) (R : Value → World → Prop) : Prop :=
 ∀ v pv new J' w', K pv { s with mem := s.mem ++ new } = some x → Ext J J' s.mem.length w → RelM base J' (s.mem ++ new) w' → Below w.heap.size w w' → RelP J' pv v → R v w'
section
variable {β : Type} {P : Program} {K : PV → St → Option β} {x : β} {s : St} {base : Nat} {J : Inj} {w : World} {R : Value → World → Prop} {o : Oper} {ρ : Operand → Value}
theorem Goes.same (h : Goes K x s base J w R) (hm : RelM base J s.mem w) {pv : PV} {v : Value} (hk : K pv s = some x) (hv : RelP J pv v) : R v w :=
 h v pv [] J w (by simpa using hk) (Ext.refl hm) (by simpa using hm) (Below.refl _ _) hv
theorem Goes.done (h : Goes K x s base J w R) (hm : RelM base J s.mem w) {pv : PV} {v : Value} (hr : (execOp ρ o).run P w = .ok (.value v) w) (hk : K pv s = some x) (hv : RelP J pv v) : Done P ρ o w R :=
 .value hr (h.same hm hk hv)
theorem Goes.alloc (h : Goes K x s base J w R) (hm : RelM base J s.mem w) (hb : base ≤ w.heap.size) {ls : List LV} {cs : Array Value} (hrel : RelL J ls cs.toList) (t : TypeId) {pv : PV} {v : Value}
  (hr : (execOp ρ o).run P w = .ok (.value v) (w.alloc (.cells cs t))) (hk : K pv { s with mem := s.mem ++ [⟨true, false, ls⟩] } = some x)
  (hv : RelP (J.add s.mem.length ⟨w.heap.size, 0, ls.length, 1, 1⟩) pv v) : Done P ρ o w R := by
 have hJ : J s.mem.length = none := by
  cases hq : J s.mem.length with
  | none => rfl
  | some bb => exact absurd (hm.lt hq) (by omega)
 refine .value hr (h v pv _ _ _ hk ⟨Inj.le_add hJ, fun b hb => ?_, fun b bb hb hJ' => ?_⟩ (hm.alloc hb hrel t) ((Below.refl _ _).alloc (Nat.le_refl _) _) hv)
 ·unfold Inj.add
  rw [if_neg (by omega)]
 ·unfold Inj.add at hJ'
  split at hJ'
  ·cases hJ'; exact Nat.le_refl _
  ·have := hm.lt hJ'; omega
end
theorem rel_new {J : Inj} {n B len : Nat} : RelP (J.add n ⟨B, 0, len, 1, 1⟩) (.s (.p n 0 0 [])) (.pointer (some ⟨B, 0, none⟩)) := by
 have h := Rel.p (J := J.add n ⟨B, 0, len, 1, 1⟩) (blk := n) (row := 0) (off := 0) (sym := []) (bb := ⟨B, 0, len, 1, 1⟩) (by simp [Inj.add]) Nat.one_pos trivial
 simpa [symOff, RelP, Rel1] using h
def Evals (J : Inj) (s : St) (ρ : Operand → Value) (op : Op) : Prop := ∀ y ∈ op.operands, RelP J (s.eval y) (ρ y)
theorem relP_sc {J : Inj} {l : LV} {v : Value} (h : RelP J (.v (.sc l)) v) : Rel J l v := h
section ops
variable {β : Type} {P : Program} {E : Env} {hd : Hd β} {ctx : List Nat} {K : PV → St → Option β} {x : β} {s : St} {base : Nat} {J : Inj} {w : World} {R : Value → World → Prop} {o : Oper} {ρ : Operand → Value}
theorem ev {y : Operand} {pv : PV} (h : RelP J (s.eval y) (ρ y)) (e : s.eval y = pv) : RelP J pv (ρ y) := e ▸ h
theorem quiet_move {y : Operand} (ho : o.op = .move y) (hv : Evals J s ρ o.op) (hm : RelM base J s.mem w) (hG : Goes K x s base J w R)
  (h : exOp E hd ctx o.op s K = some x) : Done P ρ o w R := by
 rw [ho] at h hv
 exact hG.done (v := ρ y) hm (by simp [execOp, ho]) h (hv y (by simp [Op.operands]))
theorem quiet_assign {y : Operand} (ho : o.op = .assign y) (hv : Evals J s ρ o.op) (hm : RelM base J s.mem w) (hG : Goes K x s base J w R)
  (h : exOp E hd ctx o.op s K = some x) : Done P ρ o w R := by
 rw [ho] at h hv
 exact hG.done (v := ρ y) hm (by simp [execOp, ho]) h (hv y (by simp [Op.operands]))
theorem quiet_pick {c a b : Operand} (ho : o.op = .pick c a b) (hv : Evals J s ρ o.op) (hm : RelM base J s.mem w) (hG : Goes K x s base J w R)
  (h : exOp E hd ctx o.op s K = some x) : Done P ρ o w R := by
 rw [ho] at h hv
 have hc := hv c (by simp [Op.operands])
 have ha := hv a (by simp [Op.operands])
 have hb := hv b (by simp [Op.operands])
 simp only [exOp] at h
 split at h
 ·rename_i t he
  rw [he] at hc
  generalize hcv : ρ c = vc at hc
  cases hc
  cases t with
  | true => exact hG.done (v := ρ a) hm (by simp [execOp, ho, hcv, asBool]) h ha
  | false => exact hG.done (v := ρ b) hm (by simp [execOp, ho, hcv, asBool]) h hb
 ·cases h
theorem quiet_alloc {t : TypeId} (hT : EnvT P E) (ho : o.op = .alloc t) (hm : RelM base J s.mem w) (hb : base ≤ w.heap.size) (hG : Goes K x s base J w R)
  (h : exOp E hd ctx o.op s K = some x) : Done P ρ o w R := by
 rw [ho] at h
 simp only [exOp] at h
 obtain ⟨h1, h2⟩ := cond_some h
 simp only [Bool.and_eq_true, Bool.not_eq_true'] at h1
 obtain ⟨⟨i, hi, hsz, hz⟩, _⟩ := hT.ti t h1.1
 obtain ⟨z, hz1, hz2⟩ := hz (by intro e; rw [e] at h1; simp at h1)
 refine hG.alloc hm hb (hz2 J) t (v := .pointer (some ⟨w.heap.size, 0, none⟩)) ?_ h2 ?_
 ·simp [execOp, ho, Instr.alloc, run_zeroValue hi hz1, newVar, run_newRow]
 ·exact rel_new
theorem quiet_box {t : TypeId} {y : Operand} (ho : o.op = .box t y) (hv : Evals J s ρ o.op) (hm : RelM base J s.mem w) (hb : base ≤ w.heap.size) (hG : Goes K x s base J w R)
  (h : exOp E hd ctx o.op s K = some x) : Done P ρ o w R := by
 rw [ho] at h hv
 have hy := hv y (by simp [Op.operands])
 simp only [exOp] at h
 obtain ⟨v1, h1, h2⟩ := bind_some' h
 obtain ⟨ls, h3, h4⟩ := bind_some' h2
 cases he : s.eval y with
 | tup _ => rw [he] at h1; cases h1
 | v u =>
  rw [he] at h1 hy
  simp only [PV.one, Option.some.injEq] at h1
  subst h1
  refine hG.alloc hm hb (Rel1.cells hy h3) t (v := .pointer (some ⟨w.heap.size, 0, none⟩)) ?_ h4 ?_
  ·simp [execOp, ho, Instr.box, newVar, run_newRow]
  ·exact rel_new
theorem quiet_load {t : TypeId} {y : Operand} (hT : EnvT P E) (ho : o.op = .load t y) (hv : Evals J s ρ o.op) (hm : RelM base J s.mem w) (hG : Goes K x s base J w R)
  (h : exOp E hd ctx o.op s K = some x) : Done P ρ o w R := by
 rw [ho] at h hv
 have hy := hv y (by simp [Op.operands])
 simp only [exOp] at h
 split at h
 ·rename_i blk row off sym he
  rw [he] at hy
  obtain ⟨pb, hpb, h⟩ := bind_some' h
  obtain ⟨h1, h2⟩ := cond_some h
  simp only [Bool.and_eq_true] at h1
  have hle := nat_ble h1.2
  cases ha : (E.ti t).kind.agg with
  | true =>
   rw [ha] at h2
   simp only [cond_true] at h2
   obtain ⟨u, hu, hA, _⟩ := run_load_rel hm (hT.ti t) (relP_sc hy) hpb h1.1 hle (fun e => by rw [ha] at e; cases e)
   exact hG.done (v := u) hm (by simp [execOp, ho, hu]) h2 (hA ha)
  | false =>
   rw [ha] at h2
   simp only [cond_false] at h2
   obtain ⟨h3, h4⟩ := cond_some h2
   obtain ⟨u, hu, _, hA⟩ := run_load_rel hm (hT.ti t) (relP_sc hy) hpb h1.1 hle (fun _ => nat_beq h3)
   exact hG.done (pv := .s _) (v := u) hm (by simp [execOp, ho, hu]) h4 (hA ha)
 ·cases h
theorem quiet_nilCheck {y : Operand} (ho : o.op = .nilCheck y) (hv : Evals J s ρ o.op) (hm : RelM base J s.mem w) (hG : Goes K x s base J w R)
  (h : exOp E hd ctx o.op s K = some x) : Done P ρ o w R := by
 rw [ho] at h hv
 have hy := hv y (by simp [Op.operands])
 simp only [exOp] at h
 split at h
 ·rename_i b r q z he
  rw [he] at hy
  have hy' := relP_sc hy
  generalize hcv : ρ y = vc at hy'
  have hr : (execOp ρ o).run P w = .ok (.value vc) w := by
   cases hy'
   simp [execOp, ho, hcv]
  exact hG.done (pv := .s _) hm hr h hy'
 ·rename_i f c he
  rw [he] at hy
  have hy' := relP_sc hy
  generalize hcv : ρ y = vc at hy'
  have hr : (execOp ρ o).run P w = .ok (.value vc) w := by
   cases hy'
   simp [execOp, ho, hcv]
  exact hG.done (pv := .s _) hm hr h hy'
 ·cases h
theorem evalParts_rel : ∀ {ps : List (Nat × Operand)} {qs : List (Nat × List LV)}, evalParts s ps = some qs → (∀ p ∈ ps, RelP J (s.eval p.2) (ρ p.2)) →
  qs.length = ps.length ∧ ∀ (i : Nat) (a : Nat × List LV), qs[i]? = some a → ∃ p, ps[i]? = some p ∧ p.1 = a.1 ∧ RelL J a.2 (ρ p.2).cells.toList
 | [], qs, h, _ => by simp [evalParts] at h; subst h; simp
 | (j, y) :: r, qs, h, hv => by
  simp only [evalParts] at h
  obtain ⟨v, h1, h⟩ := bind_some' h
  obtain ⟨ls, h2, h⟩ := bind_some' h
  obtain ⟨q, h3, h4⟩ := Option.map_eq_some_iff.1 h
  subst h4
  obtain ⟨k1, k2⟩ := evalParts_rel h3 (fun p hp => hv p (List.mem_cons_of_mem _ hp))
  refine ⟨by simp [k1], fun i a ha => ?_⟩
  cases i with
  | zero =>
   simp at ha
   subst ha
   refine ⟨(j, y), rfl, rfl, ?_⟩
   have hy := hv (j, y) (by simp)
   cases he : s.eval y with
   | tup _ => rw [he] at h1; cases h1
   | v u =>
    rw [he] at h1 hy
    simp only [PV.one, Option.some.injEq] at h1
    subst h1
    exact Rel1.cells hy h2
  | succ i => simpa using k2 i a (by simpa using ha)
theorem foldl_set (off : Nat) : ∀ (vs : List Value) (k : Nat) (cs : Array Value),
  (((vs.zipIdx k).foldl (fun (cs : Array Value) (x : Value × Nat) => cs.setIfInBounds (off + x.2) x.1) cs).size = cs.size) ∧
  (∀ q, q < off + k → ((vs.zipIdx k).foldl (fun (cs : Array Value) (x : Value × Nat) => cs.setIfInBounds (off + x.2) x.1) cs)[q]? = cs[q]?) ∧
  (∀ q, off + k + vs.length ≤ q → ((vs.zipIdx k).foldl (fun (cs : Array Value) (x : Value × Nat) => cs.setIfInBounds (off + x.2) x.1) cs)[q]? = cs[q]?) ∧
  (off + k + vs.length ≤ cs.size → ∀ q, q < vs.length → ((vs.zipIdx k).foldl (fun (cs : Array Value) (x : Value × Nat) => cs.setIfInBounds (off + x.2) x.1) cs)[off + k + q]? = vs[q]?)
 | [], k, cs => ⟨rfl, fun _ _ => rfl, fun _ _ => rfl, fun _ q hq => by simp at hq⟩
 | v :: vs, k, cs => by
  obtain ⟨h1, h2, h3, h4⟩ := foldl_set off vs (k + 1) (cs.setIfInBounds (off + k) v)
  simp only [List.zipIdx_cons, List.foldl_cons, List.length_cons]
  refine ⟨by rw [h1]; simp, fun q hq => ?_, fun q hq => ?_, fun hle q hq => ?_⟩
  ·rw [h2 q (by omega), Array.getElem?_setIfInBounds_ne (by omega)]
  ·rw [h3 q (by omega), Array.getElem?_setIfInBounds_ne (by omega)]
  ·cases q with
   | zero =>
    rw [h2 _ (by omega)]
    simp only [Nat.add_zero, List.getElem?_cons_zero]
    exact Array.getElem?_setIfInBounds_self_of_lt (by omega)
   | succ q =>
    have := h4 (by simp; omega) q (by omega)
    rw [List.getElem?_cons_succ, ← this]
    congr 1
    omega
theorem fill_rel {place place' : Nat → Option (Nat × Nat)} : ∀ {ps : List (Nat × List LV)} {qs : List (Nat × Value)} {cells ls : List LV} {cs : Array Value},
  (∀ i x, place i = some x → place' i = some x) → RelL J cells cs.toList → ps.length = qs.length →
  (∀ (i : Nat) (a : Nat × List LV), ps[i]? = some a → ∃ p, qs[i]? = some p ∧ p.1 = a.1 ∧ RelL J a.2 p.2.cells.toList) →
  fillL place cells ps = some ls → ∃ cs', Instr.fill place' cs qs = some cs' ∧ RelL J ls cs'.toList
 | [], [], cells, ls, cs, _, hr, _, _, h => by simp [fillL] at h; subst h; exact ⟨cs, rfl, hr⟩
 | [], _ :: _, _, _, _, _, _, hl, _, _ => by simp at hl
 | _ :: _, [], _, _, _, _, _, hl, _, _ => by simp at hl
 | (i, l) :: ps, (j, v) :: qs, cells, ls, cs, hp, hr, hl, hq, h => by
  simp only [fillL] at h
  obtain ⟨⟨off, size⟩, h1, h⟩ := bind_some' h
  obtain ⟨h2, h3⟩ := cond_some h
  simp only [Bool.and_eq_true] at h2
  have hsz := nat_beq h2.1
  have hle := nat_ble h2.2
  obtain ⟨p, hp0, hp1, hp2⟩ := hq 0 (i, l) rfl
  simp at hp0
  subst hp0
  simp only at hp1 hp2
  subst hp1
  have hlen := hp2.length
  have hlc := hr.length
  have hvs : v.cells.size = size := by simpa [hsz] using hlen.symm
  have hcl : cells.length = cs.size := by simpa using hlc
  obtain ⟨f1, f2, f3, f4⟩ := foldl_set off v.cells.toList 0 cs
  have hr' : RelL J (cells.take off ++ l ++ cells.drop (off + size)) ((v.cells.toList.zipIdx 0).foldl (fun (cs : Array Value) (x : Value × Nat) => cs.setIfInBounds (off + x.2) x.1) cs).toList := by
   refine RelL.of ?_ fun q a b ha hb => ?_
   ·simp only [List.length_append, List.length_take, List.length_drop, Array.length_toList, f1]
    omega
   ·rw [Array.getElem?_toList] at hb
    simp only [Nat.add_zero, Array.length_toList] at f2 f3 f4
    by_cases hlt : q < off
    ·rw [f2 q hlt] at hb
     rw [List.append_assoc, List.getElem?_append_left (by simp; omega), List.getElem?_take_of_lt hlt] at ha
     obtain ⟨u, hu, hrel⟩ := hr.get _ _ ha
     rw [Array.getElem?_toList, hb] at hu
     cases hu
     exact hrel
    ·by_cases hin : q < off + v.cells.size
     ·obtain ⟨q', rfl⟩ : ∃ q', q = off + q' := ⟨q - off, by omega⟩
      rw [f4 (by omega) q' (by omega)] at hb
      rw [List.getElem?_append_left (by simp; omega), List.getElem?_append_right (by simp; omega)] at ha
      rw [show off + q' - (cells.take off).length = q' by simp; omega] at ha
      obtain ⟨u, hu, hrel⟩ := hp2.get _ _ ha
      rw [hb] at hu
      cases hu
      exact hrel
     ·rw [f3 q (by omega)] at hb
      rw [List.getElem?_append_right (by simp; omega), List.getElem?_drop] at ha
      rw [show off + size + (q - (cells.take off ++ l).length) = q by simp only [List.length_append, List.length_take]; omega] at ha
      obtain ⟨u, hu, hrel⟩ := hr.get _ _ ha
      rw [Array.getElem?_toList, hb] at hu
      cases hu
      exact hrel
  obtain ⟨cs', hf, hrel⟩ := fill_rel hp hr' (by simpa using hl) (fun k a ha => by simpa using hq (k + 1) a (by simpa using ha)) h3
  refine ⟨cs', ?_, hrel⟩
  simp only [Instr.fill, hp _ _ h1]
  rw [if_neg (by simp [hvs]; omega), ← Array.foldl_toList]
  rw [← hf]
  congr 1
  rw [Array.toList_zipIdx]
theorem mem_parts {ps : Array (Nat × Operand)} {p : Nat × Operand} (h : p ∈ ps.toList) : p.2 ∈ (ps.toList.map (·.2)).toArray := by
 simp only [List.mem_toArray, List.mem_map]
 exact ⟨p, h, rfl⟩
theorem run_mapM_list {α γ : Type} {g : α → Sem γ} {f : α → γ} : ∀ (l : List α), (∀ a ∈ l, (g a).run P w = .ok (f a) w) → (l.mapM g).run P w = .ok (l.map f) w
 | [], _ => by simp
 | a :: l, h => by
  have h1 := h a (by simp)
  have h2 := run_mapM_list l (fun b hb => h b (by simp [hb]))
  simp [List.mapM_cons, h1, h2]
theorem run_mapM_array {α γ : Type} {g : α → Sem γ} {f : α → γ} (l : Array α) (h : ∀ a ∈ l, (g a).run P w = .ok (f a) w) : (l.mapM g).run P w = .ok (l.map f) w := by
 rw [Array.mapM_eq_mapM_toList]
 have := run_mapM_list (P := P) (w := w) (g := g) (f := f) l.toList (fun a ha => h a (by simpa using ha))
 simp only [Sem.run_map, this, Result.andThen_ok]
 congr 1
 apply Array.ext'
 simp
theorem bnot_some {γ : Type} {c : Bool} {x : Option γ} {y : γ} (h : (bif c then none else x) = some y) : c = false ∧ x = some y := by
 cases c
 ·exact ⟨rfl, h⟩
 ·cases h
theorem quiet_build {t : TypeId} {ps : Array (Nat × Operand)} (hT : EnvT P E) (ho : o.op = .build t ps) (hv : Evals J s ρ o.op) (hm : RelM base J s.mem w) (hG : Goes K x s base J w R)
  (h : exOp E hd ctx o.op s K = some x) : Done P ρ o w R := by
 rw [ho] at h hv
 simp only [exOp] at h
 obtain ⟨hz0, h⟩ := bnot_some h
 obtain ⟨qs, h1, h⟩ := bind_some' h
 obtain ⟨k1, k2⟩ := evalParts_rel (J := J) (ρ := ρ) h1 (fun p hp => hv p.2 (mem_parts hp))
 have hlen : qs.length = (ps.map fun (i, x) => (i, ρ x)).toList.length := by simp [k1]
 have hparts : ∀ (i : Nat) (a : Nat × List LV), qs[i]? = some a → ∃ p, (ps.map fun (i, x) => (i, ρ x)).toList[i]? = some p ∧ p.1 = a.1 ∧ RelL J a.2 p.2.cells.toList := by
  intro i a ha
  obtain ⟨p, hp, e1, e2⟩ := k2 i a ha
  exact ⟨(p.1, ρ p.2), by simp [Array.toList_map, hp], e1, e2⟩
 have hzn : (E.ti t).zero ≠ [] := by intro e; rw [e] at hz0; simp at hz0
 split at h
 ·rename_i fs hk
  obtain ⟨ls, h2, h3⟩ := bind_some' h
  have hkn : (E.ti t).kind.known = true := by rw [hk]; rfl
  obtain ⟨⟨i, hi, hsz, hz⟩, hK⟩ := hT.ti t hkn
  rw [hk] at hK
  obtain ⟨fields, hu, hfn, hfs⟩ := hK
  obtain ⟨z, hz1, hz2⟩ := hz hzn
  let size : TypeId → Nat := fun u => P.cellsOf u
  have hsize : ∀ f ∈ fields, (sizeOf f.type).run P w = .ok (size f.type) w := by
   intro f hf
   obtain ⟨j, hj⟩ := Array.mem_iff_getElem?.1 hf
   have hjl : j < fs.length := by
    have := (Array.getElem?_eq_some_iff.1 hj).1
    omega
   obtain ⟨f', hf', _, ⟨⟨i', hi', _⟩, _⟩⟩ := hfs j fs[j] (by simp [hjl])
   rw [hj] at hf'
   cases hf'
   simp [run_sizeOf hi', size, Program.cellsOf, hi']
  have hpl := run_mapM_array (P := P) (w := w) (g := fun (f : Field) => (do pure (f.offset, ← sizeOf f.type) : Sem (Nat × Nat))) (f := fun f => (f.offset, size f.type)) fields
   (fun f hf => by simp [hsize f hf])
  obtain ⟨cs', hf, hrel⟩ := fill_rel (place' := fun j => (fields.map fun f => (f.offset, size f.type))[j]?) (cs := z.cells) (qs := (ps.map fun (i, x) => (i, ρ x)).toList) (J := J) (fun j y hy => by
   obtain ⟨f0, e1, e2⟩ := Option.map_eq_some_iff.1 hy
   obtain ⟨f', hf', hoff, ⟨⟨i', hi', hsz'⟩, _⟩⟩ := hfs j f0 e1
   simp [hf', hoff, size, Program.cellsOf, hi', hsz', e2]) (hz2 J) hlen hparts h2
  refine hG.done (pv := .a ls) (v := .agg cs') hm ?_ h3 ⟨cs', rfl, hrel⟩
  simp only [execOp, ho, Instr.build, Sem.run_bind, run_zeroValue hi hz1, Result.andThen_ok, run_underlying hu, hpl, hf, Sem.run_pure]
 ·rename_i n esz agg hk
  obtain ⟨ls, h2, h3⟩ := bind_some' h
  have hkn : (E.ti t).kind.known = true := by rw [hk]; rfl
  obtain ⟨⟨i, hi, hsz, hz⟩, hK⟩ := hT.ti t hkn
  rw [hk] at hK
  obtain ⟨e, hu, ⟨⟨i', hi', hsz'⟩, _⟩⟩ := hK
  obtain ⟨z, hz1, hz2⟩ := hz hzn
  obtain ⟨cs', hf, hrel⟩ := fill_rel (place' := fun j => some (j * i'.size, i'.size)) (cs := z.cells) (qs := (ps.map fun (i, x) => (i, ρ x)).toList) (J := J) (fun j y hy => by rw [hsz']; exact hy) (hz2 J) hlen hparts h2
  refine hG.done (pv := .a ls) (v := .agg cs') hm ?_ h3 ⟨cs', rfl, hrel⟩
  simp only [execOp, ho, Instr.build, Sem.run_bind, run_zeroValue hi hz1, Result.andThen_ok, run_underlying hu, run_sizeOf hi', hf, Sem.run_pure]
 ·cases h
theorem zeros_rel {zero : List LV} {z : Array Value} (hz : RelL J zero z.toList) (hz0 : zero ≠ []) : ∀ (n : Nat),
  RelL J ((List.replicate n zero).flatten) ((Array.range (n * z.size)).map (z[· % z.size]!)).toList := by
 intro n
 have hl : zero.length = z.size := by simpa using hz.length
 have hpos : 0 < z.size := by
  rw [← hl]
  exact List.length_pos_iff.2 hz0
 refine RelL.of (by simp [hl]) fun i l v ha hb => ?_
 simp only [Array.toList_map, List.getElem?_map, Array.toList_range] at hb
 have hi : i < n * z.size := by
  have := (List.getElem?_eq_some_iff.1 ha).1
  simpa [hl] using this
 simp [hi] at hb
 have hmod : i % z.size < z.size := Nat.mod_lt _ hpos
 have hget : ∀ (n i : Nat), i < n * zero.length → ((List.replicate n zero).flatten)[i]? = zero[i % zero.length]? := by
  intro n
  induction n with
  | zero => intro i hi; simp at hi
  | succ n ih =>
   intro i hi
   rw [List.replicate_succ, List.flatten_cons]
   by_cases hlt : i < zero.length
   ·rw [List.getElem?_append_left hlt, Nat.mod_eq_of_lt hlt]
   ·rw [List.getElem?_append_right (by omega), ih (i - zero.length) (by rw [Nat.succ_mul] at hi; omega)]
    rw [Nat.mod_eq_sub_mod (a := i) (by omega)]
 rw [hget n i (by rw [hl]; exact hi), hl] at ha
 obtain ⟨u, hu, hrel⟩ := hz.get _ _ ha
 have : u = v := by
  rw [← hb]
  rw [Array.getElem?_toList] at hu
  simp [hmod] at hu
  simp [hmod, hu]
 subst this
 exact hrel
theorem quiet_buildSlice {t : TypeId} {n : Nat} {ps : Array (Nat × Operand)} (hT : EnvT P E) (ho : o.op = .buildSlice t n ps) (hv : Evals J s ρ o.op) (hm : RelM base J s.mem w) (hb : base ≤ w.heap.size)
  (hG : Goes K x s base J w R) (h : exOp E hd ctx o.op s K = some x) : Done P ρ o w R := by
 rw [ho] at h hv
 simp only [exOp] at h
 obtain ⟨qs, h1, h⟩ := bind_some' h
 obtain ⟨k1, k2⟩ := evalParts_rel (J := J) (ρ := ρ) h1 (fun p hp => hv p.2 (mem_parts hp))
 have hlen : qs.length = (ps.map fun (i, x) => (i, ρ x)).toList.length := by simp [k1]
 have hparts : ∀ (i : Nat) (a : Nat × List LV), qs[i]? = some a → ∃ p, (ps.map fun (i, x) => (i, ρ x)).toList[i]? = some p ∧ p.1 = a.1 ∧ RelL J a.2 p.2.cells.toList := by
  intro i a ha
  obtain ⟨p, hp, e1, e2⟩ := k2 i a ha
  exact ⟨(p.1, ρ p.2), by simp [Array.toList_map, hp], e1, e2⟩
 split at h
 ·rename_i esz bytes agg zero hk
  cases hz0 : Nat.beq n 0 with
  | true =>
   rw [hz0] at h
   simp only [cond_true] at h
   obtain ⟨h5, h6⟩ := cond_some h
   clear h
   obtain ⟨cols, _, h8⟩ := bind_some' h6
   simp only [Bool.and_eq_true] at h5
   have hn := nat_beq hz0
   subst hn
   have hps : ps.toList = [] := by
    have : qs = [] := by simpa using h5.1.1
    rw [this] at hlen
    have := hlen.symm
    simpa using this
   have hps' : ps = #[] := by apply Array.ext'; simpa using hps
   subst hps'
   have hkn : (E.ti t).kind.known = true := by rw [hk]; rfl
   obtain ⟨_, hK⟩ := hT.ti t hkn
   rw [hk] at hK
   obtain ⟨e, i, z, hu, ⟨⟨i', hi', hsz'⟩, _⟩, hi, _, hz1, hz2⟩ := hK
   refine .value (w' := w.alloc (.cells #[] e)) (v := .slice (some ⟨w.heap.size, 0, none⟩) 0 0) ?_ (hG _ _ [⟨true, true, cols⟩] J _ h8 ⟨fun _ _ h => h, fun _ _ => rfl, fun b bb hb hJ => absurd (hm.lt hJ) (by omega)⟩ ?_ ((Below.refl _ _).alloc (Nat.le_refl _) _) (Rel.slrZ _ _ _))
   ·simp [execOp, ho, Instr.buildSlice, run_underlying hu, run_sizeOf hi, Instr.fill, run_newRow]
    congr 2
    apply Array.ext'
    simp [Array.toList_range]
   ·exact hm.grow (fun _ _ h => h) (by show w.heap.size ≤ (w.heap.push _).size; simp) (fun k hk => by show (w.heap.push _)[k]? = _; simp [Array.getElem?_push]; omega) (fun _ _ _ h => h) (fun b bb hge h => absurd (hm.lt h) (by omega))
     (fun b b' bb bb' pb hge _ _ _ h _ _ => absurd (hm.lt h) (by omega))
  | false =>
  obtain ⟨hn0, h⟩ := bnot_some (cond_ff hz0 h)
  simp only [Bool.or_eq_false_iff, Bool.not_eq_false', Bool.and_eq_true] at hn0
  obtain ⟨ls, h2, h3⟩ := bind_some' h
  have hkn : (E.ti t).kind.known = true := by rw [hk]; rfl
  obtain ⟨_, hK⟩ := hT.ti t hkn
  rw [hk] at hK
  obtain ⟨e, i, z, hu, ⟨⟨i', hi', hsz'⟩, _⟩, hi, _, hz1, hz2⟩ := hK
  rw [hi] at hi'
  cases hi'
  have hzn : zero ≠ [] := by intro e; rw [e] at hn0; simp at hn0
  have hzl : zero.length = esz := nat_beq hn0.2.1.2
  have hzs : z.cells.size = esz := by have := (hz2 J).length; simp at this; omega
  have hpos : 0 < esz := by rw [← hzl]; exact List.length_pos_iff.2 hzn
  have hnpos : 0 < n := by
   rcases Nat.eq_zero_or_pos n with h | h
   ·subst h; simp at hn0
   ·exact h
  have hr0 := zeros_rel (hz2 J) hzn n
  obtain ⟨cs', hf, hrel⟩ := fill_rel (place' := fun j => some (j * i.size, i.size)) (cs := (Array.range (n * z.cells.size)).map (z.cells[· % z.cells.size]!)) (qs := (ps.map fun (i, x) => (i, ρ x)).toList) (J := J)
   (fun j y hy => by rw [hsz']; exact hy) hr0 hlen hparts h2
  refine hG.alloc hm hb hrel e (v := .slice (some ⟨w.heap.size, 0, none⟩) n n) ?_ h3 ?_
  ·have hle : ¬ n * i.size > 2 ^ 24 := by have := nat_ble hn0.2.2; rw [hsz']; omega
   have hne : ¬ n * i.size = 0 := by rw [hsz']; exact Nat.mul_ne_zero (by omega) (by omega)
   rw [hzs, ← hsz'] at hf
   simp only [execOp, ho, Instr.buildSlice, Sem.run_bind, run_underlying hu, Result.andThen_ok, run_sizeOf hi, Sem.run_ite, if_neg hle, if_neg hne, run_zeroValue hi hz1, Sem.run_pure, hzs, ← hsz', hf, run_newRow]
  ·have := Rel.slf (J := J.add s.mem.length ⟨w.heap.size, 0, ls.length, 1, 1⟩) (blk := s.mem.length) (off := 0) (esz := esz) (cnt := n) (frm := 0) (len := n) (cap := n) (bb := ⟨w.heap.size, 0, ls.length, 1, 1⟩)
    (by simp [Inj.add]) (by omega) Nat.one_pos (Nat.le_refl _) (by omega)
   simpa [RelP, Rel1] using this
 ·cases h
end ops
end Go.Sy
