/- The evaluator. -/
import Derived.Test.YtjmbhhinmbgneaaGreatSzStep
namespace Go.Sy
open Go.RowKit (Below)
section ops
variable {β : Type} {P : Program} {E : Env} {hd : Hd β} {ctx : List Nat} {K : PV → St → Option β} {x : β} {s : St} {base : Nat} {J : Inj} {w : World} {R : Value → World → Prop} {o : Oper} {ρ : Operand → Value}
theorem binI_rel {op : BinOp} {k k' : IntKind} {a b : Int} {KL : LV → Option β} (h : binI op k k' a b KL = some x) (t : TypeId) :
  ∃ l v, KL l = some x ∧ Rel J l v ∧ (binOp op t (.int k a) (.int k' b)).run P w = .ok v w := by
 cases op
 case shl =>
  simp only [binI] at h
  obtain ⟨h1, h2⟩ := bnot_some h
  have h1 := of_decide_eq_false h1
  exact ⟨_, _, h2, .i0 _ _, by simp [binOp, Op.shift, h1, shL]⟩
 case shr =>
  simp only [binI] at h
  obtain ⟨h1, h2⟩ := bnot_some h
  have h1 := of_decide_eq_false h1
  exact ⟨_, _, h2, .i0 _ _, by simp [binOp, Op.shift, h1, shR]⟩
 all_goals
  simp only [binI] at h
  obtain ⟨hk, h0⟩ := cond_some h
  clear h
  have hk := of_decide_eq_true hk
  subst hk
 case quo =>
  obtain ⟨h1, h2⟩ := bnot_some h0
  have h1 : ¬ b = 0 := by simpa using h1
  exact ⟨_, _, h2, .i0 _ _, by simp [binOp, Op.intDiv, h1]⟩
 case rem =>
  obtain ⟨h1, h2⟩ := bnot_some h0
  have h1 : ¬ b = 0 := by simpa using h1
  exact ⟨_, _, h2, .i0 _ _, by simp [binOp, Op.intDiv, h1]⟩
 all_goals first
  | exact ⟨_, _, h0, .i0 _ _, by simp [binOp, Op.intArith, Op.intBits, bitAnd, bitOr, bitXor, bitClr]⟩
  | exact ⟨_, _, h0, .b0 _, by simp [binOp, Op.intCmp]⟩
  | cases h0
theorem run_eqGuard_int (op : BinOp) (t : TypeId) (y z : Operand) (k : IntKind) (n : Int) (v : Value) : (eqGuard op t y z (.int k n) v).run P w = .ok () w := by
 rw [eqGuard_at_int]; rfl
theorem equalIn_bool {t : TypeId} (hu : P.underlying t = some .bool) (a b : Bool) (d : Nat) : (Op.equalIn (d + 1) t (.bool a) (.bool b)).run P w = .ok (a == b) w := by
 simp [Op.equalIn, run_underlying hu]
theorem equalIn_nilL {t e : TypeId} (hu : P.underlying t = some (.pointer e)) (b : Option Addr) (d : Nat) : (Op.equalIn (d + 1) t (.pointer none) (.pointer b)).run P w = .ok b.isNone w := by
 simp [Op.equalIn, run_underlying hu]
theorem equalIn_nilR {t e : TypeId} (hu : P.underlying t = some (.pointer e)) (a : Addr) (d : Nat) : (Op.equalIn (d + 1) t (.pointer (some a)) (.pointer none)).run P w = .ok false w := by
 simp [Op.equalIn, run_underlying hu]
theorem run_equal_bool {t : TypeId} (hu : P.underlying t = some .bool) (a b : Bool) : (Op.equal t (.bool a) (.bool b)).run P w = .ok (a == b) w :=
 equalIn_bool hu a b 9999
theorem run_equal_nilL {t e : TypeId} (hu : P.underlying t = some (.pointer e)) (b : Option Addr) : (Op.equal t (.pointer none) (.pointer b)).run P w = .ok b.isNone w :=
 equalIn_nilL hu b 9999
theorem run_equal_nilR {t e : TypeId} (hu : P.underlying t = some (.pointer e)) (a : Addr) : (Op.equal t (.pointer (some a)) (.pointer none)).run P w = .ok false w :=
 equalIn_nilR hu a 9999
theorem equalIn_slN {t e : TypeId} (hu : P.underlying t = some (.slice e)) (n m k l : Nat) (b : Option Addr) (d : Nat) : (Op.equalIn (d + 1) t (.slice none n m) (.slice b k l)).run P w = .ok b.isNone w := by
 simp [Op.equalIn, run_underlying hu]
theorem equalIn_slS {t e : TypeId} (hu : P.underlying t = some (.slice e)) (a : Addr) (n m k l : Nat) (d : Nat) : (Op.equalIn (d + 1) t (.slice (some a) n m) (.slice none k l)).run P w = .ok false w := by
 simp [Op.equalIn, run_underlying hu]
theorem run_equal_slN {t e : TypeId} (hu : P.underlying t = some (.slice e)) (n m k l : Nat) (b : Option Addr) : (Op.equal t (.slice none n m) (.slice b k l)).run P w = .ok b.isNone w :=
 equalIn_slN hu n m k l b 9999
theorem run_equal_slS {t e : TypeId} (hu : P.underlying t = some (.slice e)) (a : Addr) (n m k l : Nat) : (Op.equal t (.slice (some a) n m) (.slice none k l)).run P w = .ok false w :=
 equalIn_slS hu a n m k l 9999
theorem nilOr_some {n : Nat} {a b : Option β} (h : nilOr n a b = some x) : a = some x ∧ (n = 0 → b = some x) := by
 unfold nilOr at h
 cases hn : Nat.blt 0 n with
 | true =>
  rw [hn] at h
  refine ⟨h, fun h0 => ?_⟩
  subst h0
  cases hn
 | false =>
  rw [hn] at h
  obtain ⟨h1, h2⟩ := agree_some h
  exact ⟨h2, fun _ => h1⟩
theorem quiet_binOp {op : BinOp} {t t' : TypeId} {y z : Operand} (hT : EnvT P E) (ho : o.op = .binOp op t y z t') (hv : Evals J s ρ o.op) (hm : RelM base J s.mem w) (hG : Goes K x s base J w R)
  (h : exOp E hd ctx o.op s K = some x) : Done P ρ o w R := by
 rw [ho] at h hv
 have hy := hv y (by simp [Op.operands])
 have hz := hv z (by simp [Op.operands])
 simp only [exOp] at h
 split at h
 ·rename_i k a k' b e1 e2
  rw [e1] at hy
  rw [e2] at hz
  generalize hcy : ρ y = vy at hy
  generalize hcz : ρ z = vz at hz
  cases hy
  cases hz
  obtain ⟨l, v, h1, h2, h3⟩ := binI_rel (J := J) (P := P) (w := w) h t
  exact hG.done (pv := .s l) (v := v) hm (by simp [execOp, ho, hcy, hcz, eqGuard_at_int, h3]) h1 h2
 ·rename_i a b e1 e2
  rw [e1] at hy
  rw [e2] at hz
  generalize hcy : ρ y = vy at hy
  generalize hcz : ρ z = vz at hz
  cases hy
  cases hz
  split at h
  ·rename_i hk
   have hK := (hT.ti t (by rw [hk]; rfl)).2
   rw [hk] at hK
   exact hG.done (pv := .s _) (v := .bool (a == b)) hm (by simp [execOp, ho, hcy, hcz, eqGuard_at_bool, binOp, run_equal_bool hK]) h (.b0 _)
  ·rename_i hk
   have hK := (hT.ti t (by rw [hk]; rfl)).2
   rw [hk] at hK
   exact hG.done (pv := .s _) (v := .bool (!(a == b))) hm (by simp [execOp, ho, hcy, hcz, eqGuard_at_bool, binOp, run_equal_bool hK]) h (.b0 _)
  ·cases h
 ·rename_i e1 e2
  rw [e1] at hy
  rw [e2] at hz
  generalize hcy : ρ y = vy at hy
  generalize hcz : ρ z = vz at hz
  cases hy
  cases hz
  split at h
  ·rename_i hk
   obtain ⟨e, hK⟩ := (by have hK := (hT.ti t (by rw [hk]; rfl)).2; rw [hk] at hK; exact hK : ∃ e, P.underlying t = some (.pointer e))
   exact hG.done (pv := .s _) (v := .bool true) hm (by simp [execOp, ho, hcy, hcz, eqGuard_at_pointer, binOp, run_equal_nilL hK]) h (.b0 _)
  ·rename_i hk
   obtain ⟨e, hK⟩ := (by have hK := (hT.ti t (by rw [hk]; rfl)).2; rw [hk] at hK; exact hK : ∃ e, P.underlying t = some (.pointer e))
   exact hG.done (pv := .s _) (v := .bool false) hm (by simp [execOp, ho, hcy, hcz, eqGuard_at_pointer, binOp, run_equal_nilL hK]) h (.b0 _)
  ·cases h
 ·rename_i e1 e2
  rw [e1] at hy
  rw [e2] at hz
  generalize hcy : ρ y = vy at hy
  generalize hcz : ρ z = vz at hz
  cases hy
  cases hz
  split at h
  ·rename_i hk
   obtain ⟨e, hK⟩ := (by have hK := (hT.ti t (by rw [hk]; rfl)).2; rw [hk] at hK; exact hK : ∃ e, P.underlying t = some (.pointer e))
   exact hG.done (pv := .s _) (v := .bool false) hm (by simp [execOp, ho, hcy, hcz, eqGuard_at_pointer, binOp, run_equal_nilR hK]) h (.b0 _)
  ·rename_i hk
   obtain ⟨e, hK⟩ := (by have hK := (hT.ti t (by rw [hk]; rfl)).2; rw [hk] at hK; exact hK : ∃ e, P.underlying t = some (.pointer e))
   exact hG.done (pv := .s _) (v := .bool true) hm (by simp [execOp, ho, hcy, hcz, eqGuard_at_pointer, binOp, run_equal_nilR hK]) h (.b0 _)
  ·cases h
 ·rename_i e1 e2
  rw [e1] at hy
  rw [e2] at hz
  generalize hcy : ρ y = vy at hy
  generalize hcz : ρ z = vz at hz
  cases hy
  cases hz
  split at h
  ·rename_i hk
   have hK := (hT.ti t (by rw [hk]; rfl)).2
   rw [hk] at hK
   obtain ⟨e, _, _, hu, _⟩ := hK
   exact hG.done (pv := .s _) (v := .bool true) hm (by simp [execOp, ho, hcy, hcz, eqGuard_at_slice, binOp, run_equal_slN hu]) h (.b0 _)
  ·rename_i hk
   have hK := (hT.ti t (by rw [hk]; rfl)).2
   rw [hk] at hK
   obtain ⟨e, _, _, hu, _⟩ := hK
   exact hG.done (pv := .s _) (v := .bool false) hm (by simp [execOp, ho, hcy, hcz, eqGuard_at_slice, binOp, run_equal_slN hu]) h (.b0 _)
  ·cases h
 ·rename_i e1 e2
  rw [e1] at hy
  rw [e2] at hz
  generalize hcy : ρ y = vy at hy
  generalize hcz : ρ z = vz at hz
  cases hz
  split at h
  ·rename_i hk
   have hK := (hT.ti t (by rw [hk]; rfl)).2
   rw [hk] at hK
   obtain ⟨e, _, _, hu, _⟩ := hK
   obtain ⟨h1, h2⟩ := nilOr_some h
   cases hy with
   | slrN => exact hG.done (pv := .s _) (v := .bool true) hm (by simp [execOp, ho, hcy, hcz, eqGuard_at_slice, binOp, run_equal_slN hu]) (h2 rfl) (.b0 _)
   | slrZ => exact hG.done (pv := .s _) (v := .bool false) hm (by simp [execOp, ho, hcy, hcz, eqGuard_at_slice, binOp, run_equal_slS hu]) h1 (.b0 _)
   | slr => exact hG.done (pv := .s _) (v := .bool false) hm (by simp [execOp, ho, hcy, hcz, eqGuard_at_slice, binOp, run_equal_slS hu]) h1 (.b0 _)
  ·rename_i hk
   have hK := (hT.ti t (by rw [hk]; rfl)).2
   rw [hk] at hK
   obtain ⟨e, _, _, hu, _⟩ := hK
   obtain ⟨h1, h2⟩ := nilOr_some h
   cases hy with
   | slrN => exact hG.done (pv := .s _) (v := .bool false) hm (by simp [execOp, ho, hcy, hcz, eqGuard_at_slice, binOp, run_equal_slN hu]) (h2 rfl) (.b0 _)
   | slrZ => exact hG.done (pv := .s _) (v := .bool true) hm (by simp [execOp, ho, hcy, hcz, eqGuard_at_slice, binOp, run_equal_slS hu]) h1 (.b0 _)
   | slr => exact hG.done (pv := .s _) (v := .bool true) hm (by simp [execOp, ho, hcy, hcz, eqGuard_at_slice, binOp, run_equal_slS hu]) h1 (.b0 _)
  ·cases h
 ·rename_i ls ms e1 e2
  rw [e1] at hy
  rw [e2] at hz
  generalize hcy : ρ y = vy at hy
  generalize hcz : ρ z = vz at hz
  obtain ⟨cs, rfl, hc⟩ := hy
  obtain ⟨ds, rfl, hd⟩ := hz
  split at h
  ·rename_i ks hks
   obtain ⟨h1, h2⟩ := cond_some h
   obtain ⟨r, h3, h4⟩ := bind_some' h2
   simp only [Bool.and_eq_true] at h1
   have hrun := (hT.eqs t ks hks).2 w cs ds (fitE_fitV h1.1 hc) (fitE_fitV h1.2 hd)
   rw [eqLVs_eqVs h3 hc hd] at hrun
   exact hG.done (pv := .s _) (v := .bool r) hm (by simp [execOp, ho, hcy, hcz, run_eqGuard_agg (hT.eqs t ks hks).1, binOp, hrun]) h4 (.b0 _)
  ·rename_i ks hks
   obtain ⟨h1, h2⟩ := cond_some h
   obtain ⟨r, h3, h4⟩ := bind_some' h2
   simp only [Bool.and_eq_true] at h1
   have hrun := (hT.eqs t ks hks).2 w cs ds (fitE_fitV h1.1 hc) (fitE_fitV h1.2 hd)
   rw [eqLVs_eqVs h3 hc hd] at hrun
   exact hG.done (pv := .s _) (v := .bool (!r)) hm (by simp [execOp, ho, hcy, hcz, run_eqGuard_agg (hT.eqs t ks hks).1, binOp, hrun]) h4 (.b0 _)
  ·cases h
 ·cases h
theorem quiet_unOp {op : UnOp} {t : TypeId} {y : Operand} (ho : o.op = .unOp op t y) (hv : Evals J s ρ o.op) (hm : RelM base J s.mem w) (hG : Goes K x s base J w R)
  (h : exOp E hd ctx o.op s K = some x) : Done P ρ o w R := by
 rw [ho] at h hv
 have hy := hv y (by simp [Op.operands])
 simp only [exOp] at h
 split at h
 ·rename_i b e1
  rw [e1] at hy
  generalize hcy : ρ y = vy at hy
  cases hy
  exact hG.done (pv := .s _) (v := .bool (!b)) hm (by simp [execOp, ho, hcy, Op.unary]) h (.b0 _)
 ·rename_i k n e1
  rw [e1] at hy
  generalize hcy : ρ y = vy at hy
  cases hy
  exact hG.done (pv := .s _) (v := .int k (k.wrap (0 - n))) hm (by simp [execOp, ho, hcy, Op.unary, Op.intArith]) h (.i0 _ _)
 ·rename_i k n e1
  rw [e1] at hy
  generalize hcy : ρ y = vy at hy
  cases hy
  exact hG.done (pv := .s _) (v := .int k (bitXor k (if k.signed then -1 else k.max) n)) hm (by simp [execOp, ho, hcy, Op.unary, Op.intBits, bitXor]) h (.i0 _ _)
 ·cases h
theorem quiet_convert {t t' : TypeId} {y : Operand} (hT : EnvT P E) (ho : o.op = .convert t t' y) (hv : Evals J s ρ o.op) (hm : RelM base J s.mem w) (hG : Goes K x s base J w R)
  (h : exOp E hd ctx o.op s K = some x) : Done P ρ o w R := by
 rw [ho] at h hv
 have hy := hv y (by simp [Op.operands])
 simp only [exOp] at h
 split at h
 ·rename_i k k' n hk e1
  rw [e1] at hy
  generalize hcy : ρ y = vy at hy
  cases hy
  have hK := (hT.ti t' (by rw [hk]; rfl)).2
  rw [hk] at hK
  obtain ⟨h1, h2⟩ := cond_some h
  obtain ⟨d, hd'⟩ : ∃ d, P.underlying t = some d := by
   obtain ⟨d, hd, _⟩ := kind_agg (hT.ti t) h1
   exact ⟨d, hd⟩
  exact hG.done (pv := .s _) (v := .int k (k.wrap n)) hm (by simp [execOp, ho, hcy, convert, run_underlying hd', run_underlying hK, Conv.intToInt]) h2 (.i0 _ _)
 ·cases h
theorem evalCells_rel : ∀ {ys : List Operand} {cs : List LV}, evalCells s ys = some cs → (∀ y ∈ ys, RelP J (s.eval y) (ρ y)) → RelL J cs (ys.map ρ)
 | [], cs, h, _ => by simp [evalCells] at h; subst h; trivial
 | y :: r, cs, h, hv => by
  simp only [evalCells] at h
  have hy := hv y (by simp)
  split at h
  ·rename_i l e
   rw [e] at hy
   obtain ⟨q, h1, h2⟩ := Option.map_eq_some_iff.1 h
   subst h2
   exact ⟨hy, evalCells_rel h1 (fun z hz => hv z (List.mem_cons_of_mem _ hz))⟩
  ·cases h
theorem quiet_makeFunc {f : Fn} {first captured : Array Operand} (ho : o.op = .makeFunc f first captured) (hv : Evals J s ρ o.op) (hm : RelM base J s.mem w) (hG : Goes K x s base J w R)
  (h : exOp E hd ctx o.op s K = some x) : Done P ρ o w R := by
 rw [ho] at h hv
 simp only [exOp] at h
 split at h
 ·rename_i g
  obtain ⟨fs, h1, h2⟩ := bind_some' h
  obtain ⟨cs, h3, h4⟩ := bind_some' h2
  have hr1 := evalCells_rel (J := J) (ρ := ρ) h1 (fun y hy => hv y (by simp [Op.operands]; left; simpa using hy))
  have hr2 := evalCells_rel (J := J) (ρ := ρ) h3 (fun y hy => hv y (by simp [Op.operands]; right; simpa using hy))
  have hr := hr1.append hr2
  refine hG.done (pv := .s _) (v := .func (.func g) (first.map ρ) (captured.map ρ)) hm (by simp [execOp, ho, Instr.makeFunc]) h4 (Rel.fn ?_ ?_ ?_)
  ·have := hr1.length; simpa using this.symm
  ·have := hr1.length; have h5 := hr2.length; simp at this h5 ⊢; omega
  ·intro i l v hl hv'
   obtain ⟨u, hu, hrel⟩ := hr.get i l hl
   have : u = v := by
    rw [← Array.getElem?_toList, Array.toList_append, Array.toList_map, Array.toList_map, hu] at hv'
    exact Option.some.inj hv'
   exact this ▸ hrel
 ·cases h
theorem quiet_fieldAddr {t : TypeId} {y : Operand} {f : Nat} (hT : EnvT P E) (ho : o.op = .fieldAddr t y f) (hv : Evals J s ρ o.op) (hm : RelM base J s.mem w) (hG : Goes K x s base J w R)
  (h : exOp E hd ctx o.op s K = some x) : Done P ρ o w R := by
 rw [ho] at h hv
 have hy := hv y (by simp [Op.operands])
 simp only [exOp] at h
 split at h
 ·rename_i fs b row off sym hk e1
  rw [e1] at hy
  generalize hcy : ρ y = vy at hy
  split at h
  ·rename_i fo fsz ag hf
   obtain ⟨h1, h2⟩ := bnot_some h
   have hK := (hT.ti t (by rw [hk]; rfl)).2
   rw [hk] at hK
   obtain ⟨fields, hu, hfn, hfs⟩ := hK
   obtain ⟨fd, hfd, hoff, ⟨⟨i, hi, hsz⟩, _⟩⟩ := hfs f _ hf
   have hne : ¬ i.size = 0 := by
    rw [hsz]
    intro e
    simp only at e
    subst e
    cases h1
   cases hy with
   | p hJ hr hs =>
    rename_i bb
    refine hG.done (pv := .s _) (v := .pointer (some ⟨bb.B, bb.o + row * bb.esz + (off + fo) + symOff sym, none⟩)) hm ?_ h2 (Rel.p hJ hr hs)
    simp only [execOp, ho, hcy, Instr.fieldAt, Sem.run_bind, run_underlying hu, Result.andThen_ok, hfd, Instr.sureAddr, Sem.run_pure, fieldPlace, run_sizeOf hi, Sem.run_ite, if_neg hne, addr_add, hoff]
    rw [show bb.o + row * bb.esz + off + symOff sym + fo = bb.o + row * bb.esz + (off + fo) + symOff sym by omega]
  ·cases h
 ·cases h
theorem mkAgg_rel {P : Program} {w : World} {e : TypeId} {sz : Nat} {agg : Bool} (hs : SzOk P e sz agg) {cs : Array Value} {off : Nat} {ls : List LV} {v : V1} (hl : ls.length = sz)
  (h : mkAgg agg ls = some v) (hr : RelL J ls ((cs.toList.drop off).take sz)) : ∃ u, (part e cs off).run P w = .ok u w ∧ Rel1 J v u := by
 obtain ⟨⟨i, hi, hsz⟩, d, hd, hag⟩ := hs
 cases agg with
 | true =>
  simp [mkAgg] at h
  subst h
  refine ⟨.agg (cs.extract off (off + i.size)), ?_, _, rfl, ?_⟩
  ·simp [part, run_isAgg hd, hag, run_sizeOf hi]
  ·simpa [hsz, Array.toList_extract, List.extract_eq_take_drop] using hr
 | false =>
  simp only [mkAgg, cond_false] at h
  split at h
  ·rename_i l
   injection h with h
   subst h
   simp at hl
   subst hl
   cases hq : (cs.toList.drop off).take 1 with
   | nil => rw [hq] at hr; cases hr
   | cons u r =>
    rw [hq] at hr
    have hu : cs[off]? = some u := by
     have : ((cs.toList.drop off).take 1)[0]? = some u := by rw [hq]; rfl
     simpa [List.getElem?_take_of_lt, List.getElem?_drop] using this
    exact ⟨u, by simp [part, run_isAgg hd, hag, hu], hr.1⟩
  ·cases h
theorem quiet_field {t : TypeId} {y : Operand} {f : Nat} (hT : EnvT P E) (ho : o.op = .field t y f) (hv : Evals J s ρ o.op) (hm : RelM base J s.mem w) (hG : Goes K x s base J w R)
  (h : exOp E hd ctx o.op s K = some x) : Done P ρ o w R := by
 rw [ho] at h hv
 have hy := hv y (by simp [Op.operands])
 simp only [exOp] at h
 split at h
 ·rename_i fs ls hk e1
  rw [e1] at hy
  generalize hcy : ρ y = vy at hy
  split at h
  ·rename_i fo fsz ag hf
   obtain ⟨h1, h2⟩ := cond_some h
   have h1 := nat_ble h1
   obtain ⟨v, h3, h4⟩ := bind_some' h2
   have hK := (hT.ti t (by rw [hk]; rfl)).2
   rw [hk] at hK
   obtain ⟨fields, hu, hfn, hfs⟩ := hK
   obtain ⟨fd, hfd, hoff, hsz⟩ := hfs f _ hf
   obtain ⟨cs, rfl, hr⟩ := hy
   obtain ⟨u, hu', hrel⟩ := mkAgg_rel (w := w) hsz (by simp; omega) h3 ((hr.drop fo).take fsz)
   exact hG.done (pv := .v v) (v := u) hm (by simp [execOp, ho, hcy, Instr.field, run_underlying hu, hfd, asAgg, hoff, hu']) h4 hrel
  ·cases h
 ·cases h
theorem quiet_indexAddr {t : TypeId} {y z : Operand} (hT : EnvT P E) (ho : o.op = .indexAddr t y z) (hv : Evals J s ρ o.op) (hm : RelM base J s.mem w) (hG : Goes K x s base J w R)
  (h : exOp E hd ctx o.op s K = some x) : Done P ρ o w R := by
 rw [ho] at h hv
 have hy := hv y (by simp [Op.operands])
 have hz := hv z (by simp [Op.operands])
 simp only [exOp] at h
 split at h
 ·rename_i k i e2
  rw [e2] at hz
  generalize hcz : ρ z = vz at hz
  cases hz
  split at h
  ·rename_i esz bytes ag zero b frm len hk e1
   rw [e1] at hy
   generalize hcy : ρ y = vy at hy
   obtain ⟨pb, hpb, h⟩ := bind_some' h
   obtain ⟨h1, h⟩ := cond_some h
   obtain ⟨h2, h3⟩ := chk_some h
   have h1 := nat_beq h1
   simp only [Bool.and_eq_true, decide_eq_true_eq] at h2
   have hK := (hT.ti t (by rw [hk]; rfl)).2
   rw [hk] at hK
   obtain ⟨e, ii, zz, hu, ⟨⟨ie, hie, hsz⟩, _⟩, _⟩ := hK
   cases hy with
   | slrN => simp at h2; omega
   | slrZ => simp at h2; omega
   | slr hJ hn hc hmm =>
    rename_i cap bb
    obtain ⟨pb', hpb', hB⟩ := hm.blk b bb hJ
    rw [hpb] at hpb'
    cases hpb'
    refine hG.done (pv := .s _) (v := .pointer (some ⟨bb.B, bb.o + (i.toNat + frm) * bb.esz + 0 + symOff [], none⟩)) hm ?_ h3 (Rel.p hJ (by omega) trivial)
    simp only [execOp, ho, hcy, hcz, Instr.indexAt, asIntOf, Sem.run_bind, Sem.run_pure, Result.andThen_ok, run_underlying hu, Sem.run_ite, if_pos h2, run_sizeOf hie, addr_add, symOff, Nat.add_zero]
    rw [hsz, ← h1, ← hB.esz, Nat.add_comm i.toNat frm, Nat.add_mul, Nat.add_assoc]
  ·rename_i esz bytes ag zero b off ee c frm len hk e1
   rw [e1] at hy
   generalize hcy : ρ y = vy at hy
   obtain ⟨h1, h⟩ := cond_some h
   obtain ⟨h2, h3⟩ := chk_some h
   have h1 := nat_beq h1
   simp only [Bool.and_eq_true, decide_eq_true_eq] at h2
   have hK := (hT.ti t (by rw [hk]; rfl)).2
   rw [hk] at hK
   obtain ⟨e, ii, zz, hu, ⟨⟨ie, hie, hsz⟩, _⟩, _⟩ := hK
   cases hy with
   | slfZ => simp at h2; omega
   | slf hJ hn h0 hc hmm =>
    rename_i cap bb
    cases hp : zero.all plainL with
    | true =>
     rw [hp, cond_true] at h3
     refine hG.done (pv := .s _) (v := .pointer (some ⟨bb.B, bb.o + 0 * bb.esz + off + symOff [(i.toNat + frm, ee, c)], none⟩)) hm ?_ h3 (Rel.p hJ h0 ⟨by omega, trivial⟩)
     simp only [execOp, ho, hcy, hcz, Instr.indexAt, asIntOf, Sem.run_bind, Sem.run_pure, Result.andThen_ok, run_underlying hu, Sem.run_ite, if_pos h2, run_sizeOf hie, addr_add, symOff, Nat.add_zero, Nat.zero_mul]
     rw [hsz, ← h1, Nat.add_comm i.toNat frm, Nat.add_mul, Nat.add_assoc (bb.o + off)]
    | false =>
     rw [hp, cond_false] at h3
     obtain ⟨_, h3⟩ := splitN_some h3
     refine hG.done (pv := .s _) (v := .pointer (some ⟨bb.B, bb.o + 0 * bb.esz + (off + (i.toNat + frm) * ee) + symOff [], none⟩)) hm ?_ h3 (Rel.p hJ h0 trivial)
     simp only [execOp, ho, hcy, hcz, Instr.indexAt, asIntOf, Sem.run_bind, Sem.run_pure, Result.andThen_ok, run_underlying hu, Sem.run_ite, if_pos h2, run_sizeOf hie, addr_add, symOff, Nat.add_zero, Nat.zero_mul]
     rw [hsz, ← h1, Nat.add_comm i.toNat frm, Nat.add_mul, Nat.add_assoc bb.o off, ← Nat.add_assoc off, Nat.add_assoc bb.o (off + frm * ee)]
  ·rename_i n esz ag b row off sym hk e1
   rw [e1] at hy
   generalize hcy : ρ y = vy at hy
   obtain ⟨h2, h3⟩ := chk_some h
   simp only [Bool.and_eq_true, decide_eq_true_eq] at h2
   have hK := (hT.ti t (by rw [hk]; rfl)).2
   rw [hk] at hK
   obtain ⟨e, hu, ⟨⟨ie, hie, hsz⟩, _⟩⟩ := hK
   cases hy with
   | p hJ hr hs =>
    rename_i bb
    have hsym : ∀ (l : List (Nat × Nat × Nat)), symOk l → symOk (l ++ [(i.toNat, esz, n)]) ∧ symOff (l ++ [(i.toNat, esz, n)]) = symOff l + i.toNat * esz := by
     intro l
     induction l with
     | nil => intro _; exact ⟨⟨by omega, trivial⟩, by simp [symOff]⟩
     | cons a l ih =>
      obtain ⟨p, q, r⟩ := a
      intro hl
      obtain ⟨k1, k2⟩ := ih hl.2
      exact ⟨⟨hl.1, k1⟩, by simp only [List.cons_append, symOff, k2]; omega⟩
    obtain ⟨s1, s2⟩ := hsym sym hs
    cases hp : (E.ti t).zero.all plainL with
    | true =>
     rw [hp, cond_true] at h3
     refine hG.done (pv := .s _) (v := .pointer (some ⟨bb.B, bb.o + row * bb.esz + off + symOff (sym ++ [(i.toNat, esz, n)]), none⟩)) hm ?_ h3 (Rel.p hJ hr s1)
     simp only [execOp, ho, hcy, hcz, Instr.indexAt, asIntOf, Sem.run_bind, Sem.run_pure, Result.andThen_ok, run_underlying hu, Instr.sureAddr, Sem.run_ite, if_pos h2, run_sizeOf hie, addr_add, s2, hsz]
     rw [Nat.add_assoc (bb.o + row * bb.esz + off)]
    | false =>
     rw [hp, cond_false] at h3
     obtain ⟨_, h3⟩ := splitN_some h3
     refine hG.done (pv := .s _) (v := .pointer (some ⟨bb.B, bb.o + row * bb.esz + (off + i.toNat * esz) + symOff sym, none⟩)) hm ?_ h3 (Rel.p hJ hr hs)
     simp only [execOp, ho, hcy, hcz, Instr.indexAt, asIntOf, Sem.run_bind, Sem.run_pure, Result.andThen_ok, run_underlying hu, Instr.sureAddr, Sem.run_ite, if_pos h2, run_sizeOf hie, addr_add, hsz]
     have e : bb.o + row * bb.esz + off + symOff sym + i.toNat * esz = bb.o + row * bb.esz + (off + i.toNat * esz) + symOff sym := by omega
     rw [e]
  ·cases h
 ·cases h
theorem quiet_index {t : TypeId} {y z : Operand} (hT : EnvT P E) (ho : o.op = .index t y z) (hv : Evals J s ρ o.op) (hm : RelM base J s.mem w) (hG : Goes K x s base J w R)
  (h : exOp E hd ctx o.op s K = some x) : Done P ρ o w R := by
 rw [ho] at h hv
 have hy := hv y (by simp [Op.operands])
 have hz := hv z (by simp [Op.operands])
 simp only [exOp] at h
 split at h
 ·rename_i k i e2
  rw [e2] at hz
  generalize hcz : ρ z = vz at hz
  cases hz
  split at h
  ·rename_i n esz ag ls hk e1
   rw [e1] at hy
   generalize hcy : ρ y = vy at hy
   obtain ⟨h1, h⟩ := cond_some h
   obtain ⟨h2, h⟩ := chk_some h
   have h1 := nat_beq h1
   simp only [Bool.and_eq_true, decide_eq_true_eq] at h2
   have hK := (hT.ti t (by rw [hk]; rfl)).2
   rw [hk] at hK
   obtain ⟨e, hu, hsz⟩ := hK
   obtain ⟨cs, rfl, hr⟩ := hy
   have hin : i.toNat < n := by omega
   have hlc : ls.length = cs.size := by simpa using hr.length
   have hmul : i.toNat * esz + esz ≤ n * esz := by rw [← Nat.succ_mul]; exact Nat.mul_le_mul_right _ hin
   cases hp : (E.ti t).zero.all plainL with
   | true =>
    rw [hp, cond_true] at h
    obtain ⟨v, h3, h4⟩ := bind_some' h
    have hrel : RelL J ((List.range esz).map fun q => selLV ((List.range n).map fun j => ls.getD (j * esz + q) .unk) i.toNat) ((cs.toList.drop (i.toNat * esz)).take esz) := by
     refine RelL.of (by simp; omega) fun q l u ha hb => ?_
     have hq : q < esz := by
      have := (List.getElem?_eq_some_iff.1 ha).1
      simpa using this
     simp [hq] at ha
     rw [List.getElem?_take_of_lt hq, List.getElem?_drop] at hb
     subst ha
     have hlt : i.toNat * esz + q < ls.length := by omega
     refine selLV_rel (x := ls.getD (i.toNat * esz + q) .unk) (by simp [hin]) ?_
     obtain ⟨u', hu', hrel⟩ := hr.get (i.toNat * esz + q) ls[i.toNat * esz + q] (by simp [hlt])
     rw [hb] at hu'
     cases hu'
     simpa [List.getD, hlt] using hrel
    obtain ⟨u, hu', hrel'⟩ := mkAgg_rel (w := w) hsz (by simp) h3 hrel
    obtain ⟨⟨ie, hie, hszz⟩, _⟩ := hsz
    refine hG.done (pv := .v v) (v := u) hm ?_ h4 hrel'
    simp only [execOp, ho, hcy, hcz, Instr.index, asIntOf, Sem.run_bind, Sem.run_pure, Result.andThen_ok, run_underlying hu, Sem.run_ite, if_pos h2, run_sizeOf hie, hszz, hu']
   | false =>
    rw [hp, cond_false] at h
    obtain ⟨_, h⟩ := splitN_some h
    obtain ⟨v, h3, h4⟩ := bind_some' h
    have hrel : RelL J ((ls.drop (i.toNat * esz)).take esz) ((cs.toList.drop (i.toNat * esz)).take esz) := by
     refine RelL.of (by simp; omega) fun q l u ha hb => ?_
     have hq : q < esz := by
      have := (List.getElem?_eq_some_iff.1 ha).1
      simp at this
      omega
     rw [List.getElem?_take_of_lt hq, List.getElem?_drop] at ha hb
     obtain ⟨u', hu', hrel⟩ := hr.get (i.toNat * esz + q) l ha
     rw [hb] at hu'
     cases hu'
     exact hrel
    obtain ⟨u, hu', hrel'⟩ := mkAgg_rel (w := w) hsz (by simp; omega) h3 hrel
    obtain ⟨⟨ie, hie, hszz⟩, _⟩ := hsz
    refine hG.done (pv := .v v) (v := u) hm ?_ h4 hrel'
    simp only [execOp, ho, hcy, hcz, Instr.index, asIntOf, Sem.run_bind, Sem.run_pure, Result.andThen_ok, run_underlying hu, Sem.run_ite, if_pos h2, run_sizeOf hie, hszz, hu']
  ·rename_i b hk e1
   rw [e1] at hy
   generalize hcy : ρ y = vy at hy
   cases hy
   obtain ⟨h2, h3⟩ := chk_some h
   simp only [Bool.and_eq_true, decide_eq_true_eq] at h2
   have hK := (hT.ti t (by rw [hk]; rfl)).2
   rw [hk] at hK
   have hlt : i.toNat < b.size := by omega
   have hlt' : i.toNat < b.data.size := hlt
   refine hG.done (pv := .s _) (v := .int .u8 (b.data.toList.getD i.toNat 0).toNat) hm ?_ h3 (.i0 _ _)
   have hg : b[i.toNat]? = some (b.data.toList.getD i.toNat 0) := by
    have : b[i.toNat]? = b.data[i.toNat]? := by
     rw [getElem?_pos b i.toNat hlt, getElem?_pos b.data i.toNat hlt']
     rfl
    rw [this]
    simp only [List.getD, Array.getElem?_toList]
    rw [getElem?_pos b.data i.toNat hlt']
    rfl
   simp only [execOp, ho, hcy, hcz, Instr.index, asIntOf, Sem.run_bind, Sem.run_pure, Result.andThen_ok, run_underlying hK, if_pos h2.1, hg]
  ·cases h
 ·cases h
theorem quiet_extract {y : Operand} {i : Nat} (ho : o.op = .extract y i) (hv : Evals J s ρ o.op) (hm : RelM base J s.mem w) (hG : Goes K x s base J w R)
  (h : exOp E hd ctx o.op s K = some x) : Done P ρ o w R := by
 rw [ho] at h hv
 have hy := hv y (by simp [Op.operands])
 simp only [exOp] at h
 split at h
 ·rename_i vs e1
  rw [e1] at hy
  generalize hcy : ρ y = vy at hy
  obtain ⟨us, rfl, hr⟩ := hy
  split at h
  ·rename_i v hvi
   obtain ⟨u, hu, hrel⟩ := hr.get i v hvi
   rw [Array.getElem?_toList] at hu
   exact hG.done (pv := .v v) (v := u) hm (by simp [execOp, ho, hcy, Instr.extract, hu]) h hrel
  ·cases h
 ·cases h
end ops
end Go.Sy
