/- The evaluator. -/
import Derived.Test.YtjmbhhinmbgneaaGreatSzStep2
namespace Go.Sy
open Go.RowKit (Below)
section ops
variable {β : Type} {P : Program} {E : Env} {hd : Hd β} {ctx : List Nat} {K : PV → St → Option β} {x : β} {s : St} {base : Nat} {J : Inj} {w : World} {R : Value → World → Prop} {o : Oper} {ρ : Operand → Value}
theorem run_sliceBound {k : IntKind} {i : Int} {y : Nat} {c : BoundsCode} (h : 0 ≤ i ∧ i ≤ y) : (Instr.sliceBound (.int k i) y c).run P w = .ok i.toNat w := by
 simp only [Instr.sliceBound, asIntOf, Sem.run_bind, Sem.run_pure, Result.andThen_ok, Sem.run_ite, if_pos h]
theorem bounds_run {len : Nat} {lo hi : Option Operand} {KK : Nat → Nat → Option β} (h : bounds s len lo hi KK = some x)
  (hlo : ∀ y, lo = some y → RelP J (s.eval y) (ρ y)) (hhi : ∀ y, hi = some y → RelP J (s.eval y) (ρ y)) :
  ∃ l h, KK l h = some x ∧ l ≤ h ∧ h ≤ len ∧ ∀ (b : Bool) (cap : Nat), len ≤ cap → (Instr.sliceBounds b len cap (lo.map ρ) (hi.map ρ) none).run P w = .ok (l, h, cap) w := by
 unfold bounds at h
 split at h
 ·exact ⟨0, len, h, Nat.zero_le _, Nat.le_refl _, fun b cap hc => by simp [Instr.sliceBounds]⟩
 ·rename_i y
  split at h
  ·rename_i k i e
   have hy := hlo y rfl
   rw [e] at hy
   generalize hcy : ρ y = vy at hy
   cases hy
   obtain ⟨h1, h2⟩ := chk_some h
   simp only [Bool.and_eq_true, decide_eq_true_eq] at h1
   refine ⟨i.toNat, len, h2, by omega, Nat.le_refl _, fun b cap hc => ?_⟩
   simp only [Instr.sliceBounds, Option.map_some, Option.map_none, Sem.run_bind, Sem.run_pure, Result.andThen_ok, hcy]
   rw [run_sliceBound (by omega)]
   rfl
  ·cases h
 ·rename_i y
  split at h
  ·rename_i k i e
   have hy := hhi y rfl
   rw [e] at hy
   generalize hcy : ρ y = vy at hy
   cases hy
   obtain ⟨h1, h2⟩ := chk_some h
   simp only [Bool.and_eq_true, decide_eq_true_eq] at h1
   refine ⟨0, i.toNat, h2, by omega, by omega, fun b cap hc => ?_⟩
   simp only [Instr.sliceBounds, Option.map_some, Option.map_none, Sem.run_bind, Sem.run_pure, Result.andThen_ok, hcy]
   rw [run_sliceBound (by omega)]
   rfl
  ·cases h
 ·rename_i y z
  split at h
  ·rename_i k i k' j e1 e2
   have hy := hlo y rfl
   have hz := hhi z rfl
   rw [e1] at hy
   rw [e2] at hz
   generalize hcy : ρ y = vy at hy
   generalize hcz : ρ z = vz at hz
   cases hy
   cases hz
   obtain ⟨h1, h2⟩ := chk_some h
   simp only [Bool.and_eq_true, decide_eq_true_eq] at h1
   refine ⟨i.toNat, j.toNat, h2, by omega, by omega, fun b cap hc => ?_⟩
   simp only [Instr.sliceBounds, Option.map_some, Sem.run_bind, Sem.run_pure, Result.andThen_ok, hcy, hcz]
   rw [run_sliceBound (by omega)]
   simp only [Result.andThen_ok]
   rw [run_sliceBound (by omega)]
   rfl
  ·cases h
theorem rel_reslice {b frm len l h cap : Nat} {a : Option Addr} {esz : Nat} (hr : Rel J (.slr b frm len) (.slice a len cap)) (hl : l ≤ h) (hh : h ≤ len) (hesz : ∀ bb, J b = some bb → bb.esz = esz) :
  Rel J (.slr b (l + frm) (h - l)) (.slice (if cap = l then a else a.map (·.add (l * esz))) (h - l) (cap - l)) := by
 cases hr with
 | slrN =>
  obtain rfl : l = 0 := by omega
  obtain rfl : h = 0 := by omega
  exact .slrN _ _
 | slrZ _ _ A =>
  obtain rfl : l = 0 := by omega
  obtain rfl : h = 0 := by omega
  exact .slrZ _ _ _
 | slr hJ hn hc hm =>
  rename_i bb
  by_cases e : cap = l
  ·rw [if_pos e]
   obtain rfl : h = l := by omega
   subst e
   simp only [Nat.sub_self]
   exact .slrZ _ _ _
  ·rw [if_neg e]
   have he := hesz bb hJ
   simp only [Option.map_some, addr_add]
   rw [show bb.o + frm * bb.esz + l * esz = bb.o + (l + frm) * bb.esz by rw [he, Nat.add_comm l frm, Nat.add_mul, Nat.add_assoc]]
   exact .slr hJ (by omega) (by omega) (by omega)
theorem rel_reslicef {b off c frm len l h cap : Nat} {a : Option Addr} {esz : Nat} (hr : Rel J (.slf b off esz c frm len) (.slice a len cap)) (hl : l ≤ h) (hh : h ≤ len) :
  Rel J (.slf b off esz c (l + frm) (h - l)) (.slice (if cap = l then a else a.map (·.add (l * esz))) (h - l) (cap - l)) := by
 cases hr with
 | slfZ _ _ _ _ _ A =>
  obtain rfl : l = 0 := by omega
  obtain rfl : h = 0 := by omega
  exact .slfZ _ _ _ _ _ _
 | slf hJ hn h0 hc hm =>
  rename_i bb
  by_cases e : cap = l
  ·rw [if_pos e]
   obtain rfl : h = l := by omega
   subst e
   simp only [Nat.sub_self]
   exact .slfZ _ _ _ _ _ _
  ·rw [if_neg e]
   simp only [Option.map_some, addr_add]
   rw [show bb.o + off + frm * esz + l * esz = bb.o + off + (l + frm) * esz by rw [Nat.add_comm l frm, Nat.add_mul, Nat.add_assoc (bb.o + off)]]
   exact .slf hJ (by omega) h0 (by omega) (by omega)
theorem slr_shape {b frm len : Nat} {v : Value} (h : Rel J (.slr b frm len) v) : ∃ a cap, v = .slice a len cap ∧ len ≤ cap := by
 cases h with
 | slrN => exact ⟨_, _, rfl, Nat.le_refl _⟩
 | slrZ => exact ⟨_, _, rfl, Nat.le_refl _⟩
 | slr _ _ hc _ => exact ⟨_, _, rfl, hc⟩
theorem slf_shape {b off e c frm len : Nat} {v : Value} (h : Rel J (.slf b off e c frm len) v) : ∃ a cap, v = .slice a len cap ∧ len ≤ cap := by
 cases h with
 | slfZ => exact ⟨_, _, rfl, Nat.le_refl _⟩
 | slf _ _ _ hc _ => exact ⟨_, _, rfl, hc⟩
theorem rel_arrslice {b row off : Nat} {v : Value} (h : Rel J (.p b row off []) v) (h0 : row = 0) {n esz l h' : Nat} (hl : l ≤ h') (hh : h' ≤ n) :
  ∃ A, v = .pointer (some A) ∧ Rel J (.slf b off esz n l (h' - l)) (.slice (some (if n = l then A else A.add (l * esz))) (h' - l) (n - l)) := by
 cases h with
 | p hJ hr hs =>
  rename_i bb
  refine ⟨_, rfl, ?_⟩
  subst h0
  by_cases e : n = l
  ·rw [if_pos e]
   obtain rfl : h' = l := by omega
   subst e
   simp only [Nat.sub_self]
   exact .slfZ _ _ _ _ _ _
  ·rw [if_neg e]
   simp only [symOff, Nat.zero_mul, Nat.add_zero, addr_add]
   exact .slf hJ (by omega) hr (by omega) (by omega)
theorem quiet_slice {t : TypeId} {y : Operand} {lo hi mx : Option Operand} (hT : EnvT P E) (ho : o.op = .slice t y lo hi mx) (hv : Evals J s ρ o.op) (hm : RelM base J s.mem w) (hG : Goes K x s base J w R)
  (h : exOp E hd ctx o.op s K = some x) : Done P ρ o w R := by
 rw [ho] at h hv
 have hy := hv y (by simp [Op.operands])
 have hlo : ∀ z, lo = some z → RelP J (s.eval z) (ρ z) := fun z e => hv z (by simp [Op.operands, e])
 have hhi : ∀ z, hi = some z → RelP J (s.eval z) (ρ z) := fun z e => hv z (by simp [Op.operands, e])
 simp only [exOp] at h
 split at h
 ·cases h
 ·split at h
  ·rename_i esz bytes ag zero b frm len hk e1
   rw [e1] at hy
   generalize hcy : ρ y = vy at hy
   obtain ⟨pb, hpb, h⟩ := bind_some' h
   obtain ⟨h1, h⟩ := cond_some h
   have h1 := nat_beq h1
   obtain ⟨l, h', h2, h3, h4, h5⟩ := bounds_run (P := P) (w := w) (ρ := ρ) h hlo hhi
   have hK := (hT.ti t (by rw [hk]; rfl)).2
   rw [hk] at hK
   obtain ⟨e, ii, zz, hu, ⟨⟨ie, hie, hsz⟩, _⟩, _⟩ := hK
   obtain ⟨a, cap, rfl, hlc⟩ := slr_shape hy
   have hesz : ∀ bb, J b = some bb → bb.esz = esz := by
    intro bb hJ
    obtain ⟨pb', hpb', hB⟩ := hm.blk b bb hJ
    rw [hpb] at hpb'
    cases hpb'
    rw [hB.esz, h1]
   refine hG.done (pv := .s _) (v := _) hm ?_ h2 (rel_reslice hy h3 h4 hesz)
   simp only [execOp, ho, hcy, Instr.sliceAt, Sem.run_bind, run_underlying hu, Result.andThen_ok, Instr.slice, Option.map_none, h5 true cap hlc, run_sizeOf hie, Sem.run_pure, hsz]
  ·rename_i esz bytes ag zero b off ee c frm len hk e1
   rw [e1] at hy
   generalize hcy : ρ y = vy at hy
   obtain ⟨h1, h0⟩ := cond_some h
   clear h
   have h1 := nat_beq h1
   subst h1
   obtain ⟨l, h', h2, h3, h4, h5⟩ := bounds_run (P := P) (w := w) (ρ := ρ) h0 hlo hhi
   have hK := (hT.ti t (by rw [hk]; rfl)).2
   rw [hk] at hK
   obtain ⟨e, ii, zz, hu, ⟨⟨ie, hie, hsz⟩, _⟩, _⟩ := hK
   obtain ⟨a, cap, rfl, hlc⟩ := slf_shape hy
   refine hG.done (pv := .s _) (v := _) hm ?_ h2 (rel_reslicef hy h3 h4)
   simp only [execOp, ho, hcy, Instr.sliceAt, Sem.run_bind, run_underlying hu, Result.andThen_ok, Instr.slice, Option.map_none, h5 true cap hlc, run_sizeOf hie, Sem.run_pure, hsz]
  ·rename_i n esz ag b row off hk e1
   rw [e1] at hy
   generalize hcy : ρ y = vy at hy
   obtain ⟨h1, h⟩ := cond_some h
   simp only [Bool.and_eq_true] at h1
   have h1 := nat_beq h1.1
   obtain ⟨l, h', h2, h3, h4, h5⟩ := bounds_run (P := P) (w := w) (ρ := ρ) h hlo hhi
   have hK := (hT.ti t (by rw [hk]; rfl)).2
   rw [hk] at hK
   obtain ⟨e, hu, ⟨⟨ie, hie, hsz⟩, _⟩⟩ := hK
   obtain ⟨A, rfl, hrel⟩ := rel_arrslice (esz := esz) (n := n) hy h1 h3 h4
   refine hG.done (pv := .s _) (v := _) hm ?_ h2 hrel
   simp only [execOp, ho, hcy, Instr.sliceAt, Sem.run_bind, run_underlying hu, Result.andThen_ok, Instr.sureAddr, Option.map_none, h5 false n (Nat.le_refl _), run_sizeOf hie, Sem.run_pure, hsz]
  ·rename_i n esz b row off hk e1
   rw [e1] at hy
   generalize hcy : ρ y = vy at hy
   obtain ⟨h1, h⟩ := cond_some h
   simp only [Bool.and_eq_true] at h1
   have h1 := nat_beq h1.1
   obtain ⟨l, h', h2, h3, h4, h5⟩ := bounds_run (P := P) (w := w) (ρ := ρ) h hlo hhi
   have hK := (hT.ti t (by rw [hk]; rfl)).2
   rw [hk] at hK
   obtain ⟨arr, e, ag, hu, hua, ⟨⟨ie, hie, hsz⟩, _⟩⟩ := hK
   obtain ⟨A, rfl, hrel⟩ := rel_arrslice (esz := esz) (n := n) hy h1 h3 h4
   refine hG.done (pv := .s _) (v := _) hm ?_ h2 hrel
   simp only [execOp, ho, hcy, Instr.sliceAt, Sem.run_bind, run_underlying hu, Result.andThen_ok, Instr.slice, asAddr, run_underlying hua, Option.map_none, h5 false n (Nat.le_refl _), run_sizeOf hie, Sem.run_pure, hsz]
  ·cases h
theorem args1 {as : Array Operand} {y : Operand} (h : as.toList = [y]) : as = #[y] := by
 cases as; simp_all
theorem slLen_rel {l : LV} {n : Nat} {v : Value} (hl : slLen l = some n) (h : Rel J l v) : ∃ a cap, v = .slice a n cap := by
 cases l <;> simp [slLen] at hl
 ·subst hl; cases h; exact ⟨_, _, rfl⟩
 ·subst hl; obtain ⟨a, cap, rfl, _⟩ := slr_shape h; exact ⟨_, _, rfl⟩
 ·subst hl; obtain ⟨a, cap, rfl, _⟩ := slf_shape h; exact ⟨_, _, rfl⟩
theorem minMax_rel {mx : Bool} {ys : List Operand} {l : LV} (h : minMax mx (ys.map s.eval) = some l) (hv : ∀ y ∈ ys, RelP J (s.eval y) (ρ y)) :
  ∃ k a b r, ys.map ρ = [.int k a, .int k b] ∧ l = .i0 k r ∧ r = if mx then (if b > a then b else a) else (if b < a then b else a) := by
 match ys with
 | [] => simp [minMax] at h
 | [_] =>
  simp only [List.map_cons, List.map_nil] at h
  unfold minMax at h
  split at h
  ·rename_i e; simp at e
  ·cases h
 | [y, z] =>
  simp only [List.map_cons, List.map_nil] at h
  unfold minMax at h
  split at h
  ·rename_i k a k' b e
   simp only [List.cons.injEq, and_true] at e
   have hy := hv y (by simp)
   have hz := hv z (by simp)
   rw [e.1] at hy
   rw [e.2] at hz
   obtain ⟨hk, h2⟩ := cond_some h
   have hk := of_decide_eq_true hk
   subst hk
   generalize hcy : ρ y = vy at hy
   generalize hcz : ρ z = vz at hz
   cases hy
   cases hz
   injection h2 with h2
   refine ⟨k, a, b, _, by simp [hcy, hcz], h2.symm, ?_⟩
   cases mx <;> simp [Bool.cond_decide]
  ·cases h
 | _ :: _ :: _ :: _ =>
  simp only [List.map_cons] at h
  unfold minMax at h
  split at h
  ·rename_i e; simp at e
  ·cases h
theorem quiet_builtin {c : Call} {b : Builtin} (hT : EnvT P E) (hc : c.callee = .builtin b) (ho : o.op = .call c) (hv : Evals J s ρ o.op) (hm : RelM base J s.mem w) (hG : Goes K x s base J w R)
  (hb : b = .len ∨ b = .min ∨ b = .max)
  (h : exOp E hd ctx o.op s K = some x) : Done P ρ o w R := by
 rw [ho] at h hv
 have hv' : ∀ y ∈ c.args, RelP J (s.eval y) (ρ y) := fun y hy => hv y (by simp [Op.operands, Call.operands, hc]; exact hy)
 simp only [exOp] at h
 rcases hb with rfl | rfl | rfl
 ·rw [hc] at h
  simp only at h
  split at h
  ·rename_i y t ea et
   have ha := args1 ea
   have hy := hv' y (by rw [ha]; simp)
   have hat : c.argTypes = #[t] := by
    cases hq : c.argTypes with
    | mk l => rw [hq] at et; simp at et; rw [et]
   split at h
   ·rename_i e1 e2 bb ag zero l hk e3
    rw [e3] at hy
    generalize hcy : ρ y = vy at hy
    obtain ⟨n, h1, h2⟩ := bind_some' h
    have hK := (hT.ti t (by rw [hk]; rfl)).2
    rw [hk] at hK
    obtain ⟨e, ii, zz, hu, _⟩ := hK
    obtain ⟨a, cap, rfl⟩ := slLen_rel h1 hy
    exact hG.done (pv := .s _) (v := .int .i64 n) hm (by simp [execOp, ho, resolve, hc, ha, hat, hcy, invoke, builtin, Builtin.len_, run_underlying hu, goInt]) h2 (.i0 _ _)
   ·rename_i b hk e3
    rw [e3] at hy
    generalize hcy : ρ y = vy at hy
    cases hy
    have hK := (hT.ti t (by rw [hk]; rfl)).2
    rw [hk] at hK
    exact hG.done (pv := .s _) (v := .int .i64 b.size) hm (by simp [execOp, ho, resolve, hc, ha, hat, hcy, invoke, builtin, Builtin.len_, run_underlying hK, goInt]) h (.i0 _ _)
   ·rename_i n esz ag hk
    have hK := (hT.ti t (by rw [hk]; rfl)).2
    rw [hk] at hK
    obtain ⟨e, hu, _⟩ := hK
    exact hG.done (pv := .s _) (v := .int .i64 n) hm (by simp [execOp, ho, resolve, hc, ha, hat, invoke, builtin, Builtin.len_, run_underlying hu, goInt]) h (.i0 _ _)
   ·cases h
  ·cases h
 ·rw [hc] at h
  simp only at h
  obtain ⟨l, h1, h2⟩ := bind_some' h
  obtain ⟨k, a, b, r, e1, e2, e3⟩ := minMax_rel h1 (fun y hy => hv' y (by simpa using hy))
  have ha : c.args.map ρ = #[.int k a, .int k b] := by
   apply Array.ext'
   simpa using e1
  subst e2
  exact hG.done (pv := .s _) (v := .int k r) hm (by simp [execOp, ho, resolve, hc, ha, invoke, builtin, Builtin.min_, Builtin.min2, e3]) h2 (.i0 _ _)
 ·rw [hc] at h
  simp only at h
  obtain ⟨l, h1, h2⟩ := bind_some' h
  obtain ⟨k, a, b, r, e1, e2, e3⟩ := minMax_rel h1 (fun y hy => hv' y (by simpa using hy))
  have ha : c.args.map ρ = #[.int k a, .int k b] := by
   apply Array.ext'
   simpa using e1
  subst e2
  exact hG.done (pv := .s _) (v := .int k r) hm (by simp [execOp, ho, resolve, hc, ha, invoke, builtin, Builtin.max_, Builtin.max2, e3]) h2 (.i0 _ _)
theorem evals_rel : ∀ {ys : List Operand}, (∀ y ∈ ys, RelP J (s.eval y) (ρ y)) → RelPs J (ys.map s.eval) (ys.map ρ)
 | [], _ => trivial
 | y :: r, h => ⟨h y (by simp), evals_rel fun z hz => h z (List.mem_cons_of_mem _ hz)⟩
theorem relL_ps : ∀ {ls : List LV} {vs : List Value}, RelL J ls vs → RelPs J (ls.map PV.s) vs
 | [], [], _ => trivial
 | _ :: _, _ :: _, ⟨a, b⟩ => ⟨a, relL_ps b⟩
theorem run_callFunc {f : FuncId} (hf : FnOk P f) (args : Array Value) : (callFunc f args).run P w = .ok (.enter f args) w := by
 obtain ⟨fn, h1, h2, h3⟩ := hf
 simp only [callFunc, Sem.run_bind]
 rw [show program.run P w = .ok P w from rfl]
 simp only [Result.andThen_ok, h1, h2, h3, Bool.false_eq_true, if_false, Sem.run_pure]
theorem call_run {c : Call} {y : Operand} {f : FuncId} {k : Nat} {cap : List LV} (hc : c.callee = .value y) (ho : o.op = .call c) (hv : Evals J s ρ (.call c)) (he : s.eval y = .v (.sc (.fn f k cap))):
  ∃ vals : List Value, (execOp ρ o).run P w = (callFunc f vals.toArray).run P w ∧ RelPs J ((cap.take k).map PV.s ++ (c.args.toList.map s.eval ++ (cap.drop k).map PV.s)) vals := by
 have hv' : ∀ z ∈ c.args.toList, RelP J (s.eval z) (ρ z) := fun z hz => hv z (by simp [Op.operands, Call.operands, hc]; right; simpa using hz)
 have hy := hv y (by simp [Op.operands, Call.operands, hc])
 rw [he] at hy
 generalize hcy : ρ y = vy at hy
 cases hy with
 | fn hk hl hcap =>
  rename_i fst caps
  have hfl : fst.toList.length = k := by simpa using hk
  have hall : RelL J cap (fst.toList ++ caps.toList) := RelL.of (by simpa using hl) fun i l v h1 h2 => hcap i l v h1 (by rw [← Array.getElem?_toList, Array.toList_append]; exact h2)
  have h1 : RelL J (cap.take k) fst.toList := by
   have := hall.take k
   rwa [← hfl, List.take_left, hfl] at this
  have h2 : RelL J (cap.drop k) caps.toList := by
   have := hall.drop k
   rwa [← hfl, List.drop_left, hfl] at this
  refine ⟨fst.toList ++ (c.args.toList.map ρ ++ caps.toList), ?_, (relL_ps h1).append ((evals_rel hv').append (relL_ps h2))⟩
  have : (fst.toList ++ (c.args.toList.map ρ ++ caps.toList)).toArray = fst ++ c.args.map ρ ++ caps := by
   apply Array.ext'
   simp
  rw [this]
  simp only [execOp, ho, resolve, hc, hcy, Deferred.ofValue, Sem.run_bind, Sem.run_pure, Result.andThen_ok, invoke]
theorem call_shape {c : Call} {y : Operand} {f : FuncId} {k : Nat} {cap : List LV} (hc : c.callee = .value y) (ho : o.op = .call c) (hv : Evals J s ρ (.call c)) (he : s.eval y = .v (.sc (.fn f k cap))) (hf : FnOk P f) :
  ∃ vals, (execOp ρ o).run P w = .ok (.enter f vals.toArray) w ∧ RelPs J ((cap.take k).map PV.s ++ (c.args.toList.map s.eval ++ (cap.drop k).map PV.s)) vals := by
 obtain ⟨vals, h1, h2⟩ := call_run (P := P) (w := w) hc ho hv he
 exact ⟨vals, by rw [h1]; exact run_callFunc hf _, h2⟩
theorem quiet_call {c : Call} {y : Operand} {f : FuncId} {k : Nat} {cap : List LV} {fo : FO} (hT : EnvT P E) (hc : c.callee = .value y) (ho : o.op = .call c) (hv : Evals J s ρ o.op) (hm : RelM base J s.mem w) (hb : base ≤ w.heap.size)
  (hG : Goes K x s base J w R) (he : s.eval y = .v (.sc (.fn f k cap))) (hl : lookFO f E.fns = some fo)
  (h : fo β ((cap.take k).map PV.s ++ (c.args.toList.map s.eval ++ (cap.drop k).map PV.s)) s.mem (fun v m => K v { s with mem := m }) = some x) : Done P ρ o w R := by
 rw [ho] at hv
 obtain ⟨_, hfo⟩ := hT.fns f fo hl
 obtain ⟨vals, h1, h2⟩ := call_run (P := P) (w := w) hc ho hv he
 rcases hfo β _ _ _ x h base J w vals h2 hm hb with ⟨hfn, hcalls⟩ | ⟨v, hrun, pv, hk, hrv⟩
 ·refine .inr (.inr ⟨f, vals.toArray, by rw [h1]; exact run_callFunc hfn _, ?_⟩)
  refine hcalls.mono fun e w' ⟨v, hev, hbel, pv, new, J', hk, hj, hrv, hm'⟩ => ⟨v, hev, ?_⟩
  exact hG v pv new J' w' hk hj hm' hbel hrv
 ·exact .value (h1.trans hrun) (hG.same hm hk hrv)
theorem quiet_sound (hT : EnvT P E) (hq : quietOp E o = true) (hv : Evals J s ρ o.op) (hm : RelM base J s.mem w) (hb : base ≤ w.heap.size) (hG : Goes K x s base J w R)
  (h : exOp E hd ctx o.op s K = some x) : Done P ρ o w R := by
 unfold quietOp at hq
 cases ho : o.op <;> rw [ho] at hq <;> simp only [Bool.false_eq_true] at hq
 case move => exact quiet_move ho hv hm hG h
 case assign => exact quiet_assign ho hv hm hG h
 case pick => exact quiet_pick ho hv hm hG h
 case alloc => exact quiet_alloc hT ho hm hb hG h
 case box => exact quiet_box ho hv hm hb hG h
 case build => exact quiet_build hT ho hv hm hG h
 case buildSlice => exact quiet_buildSlice hT ho hv hm hb hG h
 case load => exact quiet_load hT ho hv hm hG h
 case nilCheck => exact quiet_nilCheck ho hv hm hG h
 case binOp => exact quiet_binOp hT ho hv hm hG h
 case unOp => exact quiet_unOp ho hv hm hG h
 case convert => exact quiet_convert hT ho hv hm hG h
 case makeFunc => exact quiet_makeFunc ho hv hm hG h
 case slice => exact quiet_slice hT ho hv hm hG h
 case fieldAddr => exact quiet_fieldAddr hT ho hv hm hG h
 case field => exact quiet_field hT ho hv hm hG h
 case indexAddr => exact quiet_indexAddr hT ho hv hm hG h
 case index => exact quiet_index hT ho hv hm hG h
 case extract => exact quiet_extract ho hv hm hG h
 case call c =>
  cases hc : c.callee with
  | builtin b =>
   rw [hc] at hq
   cases b <;> simp only [Bool.false_eq_true] at hq
   case len => exact quiet_builtin hT hc ho hv hm hG (.inl rfl) h
   case min => exact quiet_builtin hT hc ho hv hm hG (.inr (.inl rfl)) h
   case max => exact quiet_builtin hT hc ho hv hm hG (.inr (.inr rfl)) h
  | invoke r m => rw [hc] at hq; simp at hq
  | value y =>
   rw [hc] at hq
   cases y <;> simp only [Bool.false_eq_true] at hq
   rename_i f
   obtain ⟨fo, hl⟩ := Option.isSome_iff_exists.1 hq
   have h' := h
   rw [ho] at h'
   simp only [exOp, hc, St.eval] at h'
   rw [hl] at h'
   exact quiet_call hT hc ho hv hm hb hG rfl hl h'
end ops
end Go.Sy
