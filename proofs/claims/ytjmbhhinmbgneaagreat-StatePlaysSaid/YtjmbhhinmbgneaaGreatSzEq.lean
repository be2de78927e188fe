/- The evaluator. -/
import Derived.Test.YtjmbhhinmbgneaaGreatSzOps
import Derived.DeepKeys
namespace Go.Sy
def fitV : List EK → List Value → Prop
 | [], [] => True
 | .i k :: r, .int k' _ :: l => k = k' ∧ fitV r l
 | .b :: r, .bool _ :: l => fitV r l
 | .s :: r, .string _ :: l => fitV r l
 | _, _ => False
def eqV : Value → Value → Bool
 | .int _ a, .int _ b => a == b
 | .bool a, .bool b => a == b
 | .string a, .string b => a == b
 | _, _ => false
def eqVs : List Value → List Value → Bool
 | [], [] => true
 | a :: x, b :: y => eqV a b && eqVs x y
 | _, _ => false
theorem fitV.length : ∀ {ks : List EK} {vs : List Value}, fitV ks vs → ks.length = vs.length
 | [], [], _ => rfl
 | [], _ :: _, h => h.elim
 | .i _ :: r, .int _ _ :: l, h => by simp [fitV.length h.2]
 | .b :: r, .bool _ :: l, h => by simp [fitV.length (ks := r) h]
 | .s :: r, .string _ :: l, h => by simp [fitV.length (ks := r) h]
theorem fitV.split : ∀ {a b : List EK} {vs : List Value}, fitV (a ++ b) vs → fitV a (vs.take a.length) ∧ fitV b (vs.drop a.length)
 | [], b, vs, h => ⟨by simp [fitV], by simpa using h⟩
 | .i _ :: r, b, .int _ _ :: l, h => by
  obtain ⟨k1, k2⟩ := fitV.split (a := r) h.2
  exact ⟨⟨h.1, by simpa using k1⟩, by simpa using k2⟩
 | .b :: r, b, .bool _ :: l, h => by
  obtain ⟨k1, k2⟩ := fitV.split (a := r) (vs := l) h
  exact ⟨by simpa [fitV] using k1, by simpa using k2⟩
 | .s :: r, b, .string _ :: l, h => by
  obtain ⟨k1, k2⟩ := fitV.split (a := r) (vs := l) h
  exact ⟨by simpa [fitV] using k1, by simpa using k2⟩
theorem eqVs_split : ∀ (k : Nat) {x y : List Value}, x.length = y.length → eqVs x y = (eqVs (x.take k) (y.take k) && eqVs (x.drop k) (y.drop k))
 | 0, x, y, _ => by simp [eqVs]
 | _ + 1, [], [], _ => by simp [eqVs]
 | k + 1, a :: x, b :: y, h => by
  simp only [eqVs, List.take_succ_cons, List.drop_succ_cons]
  rw [eqVs_split k (by simpa using h), Bool.and_assoc]
 | _ + 1, [], _ :: _, h => by simp at h
 | _ + 1, _ :: _, [], h => by simp at h
def eqFs (rec' : TypeId → Option (List EK)) : Nat → List Field → Option (List EK)
 | _, [] => some []
 | off, f :: r => bif (f.name != "_") && Nat.beq f.offset off then (rec' f.type).bind fun c => (eqFs rec' (off + c.length) r).map (c ++ ·) else none
def eqTB (P : Program) : Nat → TypeId → Option (List EK)
 | 0, _ => none
 | n + 1, t => match P.underlying t, P.info? t with
  | some dd, some i => (show Option (List EK) from match dd with
   | .bool => some [.b]
   | .int k => some [.i k]
   | .string => some [.s]
   | .struct fs => bif P.stoodInHeld t then none else eqFs (eqTB P n) 0 fs.toList
   | .array len e => (eqTB P n e).map fun c => (List.replicate len c).flatten
   | _ => none).bind fun ks => bif Nat.beq i.size ks.length && Nat.blt 0 ks.length then some ks else none
  | _, _ => none
def mkV (agg : Bool) (cs : List Value) : Value := if agg then .agg cs.toArray else cs.headD (.tuple #[])
def EqAtN (P : Program) (n : Nat) (t : TypeId) (ks : List EK) : Prop :=
 ∃ dd i, P.underlying t = some dd ∧ P.info? t = some i ∧ i.size = ks.length ∧ 0 < ks.length ∧ (isAggD dd = false → ks.length = 1) ∧
  ∀ (d : Nat) (w : World) (cs ds : List Value), fitV ks cs → fitV ks ds → (Op.equalIn (d + n) t (mkV (isAggD dd) cs) (mkV (isAggD dd) ds)).run P w = .ok (eqVs cs ds) w
theorem run_part_at {P : Program} {w : World} {e : TypeId} {dd : TypeDesc} {i : TypeInfo} (hu : P.underlying e = some dd) (hi : P.info? e = some i) (xs : Array Value) (off : Nat) (hlen : off + i.size ≤ xs.size)
  (hone : isAggD dd = false → i.size = 1) : (part e xs off).run P w = .ok (mkV (isAggD dd) ((xs.toList.drop off).take i.size)) w := by
 unfold part
 simp only [Sem.run_bind, run_isAgg hu, Result.andThen_ok, Sem.run_ite]
 cases h : isAggD dd with
 | true =>
  simp only [if_true, run_sizeOf hi, Result.andThen_ok, Sem.run_pure, mkV]
  congr 2
  apply Array.ext'
  simp [Array.toList_extract, List.extract]
 | false =>
  have h1 := hone h
  have hlt : off < xs.size := by omega
  simp only [Bool.false_eq_true, if_false, mkV, h1]
  rw [show xs[off]? = some xs[off] by simp [hlt]]
  simp only [Sem.run_pure]
  congr 1
  rw [List.take_one]
  simp [List.head?_drop, hlt]
theorem eqFields_sound {P : Program} {n : Nat} (IH : ∀ e c, eqTB P n e = some c → EqAtN P n e c) (d : Nat) (w : World) (xs ys : Array Value) : ∀ (fs : List Field) (off : Nat) (ks : List EK),
  eqFs (eqTB P n) off fs = some ks → fitV ks (xs.toList.drop off) → fitV ks (ys.toList.drop off) → (Op.eqFields (d + n) xs ys fs).run P w = .ok (eqVs (xs.toList.drop off) (ys.toList.drop off)) w
 | [], off, ks, h, hx, hy => by
  simp only [eqFs, Option.some.injEq] at h
  subst h
  have e1 := hx.length
  have e2 := hy.length
  have e1 : xs.toList.drop off = [] := List.eq_nil_of_length_eq_zero e1.symm
  have e2 : ys.toList.drop off = [] := List.eq_nil_of_length_eq_zero e2.symm
  rw [e1, e2]
  simp [Op.eqFields, eqVs]
 | f :: fs, off, ks, h, hx, hy => by
  simp only [eqFs] at h
  obtain ⟨h1, h2⟩ := cond_some h
  clear h
  simp only [Bool.and_eq_true, bne_iff_ne, ne_eq] at h1
  obtain ⟨hn, ho⟩ := h1
  have ho := nat_beq ho
  subst ho
  obtain ⟨c, h3, h4⟩ := bind_some' h2
  obtain ⟨ks', h5, h6⟩ := Option.map_eq_some_iff.1 h4
  subst h6
  obtain ⟨dd, i, hu, hi, hsz, hpos, hone, hrun⟩ := IH f.type c h3
  have lx := hx.length
  have ly := hy.length
  simp only [List.length_append, List.length_drop, Array.length_toList] at lx ly
  obtain ⟨x1, x2⟩ := hx.split
  obtain ⟨y1, y2⟩ := hy.split
  have hrec := eqFields_sound IH d w xs ys fs (f.offset + c.length) ks' h5 (by rw [← List.drop_drop]; exact x2) (by rw [← List.drop_drop]; exact y2)
  have px := run_part_at (P := P) (w := w) hu hi xs f.offset (by omega) (fun h => by rw [hsz]; exact hone h)
  have py := run_part_at (P := P) (w := w) hu hi ys f.offset (by omega) (fun h => by rw [hsz]; exact hone h)
  rw [hsz] at px py
  have hr := hrun d w _ _ x1 y1
  simp only [Op.eqFields, hn, ne_eq, not_false_eq_true, if_true, Sem.run_bind, px, py, hr, Result.andThen_ok, Sem.run_ite]
  rw [eqVs_split c.length (x := xs.toList.drop f.offset) (y := ys.toList.drop f.offset) (by simp; omega)]
  cases hq : eqVs ((xs.toList.drop f.offset).take c.length) ((ys.toList.drop f.offset).take c.length) with
  | false => simp
  | true =>
   simp only [Bool.not_true, Bool.false_eq_true, if_false, Bool.true_and, List.drop_drop]
   exact hrec
theorem eqItems_sound {P : Program} {n : Nat} {e : TypeId} {c : List EK} (h : EqAtN P n e c) (d : Nat) (w : World) (xs ys : Array Value) : ∀ (m j : Nat),
  fitV ((List.replicate m c).flatten) (xs.toList.drop (j * c.length)) → fitV ((List.replicate m c).flatten) (ys.toList.drop (j * c.length)) →
   (Op.eqItems (d + n) e c.length xs ys (List.range' j m)).run P w = .ok (eqVs (xs.toList.drop (j * c.length)) (ys.toList.drop (j * c.length))) w
 | 0, j, hx, hy => by
  have e1 := hx.length
  have e2 := hy.length
  have e1 : xs.toList.drop (j * c.length) = [] := List.eq_nil_of_length_eq_zero e1.symm
  have e2 : ys.toList.drop (j * c.length) = [] := List.eq_nil_of_length_eq_zero e2.symm
  rw [e1, e2]
  simp [Op.eqItems, eqVs]
 | m + 1, j, hx, hy => by
  obtain ⟨dd, i, hu, hi, hsz, hpos, hone, hrun⟩ := h
  rw [List.replicate_succ, List.flatten_cons] at hx hy
  have lx := hx.length
  have ly := hy.length
  simp only [List.length_append, List.length_drop, Array.length_toList] at lx ly
  obtain ⟨x1, x2⟩ := hx.split
  obtain ⟨y1, y2⟩ := hy.split
  have hj : j * c.length + c.length = (j + 1) * c.length := by rw [Nat.add_mul, Nat.one_mul]
  have hrec := eqItems_sound ⟨dd, i, hu, hi, hsz, hpos, hone, hrun⟩ d w xs ys m (j + 1) (by rw [← hj, ← List.drop_drop]; exact x2) (by rw [← hj, ← List.drop_drop]; exact y2)
  have px := run_part_at (P := P) (w := w) hu hi xs (j * c.length) (by omega) (fun h => by rw [hsz]; exact hone h)
  have py := run_part_at (P := P) (w := w) hu hi ys (j * c.length) (by omega) (fun h => by rw [hsz]; exact hone h)
  rw [hsz] at px py
  have hr := hrun d w _ _ x1 y1
  simp only [List.range'_succ, Op.eqItems, Sem.run_bind, px, py, hr, Result.andThen_ok, Sem.run_ite]
  rw [eqVs_split c.length (x := xs.toList.drop (j * c.length)) (y := ys.toList.drop (j * c.length)) (by simp; omega)]
  cases hq : eqVs ((xs.toList.drop (j * c.length)).take c.length) ((ys.toList.drop (j * c.length)).take c.length) with
  | false => simp
  | true =>
   simp only [Bool.not_true, Bool.false_eq_true, if_false, Bool.true_and, List.drop_drop, hj]
   exact hrec
theorem eqTB_sound {P : Program} : ∀ (n : Nat) (t : TypeId) (ks : List EK), eqTB P n t = some ks → EqAtN P n t ks
 | 0, t, ks, h => by simp [eqTB] at h
 | n + 1, t, ks, h => by
  unfold eqTB at h
  split at h
  ·rename_i dd i hu hi
   obtain ⟨ks0, h1, h2⟩ := bind_some' h
   obtain ⟨h3, h4⟩ := cond_some h2
   injection h4 with h4
   subst h4
   simp only [Bool.and_eq_true] at h3
   have hsz := nat_beq h3.1
   have hpos : 0 < ks0.length := by simpa [Nat.blt_eq] using h3.2
   refine ⟨dd, i, hu, hi, hsz, hpos, ?_, ?_⟩
   ·intro ha
    cases dd <;> simp [isAggD] at ha <;> simp at h1 <;> subst h1 <;> rfl
   ·intro d w cs ds hc hd
    cases dd <;> simp only [reduceCtorEq] at h1
    case bool =>
     injection h1 with h1
     subst h1
     match cs, ds, hc, hd with
     | [.bool a], [.bool b], _, _ =>
      simp [mkV, isAggD, Op.equalIn, run_underlying hu, eqVs, eqV]
    case int k =>
     injection h1 with h1
     subst h1
     match cs, ds, hc, hd with
     | [.int k1 a], [.int k2 b], hc, hd =>
      obtain ⟨rfl, _⟩ := hc
      obtain ⟨rfl, _⟩ := hd
      simp [mkV, isAggD, Op.equalIn, run_underlying hu, eqVs, eqV]
    case string =>
     injection h1 with h1
     subst h1
     match cs, ds, hc, hd with
     | [.string a], [.string b], _, _ =>
      simp [mkV, isAggD, Op.equalIn, run_underlying hu, eqVs, eqV]
    case struct fs =>
     cases hst : P.stoodInHeld t with
     | true => rw [hst] at h1; cases h1
     | false =>
      rw [hst] at h1
      have hfo : P.fieldsOf t = fs := by simp [Program.fieldsOf, hu]
      have := eqFields_sound (fun e c h => eqTB_sound n e c h) d w cs.toArray ds.toArray fs.toList 0 ks0 h1 (by simpa using hc) (by simpa using hd)
      simp only [mkV, isAggD, if_true]
      rw [show d + (n + 1) = (d + n) + 1 from rfl, run_equalIn_struct w (d + n) t _ _ (by rw [hfo]; exact hu) hst, hfo]
      simpa using this
    case array len e =>
     obtain ⟨c, h5, h6⟩ := Option.map_eq_some_iff.1 h1
     subst h6
     have hE := eqTB_sound n e c h5
     obtain ⟨dd', i', hu', hi', hsz', hpos', hone', hrun'⟩ := hE
     have := eqItems_sound ⟨dd', i', hu', hi', hsz', hpos', hone', hrun'⟩ d w cs.toArray ds.toArray len 0 (by simpa using hc) (by simpa using hd)
     have hco : P.cellsOf e = c.length := by simp [Program.cellsOf, hi', hsz']
     simp only [mkV, isAggD, if_true]
     rw [show d + (n + 1) = (d + n) + 1 from rfl, run_equalIn_array w (d + n) _ _ hu hi', hco, List.range_eq_range']
     simpa using this
  ·cases h
def EqTy (P : Program) (t : TypeId) (ks : List EK) : Prop := P.eqGuardType P.depth t = false ∧ ∀ (w : World) (cs ds : Array Value), fitV ks cs.toList → fitV ks ds.toList → (Op.equal t (.agg cs) (.agg ds)).run P w = .ok (eqVs cs.toList ds.toList) w
theorem eqTy_of {P : Program} {t : TypeId} {ks : List EK} (h : eqTB P 8 t = some ks) (ha : (match P.underlying t with | some d => isAggD d | none => false) = true) (hg : P.eqGuardType P.depth t = false) : EqTy P t ks := by
 refine ⟨hg, ?_⟩
 intro w cs ds hc hd
 obtain ⟨dd, i, hu, _, _, _, _, hrun⟩ := eqTB_sound 8 t ks h
 rw [hu] at ha
 have := hrun 9992 w cs.toList ds.toList hc hd
 simp [mkV, ha] at this
 exact this
theorem run_eqGuard_agg {P : Program} {w : World} {op : BinOp} {t : TypeId} {x y : Operand} {cs ds : Array Value} (h : P.eqGuardType P.depth t = false) : (eqGuard op t x y (.agg cs) (.agg ds)).run P w = .ok () w := by
 cases op <;> simp [eqGuard, h]
theorem fitE_fitV {J : Inj} : ∀ {ks : List EK} {ls : List LV} {vs : List Value}, fitE ks ls = true → RelL J ls vs → fitV ks vs
 | [], [], [], _, _ => trivial
 | [], [], _ :: _, _, h => by cases h
 | .i k :: r, .i0 k' n :: l, v :: vs, h, hr => by
  simp only [fitE, Bool.and_eq_true, decide_eq_true_eq] at h
  obtain ⟨h1, h2⟩ := hr
  cases h1
  exact ⟨h.1, fitE_fitV h.2 h2⟩
 | .b :: r, .b0 n :: l, v :: vs, h, hr => by
  obtain ⟨h1, h2⟩ := hr
  cases h1
  exact fitE_fitV (ks := r) (ls := l) h h2
 | .s :: r, .s0 n :: l, v :: vs, h, hr => by
  obtain ⟨h1, h2⟩ := hr
  cases h1
  exact fitE_fitV (ks := r) (ls := l) h h2
 | _ :: _, _ :: _, [], _, h => by cases h
theorem eqLV_eqV {J : Inj} {l m : LV} {u v : Value} {r : Bool} (h : eqLV l m = some r) (hl : Rel J l u) (hm : Rel J m v) : eqV u v = r := by
 unfold eqLV at h
 split at h
 ·obtain ⟨h1, h2⟩ := cond_some h
  injection h2 with h2
  cases hl
  cases hm
  exact h2
 ·injection h with h
  cases hl
  cases hm
  exact h
 ·injection h with h
  cases hl
  cases hm
  exact h
 ·cases h
theorem eqLVs_eqVs {J : Inj} : ∀ {ls ms : List LV} {us vs : List Value} {r : Bool}, eqLVs ls ms = some r → RelL J ls us → RelL J ms vs → eqVs us vs = r
 | [], [], [], [], r, h, _, _ => by simp [eqLVs] at h; subst h; rfl
 | [x], [y], [u], [v], r, h, hl, hm => by
  simp only [eqLVs] at h
  simp [eqVs, eqLV_eqV h hl.1 hm.1]
 | x :: x2 :: xs, y :: ys, u :: us, v :: vs, r, h, hl, hm => by
  simp only [eqLVs] at h
  obtain ⟨a, h1, h2⟩ := bind_some' h
  obtain ⟨b, h3, h4⟩ := Option.map_eq_some_iff.1 h2
  subst h4
  simp [eqVs, eqLV_eqV h1 hl.1 hm.1, eqLVs_eqVs h3 hl.2 hm.2]
 | [x], y :: y2 :: ys, u :: us, v :: vs, r, h, hl, hm => by
  simp only [eqLVs] at h
  obtain ⟨a, h1, h2⟩ := bind_some' h
  obtain ⟨b, h3, h4⟩ := Option.map_eq_some_iff.1 h2
  simp at h3
 | [], _ :: _, _, _, _, h, _, _ => by simp [eqLVs] at h
 | _ :: _, [], _, _, _, h, _, _ => by simp [eqLVs] at h
 | _ :: _, _ :: _, [], _, _, _, h, _ => by cases h
 | _ :: _, _ :: _, _ :: _, [], _, _, _, h => by cases h
end Go.Sy
