/- The evaluator. -/
import Derived.Test.YtjmbhhinmbgneaaGreatSzRel
namespace Go.Sy
open Go.RowKit (Below)
def isAggD : TypeDesc → Bool
 | .struct _ | .array .. => true
 | _ => false
def SzOk (P : Program) (e : TypeId) (sz : Nat) (agg : Bool) : Prop :=
 (∃ i, P.info? e = some i ∧ i.size = sz) ∧ ∃ d, P.underlying e = some d ∧ isAggD d = agg
def KOk (P : Program) (t : TypeId) : TK → Prop
 | .bool => P.underlying t = some .bool
 | .int k => P.underlying t = some (.int k)
 | .str => P.underlying t = some .string
 | .ptr => ∃ e, P.underlying t = some (.pointer e)
 | .func => ∃ a b c, P.underlying t = some (.func a b c)
 | .st fs => ∃ fields, P.underlying t = some (.struct fields) ∧ fields.size = fs.length ∧
   ∀ (i : Nat) (x : Nat × Nat × Bool), fs[i]? = some x → ∃ f, fields[i]? = some f ∧ f.offset = x.1 ∧ SzOk P f.type x.2.1 x.2.2
 | .arr n esz agg => ∃ e, P.underlying t = some (.array n e) ∧ SzOk P e esz agg
 | .sl esz bytes agg zero => ∃ e i z, P.underlying t = some (.slice e) ∧ SzOk P e esz agg ∧ P.info? e = some i ∧ i.bytes = bytes ∧ i.zero = some z ∧ ∀ J, RelL J zero z.cells.toList
 | .parr n esz => ∃ a e ag, P.underlying t = some (.pointer a) ∧ P.underlying a = some (.array n e) ∧ SzOk P e esz ag
 | .other => True
def TIok (P : Program) (t : TypeId) (ti : TI) : Prop :=
 ti.kind.known = true → (∃ i, P.info? t = some i ∧ i.size = ti.sz ∧ (ti.zero ≠ [] → ∃ z, i.zero = some z ∧ ∀ J, RelL J ti.zero z.cells.toList)) ∧ KOk P t ti.kind
section runs
variable {P : Program} {w : World}
theorem run_sizeOf {t : TypeId} {i : TypeInfo} (h : P.info? t = some i) : (sizeOf t).run P w = .ok i.size w := by
 simp [sizeOf, typeInfo, h]
theorem run_typeInfo {t : TypeId} {i : TypeInfo} (h : P.info? t = some i) : (typeInfo t).run P w = .ok i w := by
 simp [typeInfo, h]
theorem run_isAgg {t : TypeId} {d : TypeDesc} (h : P.underlying t = some d) : (isAgg t).run P w = .ok (isAggD d) w := by
 simp [isAgg, run_underlying h]
 cases d <;> rfl
theorem run_zeroValue {t : TypeId} {i : TypeInfo} {z : Value} (h : P.info? t = some i) (hz : i.zero = some z) : (zeroValue t).run P w = .ok z w := by
 simp [zeroValue, typeInfo, h, hz]
theorem run_newRow (t : TypeId) (cs : Array Value) : (newRow t cs).run P w = .ok ⟨w.heap.size, 0, none⟩ (w.alloc (.cells cs t)) := by
 rfl
end runs
theorem kind_agg {P : Program} {t : TypeId} {ti : TI} (h : TIok P t ti) (hk : ti.kind.known = true) : ∃ d, P.underlying t = some d ∧ isAggD d = ti.kind.agg := by
 have h2 := (h hk).2
 cases hq : ti.kind with
 | bool => rw [hq] at h2; exact ⟨_, h2, rfl⟩
 | int k => rw [hq] at h2; exact ⟨_, h2, rfl⟩
 | str => rw [hq] at h2; exact ⟨_, h2, rfl⟩
 | ptr => rw [hq] at h2; obtain ⟨e, h2⟩ := h2; exact ⟨_, h2, rfl⟩
 | func => rw [hq] at h2; obtain ⟨a, b, c, h2⟩ := h2; exact ⟨_, h2, rfl⟩
 | st fs => rw [hq] at h2; obtain ⟨f, h2, _⟩ := h2; exact ⟨_, h2, rfl⟩
 | arr n e a => rw [hq] at h2; obtain ⟨f, h2, _⟩ := h2; exact ⟨_, h2, rfl⟩
 | sl e b a z => rw [hq] at h2; obtain ⟨f, i, z, h2, _⟩ := h2; exact ⟨_, h2, rfl⟩
 | parr n e => rw [hq] at h2; obtain ⟨f, i, z, h2, _⟩ := h2; exact ⟨_, h2, rfl⟩
 | other => rw [hq] at hk; cases hk
theorem selLV_rel {J : Inj} {l : List LV} {i : Nat} {x : LV} {v : Value} (hi : l[i]? = some x) (h : Rel J x v) : Rel J (selLV l i) v := by
 have hfall : Rel J (l.getD i .unk) v := by simpa [List.getD, hi] using h
 have hmem : x ∈ l := List.mem_of_getElem? hi
 unfold selLV
 split
 ·rename_i k n r
  cases hall : (LV.i0 k n :: r).all (LV.isI k) with
  | false => exact Rel.unk _
  | true =>
   have hx := List.all_eq_true.1 hall x hmem
   cases x <;> simp [LV.isI] at hx
   rename_i k' n'
   cases h
   simp only [cond_true]
   have hs : selI ((LV.i0 k n :: r).map LV.int) i = n' := by unfold selI List.getD; rw [List.getElem?_map, hi]; rfl
   rw [hs, ← hx]
   exact .i0 _ _
 ·rename_i b r
  cases hall : (LV.b0 b :: r).all LV.isB with
  | false => exact Rel.unk _
  | true =>
   have hx := List.all_eq_true.1 hall x hmem
   cases x <;> simp [LV.isB] at hx
   rename_i n'
   cases h
   simp only [cond_true]
   have : selB ((LV.b0 b :: r).map LV.bool) i = n' := by unfold selB List.getD; rw [List.getElem?_map, hi]; rfl
   rw [this]
   exact .b0 _
 ·rename_i b r
  cases hall : (LV.s0 b :: r).all LV.isS with
  | false => exact Rel.unk _
  | true =>
   have hx := List.all_eq_true.1 hall x hmem
   cases x <;> simp [LV.isS] at hx
   rename_i n'
   cases h
   simp only [cond_true]
   have : selS ((LV.s0 b :: r).map LV.str) i = n' := by unfold selS List.getD; rw [List.getElem?_map, hi]; rfl
   rw [this]
   exact .s0 _
 ·exact hfall
theorem symOff_le : ∀ (sym : List (Nat × Nat × Nat)), symOk sym → symOff sym ≤ symMax sym
 | [], _ => Nat.le_refl _
 | (i, s, c) :: r, h => by
  obtain ⟨h1, h2⟩ := h
  have := symOff_le r h2
  have : i * s ≤ (c - 1) * s := Nat.mul_le_mul_right _ (by omega)
  simp only [symOff, symMax]
  omega
theorem rdSym_rel {base : Nat} {J : Inj} {w : World} {bb : BB} {pb : PBlk} (hb : RelB base J w bb pb) {row : Nat} (hr : row < bb.n) :
  ∀ (sym : List (Nat × Nat × Nat)) (off : Nat), symOk sym → off + symOff sym < bb.esz →
   ∃ x, w.cell? ⟨bb.B, bb.o + row * bb.esz + off + symOff sym, none⟩ = some x ∧ Rel J (rdSym pb.cols row off sym) x
 | [], off, _, ho => by
  obtain ⟨x, hx, hrel⟩ := hb.cell row hr off (by simpa [symOff] using ho)
  exact ⟨x, by simpa [symOff] using hx, by simpa [rdSym] using hrel⟩
 | (i, s, c) :: rest, off, hs, ho => by
  obtain ⟨h1, h2⟩ := hs
  simp only [symOff] at ho
  obtain ⟨x, hx, hrel⟩ := rdSym_rel hb hr rest (off + i * s) h2 (by omega)
  refine ⟨x, ?_, ?_⟩
  ·simp only [symOff]
   rw [show bb.o + row * bb.esz + off + (i * s + symOff rest) = bb.o + row * bb.esz + (off + i * s) + symOff rest by omega]
   exact hx
  ·simp only [rdSym]
   refine selLV_rel (x := rdSym pb.cols row (off + i * s) rest) ?_ hrel
   simp [h1]
theorem relL_map {J : Inj} (n : Nat) (g : Nat → LV) (f : Nat → Value) (h : ∀ q, q < n → Rel J (g q) (f q)) : RelL J ((List.range n).map g) ((List.range n).map f) := by
 refine RelL.of (by simp) fun i l v hi hv => ?_
 simp only [List.getElem?_map] at hi hv
 by_cases hlt : i < n
 ·simp [hlt] at hi hv
  subst hi hv
  exact h i hlt
 ·simp [Nat.not_lt.1 hlt] at hi
theorem addr_add (B o q : Nat) : (⟨B, o, none⟩ : Addr).add q = ⟨B, o + q, none⟩ := by
 unfold Addr.add
 split
 ·rename_i h; subst h; simp
 ·rfl
theorem nat_ble {a b : Nat} (h : Nat.ble a b = true) : a ≤ b := Nat.le_of_ble_eq_true h
theorem nat_blt {a b : Nat} (h : Nat.blt a b = true) : a < b := Nat.le_of_ble_eq_true h
theorem nat_beq {a b : Nat} (h : Nat.beq a b = true) : a = b := Nat.eq_of_beq_eq_true h
theorem cond_some {β : Type} {c : Bool} {x : Option β} {y : β} (h : (bif c then x else none) = some y) : c = true ∧ x = some y := by
 cases c
 ·cases h
 ·exact ⟨rfl, h⟩
theorem cond_ff {β : Type} {c : Bool} {a b : Option β} {y : β} (hc : c = false) (h : (bif c then a else b) = some y) : b = some y := by
 subst hc
 exact h
theorem chk_some {β : Type} {c : Bool} {x : Option β} {y : β} (h : chk c x = some y) : c = true ∧ x = some y := cond_some h
theorem bind_some' {α β : Type} {o : Option α} {f : α → Option β} {y : β} (h : o.bind f = some y) : ∃ a, o = some a ∧ f a = some y := by
 cases o with
 | none => cases h
 | some a => exact ⟨a, rfl, h⟩
theorem run_load_rel {P : Program} {base : Nat} {J : Inj} {w : World} {mem : List PBlk} (hm : RelM base J mem w) {t : TypeId} {ti : TI} (ht : TIok P t ti)
  {blk row off : Nat} {sym : List (Nat × Nat × Nat)} {pb : PBlk} {v : Value} (hp : Rel J (.p blk row off sym) v) (hb : mem[blk]? = some pb)
  (hk : ti.kind.known = true) (hle : off + ti.sz + symMax sym ≤ pb.cols.length) (h1 : ti.kind.agg = false → ti.sz = 1) :
  ∃ u, (Instr.loadAt t v).run P w = .ok u w ∧
   (ti.kind.agg = true → Rel1 J (.ag ((List.range ti.sz).map fun q => rdSym pb.cols row (off + q) sym)) u) ∧
   (ti.kind.agg = false → Rel J (rdSym pb.cols row off sym) u) := by
 obtain ⟨d, hd, hagg⟩ := kind_agg ht hk
 obtain ⟨⟨i, hi, hsz, _⟩, _⟩ := ht hk
 cases hp with
 | p h hr hs =>
  rename_i bb
  obtain ⟨pb', hb', hB⟩ := hm.blk blk bb h
  rw [hb] at hb'
  cases hb'
  have hoff := symOff_le sym hs
  cases ha : ti.kind.agg with
  | true =>
   let f : Nat → Value := fun q => (w.cell? ⟨bb.B, bb.o + row * bb.esz + off + symOff sym + q, none⟩).getD undef
   have hf : ∀ q, q < ti.sz → w.cell? ⟨bb.B, bb.o + row * bb.esz + off + symOff sym + q, none⟩ = some (f q) ∧ Rel J (rdSym pb.cols row (off + q) sym) (f q) := by
    intro q hq
    obtain ⟨x, hx, hrel⟩ := rdSym_rel hB hr sym (off + q) hs (by rw [hB.esz]; omega)
    rw [show bb.o + row * bb.esz + (off + q) + symOff sym = bb.o + row * bb.esz + off + symOff sym + q by omega] at hx
    have : f q = x := by simp [f, hx]
    rw [this]
    exact ⟨hx, hrel⟩
   have hl := run_loadCells (P := P) w ⟨bb.B, bb.o + row * bb.esz + off + symOff sym, none⟩ ti.sz f (fun q hq => by rw [addr_add]; exact (hf q hq).1)
   refine ⟨.agg ((List.range ti.sz).map f).toArray, ?_, fun _ => ⟨_, rfl, ?_⟩, fun h => by cases h⟩
   ·simp [Instr.loadAt, Instr.sureAddr, loadVar, run_isAgg hd, hagg, ha, run_sizeOf hi, hsz, hl]
   ·exact relL_map _ _ _ fun q hq => (hf q hq).2
  | false =>
   have h1' := h1 ha
   obtain ⟨x, hx, hrel⟩ := rdSym_rel hB hr sym off hs (by rw [hB.esz]; omega)
   refine ⟨x, ?_, fun h => (by cases h), fun _ => hrel⟩
   simp [Instr.loadAt, Instr.sureAddr, loadVar, run_isAgg hd, hagg, ha, hx]
theorem getD_set_eq {α : Type} (l : List α) (i : Nat) (x d : α) (h : i < l.length) : (l.set i x).getD i d = x := by simp [List.getD, h]
theorem getD_set_ne {α : Type} (l : List α) (i j : Nat) (x d : α) (h : i ≠ j) : (l.set i x).getD j d = l.getD j d := by simp [List.getD, h]
theorem beq_ne {a b : Nat} (h : a ≠ b) : Nat.beq a b = false := by
 cases hb : Nat.beq a b with
 | true => exact absurd (nat_beq hb) h
 | false => rfl
theorem setRow_rel {J : Inj} {rowsy : Bool} {old x y : LV} {r : Nat} {v : Value} (h : LV.setRow rowsy old r x = some y) (hx : Rel J x v) :
  Rel J (y.row r) v ∧ (rowsy = true → ∀ r', r' ≠ r → y.row r' = old.row r') := by
 cases rowsy with
 | false =>
  have hy : y = x := by
   unfold LV.setRow at h
   split at h <;> simp_all
  subst hy
  rw [hx.row r]
  exact ⟨hx, fun h => nomatch h⟩
 | true =>
  cases old <;> cases x <;> simp only [LV.setRow, reduceCtorEq] at h
  ·obtain ⟨hk, h2⟩ := cond_some h
   clear h
   have hk := of_decide_eq_true hk
   subst hk
   injection h2 with h2
   subst h2
   cases hx
   exact ⟨by simp [LV.row, updI, Rel.i0], fun _ r' hr' => by simp [LV.row, updI, beq_ne hr']⟩
  ·injection h with h
   subst h
   cases hx
   exact ⟨by simp [LV.row, updB, Rel.b0], fun _ r' hr' => by simp [LV.row, updB, beq_ne hr']⟩
  ·injection h with h
   subst h
   cases hx
   exact ⟨by simp [LV.row, updS, Rel.s0], fun _ r' hr' => by simp [LV.row, updS, beq_ne hr']⟩
theorem setIf_rel {J : Inj} {c : Bool} {old x y : LV} {u v : Value} (h : LV.setIf c old x = some y) (hx : Rel J x v) (ho : Rel J old u) :
  Rel J y (if c = true then v else u) := by
 cases old <;> cases x <;> simp only [LV.setIf, reduceCtorEq] at h
 ·obtain ⟨hk, h2⟩ := cond_some h
  clear h
  have hk := of_decide_eq_true hk
  subst hk
  injection h2 with h2
  subst h2
  cases hx
  cases ho
  cases c <;> exact .i0 _ _
 ·injection h with h
  subst h
  cases hx
  cases ho
  cases c <;> exact .b0 _
 ·injection h with h
  subst h
  cases hx
  cases ho
  cases c <;> exact .s0 _
theorem RelM.setCell {base : Nat} {J : Inj} {mem : List PBlk} {w : World} (hm : RelM base J mem w) {blk : Nat} {bb : BB} {pb : PBlk} (hJ : J blk = some bb) (hb : mem[blk]? = some pb) (ho : pb.own = true)
  {row c : Nat} {cols : List LV} {v : Value} (hr : row < bb.n) (hc : c < bb.esz) (hlen : cols.length = pb.cols.length)
  (hnew : Rel J ((cols.getD c .unk).row row) v)
  (hoth : ∀ r' c', r' < bb.n → c' < bb.esz → (r', c') ≠ (row, c) → ∀ x, Rel J ((pb.cols.getD c' .unk).row r') x → Rel J ((cols.getD c' .unk).row r') x) :
  RelM base J (mem.set blk { pb with cols }) (w.setCell ⟨bb.B, bb.o + row * bb.esz + c, none⟩ v) := by
 have hlt : blk < mem.length := (List.getElem?_eq_some_iff.1 hb).1
 obtain ⟨pb0, hb0, hB⟩ := hm.blk blk bb hJ
 rw [hb] at hb0
 cases hb0
 obtain ⟨x0, hx0, _⟩ := hB.cell row hr c hc
 refine ⟨fun b bb' hb' => ?_, fun b b' x x' y hy hyo hx hx' hne => ?_⟩
 ·by_cases e : b = blk
  ·subst e
   rw [hJ] at hb'
   cases hb'
   refine ⟨{ pb with cols }, by simp [hlt], ⟨?_, ?_, ?_, ?_, ?_⟩⟩
   ·show bb.esz = cols.length
    rw [hB.esz, hlen]
   ·exact hB.flat
   ·simpa using hB.there
   ·intro r hr' c' hc'
    by_cases e : (r, c') = (row, c)
    ·cases e
     exact ⟨v, World.cell?_setCell_same _ _ _ hx0, hnew⟩
    ·obtain ⟨x, hx, hrel⟩ := hB.cell r hr' c' hc'
     refine ⟨x, ?_, hoth r c' hr' hc' e x hrel⟩
     rw [World.cell?_setCell_other]
     ·exact hx
     ·intro he
      apply e
      injection he with _ he _
      have h1 : row * bb.esz + c = r * bb.esz + c' := by omega
      have hpos : 0 < bb.esz := by omega
      have hr1 : (row * bb.esz + c) / bb.esz = row := by rw [Nat.mul_comm, Nat.mul_add_div hpos, Nat.div_eq_of_lt hc]; omega
      have hr2 : (r * bb.esz + c') / bb.esz = r := by rw [Nat.mul_comm, Nat.mul_add_div hpos, Nat.div_eq_of_lt hc']; omega
      have hrr : row = r := by rw [← hr1, h1, hr2]
      subst hrr
      have : c = c' := by omega
      rw [this]
   ·intro _
    obtain ⟨h1, h2, h3, h4⟩ := hB.own ho
    refine ⟨h1, fun q => by rw [World.frozen?_setCell]; exact h2 q, h3, fun q hq => ?_⟩
    obtain ⟨x, hx⟩ := h4 q hq
    by_cases e : (⟨bb.B, bb.o + row * bb.esz + c, none⟩ : Addr) = ⟨bb.B, bb.o + q, none⟩
    ·exact ⟨v, by rw [← e]; exact World.cell?_setCell_same _ _ _ hx0⟩
    ·exact ⟨x, by rw [World.cell?_setCell_other _ _ _ _ e]; exact hx⟩
  ·obtain ⟨pb', hp', hB'⟩ := hm.blk b bb' hb'
   have hne := hm.apart blk b bb bb' pb hb ho hJ hb' (fun h => e h.symm)
   refine ⟨pb', by rw [List.getElem?_set_ne (fun h => e h.symm)]; exact hp', hB'.of_cells (fun _ _ h => h) (by simp) (fun q => ?_) (fun q => ?_)⟩
   ·exact World.cell?_setCell_other _ _ _ _ (fun he => hne (by injection he))
   ·exact World.frozen?_setCell _ _ _ _
 ·by_cases e : b = blk
  ·subst e
   exact hm.apart b b' x x' pb hb ho hx hx' hne
  ·rw [List.getElem?_set_ne (fun h => e h.symm)] at hy
   exact hm.apart b b' x x' y hy hyo hx hx' hne
theorem wrCell_rel {base : Nat} {J : Inj} {mem : List PBlk} {w : World} (hm : RelM base J mem w) {blk : Nat} {bb : BB} {pb : PBlk} (hJ : J blk = some bb) (hb : mem[blk]? = some pb) (ho : pb.own = true)
  {row off : Nat} {sym : List (Nat × Nat × Nat)} {x : LV} {cols : List LV} {v : Value} (hr : row < bb.n) (hs : symOk sym) (hx : Rel J x v) (h : wrCell pb row off sym x = some cols) :
  RelM base J (mem.set blk { pb with cols }) (w.setCell ⟨bb.B, bb.o + row * bb.esz + off + symOff sym, none⟩ v) ∧ cols.length = pb.cols.length ∧
   ∃ y, w.cell? ⟨bb.B, bb.o + row * bb.esz + off + symOff sym, none⟩ = some y := by
 obtain ⟨pb0, hb0, hB⟩ := hm.blk blk bb hJ
 rw [hb] at hb0
 cases hb0
 unfold wrCell at h
 split at h
 ·obtain ⟨hlt, h⟩ := cond_some h
  have hlt := nat_blt hlt
  obtain ⟨y, hy, hc⟩ := Option.map_eq_some_iff.1 h
  subst hc
  obtain ⟨h1, h2⟩ := setRow_rel hy hx
  have hoe : off < bb.esz := by rw [hB.esz]; exact hlt
  refine ⟨?_, by simp, ?_⟩
  ·simp only [symOff, Nat.add_zero]
   refine hm.setCell hJ hb ho hr hoe (by simp) ?_ ?_
   ·rw [getD_set_eq _ _ _ _ hlt]; exact h1
   ·intro r' c' hr' hc' hne z hz
    by_cases e : off = c'
    ·subst e
     rw [getD_set_eq _ _ _ _ hlt]
     have hrr : r' ≠ row := fun e => hne (by rw [e])
     cases hrw : pb.rowsy with
     | true => rw [h2 hrw r' hrr]; exact hz
     | false => have := hB.flat hrw; omega
    ·rw [getD_set_ne _ _ _ _ _ e]; exact hz
  ·obtain ⟨y, hy, _⟩ := hB.cell row hr off hoe
   exact ⟨y, by simpa [symOff] using hy⟩
 ·rename_i i s c
  obtain ⟨hi, _⟩ := hs
  cases hcond : (pb.rowsy || Nat.beq s 0) with
  | true => rw [hcond] at h; cases h
  | false =>
   rw [hcond] at h
   simp only [cond_false] at h
   simp only [Bool.or_eq_false_iff] at hcond
   have hs0 : 0 < s := by
    have := hcond.2
    cases s with
    | zero => cases this
    | succ s => omega
   have hflat := hB.flat hcond.1
   have hr0 : row = 0 := by omega
   have key : ∀ n cols, (List.range n).foldl (fun acc j => acc.bind fun cols =>
      bif Nat.blt (off + j * s) cols.length then (LV.setIf (Nat.beq i j) (cols.getD (off + j * s) .unk) x).map (cols.set (off + j * s) ·) else none) (some pb.cols) = some cols →
     cols.length = pb.cols.length ∧ (∀ j, j < n → off + j * s < pb.cols.length ∧ LV.setIf (Nat.beq i j) (pb.cols.getD (off + j * s) .unk) x = some (cols.getD (off + j * s) .unk)) ∧
      (∀ q, (∀ j, j < n → q ≠ off + j * s) → cols.getD q .unk = pb.cols.getD q .unk) := by
    intro n
    induction n with
    | zero => intro cols h; simp at h; subst h; exact ⟨rfl, fun j hj => by omega, fun _ _ => rfl⟩
    | succ n ih =>
     intro cols h
     rw [List.range_succ, List.foldl_append, List.foldl_cons, List.foldl_nil] at h
     obtain ⟨c1, h1, h2⟩ := bind_some' h
     obtain ⟨hl, ha, hb⟩ := ih c1 h1
     obtain ⟨h3, h4⟩ := cond_some h2
     have h3 := nat_blt h3
     obtain ⟨y, hy, hz⟩ := Option.map_eq_some_iff.1 h4
     subst hz
     have hinj : ∀ j, j < n → off + n * s ≠ off + j * s := by
      intro j hj e
      have : j * s < n * s := Nat.mul_lt_mul_of_pos_right hj hs0
      omega
     refine ⟨by simpa using hl, fun j hj => ?_, fun q hq => ?_⟩
     ·by_cases e : j = n
      ·subst e
       rw [getD_set_eq _ _ _ _ h3]
       refine ⟨by omega, ?_⟩
       rw [← hb (off + j * s) (fun j' hj' => hinj j' hj')]
       exact hy
      ·obtain ⟨p1, p2⟩ := ha j (by omega)
       refine ⟨p1, ?_⟩
       rw [getD_set_ne _ _ _ _ _ (hinj j (by omega))]
       exact p2
     ·rw [getD_set_ne _ _ _ _ _ (fun e => hq n (by omega) e.symm)]
      exact hb q fun j hj => hq j (by omega)
   obtain ⟨hl, ha, hbq⟩ := key c cols h
   obtain ⟨p1, p2⟩ := ha i hi
   have hoe : off + i * s < bb.esz := by rw [hB.esz]; exact p1
   obtain ⟨u, hu, hrel⟩ := hB.cell row hr (off + i * s) hoe
   have hrel' : Rel J (pb.cols.getD (off + i * s) .unk) u := by
    cases hq : pb.cols.getD (off + i * s) .unk <;> rw [hq] at p2 hrel <;> first | exact hrel | (cases x <;> simp [LV.setIf] at p2)
   refine ⟨?_, hl, u, ?_⟩
   ·have hadd : bb.o + row * bb.esz + off + symOff [(i, s, c)] = bb.o + row * bb.esz + (off + i * s) := by simp only [symOff]; omega
    rw [hadd]
    refine hm.setCell hJ hb ho hr hoe hl ?_ ?_
    ·have hq := setIf_rel p2 hx hrel'
     rw [if_pos (Nat.beq_refl i)] at hq
     rw [hq.row]
     exact hq
    ·intro r' c' hr' hc' hne z hz
     have hrr : r' = row := by omega
     subst hrr
     by_cases e : ∃ j, j < c ∧ c' = off + j * s
     ·obtain ⟨j, hj, rfl⟩ := e
      obtain ⟨q1, q2⟩ := ha j hj
      have hij : i ≠ j := fun e => hne (by rw [e])
      have hz' : Rel J (pb.cols.getD (off + j * s) .unk) z := by
       cases hq : pb.cols.getD (off + j * s) .unk <;> rw [hq] at q2 hz <;> first | exact hz | (cases x <;> simp [LV.setIf] at q2)
      have hq := setIf_rel q2 hx hz'
      rw [beq_ne hij, if_neg (by simp)] at hq
      rw [hq.row]
      exact hq
     ·rw [hbq c' (fun j hj he => e ⟨j, hj, he⟩)]
      exact hz
   ·simp only [symOff]
    rw [show bb.o + row * bb.esz + off + (i * s + 0) = bb.o + row * bb.esz + (off + i * s) by omega]
    exact hu
 ·cases h
theorem wrCells_rel {base : Nat} {J : Inj} {blk : Nat} {bb : BB} (hJ : J blk = some bb) {row : Nat} {sym : List (Nat × Nat × Nat)} (hr : row < bb.n) (hs : symOk sym) :
  ∀ (ls : List LV) (vs : List Value) (mem : List PBlk) (w : World) (pb pb' : PBlk) (off : Nat), RelM base J mem w → mem[blk]? = some pb → pb.own = true → RelL J ls vs →
   wrCells pb row off sym ls = some pb' →
   RelM base J (mem.set blk pb') (w.setCells bb.B (bb.o + row * bb.esz + off + symOff sym) vs) ∧
    (∀ j, j < vs.length → (w.cell? ⟨bb.B, bb.o + row * bb.esz + off + symOff sym + j, none⟩).isSome = true)
 | [], [], mem, w, pb, pb', off, hm, hb, _, _, h => by
  simp only [wrCells] at h
  injection h with h
  subst h
  have hlt : blk < mem.length := (List.getElem?_eq_some_iff.1 hb).1
  have he : mem.set blk pb = mem := by
   have := (List.getElem?_eq_some_iff.1 hb).2
   rw [← this]
   exact List.set_getElem_self hlt
  rw [he]
  exact ⟨hm, fun j hj => by simp at hj⟩
 | x :: ls, v :: vs, mem, w, pb, pb', off, hm, hb, ho, ⟨hx, hrel⟩, h => by
  simp only [wrCells] at h
  obtain ⟨cols, h1, h2⟩ := bind_some' h
  obtain ⟨hm1, hlen, y, hy⟩ := wrCell_rel hm hJ hb ho hr hs hx h1
  have hlt : blk < mem.length := (List.getElem?_eq_some_iff.1 hb).1
  obtain ⟨k1, k2⟩ := wrCells_rel hJ hr hs ls vs _ _ { pb with cols } pb' (off + 1) hm1 (by simp [hlt]) ho hrel h2
  have hadd : bb.o + row * bb.esz + (off + 1) + symOff sym = bb.o + row * bb.esz + off + symOff sym + 1 := by omega
  rw [hadd] at k1 k2
  refine ⟨?_, fun j hj => ?_⟩
  ·rw [List.set_set] at k1
   exact k1
  ·cases j with
   | zero => simp [hy]
   | succ j =>
    have := k2 j (by simpa using hj)
    rw [World.cell?_setCell_other _ _ _ _ (by intro he; injection he; omega)] at this
    rw [show bb.o + row * bb.esz + off + symOff sym + (j + 1) = bb.o + row * bb.esz + off + symOff sym + 1 + j by omega]
    exact this
theorem below_setCells {B : Nat} {w0 : World} (b : Nat) (hb : B ≤ b) : ∀ (vs : List Value) (o : Nat) (w : World), Below B w0 w → Below B w0 (w.setCells b o vs)
 | [], _, _, h => h
 | v :: vs, o, _, h => below_setCells b hb vs (o + 1) _ (h.setCell hb v)
theorem size_setCells (b : Nat) : ∀ (vs : List Value) (o : Nat) (w : World), (w.setCells b o vs).heap.size = w.heap.size
 | [], _, _ => rfl
 | _ :: vs, _, _ => by rw [World.setCells, size_setCells b vs]; simp
theorem V1.cells_known {x : V1} {ls : List LV} (hl : x.cells = some ls) : ∀ l ∈ ls, l ≠ .unk := by
 cases x with
 | sc l =>
  cases l <;> simp [V1.cells] at hl <;> subst hl <;> simp
 | ag ls' =>
  simp only [V1.cells] at hl
  obtain ⟨h1, h2⟩ := cond_some hl
  injection h2 with h2
  subst h2
  intro l hm e
  subst e
  have := List.all_eq_true.1 h1 _ hm
  cases this
theorem Rel1.oneCells {J : Inj} {x : V1} {v : Value} (h : Rel1 J x v) {ls : List LV} (hl : x.cells = some ls) : ∀ u ∈ v.cells.toList, u.oneCell' = true := by
 intro u hu
 obtain ⟨i, hi⟩ := List.mem_iff_getElem?.1 hu
 obtain ⟨l, hl', hrel⟩ := (h.cells hl).get' i u hi
 exact (Rel.one hrel (V1.cells_known hl l (List.mem_of_getElem? hl'))).2
end Go.Sy
