/- The evaluator. -/
import Derived.Test.YtjmbhhinmbgneaaGreatSzCore
import Derived.Laws.IdiomCopy
import Derived.Laws.Cells
import Derived.Below
namespace Go.Sy
open Go.RowKit (Below)
structure BB where
 B : Nat
 o : Nat
 esz : Nat
 n : Nat
 m : Nat
abbrev Inj := Nat → Option BB
def symOff : List (Nat × Nat × Nat) → Nat
 | [] => 0
 | (i, s, _) :: r => i * s + symOff r
def symOk : List (Nat × Nat × Nat) → Prop
 | [] => True
 | (i, _, c) :: r => i < c ∧ symOk r
inductive Rel (J : Inj) : LV → Value → Prop
 | unk (v : Value) : Rel J .unk v
 | i0 (k : IntKind) (n : Int) : Rel J (.i0 k n) (.int k n)
 | b0 (b : Bool) : Rel J (.b0 b) (.bool b)
 | s0 (s : ByteArray) : Rel J (.s0 s) (.string s)
 | pn : Rel J .pn (.pointer none)
 | p {blk row off : Nat} {sym : List (Nat × Nat × Nat)} {bb : BB} (h : J blk = some bb) (hr : row < bb.n) (hs : symOk sym) :
   Rel J (.p blk row off sym) (.pointer (some ⟨bb.B, bb.o + row * bb.esz + off + symOff sym, none⟩))
 | sln : Rel J .sln (.slice none 0 0)
 | slrN (blk frm : Nat) : Rel J (.slr blk frm 0) (.slice none 0 0)
 | slrZ (blk frm : Nat) (A : Addr) : Rel J (.slr blk frm 0) (.slice (some A) 0 0)
 | slr {blk frm len cap : Nat} {bb : BB} (h : J blk = some bb) (hn : frm + len ≤ bb.n) (hc : len ≤ cap) (hm : frm + cap ≤ bb.m) :
   Rel J (.slr blk frm len) (.slice (some ⟨bb.B, bb.o + frm * bb.esz, none⟩) len cap)
 | slfZ (blk off esz cnt frm : Nat) (A : Addr) : Rel J (.slf blk off esz cnt frm 0) (.slice (some A) 0 0)
 | slf {blk off esz cnt frm len cap : Nat} {bb : BB} (h : J blk = some bb) (hn : frm + len ≤ cnt) (h0 : 0 < bb.n) (hc : len ≤ cap) (hm : frm + cap ≤ cnt) :
   Rel J (.slf blk off esz cnt frm len) (.slice (some ⟨bb.B, bb.o + off + frm * esz, none⟩) len cap)
 | fn {f : FuncId} {k : Nat} {cap : List LV} {fst caps : Array Value} (hk : fst.size = k) (hl : cap.length = fst.size + caps.size)
   (h : ∀ (i : Nat) (l : LV) (v : Value), cap[i]? = some l → (fst ++ caps)[i]? = some v → Rel J l v) : Rel J (.fn f k cap) (.func (.func f) fst caps)
 | fnn : Rel J .fnn .nilFunc
def Inj.le (J J' : Inj) : Prop := ∀ b x, J b = some x → J' b = some x
theorem Rel.mono {J J' : Inj} (hj : Inj.le J J') {l : LV} {v : Value} (h : Rel J l v) : Rel J' l v := by
 induction h with
 | unk v => exact .unk v
 | i0 k n => exact .i0 k n
 | b0 b => exact .b0 b
 | s0 s => exact .s0 s
 | pn => exact .pn
 | p h hr hs => exact .p (hj _ _ h) hr hs
 | sln => exact .sln
 | slrN b f => exact .slrN b f
 | slrZ b f A => exact .slrZ b f A
 | slr h hn hc hm => exact .slr (hj _ _ h) hn hc hm
 | slfZ a b c d e A => exact .slfZ a b c d e A
 | slf h hn h0 hc hm => exact .slf (hj _ _ h) hn h0 hc hm
 | fn hk hl _ ih => exact .fn hk hl ih
 | fnn => exact .fnn
theorem Rel.row {J : Inj} {l : LV} {v : Value} (h : Rel J l v) (r : Nat) : l.row r = l := by cases h <;> rfl
theorem Rel.one {J : Inj} {l : LV} {v : Value} (h : Rel J l v) (hl : l ≠ .unk) : v.cells = #[v] ∧ v.oneCell' = true := by
 cases h <;> first | exact ⟨rfl, rfl⟩ | exact absurd rfl hl
def RelL (J : Inj) : List LV → List Value → Prop
 | [], [] => True
 | l :: ls, v :: vs => Rel J l v ∧ RelL J ls vs
 | _, _ => False
theorem RelL.mono {J J' : Inj} (hj : Inj.le J J') : ∀ {ls : List LV} {vs : List Value}, RelL J ls vs → RelL J' ls vs
 | [], [], _ => trivial
 | _ :: _, _ :: _, ⟨a, b⟩ => ⟨a.mono hj, RelL.mono hj b⟩
theorem RelL.length {J : Inj} : ∀ {ls : List LV} {vs : List Value}, RelL J ls vs → ls.length = vs.length
 | [], [], _ => rfl
 | _ :: _, _ :: _, ⟨_, b⟩ => by simp [RelL.length b]
theorem RelL.get {J : Inj} : ∀ {ls : List LV} {vs : List Value}, RelL J ls vs → ∀ (i : Nat) (l : LV), ls[i]? = some l → ∃ v, vs[i]? = some v ∧ Rel J l v
 | [], [], _, _, _, h => by simp at h
 | l :: ls, v :: vs, ⟨a, b⟩, 0, x, h => by simp at h; subst h; exact ⟨v, rfl, a⟩
 | l :: ls, v :: vs, ⟨a, b⟩, i + 1, x, h => by simp at h; simpa using RelL.get b i x h
theorem RelL.get' {J : Inj} : ∀ {ls : List LV} {vs : List Value}, RelL J ls vs → ∀ (i : Nat) (v : Value), vs[i]? = some v → ∃ l, ls[i]? = some l ∧ Rel J l v
 | [], [], _, _, _, h => by simp at h
 | l :: ls, v :: vs, ⟨a, b⟩, 0, x, h => by simp at h; subst h; exact ⟨l, rfl, a⟩
 | l :: ls, v :: vs, ⟨a, b⟩, i + 1, x, h => by simp at h; simpa using RelL.get' b i x h
theorem RelL.of {J : Inj} : ∀ {ls : List LV} {vs : List Value}, ls.length = vs.length → (∀ (i : Nat) (l : LV) (v : Value), ls[i]? = some l → vs[i]? = some v → Rel J l v) → RelL J ls vs
 | [], [], _, _ => trivial
 | [], _ :: _, h, _ => by simp at h
 | _ :: _, [], h, _ => by simp at h
 | l :: ls, v :: vs, h, k => ⟨k 0 l v rfl rfl, RelL.of (by simpa using h) fun i x y hx hy => k (i + 1) x y (by simpa using hx) (by simpa using hy)⟩
theorem RelL.append {J : Inj} : ∀ {a : List LV} {x : List Value} {b : List LV} {y : List Value}, RelL J a x → RelL J b y → RelL J (a ++ b) (x ++ y)
 | [], [], _, _, _, h => h
 | _ :: _, _ :: _, _, _, ⟨h, k⟩, h' => ⟨h, RelL.append k h'⟩
theorem RelL.take {J : Inj} : ∀ {a : List LV} {x : List Value} (n : Nat), RelL J a x → RelL J (a.take n) (x.take n)
 | _, _, 0, _ => by simp [RelL]
 | [], [], _ + 1, h => by simp [RelL]
 | _ :: _, _ :: _, n + 1, ⟨h, k⟩ => ⟨h, RelL.take n k⟩
theorem RelL.drop {J : Inj} : ∀ {a : List LV} {x : List Value} (n : Nat), RelL J a x → RelL J (a.drop n) (x.drop n)
 | _, _, 0, h => by simpa using h
 | [], [], _ + 1, h => by simp [RelL]
 | _ :: _, _ :: _, n + 1, ⟨_, k⟩ => by simpa using RelL.drop n k
def Rel1 (J : Inj) : V1 → Value → Prop
 | .sc l, v => Rel J l v
 | .ag ls, v => ∃ cs : Array Value, v = .agg cs ∧ RelL J ls cs.toList
theorem Rel1.mono {J J' : Inj} (hj : Inj.le J J') {x : V1} {v : Value} (h : Rel1 J x v) : Rel1 J' x v := by
 cases x with
 | sc l => exact Rel.mono hj h
 | ag ls => obtain ⟨cs, hv, hr⟩ := h; exact ⟨cs, hv, hr.mono hj⟩
def Rel1s (J : Inj) : List V1 → List Value → Prop
 | [], [] => True
 | l :: ls, v :: vs => Rel1 J l v ∧ Rel1s J ls vs
 | _, _ => False
theorem Rel1s.mono {J J' : Inj} (hj : Inj.le J J') : ∀ {ls : List V1} {vs : List Value}, Rel1s J ls vs → Rel1s J' ls vs
 | [], [], _ => trivial
 | _ :: _, _ :: _, ⟨a, b⟩ => ⟨a.mono hj, Rel1s.mono hj b⟩
theorem Rel1s.get {J : Inj} : ∀ {ls : List V1} {vs : List Value}, Rel1s J ls vs → ∀ (i : Nat) (l : V1), ls[i]? = some l → ∃ v, vs[i]? = some v ∧ Rel1 J l v
 | [], [], _, _, _, h => by simp at h
 | l :: ls, v :: vs, ⟨a, b⟩, 0, x, h => by simp at h; subst h; exact ⟨v, rfl, a⟩
 | l :: ls, v :: vs, ⟨a, b⟩, i + 1, x, h => by simp at h; simpa using Rel1s.get b i x h
def RelP (J : Inj) : PV → Value → Prop
 | .v x, v => Rel1 J x v
 | .tup xs, v => ∃ vs : Array Value, v = .tuple vs ∧ Rel1s J xs vs.toList
theorem RelP.mono {J J' : Inj} (hj : Inj.le J J') {x : PV} {v : Value} (h : RelP J x v) : RelP J' x v := by
 cases x with
 | v x => exact Rel1.mono hj h
 | tup xs => obtain ⟨cs, hv, hr⟩ := h; exact ⟨cs, hv, hr.mono hj⟩
theorem RelP.unk (J : Inj) (v : Value) : RelP J (.s .unk) v := Rel.unk v
theorem Rel1.cells {J : Inj} {x : V1} {v : Value} (h : Rel1 J x v) {ls : List LV} (hl : x.cells = some ls) : RelL J ls v.cells.toList := by
 cases x with
 | sc l =>
  have hu : l ≠ .unk := by intro e; subst e; simp [V1.cells] at hl
  have : ls = [l] := by cases l <;> simp [V1.cells] at hl <;> first | exact hl.symm | exact absurd rfl hu
  subst this
  rw [(Rel.one h hu).1]
  exact ⟨h, trivial⟩
 | ag ls' =>
  obtain ⟨cs, rfl, hr⟩ := h
  simp only [V1.cells] at hl
  cases hq : ls'.all LV.known <;> rw [hq] at hl
  ·cases hl
  ·injection hl with hl
   subst hl
   exact hr
structure RelB (base : Nat) (J : Inj) (w : World) (bb : BB) (pb : PBlk) : Prop where
 esz : bb.esz = pb.cols.length
 flat : pb.rowsy = false → bb.n ≤ 1
 there : bb.B < w.heap.size
 cell : ∀ r, r < bb.n → ∀ c, c < bb.esz → ∃ x, w.cell? ⟨bb.B, bb.o + r * bb.esz + c, none⟩ = some x ∧ Rel J ((pb.cols.getD c .unk).row r) x
 own : pb.own = true → base ≤ bb.B ∧ (∀ q, w.frozen? ⟨bb.B, q, none⟩ = false) ∧ bb.n ≤ bb.m ∧ ∀ q, q < bb.m * bb.esz → ∃ x, w.cell? ⟨bb.B, bb.o + q, none⟩ = some x
structure RelM (base : Nat) (J : Inj) (mem : List PBlk) (w : World) : Prop where
 blk : ∀ b bb, J b = some bb → ∃ pb, mem[b]? = some pb ∧ RelB base J w bb pb
 apart : ∀ b b' bb bb' pb, mem[b]? = some pb → pb.own = true → J b = some bb → J b' = some bb' → b ≠ b' → bb.B ≠ bb'.B
def RelF (J : Inj) (fr : Fr) (tmps : Array Value) : Prop :=
 tmps.size = fr.n ∧ ∀ t x, lookN t fr.sl = some x → ∃ v, tmps[t]? = some v ∧ RelP J x v
theorem RelF.mono {J J' : Inj} (hj : Inj.le J J') {fr : Fr} {tmps : Array Value} (h : RelF J fr tmps) : RelF J' fr tmps :=
 ⟨h.1, fun t x hx => let ⟨v, hv, hr⟩ := h.2 t x hx; ⟨v, hv, hr.mono hj⟩⟩
def RelLow (J : Inj) : List Fr → List (Array Value) → Prop
 | [], [] => True
 | f :: fs, t :: ts => RelF J f t ∧ RelLow J fs ts
 | _, _ => False
theorem RelLow.mono {J J' : Inj} (hj : Inj.le J J') : ∀ {fs : List Fr} {ts : List (Array Value)}, RelLow J fs ts → RelLow J' fs ts
 | [], [], _ => trivial
 | _ :: _, _ :: _, ⟨a, b⟩ => ⟨a.mono hj, RelLow.mono hj b⟩
structure RelS (base : Nat) (w0 : World) (J : Inj) (s : St) (tmps : Array Value) (lows : List (Array Value)) (w : World) : Prop where
 fr : RelF J s.fr tmps
 low : RelLow J s.low lows
 mem : RelM base J s.mem w
 below : Below base w0 w
 base : base ≤ w.heap.size
theorem lookN_cons {α : Type} (t u : Nat) (x : α) (r : List (Nat × α)) : lookN t ((u, x) :: r) = if t = u then some x else lookN t r := by
 show (bif Nat.beq t u then some x else lookN t r) = _
 by_cases h : t = u
 ·subst h; simp
 ·have : Nat.beq t u = false := by
   cases hb : Nat.beq t u with
   | true => exact absurd (Nat.eq_of_beq_eq_true hb) h
   | false => rfl
  simp [h, this]
theorem RelF.put {J : Inj} {fr : Fr} {tmps : Array Value} (h : RelF J fr tmps) {d : Nat} (hd : d < fr.n) {x : PV} {v : Value} (hx : RelP J x v) :
  RelF J { fr with sl := (d, x) :: fr.sl } (tmps.setIfInBounds d v) := by
 refine ⟨by simpa using h.1, fun t y hy => ?_⟩
 rw [lookN_cons] at hy
 by_cases e : t = d
 ·subst e
  simp at hy
  subst hy
  refine ⟨v, ?_, hx⟩
  rw [Array.getElem?_setIfInBounds_self_of_lt (by rw [h.1]; exact hd)]
 ·simp only [e, if_false] at hy
  obtain ⟨u, hu, hr⟩ := h.2 t y hy
  refine ⟨u, ?_, hr⟩
  rw [Array.getElem?_setIfInBounds_ne (by omega)]
  exact hu
theorem RelS.put {base : Nat} {w0 : World} {J : Inj} {s s' : St} {a : Act} {lows : List (Array Value)} {w : World} (h : RelS base w0 J s a.tmps lows w) {d : Option Nat} {x : PV} {v : Value}
  (hx : RelP J x v) (hs : s.put d x = some s') : RelS base w0 J s' (a.put d v).tmps lows w := by
 cases d with
 | none => simp [St.put] at hs; subst hs; simpa [Act.put] using h
 | some d =>
  by_cases hd : d < s.fr.n
  ·have hb : Nat.blt d s.fr.n = true := by simp [Nat.blt_eq, hd]
   simp [St.put, hb] at hs
   subst hs
   exact ⟨h.fr.put hd hx, h.low, h.mem, h.below, h.base⟩
  ·have hb : Nat.blt d s.fr.n = false := by
    cases hb : Nat.blt d s.fr.n with
    | true => exact absurd (by simpa [Nat.blt_eq] using hb) hd
    | false => rfl
   simp [St.put, hb] at hs
theorem St.put_mem {s s' : St} {d : Option Nat} {x : PV} (hs : s.put d x = some s') : s'.mem = s.mem ∧ s'.low = s.low ∧ s'.fr.n = s.fr.n := by
 cases d with
 | none => simp [St.put] at hs; subst hs; simp
 | some d =>
  cases hb : Nat.blt d s.fr.n with
  | true => simp [St.put, hb] at hs; subst hs; simp
  | false => simp [St.put, hb] at hs
theorem RelF.get {J : Inj} {fr : Fr} {tmps : Array Value} (h : RelF J fr tmps) (t : Nat) : RelP J ((lookN t fr.sl).getD (.s .unk)) (tmps.getD t undef) := by
 cases hx : lookN t fr.sl with
 | none => exact RelP.unk _ _
 | some x =>
  obtain ⟨v, hv, hr⟩ := h.2 t x hx
  simpa [hv] using hr
theorem relConst (J : Inj) (v : Value) : Rel J (ofConst v) v := by
 unfold ofConst
 split <;> constructor
theorem RelF.eval {J : Inj} {s : St} {a : Act} (h : RelF J s.fr a.tmps) (x : Operand) : RelP J (s.eval x) (a.eval x) := by
 cases x with
 | tmp t => exact h.get t
 | const v => exact relConst J v
 | func f => exact Rel.fn rfl rfl (fun i l v hi _ => by simp at hi)
 | global g => exact RelP.unk _ _
theorem RelB.of_cells {base : Nat} {J J' : Inj} {w w' : World} {bb : BB} {pb : PBlk} (hj : Inj.le J J') (hz : w.heap.size ≤ w'.heap.size)
  (hc : ∀ q, w'.cell? ⟨bb.B, q, none⟩ = w.cell? ⟨bb.B, q, none⟩) (hf : ∀ q, w'.frozen? ⟨bb.B, q, none⟩ = w.frozen? ⟨bb.B, q, none⟩) (h : RelB base J w bb pb) : RelB base J' w' bb pb where
 esz := h.esz
 flat := h.flat
 there := Nat.lt_of_lt_of_le h.there hz
 cell r hr c hcc := by
  obtain ⟨x, hx, hr⟩ := h.cell r hr c hcc
  exact ⟨x, by rw [hc]; exact hx, hr.mono hj⟩
 own ho := by
  obtain ⟨h1, h2, h3, h4⟩ := h.own ho
  exact ⟨h1, fun q => by rw [hf]; exact h2 q, h3, fun q hq => by obtain ⟨x, hx⟩ := h4 q hq; exact ⟨x, by rw [hc]; exact hx⟩⟩
theorem RelM.lt {base : Nat} {J : Inj} {mem : List PBlk} {w : World} (h : RelM base J mem w) {b : Nat} {bb : BB} (hb : J b = some bb) : b < mem.length := by
 obtain ⟨pb, hp, _⟩ := h.blk b bb hb
 exact (List.getElem?_eq_some_iff.1 hp).1
theorem RelM.grow {base : Nat} {J J' : Inj} {mem : List PBlk} {new : List PBlk} {w w' : World} (h : RelM base J mem w) (hj : Inj.le J J')
  (hz : w.heap.size ≤ w'.heap.size) (hbl : ∀ k, k < w.heap.size → w'.heap[k]? = w.heap[k]?)
  (hold : ∀ b bb, b < mem.length → J' b = some bb → J b = some bb)
  (hnew : ∀ b bb, mem.length ≤ b → J' b = some bb → w.heap.size ≤ bb.B ∧ ∃ pb, new[b - mem.length]? = some pb ∧ RelB base J' w' bb pb)
  (hap : ∀ b b' bb bb' pb, mem.length ≤ b → mem.length ≤ b' → new[b - mem.length]? = some pb → pb.own = true → J' b = some bb → J' b' = some bb' → b ≠ b' → bb.B ≠ bb'.B) :
  RelM base J' (mem ++ new) w' where
 blk b bb hb := by
  by_cases hlt : b < mem.length
  ·obtain ⟨pb, hp, hr⟩ := h.blk b bb (hold b bb hlt hb)
   refine ⟨pb, by rw [List.getElem?_append_left hlt]; exact hp, hr.of_cells hj hz (fun q => ?_) (fun q => ?_)⟩
   ·exact World.cell?_of_block (w := w) (hbl _ hr.there)
   ·exact World.frozen?_of_block (w := w) (hbl _ hr.there)
  ·obtain ⟨_, pb, hp, hr⟩ := hnew b bb (by omega) hb
   exact ⟨pb, by rw [List.getElem?_append_right (by omega)]; exact hp, hr⟩
 apart b b' bb bb' pb hp ho hb hb' hne := by
  by_cases hlt : b < mem.length
  ·rw [List.getElem?_append_left hlt] at hp
   by_cases hlt' : b' < mem.length
   ·exact h.apart b b' bb bb' pb hp ho (hold _ _ hlt hb) (hold _ _ hlt' hb') hne
   ·obtain ⟨pb', hp', hr⟩ := h.blk b bb (hold b bb hlt hb)
    have := hr.there
    have := (hnew b' bb' (by omega) hb').1
    omega
  ·rw [List.getElem?_append_right (by omega)] at hp
   by_cases hlt' : b' < mem.length
   ·obtain ⟨pb', hp', hr⟩ := h.blk b' bb' (hold b' bb' hlt' hb')
    have := hr.there
    have := (hnew b bb (by omega) hb).1
    omega
   ·exact hap b b' bb bb' pb (by omega) (by omega) hp ho hb hb' hne
def Inj.add (J : Inj) (b : Nat) (x : BB) : Inj := fun c => if c = b then some x else J c
theorem Inj.le_add {J : Inj} {b : Nat} {x : BB} (h : J b = none) : Inj.le J (J.add b x) := by
 intro c y hc
 unfold Inj.add
 split
 ·rename_i e; subst e; rw [h] at hc; cases hc
 ·exact hc
theorem RelM.alloc {base : Nat} {J : Inj} {mem : List PBlk} {w : World} (h : RelM base J mem w) (hb : base ≤ w.heap.size) {ls : List LV} {cs : Array Value} (hr : RelL J ls cs.toList) (t : TypeId) :
  RelM base (J.add mem.length ⟨w.heap.size, 0, ls.length, 1, 1⟩) (mem ++ [⟨true, false, ls⟩]) { w with heap := w.heap.push (.cells cs t) } := by
 have hJ : J mem.length = none := by
  cases hq : J mem.length with
  | none => rfl
  | some bb => exact absurd (h.lt hq) (by omega)
 have hle := Inj.le_add (x := ⟨w.heap.size, 0, ls.length, 1, 1⟩) hJ
 have hcell : ∀ q, World.cell? { w with heap := w.heap.push (.cells cs t) } ⟨w.heap.size, q, none⟩ = cs[q]? := by
  intro q; simp [World.cell?]
 have hlen : ls.length = cs.size := by simpa using hr.length
 refine h.grow hle (by simp) (fun k hk => by simp [Array.getElem?_push]; omega) ?_ ?_ ?_
 ·intro b bb hlt hb
  unfold Inj.add at hb
  rw [if_neg (by omega)] at hb
  exact hb
 ·intro b bb hge hb
  unfold Inj.add at hb
  split at hb
  ·rename_i e
   subst e
   cases hb
   refine ⟨Nat.le_refl _, ⟨true, false, ls⟩, by simp, ?_⟩
   refine ⟨rfl, fun _ => Nat.le_refl _, by simp, ?_, ?_⟩
   ·intro r hr' c hc
    simp only at hr' hc ⊢
    have hr0 : r = 0 := by omega
    subst hr0
    simp only [Nat.zero_mul, Nat.zero_add]
    rw [hcell]
    have hc' : c < cs.size := by omega
    refine ⟨cs[c], by simp [hc'], ?_⟩
    obtain ⟨v, hv, hrel⟩ := hr.get c ls[c] (by simp [hc])
    have : v = cs[c] := by simpa [hc'] using hv.symm
    subst this
    have hg : ls.getD c .unk = ls[c] := by simp [hc]
    have hrow : (ls.getD c .unk).row 0 = ls[c] := by rw [hg]; exact hrel.row 0
    rw [hrow]
    exact hrel.mono hle
   ·intro _
    refine ⟨hb, fun q => by simp [World.frozen?], Nat.le_refl _, fun q hq => ?_⟩
    simp only at hq ⊢
    rw [Nat.zero_add, hcell]
    exact ⟨cs[q]'(by omega), by simp⟩
  ·have := h.lt hb
   omega
 ·intro b b' bb bb' pb hge hge' _ _ hb hb' hne
  unfold Inj.add at hb hb'
  split at hb
  ·split at hb'
   ·omega
   ·have := h.lt hb'; omega
  ·have := h.lt hb; omega
end Go.Sy
